/-
  Part of the proof of statement 9
-/
import Derived.Test.YtogfcjbgeebfkaaGreatDoorA09
import Derived.Test.YtogfcjbgeebfkaaGreatDoorA10
import Derived.Test.YtogfcjbgeebfkaaGreatDoorA07
set_option linter.unusedSimpArgs false
set_option linter.unusedVariables false
set_option maxRecDepth 100000
set_option maxHeartbeats 16000000
namespace Go.Proofs.YtogfcjbgeebfkaaGreatDoor
open Go Go.Av Go.jG
attribute [local congr] aX aQ aR aL bA aW aS aG bB
attribute [local irreducible] FC bT eI
theorem QZ(a:Nat)(H:aA):Sg 268 [.int .u32 a] H (.ret (.bool false)) H:=by
 refine So bJu (by rfl) ?_ H;unfold aXp;simp only[↓zP,zJ,seval,Jo]
 (refine Rx ?_;rfl)
theorem UN(a b:Nat)(H:aA):Sg 213 [.int .u32 a,.int .u32 b] H (.ret (.int .i64 (IW a b))) H:=by
 refine So bIn Zac ?_ H;unfold aWi;dsimp only;have :=QZ a;have :=QZ b;refine Wz ?_;refine⟨fun h=>?_,fun h=>⟨fun Z=>?_,fun Z=>?_⟩⟩<;>refine Rx ?_<;>unfold IW
 . rw[if_pos A0];rfl
 . exact ZbU
 rw[if_neg A0,if_neg A0];rfl
variable{a b:Nat}
theorem MA(I:a<W^16)(X:b<W^16)(H:aA):Sg 136 [.agg (wC (aV 16 a)),.agg (wC (aV 16 b))] H (.ret (.int .i64 (IW a b))) H:=by
 refine So bHb Zac ?_ H;unfold aUz;dsimp only;have p:=iL (.aV a);have S:=iL (.aV b);refine Wz ?_;refine aJ (kJ [5] (fun m vs H'=>vs=[.int .i64 ((m:Int) -1)]/\m<=16/\a / W^m=b / W^m/\H'.get 0=some (.cells (wC (aV 16 a)) false)/\H'.get 1=some (.cells (wC (aV 16 b)) false)) 16 (by rfl) ?_ ?_)
 . refine⟨by simp only[sm,zB];rfl,by omega,by rw[Du I,Du X],by simp only[zI,Nat.reduceEqDiff],by simp only[zI,Nat.reduceEqDiff]⟩
 rintro m f H E ⟨J,c,hd,g0,g⟩;simp only[zM] at J;refine Wz ?_;refine⟨fun h=>?_,fun h=>?_⟩
 . obtain⟨m,rfl⟩:∃k,m=k+1:=⟨m -1,by omega⟩;have e:((m+1:Nat):Int) -1=(m:Nat):=by omega
   refine aJ ?_;simp only[↓zP,e];refine Dz ?_;simp only[↓zP,zJ,Nat.reduceLT,Nat.reduceEqDiff,Nat.reduceAdd,zD,reduceCtorEq,J,e,E 2 rfl,E 3 rfl,aD,g0,g,show m<16 by omega,show m+1<=16 by omega,p,S,gJ (show m<16 by omega)];by_cases z:aP a m=aP b m
   . simp only[zG,z,Jo];have w:IntKind.i64.wrap ((m:Int) -1)=(m:Int) -1:=wrap_i64 A0 A0;exact⟨m,by omega,by rw[w],by omega,TE hd z⟩
   have X:(((aP a m:Nat):Int) != ((aP b m:Nat):Int))=true:=Zaf;simp only[zG,X];refine Dz ?_;simp only[↓zP,zJ,Nat.reduceLT,Nat.reduceEqDiff,Nat.reduceAdd,zD,reduceCtorEq,J,e,E 2 rfl,E 3 rfl,aD,g0,g,show m<16 by omega,show m+1<=16 by omega,p,S,gJ (show m<16 by omega)];refine gH (UN (aP a m) (aP b m) _) ?_;simp only[↓zP,zJ,Nat.reduceLT,Nat.reduceEqDiff,Nat.reduceAdd,zD,reduceCtorEq];refine Rx ?_;rw[aMt hd z];rfl
 obtain rfl:m=0:=by omega
 simp only[Gq,Ht] at hd;refine Rx ?_;simp[hd,IW,nN]
theorem aPz(I:a<W^16)(X:b<W^16)(H:aA):Sg 135 [.agg (wC (aV 16 a)),.agg (wC (aV 16 b))] H (.ret (.jS [.agg (wC (aV 16 (a+b))),.bool (decide (a+b<W^16))])) H:=by
 refine So bHa Zac ?_ H;unfold aUy;dsimp only;have p:=iL (.aV a);have S:=iL (.aV b);refine Wz ?_;refine cM [7] (fun i vs H'=>vs=[.int .u64 (cr a b i:Nat)]/\H'.get 0=some (.cells (wC (aV 16 a)) false)/\H'.get 1=some (.cells (wC (aV 16 b)) false)/\H'.get 2=some (.cells (wC zs) false)/\H'.get 3=some (.cells (wC (YZ i (aV 16 (a+b)))) false)) 16 A1 rfl A1 ?_ ?_ ?_ ?_
 . simp only[zB]
 . refine⟨by simp only[sm,zB,Nat.reduceEqDiff,aMx];rfl,?_⟩;rw[BU];simp only[zJ,Nat.reduceEqDiff,Nat.reduceAdd]
 . rintro i f H F E T ⟨J,g0,g,d,C⟩;simp only[zM] at J;have y:=aRp a b i;have m:=dC a i;have c3:=dC b i;have hW:W=4294967296:=rfl;have w1:IntKind.u64.wrap ((aP a i:Nat):Int)=(aP a i:Nat):=jE A0 (.inl rfl);have w2:IntKind.u64.wrap ((aP b i:Nat):Int)=(aP b i:Nat):=jE A0 (.inl rfl);have G:IntKind.u64.wrap (((aP a i:Nat):Int)+(aP b i:Nat))=((aP a i+aP b i:Nat):Int):=jE A0 (.inl A0);have t:IntKind.u64.wrap (((cr a b i:Nat):Int)+((aP a i+aP b i:Nat):Int))=((cr a b i+aP a i+aP b i:Nat):Int):=jE A0 (.inl A0);refine aJ ?_;refine Wz ?_;refine Dz ?_;simp only[↓zP,zJ,Nat.reduceLT,Nat.reduceEqDiff,Nat.reduceAdd,zD,reduceCtorEq,Int.reduceLT,J,E 2 rfl,E 3 rfl,E 6 rfl,aD,g0,g,C,F,show i+1<=16 by omega,p,S,gJ F,w1,w2,G,t,CY,NC,uX,<-aMw];exact⟨d,by rw[BT F (by rw[aGp])]⟩
 rintro f H E ⟨J,g0,g,d,C⟩;simp only[zM] at J;simp only[↓zP,zJ,Nat.reduceEqDiff,J,E 6 rfl,E 4 rfl,d,C,GB,(iL (.aV (a+b)))]
 have R:(((cr a b 16:Nat):Int)==0)=decide (a+b<W^16):=by rw[aYr I X];split<;>rename_i U<;>simp[U]
 refine⟨rfl,_,by simp only[↓zP,zR,Nat.reduceEqDiff,E 4 rfl,iL (.aV (a+b))];rfl,?_⟩;rw[R];rfl
theorem aEx(u:Nat):(u:Int).fdiv (2^min (Int.toNat 63) IntKind.u64.bits)=((u / 2^63:Nat):Int):=by
 show(u:Int).fdiv (2^63)=_
 grind
theorem Qp(I:a<W^16)(X:b<=a)(H:aA):Sg 137 [.agg (wC (aV 16 a)),.agg (wC (aV 16 b))] H (.ret (.agg (wC (aV 16 (a -b))))) H:=by
 refine So bHc Zac ?_ H;unfold aVa;dsimp only;have p:=iL (.aV a);have S:=iL (.aV b);refine Wz ?_;refine cM [6] (fun i vs H'=>vs=[.int .u64 (bw a b i:Nat)]/\H'.get 0=some (.cells (wC (aV 16 a)) false)/\H'.get 1=some (.cells (wC (aV 16 b)) false)/\H'.get 2=some (.cells (wC zs) false)/\H'.get 3=some (.cells (wC (YZ i (aV 16 (a -b)))) false)) 16 A1 rfl A1 ?_ ?_ ?_ ?_
 . simp only[zB]
 . refine⟨by simp only[sm,zB,Nat.reduceEqDiff,aMn];rfl,?_⟩;rw[BU];simp only[zJ,Nat.reduceEqDiff,Nat.reduceAdd]
 . rintro i f H F E T ⟨J,g0,g,d,C⟩;simp only[zM] at J;have y:bw a b i<=1:=by unfold bw;split<;>omega
   have m:=dC a i;have c3:=dC b i;have o:=aGq X i;have c:=aMm a b i;have hW:W=4294967296:=rfl;have w1:IntKind.u64.wrap ((aP a i:Nat):Int)=(aP a i:Nat):=jE A0 (.inl rfl);have w2:IntKind.u64.wrap ((aP b i:Nat):Int)=(aP b i:Nat):=jE A0 (.inl rfl);obtain⟨D,r⟩:∃D:Nat,(D:Int)=(((aP a i:Nat):Int) -(aP b i:Nat) -(bw a b i:Nat))%2^64:=⟨((((aP a i:Nat):Int) -(aP b i:Nat) -(bw a b i:Nat))%2^64).toNat,Int.toNat_of_nonneg A0⟩
   have G:IntKind.u64.wrap (IntKind.u64.wrap (((aP a i:Nat):Int) -(aP b i:Nat)) -((bw a b i:Nat):Int))=(D:Int):=by simp only[IntKind.wrap,IntKind.bits,IntKind.signed,r];simp
   have t:D / 2^63=bw a b (i+1):=(by rw[c];split<;>omega);refine aJ ?_;simp only[↓zP,zG,Nat.reduceLT,Nat.reduceEqDiff,T];refine Dz ?_;simp only[↓zP,zJ,Nat.reduceLT,Nat.reduceEqDiff,Nat.reduceAdd,zD,reduceCtorEq,Int.reduceLT,J,E 2 rfl,E 3 rfl,E 5 rfl,aD,g0,g,C,F,show i+1<=16 by omega,p,S,gJ F,w1,w2,G,CY,aEx,uX,t];exact⟨d,by rw[BT F (by rw[o,hW];omega)]⟩
 rintro f H E ⟨J,g0,g,d,C⟩;simp only[zM] at J;simp only[↓zP,zJ,Nat.reduceEqDiff,E 5 rfl,E 4 rfl,d,C,GB,(iL (.aV (a -b)))];exact⟨rfl,_,by simp only[↓zP,zR,Nat.reduceEqDiff,E 4 rfl,iL (.aV (a -b))];rfl,rfl⟩
variable{a:List AV}{x:Option Int}
theorem vS(I:dN a x)(H:aA):Sg 133 [.bJ 1 18 [a]] H (.ret (.bool x.isSome)) H:=by
 obtain⟨r,rfl,-,V⟩:=I.raw;have :=nc [r] A2 H
 grind
variable{b:List AV}{y:Option Int}
theorem qZ(I:dN a x)(X:dN b y)(H:aA):Sg 133 [.bJ 1 18 [a,b]] H (.ret (.bool (x.isSome&&y.isSome))) H:=by
 obtain⟨r,rfl,-,V⟩:=I.raw;obtain⟨q,rfl,-,D⟩:=X.raw;have :=nc [r,q] A2 H
 grind
theorem jL{n:Bool}{m:Nat}(p:m<W^16){z:Int}(s:z=sg n m)(H:aA):Sg 129 [.bool n,.agg (wC (aV 16 m))] H (.ret (.agg (cI z))) H:=by
 have :=Nf n (.aV m) H
 have e:(n&& !decide (aV 16 m=zs))=decide (z<0):=by
  have o:aV 16 m=zs↔m=0:=by rw[<-ER (.aV m),fS p]
  grind[sg,wD]
 grind[jY,cI]
theorem kq(I:dN a x)(X:dN b y)(d:(x.isSome&&y.isSome)=false)(H:aA):Sg 57 [.agg a,.agg b] H (.ret (.agg yA)) H:=by have t:=qZ I X;rw[d] at t;refine So bKt Zaq ?_ H;unfold W57;dsimp only;have :=oL I.len;have :=oL X.len;have :=tV;have := @yA;refine Wz ?_;exact⟨rfl,_,by simp only[↓zP,zR,seval];rfl,rfl⟩
theorem aCb{z w:Int}(s:z.natAbs<W^16)(L:w.natAbs<W^16)(H:aA):Sg 57 [.agg (cI z),.agg (cI w)] H (.ret (.agg (cO (norm (z+w))))) H:=by
 refine So bKt (by simp only[sf,sfI]) ?_ H;unfold W57;dsimp only;have p:=iL (.aV z.natAbs);have S:=iL (.aV w.natAbs);refine Ty ?_;refine fC (qZ (.enc s) (.enc L) _) ?_;simp only[↓zP,zJ,seval,Bi,Ee,cI,p,S];by_cases M:decide (z<0)=decide (w<0)
 . simp only[zG,seval,M,Hg];refine fC (aPz s L _) ?_;have U:=iL (.aV (z.natAbs+w.natAbs))
   have e:z+w=sg (decide (w<0)) (z.natAbs+w.natAbs):=by by_cases O:z<0<;>by_cases Z:w<0<;>simp[O,Z,sg] at M ⊢ <;>omega
   have P:(z+w).natAbs=z.natAbs+w.natAbs:=(by rw[e,jY]);simp only[↓zP,zJ,seval,U];refine⟨fun h=>?_,fun h=>?_⟩
   . refine fC (jL h e _) ?_;have V:norm (z+w)=some (z+w):=(by unfold norm;rw[P,if_pos h]);have U:=iL (.aV (z+w).natAbs);simp only[↓zP,zJ,seval,cI,U];exact Za4
   refine fC (tV _) ?_;simp only[↓zP,zJ,seval,yA];refine Rx ?_;have V:norm (z+w)=none:=(by unfold norm;rw[P,if_neg h]);rw[V];rfl
 have b:(decide (z<0)==decide (w<0))=false:=by simpa using M
 have a:(z+w).natAbs<W^16:=by generalize W^16=X at *;by_cases O:z<0<;>by_cases Z:w<0<;>simp[O,Z] at M<;>omega
 have V:norm (z+w)=some (z+w):=by unfold norm;rw[if_pos a]
 have U:=iL (.aV (z+w).natAbs);simp only[zG,seval,b];refine fC (MA s L _) ?_;refine Tz ?_;refine⟨fun h=>?_,fun h=>?_⟩
 . have k:w.natAbs<=z.natAbs:=by
    unfold IW at h;split at h<;>omega
   have e:z+w=sg (decide (z<0)) (z.natAbs -w.natAbs):=by by_cases O:z<0<;>by_cases Z:w<0<;>simp[O,Z,sg] at M ⊢ <;>omega
   refine Dz ?_;simp only[↓zP,zJ,seval,zD,p,S];refine gH (Qp s k _) ?_;simp only[seval];refine gH (jL (Bn (Nat.sub_le _ _) s) e _) ?_;simp only[↓zP,zJ,seval,zD,cI,U];exact Za4
 have k:z.natAbs<=w.natAbs:=by unfold IW at h;split at h<;>(try split at h)<;>omega
 have e:z+w=sg (decide (w<0)) (w.natAbs -z.natAbs):=by by_cases O:z<0<;>by_cases Z:w<0<;>simp[O,Z,sg] at M ⊢ <;>omega
 refine Dz ?_;simp only[↓zP,zJ,seval,zD,p,S];refine gH (Qp L k _) ?_;simp only[seval];refine gH (jL (Bn (Nat.sub_le _ _) L) e _) ?_;simp only[↓zP,zJ,seval,zD,cI,U];exact Za4
theorem tU(I:dN a x)(X:dN b y)(H:aA):Sg 57 [.agg a,.agg b] H (.ret (.agg (cO (nL x y)))) H:=by
 cases x with
 |none=>exact kq I X rfl H
 |some z=>cases y with
  |none=>exact kq I X rfl H
  |some w=>obtain⟨rfl,s⟩:=I.some;obtain⟨rfl,L⟩:=X.some;exact aCb s L H
theorem PX(I:dN a x)(H:aA):Sg 165 [.agg a] H (.ret (.agg (cO (wG x)))) H:=by
 refine So bHp ZaO ?_ H;unfold aVm;dsimp only;have :=oL I.len;have :=vS I;refine Wz ?_
 cases x with
 |none=>have :=tV;have := @yA;refine Wz ?_;exact⟨rfl,_,by simp only[↓zP,zR,seval];rfl,rfl⟩
 |some z=>obtain⟨rfl,s⟩:=I.some;have p:=iL (.aV z.natAbs);have U:=iL (.aV (-z).natAbs);have := @cI;have :=jL (n:= !decide (z<0)) s (z:= -z) (by by_cases h:z<0<;>simp[sg,h]<;>omega);refine Wz ?_;exact⟨rfl,_,by simp only[↓zP,zR,seval,U];rfl,rfl⟩
theorem Ug(I:dN a x)(X:dN b y)(H:aA):Sg 158 [.agg a,.agg b] H (.ret (.agg (cO (nL x (wG y))))) H:=by
 refine So bHk Zaq ?_ H;unfold aVh;dsimp only;refine Ty ?_;refine Dz ?_;have :=oL I.len;have :=oL X.len;have :=PX X;have :=tU I X.neg;refine Wz ?_
 (refine Rx ?_;rfl)
theorem uZ(a:Nat)(H:aA):Sg 197 [.agg (wC (aV 16 a))] H (.ret (.int .i64 (sz a:Nat))) H:=by
 refine So bId Zac ?_ H;unfold aVz;dsimp only;have p:=iL (.aV a);simp only[↓zP,zJ,Nat.reduceLT];refine aJ (kJ [3] (fun m vs H'=>vs=[.int .i64 (m:Nat)]/\m<=16/\sk m a=sz a/\H'.get 0=some (.cells (wC (aV 16 a)) false)) 16 (by rfl) ?_ ?_)
 . refine⟨by simp only[sm,zB];rfl,by omega,rfl,by simp only[zI]⟩
 rintro m f H E ⟨J,b,hd,g0⟩;simp only[zM] at J;refine Wz ?_
 cases m with
 |zero=>simp only[zJ,show decide (((0:Nat):Int)>0)=false from rfl];refine Rx ?_;rw[<-hd];rfl
 |succ m=>
  have w:IntKind.i64.wrap (((m+1:Nat):Int) -1)=(m:Nat):=wI A0;simp only[↓zP,zJ,Nat.reduceEqDiff,show decide (((m+1:Nat):Int)>0)=true from Ag A0,E 1 rfl,w,aD,g0,show m<16 by omega,show m+1<=16 by omega,p,gJ (show m<16 by omega)];by_cases s:aP a m=0
  . simp only[zG,s,show(((0:Nat):Int)==0)=true from rfl];refine aJ ?_;simp only[↓zP,zG,Nat.reduceLT,Nat.reduceEqDiff,J,w];refine⟨m,by omega,rfl,by omega,by rw[<-hd,sk,if_pos s],g0⟩
  have X:(((aP a m:Nat):Int)==0)=false:=by simp;omega
  simp only[zG,X];refine Rx ?_;rw[<-hd,sk,if_neg s];rfl
theorem Lo:∀b:Nat,b<256->([0,1,2,2,3,3,3,3,4,4,4,4,4,4,4,4,5,5,5,5,5,5,5,5,5,5,5,5,5,5,5,5,6,6,6,6,6,6,6,6,6,6,6,6,6,6,6,6,6,6,6,6,6,6,6,6,6,6,6,6,6,6,6,6,7,7,7,7,7,7,7,7,7,7,7,7,7,7,7,7,7,7,7,7,7,7,7,7,7,7,7,7,7,7,7,7,7,7,7,7,7,7,7,7,7,7,7,7,7,7,7,7,7,7,7,7,7,7,7,7,7,7,7,7,7,7,7,7,8,8,8,8,8,8,8,8,8,8,8,8,8,8,8,8,8,8,8,8,8,8,8,8,8,8,8,8,8,8,8,8,8,8,8,8,8,8,8,8,8,8,8,8,8,8,8,8,8,8,8,8,8,8,8,8,8,8,8,8,8,8,8,8,8,8,8,8,8,8,8,8,8,8,8,8,8,8,8,8,8,8,8,8,8,8,8,8,8,8,8,8,8,8,8,8,8,8,8,8,8,8,8,8,8,8,8,8,8,8,8,8,8,8,8,8,8,8,8,8,8,8,8,8,8,8,8,8]:List UInt8)[b]?=some (UInt8.ofNat (dU b)):=by decide+kernel
theorem aEy(u k:Nat)(A:IntKind)(E:k<=A.bits):(u:Int).fdiv (2^min (Int.toNat k) A.bits)=((u / 2^k:Nat):Int):=by grind
variable{n:Nat}
theorem PE{b:Nat}(X:b<256)(A:n<=24):IntKind.i64.wrap ((n:Int)+IntKind.i64.wrap ((UInt8.ofNat (dU b)).toNat:Int))=((n+dU b:Nat):Int):=by
 have O:dU b<=8:=jW.2 X;have Z:(UInt8.ofNat (dU b)).toNat=dU b:=by simp;omega
 grind[wrap_i64]
theorem wu8{b:Nat}(X:b<256):IntKind.u8.wrap (b:Int)=(b:Int):=by grind[IntKind.wrap,IntKind.bits,IntKind.signed]
theorem Wo{a:Nat}(I:a<W)(H:aA):Sg 271 [.int .u32 a] H (.ret (.int .i64 (dU a:Nat))) H:=by
 refine So bJy Zac ?_ H;unfold aXt;dsimp only;have hW:W=4294967296:=rfl;simp only[↓zP,zJ,Nat.reduceLT,Nat.reduceEqDiff,Int.reduceLT];have c:∀u:Nat,(u:Int).fdiv (2^min (Int.toNat 16) IntKind.u32.bits)=((u / 2^16:Nat):Int):=fun u=>aEy u 16 .u32 A1;have M:∀u:Nat,(u:Int).fdiv (2^min (Int.toNat 8) IntKind.u32.bits)=((u / 2^8:Nat):Int):=fun u=>aEy u 8 .u32 A1;have b:IntKind.i64.wrap (16+8)=((24:Nat):Int):=by decide
 have z:IntKind.i64.wrap (0+8)=((8:Nat):Int):=by decide
 refine⟨fun h=>?_,fun h=>?_⟩
 . simp only[c];refine⟨fun Z=>?_,fun Z=>?_⟩
   . have X:a / 2^16 / 2^8<256:=A0;simp only[↓zP,zJ,M,wu8 X,aD,Lo _ X,b,PE X (show 24<=24 by omega)];refine Rx ?_
     have e:dU a=24+dU (a / 2^16 / 2^8):=by rw[Dn,<-Ej,uR (k:=16+8) A0];omega
     rw[e];rfl
   have X:a / 2^16<256:=A0;have :=PE X (show 16<=24 by omega);simp only[↓zP,zJ,wu8 X,aD,Lo _ X];refine Rx ?_;have e:dU a=16+dU (a / 2^16):=(by rw[uR (k:=16) A0];omega);rw[e,<-this];rfl
 refine⟨fun Z=>?_,fun Z=>?_⟩
 . have X:a / 2^8<256:=by omega
   simp only[↓zP,zJ,M,wu8 X,aD,Lo _ X,z,PE X (show 8<=24 by omega)];refine Rx ?_;have e:dU a=8+dU (a / 2^8):=(by rw[uR (k:=8) A0];omega);rw[e];rfl
 have X:a<256:=by omega
 have :=PE X (show 0<=24 by omega);simp only[↓zP,zJ,wu8 X,aD,Lo _ X];refine Rx ?_;rw[Em] at this;rw[<-this];rfl
theorem aRv{α:Type}(a b d:α)(l:List α)(k:Nat):(a::b::l).getD (2+k) d=l.getD k d:=by grind
def aDv:Option Int->Nat
 |some z=>dU z.natAbs
 |none=>0
theorem aKs(I:dN a x)(H:aA):Sg 220 [.agg a] H (.ret (.int .i64 (aDv x:Nat))) H:=by
 refine So bIt ZaO ?_ H;unfold aWo;dsimp only;obtain⟨r,rfl,C,-⟩:=I.raw;have V:=qj r.hl;have E:=NO r.hl;have M:=uZ (wJ r.l);rw[E] at M;have e:=vS I;rw[show r.cells=.bool r.b::.bool r.n::wC r.l from rfl] at e;simp only[↓zP,zJ,seval,xY.cells,iL r.hl];refine fC (M _) ?_;simp only[↓zP,zJ,seval,iL r.hl];refine fC (e _) ?_
 cases x with
 |none=>simp only[↓zP,zJ,seval,Co];exact⟨rfl,_,by simp only[↓zP,zR,seval];rfl,rfl⟩
 |some z=>
  have s:=I.fit;obtain⟨X,A,U,-⟩:=UI r.hl C.symm;have c:wJ r.l=z.natAbs:=by rw[U,fS s]
  rw[c];by_cases o:sz z.natAbs=0
  . simp only[↓zP,zJ,seval,Bi,o];refine Rx ?_;rw[aDv,(sx s).1 o];rfl
  have X:(((sz z.natAbs:Nat):Int)==0)=false:=by simp;omega
  have d:=ZC z.natAbs;have w1:IntKind.i64.wrap (((sz z.natAbs:Nat):Int) -1)=((sz z.natAbs -1:Nat):Int):=wI A0;have w2:IntKind.i64.wrap (32*((sz z.natAbs -1:Nat):Int))=((32*(sz z.natAbs -1):Nat):Int):=by rw[wrap_i64 A0 A0];simp
  have t:(wC r.l).getD (sz z.natAbs -1) aB=.int .u32 (aP z.natAbs (sz z.natAbs -1)):=by rw[U,gJ A0]
  have O:dU (aP z.natAbs (sz z.natAbs -1))<=32:=jW.2 (dC _ _)
  have G:IntKind.i64.wrap (((32*(sz z.natAbs -1):Nat):Int)+(dU (aP z.natAbs (sz z.natAbs -1)):Nat))=((dU z.natAbs:Nat):Int):=by rw[wrap_i64 A0 A0,vr s o];simp
  simp only[↓zP,zJ,seval,Bi,X,w1,w2,aD,show sz z.natAbs -1<16 by omega,show 2+(sz z.natAbs -1)<=17 by omega,iL r.hl,aRv,t];refine fC (Wo (dC z.natAbs (sz z.natAbs -1)) _) ?_;simp only[↓zP,zG,seval,G]
  (refine Rx ?_;rfl)
def fH:Option Int->Int×Bool
 |some z=>if -2^63<=z/\z<2^63 then(z,true) else(0,false)
 |none=>(0,false)
theorem iu{a b:Nat}(I:a<4294967296)(X:b<4294967296):zK .or .u64 (IntKind.u64.wrap (((a:Nat):Int)*2^(min (Int.toNat 32) IntKind.u64.bits))) ((b:Nat):Int)=some (.int .u64 ((a*4294967296+b:Nat):Int)):=by
 have e:IntKind.u64.wrap (((a:Nat):Int)*2^(min (Int.toNat 32) IntKind.u64.bits))=((a*4294967296:Nat):Int):=by show IntKind.u64.wrap (((a:Nat):Int)*4294967296)=_;exact jE A0 A0
 rw[e]
 have P:(a*4294967296|||b)=a*4294967296+b:=by
  have :=Nat.two_pow_add_eq_or_of_lt (i:=32) X a
  grind
 have B:∀n:Nat,BitVec.ofInt 64 (n:Int)=BitVec.ofNat 64 n:=fun n=>by simp
 simp only[zK];congr 2;rw[show IntKind.u64.bits=64 from rfl,B,B,<-BitVec.ofNat_or,P,Ji,Bl A0];exact jE A0 (.inl rfl)
theorem zA(I:dN a x)(H:aA):Sg 156 [.agg a] H (.ret (.jS [.int .i64 (fH x).1,.bool (fH x).2])) H:=by
 refine So bHj ZaO ?_ H;unfold aVg;dsimp only;have :=oL I.len;have :=vS I;refine Wz ?_
 cases x with
 |none=>refine Wz ?_;exact⟨rfl,_,by simp only[↓zP,zR,Nat.reduceEqDiff];rfl,rfl⟩
 |some z=>
  obtain⟨rfl,s⟩:=I.some;have p:=iL (.aV z.natAbs);have hW:W=4294967296:=rfl;have e:W^2=2^64:=rfl;simp only[↓zP,zJ,Nat.reduceLT,Nat.reduceEqDiff,Bi];refine fC (aKs I _) ?_;simp only[↓zP,zJ,Nat.reduceLT,Nat.reduceEqDiff,aDv];refine⟨fun h=>?_,fun h=>?_⟩
  . have :¬z.natAbs<2^64:=fun X=>by have :=jW.2 X;omega
    refine Rx ?_;rw[fH,if_neg A0];rfl
  have r:z.natAbs<2^64:=jW.1 A0;have Y:(wC (aV 16 z.natAbs)).getD 0 aB=.int .u32 (aP z.natAbs 0:Nat):=gJ A0;have T:(wC (aV 16 z.natAbs)).getD 1 aB=.int .u32 (aP z.natAbs 1:Nat):=gJ A0;have o:=dC z.natAbs 0;have O:=dC z.natAbs 1;have w0:IntKind.u64.wrap ((aP z.natAbs 0:Nat):Int)=(aP z.natAbs 0:Nat):=jE A0 (.inl rfl);have w1:IntKind.u64.wrap ((aP z.natAbs 1:Nat):Int)=(aP z.natAbs 1:Nat):=jE A0 (.inl rfl)
  have b:aP z.natAbs 1*W+aP z.natAbs 0=z.natAbs:=by have Z:aP z.natAbs 0=z.natAbs%W:=(by simp[aP]);have c:aP z.natAbs 1=z.natAbs / W:=(by unfold aP;rw[Nat.pow_one,hW,Bl A0]);rw[Z,c,Cc];exact Dy _ _
  have S:=iu O o;rw[hW] at b;rw[b] at S;unfold cI;simp only[↓zP,zJ,Nat.reduceLT,Nat.reduceAdd,Nat.reduceLeDiff,Int.reduceLT,p,AR,Y,T,w0,w1,S];refine aJ ?_;by_cases g:z<0
  . simp only[↓zP,zJ,Nat.reduceLT,Nat.reduceEqDiff,Nat.reduceAdd,Nat.reduceLeDiff,Ag g,p];refine⟨fun h4=>?_,fun h4=>?_⟩
    . have w2:IntKind.u64.wrap (0 -((z.natAbs:Nat):Int))=((2^64 -z.natAbs:Nat):Int):=jE A0 A0
      have G:IntKind.i64.wrap ((2^64 -z.natAbs:Nat):Int)=z:=by simp only[IntKind.wrap,IntKind.bits,IntKind.signed];simp;omega
      refine⟨rfl,_,by simp only[↓zP,zR,Nat.reduceEqDiff,w2,G];rfl,?_⟩;rw[fH,if_pos A0];rfl
    refine Rx ?_;rw[fH,if_neg A0];rfl
  simp only[↓zP,zJ,Nat.reduceLT,Nat.reduceEqDiff,Nat.reduceAdd,Nat.reduceLeDiff,Ab g,p];refine⟨fun h4=>?_,fun h4=>?_⟩
  . have G:IntKind.i64.wrap ((z.natAbs:Nat):Int)=z:=by
     rw[wrap_i64 A0 A0];omega
    refine⟨rfl,_,by simp only[↓zP,zR,Nat.reduceEqDiff,G];rfl,?_⟩;rw[fH,if_pos A0];rfl
  refine Rx ?_;rw[fH,if_neg A0];rfl
def jF:Option Int->Int
 |some z=>if z<0 then -1 else if z=0 then 0 else 1
 |none=>0
def aYj:Option Int->Option Int
 |some z=>some z.natAbs
 |none=>none
def lO:Option Int->Option Int->Int
 |some x,some y=>if x<y then -1 else if y<x then 1 else 0
 |none,none=>0
 |none,_=> -1
 |_,none=>1
theorem xL(h:n<W^16):aV 16 n=zs↔n=0:=by rw[<-ER (.aV n),fS h]
theorem uQ(I:dN a x)(H:aA):Sg 110 [.agg a] H (.ret (.int .i64 (jF x))) H:=by
 refine So bGm ZaO ?_ H;unfold aUl;dsimp only;refine Ty ?_;refine aJ ?_;have :=oL I.len;have :=vS I;refine Wz ?_
 cases x with
 |none=>refine Wz ?_;exact⟨rfl,_,by simp only[↓zP,zR,seval];rfl,rfl⟩
 |some z=>
  obtain⟨rfl,s⟩:=I.some;have p:=iL (.aV z.natAbs);unfold cI;by_cases g:z<0
  . have B:decide (aV 16 z.natAbs=zs)=false:=by rw[Ab];rw[xL s];omega
    simp only[↓zP,zJ,seval,Bi,p,B,Ag g];refine Rx ?_;rw[jF,if_pos g];rfl
  by_cases O:z=0
  . subst O;refine Wz ?_;exact Zaa
  have B:decide (aV 16 z.natAbs=zs)=false:=by rw[Ab];rw[xL s];omega
  have :=Ab g;refine Wz ?_;refine Rx ?_;rw[jF,if_neg g,if_neg O];rfl
theorem aCa(I:dN a x)(H:aA):Sg 199 [.agg a] H (.ret (.agg (cO (aYj x)))) H:=by
 refine So bIf ZaO ?_ H;unfold aWb;dsimp only;have :=oL I.len;have :=vS I;refine Wz ?_
 cases x with
 |none=>have :=tV;refine Wz ?_;exact⟨rfl,_,by simp only[↓zP,zR,seval];rfl,rfl⟩
 |some z=>obtain⟨rfl,s⟩:=I.some;have p:=iL (.aV z.natAbs);unfold cI;have :=jL (n:=false) s (z:=(z.natAbs:Int)) rfl;refine Wz ?_;exact⟨rfl,_,by simp only[↓zP,zR,seval];rfl,rfl⟩
theorem DE(I:dN a x)(X:dN b y)(H:aA):Sg 95 [.agg a,.agg b] H (.ret (.int .i64 (lO x y))) H:=by
 refine So bRa Zaq ?_ H;unfold W95;dsimp only;refine bP ?_;refine Ty ?_;refine fW ?_;refine Dz ?_;have :=oL I.len;have :=vS I;have :=oL X.len;have :=vS X;refine Wz ?_;refine bQ ?_;refine aM fun K hK=>?_;refine aJ ?_
 cases x with
 |none=>
  cases y<;>
  . refine Wy ?_;exact Zaa
 |some z=>cases y with
  |none=>refine Wy ?_;exact⟨rfl,_,by simp only[↓zP,zR,seval];rfl,rfl⟩
  |some w=>
   obtain⟨rfl,s⟩:=I.some;obtain⟨rfl,L⟩:=X.some;have p:=iL (.aV z.natAbs);have S:=iL (.aV w.natAbs);unfold cI;by_cases O:z<0<;>by_cases Z:w<0
   . simp only[↓zP,zJ,seval,Bi,Ag O,Ag Z,p,S];refine fC (MA L s _) ?_;refine Tz ?_;refine⟨rfl,_,by simp only[↓zP,zR,seval];rfl,?_⟩
     have e:lO (some z) (some w)=IW w.natAbs z.natAbs:=by
      simp only[lO,IW]
      repeat' split
      all_goals first|rfl|omega
     rw[e];rfl
   . simp only[↓zP,zJ,seval,Bi,Ag O,Ab Z,p,S];refine⟨rfl,_,by simp only[↓zP,zR,seval];rfl,?_⟩;rw[lO,if_pos A0];rfl
   . have :=Ab O;refine Wy ?_;refine⟨rfl,_,by simp only[↓zP,zR,seval];rfl,?_⟩;rw[lO,if_neg A0,if_pos A0];rfl
   refine Wy ?_;apply hK;have :=MA s L;refine Wy ?_;refine⟨rfl,_,by simp only[↓zP,zR,seval];rfl,?_⟩
   have e:lO (some z) (some w)=IW z.natAbs w.natAbs:=by
    simp only[lO,IW]
    repeat' split
    all_goals first|rfl|omega
   rw[e];rfl
theorem aRl:[AV.int .u32 0,.int .u32 0,.int .u32 0,.int .u32 0,.int .u32 0,.int .u32 0,.int .u32 0,.int .u32 0,.int .u32 0,.int .u32 0,.int .u32 0,.int .u32 0,.int .u32 0,.int .u32 0,.int .u32 0,.int .u32 0,.int .u32 0,.int .u32 0,.int .u32 0,.int .u32 0,.int .u32 0,.int .u32 0,.int .u32 0,.int .u32 0,.int .u32 0,.int .u32 0,.int .u32 0,.int .u32 0,.int .u32 0,.int .u32 0,.int .u32 0,.int .u32 0]=wC (List.replicate 32 0):=rfl
theorem tX(ha:dN a x)(X:dN b y)(H:aA):Sg 114 [.agg a,.agg b] H (.ret (.agg (cO (lY x y)))) H:=by
 refine So bGp (by simp only[sf,ha.free,X.free]) ?_ H;unfold aUo;dsimp only;refine aM fun K hK=>?_;refine Wy ?_;apply hK;clear hK K;refine aM fun K hK=>?_;have :=oL ha.len;have :=oL X.len;have :=qZ ha X;refine Wy ?_
 cases x with
 |none=>have := @Bool.false_and;have :=tV;have := @yA;refine Wy ?_;exact⟨rfl,_,by simp only[↓zP,zR,Nat.reduceEqDiff,Nat.reduceAdd];rfl,rfl⟩
 |some z=>cases y with
  |none=>simp only[↓zP,zG,Nat.reduceLT,zI,Co,Bool.and_false];refine fC (tV _) ?_;simp only[↓zP,zG,Nat.reduceEqDiff,Nat.reduceAdd,zI,yA];exact⟨rfl,_,by simp only[↓zP,zR,Nat.reduceEqDiff,Nat.reduceAdd];rfl,rfl⟩
  |some w=>
   obtain⟨rfl,s⟩:=ha.some;obtain⟨rfl,L⟩:=X.some;have p:=iL (.aV z.natAbs);have lb:=iL (.aV w.natAbs);have hW:W=4294967296:=rfl;simp only[↓zP,zG,Nat.reduceLT,zI,Bi,Ee];apply hK;clear hK K;unfold cI;generalize hA:z.natAbs=A at *;generalize hB:w.natAbs=B at *;refine aM fun K hK=>?_;simp only[↓zP,zG,Nat.reduceLT,aRl];apply hK;clear hK K;refine aM fun K hK=>?_;refine Dz ?_;simp only[↓zP,zG,Nat.reduceLT,Nat.reduceEqDiff,Nat.reduceAdd,zD,reduceCtorEq,zI,p];refine gH (uZ A _) ?_;simp only[↓zP,zG,Nat.reduceLT,Nat.reduceEqDiff,Nat.reduceAdd,zD,reduceCtorEq,zI,lb];refine gH (uZ B _) ?_;simp only[↓zP,zG,Nat.reduceLT,Nat.reduceEqDiff,Nat.reduceAdd,zD,reduceCtorEq,zI];apply hK;clear hK K;have hn:=ZC A;have hm:=ZC B;have ab:=MV s;have a7:=MV L;generalize Q:sz A=n at *;generalize af:sz B=m at *;refine aM fun K hK=>?_;refine aM fun D cY=>?_;simp only[↓zP,zG,Nat.reduceLT,Nat.reduceEqDiff];apply cY;clear cY D;refine bS [] (fun i _ H'=>∃o,LW 32 o/\wJ o=A%W^i*B/\H'.get 0=some (.cells (.bool false::.bool (decide (z<0))::wC (aV 16 A)) false)/\H'.get 1=some (.cells (.bool false::.bool (decide (w<0))::wC (aV 16 B)) false)/\H'.get 2=some (.cells (.bool false::.bool false::wC zs) false)/\H'.get 3=some (.cells (wC o) false)) n A0 A1 ?_ ?_ ?_ ?_ ?_
   . simp only[zB]
   . exact ZaM
   . refine⟨List.replicate 32 0,⟨by simp,fun d hd=>by rw[Hn hd];decide⟩,by rw[Gq,Ip,Gp];decide,?_⟩;simp only[zG,Nat.reduceEqDiff,Nat.reduceAdd,zI]
   . rintro i f H F E T ⟨o,S,J,g0,g,g2,C⟩;have hD:=dC A i;refine aJ ?_;refine aM fun D cY=>?_;refine Ww ?_;apply cY;clear cY D;refine aM fun D cY=>?_;simp only[↓zP,zG,Nat.reduceLT];apply cY;clear cY D;refine aM fun D cY=>?_;refine aM fun K3 CG=>?_;simp only[↓zP,zG,Nat.reduceLT,Nat.reduceEqDiff,E 7 rfl];apply CG;clear CG K3
     have hP:A%W^i*B<W^(i+m):=by rw[Ej];exact Ik (Bz _ (dX i)) a7
     refine bS [9] (fun k vs H'=>∃o c,vs=[.int .u64 (c:Nat)]/\c<W/\LW 32 o/\wJ o+c*W^(i+k)=A%W^i*B+aP A i*W^i*(B%W^k)/\(∀j,i+k<=j->o.getD j 0=aP (A%W^i*B) j)/\H'.get 0=some (.cells (.bool false::.bool (decide (z<0))::wC (aV 16 A)) false)/\H'.get 1=some (.cells (.bool false::.bool (decide (w<0))::wC (aV 16 B)) false)/\H'.get 2=some (.cells (.bool false::.bool false::wC zs) false)/\H'.get 3=some (.cells (wC o) false)) m A0 A1 ?_ ?_ ?_ ?_ ?_
     . simp only[zB]
     . exact ZaM
     . refine⟨o,0,by simp only[sm,zB,Nat.reduceEqDiff];rfl,by omega,S,by rw[J];simp[Ip],fun j Y=>by rw[<-J,S.aP],g0,g,g2,C⟩
     . rintro k f2 H2 ag N P ⟨o,c,I,R,S,he,Y,g0,g,g2,C⟩;simp only[zM] at I;have dh:=dC B k;have yy:=S.getD (i+k);have ae:aP A i*aP B k<=4294967295*4294967295:=Be A0 A0;have q1:IntKind.u64.wrap ((aP A i:Nat):Int)=(aP A i:Nat):=jE A0 (.inl rfl);have q2:IntKind.u64.wrap ((aP B k:Nat):Int)=(aP B k:Nat):=jE A0 (.inl rfl);have q3:IntKind.u64.wrap ((o.getD (i+k) 0:Nat):Int)=(o.getD (i+k) 0:Nat):=jE A0 (.inl rfl);have q4:IntKind.u64.wrap (((aP A i:Nat):Int)*(aP B k:Nat))=((aP A i*aP B k:Nat):Int):=jE A0 (.inl A2);have q5:IntKind.u64.wrap (((aP A i*aP B k:Nat):Int)+(o.getD (i+k) 0:Nat))=((aP A i*aP B k+o.getD (i+k) 0:Nat):Int):=jE A0 (.inl A0);have v:IntKind.u64.wrap (((c:Nat):Int)+((aP A i*aP B k+o.getD (i+k) 0:Nat):Int))=((c+aP A i*aP B k+o.getD (i+k) 0:Nat):Int):=jE A0 (.inl A0);have u:IntKind.i64.wrap ((i:Int)+(k:Int))=((i+k:Nat):Int):=wI A0;have t:(wC o).getD (i+k) aB=.int .u32 (o.getD (i+k) 0:Nat):=oK Zas;have M:=aHf S (show i+k<32 by omega) he;refine aJ ?_;refine aM fun D cY=>?_;refine Ww ?_;apply cY;clear cY D;refine aM fun D cY=>?_;refine Dz ?_;simp only[↓zP,zG,Nat.reduceLT,Nat.reduceEqDiff,Nat.reduceAdd,zD,reduceCtorEq,zI,Nat.reduceLeDiff,I,N 8 rfl,N 2 rfl,N 3 rfl,N 5 rfl,E 2 rfl,E 3 rfl,E 5 rfl,aD,g0,g,C,show i<16 by omega,show k<16 by omega,show 2+i<=17 by omega,show 2+k<=17 by omega,p,lb,aRv,gJ (show i<16 by omega),gJ (show k<16 by omega),q1,q2,q3,q4,q5,v,u,show i+k<32 by omega,show i+k+1<=32 by omega,cE,S.1,t];apply cY;clear cY D;simp only[↓zP,zG,Nat.reduceLT,Nat.reduceEqDiff,zI,Int.reduceLT,N 8 rfl,N 5 rfl,E 5 rfl,u,aD,C,show i+k<32 by omega,show i+k+1<=32 by omega,cE,S.1,CY,NC];refine⟨o.set (i+k) _,_,rfl,?_,S.set (i+k) (Bz _ qQ),M,fun j q=>?_,g0,g,g2,?_⟩
       . rw[Cn qQ,hW];omega
       . rw[Xi Zas,if_neg A0];exact Y j A0
       exact Am (fun l=>some (eG.cells l false)) (vF Zas _)
     rintro f2 H2 N ⟨o,c,I,R,S,he,Y,g0,g,g2,C⟩;simp only[zM] at I;have u:IntKind.i64.wrap ((i:Int)+(m:Int))=((i+m:Nat):Int):=wI A0;simp only[↓zP];apply cY;clear cY D;simp only[↓zP,zG,Nat.reduceLT,Nat.reduceEqDiff,zI,N 8 rfl,N 7 rfl,N 5 rfl,E 7 rfl,E 5 rfl,u,I,aD,C,show i+m<32 by omega,show i+m+1<=32 by omega,cE,S.1,CY];rw[Bl R];refine⟨o.set (i+m) c,S.set _ R,aOu S A0 a7 rfl he (by rw[Y _ (Ae _)];exact FY hP),g0,g,g2,?_⟩;exact Am (fun l=>some (eG.cells l false)) (vF Zas _)
   rintro f H E ⟨o,S,J,g0,g,g2,C⟩;simp only[↓zP];apply hK;clear hK K;rw[Bl ab] at J;have a6:=S.eq;rw[J] at a6;have l1:(wC o).length=32:=by rw[cE,S.1]
   have l2:((wC o).drop 16).take 16=wC (o.drop 16):=by rw[Au (by simp[l1])];simp[wC]
   have xH:(z*w).natAbs=A*B:=(by rw[El,hA,hB]);have G:A*B<W^32:=(by rw[<-J];exact S.lt);have U:(wC o).take 16=wC (aV 16 (A*B)):=(by rw[a6,<-Qf (by omega:16<=32)];simp[wC]);have l4:(A*B<W^16)↔o.drop 16=zs:=(by rw[a6];exact fu G);have ad:(o.drop 16).length=16:=(by simp[S.1]);simp only[↓zP,zG,Nat.reduceLT,Nat.reduceEqDiff,Nat.reduceAdd,zI,Nat.reduceLeDiff,Nat.reduceSub,E 5 rfl,C,l1,l2,eM,show asNat (.int .i64 16)=some 16 from rfl,Co,jZ,Eb,By,FM (b:=zs) ad rfl];refine⟨fun h=>?_,fun h=>?_⟩
   . have r:=l4.2 h;have V:norm (z*w)=some (z*w):=(by unfold norm;rw[xH,if_pos r]);refine Dz ?_;simp only[↓zP,zG,Nat.reduceLT,Nat.reduceEqDiff,Nat.reduceAdd,zD,reduceCtorEq,zI,Nat.reduceLeDiff,E 5 rfl,E 2 rfl,E 3 rfl,g0,g,C,l1,U,p,lb,eM,show asNat (.int .i64 16)=some 16 from rfl,Co,Bi,jZ,Eb,By]
     have e:z*w=sg (!(decide (z<0)==decide (w<0))) (A*B):=by
      have ez:z=if z<0 then -(A:Int) else A:=by split<;>omega
      have ew:w=if w<0 then -(B:Int) else B:=ZaN;by_cases O:z<0<;>by_cases Z:w<0<;>simp only[O,Z,if_true,Cv] at ez ew<;>simp[O,Z,sg]<;>(conv=>lhs;rw[ez,ew])<;>simp only[Gn,Kn,Int.neg_neg]
     refine gH (jL r e _) ?_;simp only[↓zP,zG,Nat.reduceEqDiff,Nat.reduceAdd,zD,reduceCtorEq,zI,E 4 rfl,g2];refine⟨rfl,_,by simp only[↓zP,zR,Nat.reduceEqDiff,E 4 rfl];rfl,?_⟩;rw[lY,V];rfl
   refine fC (tV _) ?_;simp only[↓zP,zG,Nat.reduceEqDiff,Nat.reduceAdd,zI,yA,E 4 rfl,g2];refine⟨rfl,_,by simp only[↓zP,zR,Nat.reduceEqDiff,Nat.reduceAdd,E 4 rfl];rfl,?_⟩;have V:norm (z*w)=none:=(by unfold norm;rw[xH,if_neg (fun hh=>h (l4.1 hh))]);rw[lY,V];rfl
theorem bRp{x:Nat}(C:x<W)(A:n<32):IntKind.u64.wrap ((x:Int)*2^min (Int.toNat (n:Int)) IntKind.u64.bits)=((x*2^n:Nat):Int):=by have Z:x*2^n<2^32*2^32:=Ik C (Nat.pow_lt_pow_right A1 A);rw[Int.toNat_natCast,show min n IntKind.u64.bits=n from Nat.min_eq_left (by show n<=64;omega)];exact jE (Bg Z A1) (.inl A2)
theorem orW{c x:Nat}(R:c<2^n)(C:x<W)(A:n<32):zK .or .u64 ((c:Nat):Int) ((x*2^n:Nat):Int)=some (.int .u64 ((c+x*2^n:Nat):Int)):=by
 have Z:c+x*2^n<2^64:=by
  have a:(x+1)*2^n<=2^32*2^32:=Be C (Bu A1 A0);rw[Bo,Fk] at a;have :(2^32*2^32:Nat)=2^64:=by decide
  omega
 have P:(c|||x*2^n)=c+x*2^n:=by have :=Nat.two_pow_add_eq_or_of_lt (i:=n) R x;rw[Cc] at this;rw[Nat.or_comm,<-this,Iy]
 have B:∀n:Nat,BitVec.ofInt 64 (n:Int)=BitVec.ofNat 64 n:=fun n=>by simp
 simp only[zK];congr 2;rw[show IntKind.u64.bits=64 from rfl,B,B,<-BitVec.ofNat_or,P,Ji,Bl Z];exact jE Z (.inl rfl)
theorem bEm(u n:Nat)(A:n<32):(u:Int).fdiv (2^min (Int.toNat (n:Int)) IntKind.u64.bits)=((u / 2^n:Nat):Int):=aEy u n .u64 (by show n<=64;omega)
theorem aYx(u:Nat):(u:Int).fdiv (2^min 32 IntKind.u64.bits)=((u / W:Nat):Int):=NC u
theorem aTy{w:Nat}(L:w<W^16)(A:n<32)(H:aA):
 Sg 254 [.agg (wC (aV 16 w)),.int .i64 n] H (.ret (.jS [.agg (wC (aV 16 (w*2^n))),.int .u32 ((w*2^n / W^16:Nat):Int)])) H:=by
 refine So bJo Zac ?_ H;unfold aXj;dsimp only;have p:=iL (.aV w);have Z:¬((n:Int)<0):=by omega
 have K:(2^n:Nat)<W:=Nat.pow_lt_pow_right A1 A;have a:∀i,te w n i<W:=fun i=>Bt (aKd w n i) K;refine Ty ?_;refine cM [7] (fun i vs H'=>vs=[.int .u64 (te w n i:Nat)]/\H'.get 0=some (.cells (wC (aV 16 w)) false)/\H'.get 1=some (.cells (wC zs) false)/\H'.get 2=some (.cells (wC (YZ i (aV 16 (w*2^n)))) false)) 16 A1 rfl A1 ?_ ?_ ?_ ?_
 . exact zq
 . refine⟨by simp only[sm,zB,seval,aKf,Int.cast_ofNat_Int],?_⟩;rw[BU];simp only[zJ,seval]
 . rintro i f H F E T ⟨J,g0,g,d⟩;simp only[zM] at J;have m:=dC w i;have hW:W=4294967296:=rfl;have w1:IntKind.u64.wrap ((aP w i:Nat):Int)=(aP w i:Nat):=jE A0 (.inl rfl);have w2:=bRp m A;have G:=orW (aKd w n i) m A;have b:f 1=.int .i64 (n:Nat):=by rw[E 1 rfl];simp only[↓zP,zG,seval]
   refine aJ ?_;simp only[↓zP,zJ,seval,T,J,E 2 rfl,E 6 rfl,b,aD,g0,d,F,show i+1<=16 by omega,p,gJ F,w1,w2,G,Z,CY,aYx,uX,aKe];exact⟨trivial,trivial,g,by rw[BT F (by rw[aOm])]⟩
 rintro f H E ⟨J,g0,g,d⟩;simp only[zM] at J;have u:te w n 16=w*2^n / W^16:=aRb L;have v:=a 16;rw[u] at J v;simp only[↓zP,zJ,seval,J,E 6 rfl,E 4 rfl,g,d,GB,(iL (.aV (w*2^n))),CY,Bl v];refine⟨rfl,_,by simp only[↓zP,zR,seval,E 4 rfl,iL (.aV (w*2^n))];rfl,?_⟩;rfl
theorem aNd{w:Nat}(L:w<W^16)(A:n<32)(H:aA):
 Sg 258 [.agg (wC (aV 16 w)),.int .i64 n] H (.ret (.agg (wC (aV 16 (w / 2^n))))) H:=by
 refine So bJs Zac ?_ H;unfold aXn;dsimp only;have p:=iL (.aV w);have Z:¬((n:Int)<0):=by omega
 refine Ty ?_;refine cM [] (fun i vs H'=>H'.get 0=some (.cells (wC (aV 16 w)) false)/\H'.get 1=some (.cells (wC zs) false)/\H'.get 2=some (.cells (wC (YZ i (aV 16 (w / 2^n)))) false)) 16 A1 rfl A1 ?_ ?_ ?_ ?_
 . exact zq
 . rw[BU];simp only[zJ,seval]
 . rintro i f H F E T ⟨g0,g,d⟩;have m:=dC w i;have c3:=dC w (i+1);have hW:W=4294967296:=rfl;have w1:IntKind.u64.wrap ((aP w i:Nat):Int)=(aP w i:Nat):=jE A0 (.inl rfl);have w2:IntKind.u64.wrap ((aP w (i+1):Nat):Int)=(aP w (i+1):Nat):=jE A0 (.inl rfl);have G:IntKind.i64.wrap ((i:Int)+1)=((i+1:Nat):Int):=by rw[wrap_i64 A0 A0];rfl
   have b:f 1=.int .i64 (n:Nat):=(by rw[E 1 rfl];simp only[↓zP,zG,seval]);have S:zK .or .u64 (IntKind.u64.wrap (((aP w (i+1):Nat):Int)*2^min 32 IntKind.u64.bits)) ((aP w i:Nat):Int)=some (.int .u64 ((aP w (i+1)*W+aP w i:Nat):Int)):=iu c3 m;have hd:=bEm (aP w (i+1)*W+aP w i) n A;have U:=zd w n i A0;refine aJ ?_;refine bP ?_;simp only[↓zP,zG,seval,T];refine fW ?_;refine Tz ?_;refine bQ ?_;refine aM fun D e=>?_
   have key:∀(f:dD) (y:Nat),y=aP w (i+1)->f 1=.int .i64 (n:Nat)->f 2=.ref 0 0->f 5=.ref 2 0->f 6=.int .i64 (i:Nat)->f 7=.int .u64 (y:Nat)->D f [] H:=by rintro f y rfl b s j h J;apply e;clear e D;simp only[↓zP,zJ,seval,b,s,j,h,J,aD,g0,d,F,show i+1<=16 by omega,p,gJ F,w1,S,Z,hd,CY,uX,<-U];exact⟨trivial,g,by rw[BT F rfl]⟩
   have s:f 2=.ref 0 0:=(by rw[E 2 rfl];simp only[↓zP,zG,seval]);have j:f 5=.ref 2 0:=(by rw[E 5 rfl];simp only[↓zP,zG,seval]);by_cases c:i=15
   . have a:decide (((i+1:Nat):Int)<16)=false:=Ab A0;have t:aP w (i+1)=0:=AE L A0;simp only[↓zP,zG,seval,G,a];refine key _ 0 t.symm ?_ ?_ ?_ ?_ ?_<;>simp only[zB,seval,b,s,j,Int.cast_ofNat_Int]
   have a:decide (((i+1:Nat):Int)<16)=true:=Ag A0;simp only[↓zP,zJ,seval,G,a,s,g0,aD,show i+1<16 by omega,show i+1+1<=16 by omega,p,gJ (show i+1<16 by omega),w2];refine key _ _ rfl ?_ ?_ ?_ ?_ ?_<;>simp only[zB,seval,b,s,j]
 rintro f H E ⟨g0,g,d⟩;simp only[↓zP,zJ,seval,E 5 rfl,E 4 rfl,g,d,GB,(iL (.aV (w / 2^n)))];refine⟨rfl,_,by simp only[↓zP,zR,seval,E 4 rfl,iL (.aV (w / 2^n))];rfl,?_⟩;rfl
variable{a:Nat}
theorem bDp(I:a<W)(H:aA):Sg 253 [.int .u32 a] H (.ret (.int .i64 ((32 -dU a:Nat):Int))) H:=by
 refine So bJn Zac ?_ H;unfold aXi;dsimp only;have X:dU a<=32:=jW.2 I;have w:IntKind.i64.wrap (32 -((dU a:Nat):Int))=((32 -dU a:Nat):Int):=wI A0;refine Ty ?_;refine fC (Wo I _) ?_;simp only[↓zP,zG,seval,w]
 (refine Rx ?_;rfl)
def Me(H H':aA)(p:Nat):Prop:=H.next<=H'.next/\∀j,j<H.next->j≠p->H'.get j=H.get j
theorem l17{i:Nat}(h:i<17):(wC (aV 17 a)).getD i aB=.int .u32 (aP a i):=by rw[oK (by rw[cK];exact h),lA h]
theorem bBw(a:Nat):(wC (aV 17 a)).length=17:=by rw[cE,cK]
def gsU(u v n j:Nat):Nat:=gsD (aP u (j+n)) (aP u (j+n -1)) (aP u (j+n -2)) (aP v (n -1)) (aP v (n -2))
theorem aFj{u v j p:Nat}{H:aA}(hg:H.get p=some (.cells (wC (aV 17 u)) false))(hp:p<H.next)(Lg:2<=n)(hn:n<=16)(Y:j+n<=16)(q:aP u (j+n)<=aP v (n -1))(e:0<aP v (n -1)):
 ∃o H',(o=.ret (.int .u64 (gsU u v n j:Nat))/\H.next<=H'.next/\∀k,k<H.next->H'.get k=H.get k)/\Sg 255 [.ref p 0,.agg (wC (aV 16 v)),.int .i64 n,.int .i64 j] H o H':=by
 refine dM fit bJp (Ai rfl) ?_;unfold aXk;dsimp only;have la:=iL (.aV v);have lu:=bBw u;have hW:W=4294967296:=rfl;have P:p≠H.next:=by omega
 have w1:IntKind.i64.wrap ((j:Int)+(n:Int))=((j+n:Nat):Int):=wI A0;have w2:IntKind.i64.wrap (((j+n:Nat):Int) -1)=((j+n -1:Nat):Int):=wI A0;have w3:IntKind.i64.wrap (((j+n:Nat):Int) -2)=((j+n -2:Nat):Int):=wI A0;have t:IntKind.i64.wrap ((n:Int) -1)=((n -1:Nat):Int):=wI A0;have w5:IntKind.i64.wrap ((n:Int) -2)=((n -2:Nat):Int):=wI A0;have ll:∀a k,IntKind.u64.wrap ((aP a k:Nat):Int)=(aP a k:Nat):=fun a k=>jE (Bt (dC a k) A1) (.inl rfl);have ak:=dC u (j+n);have a7:=dC u (j+n -1);have ae:=dC u (j+n -2);have ay:=dC v (n -1);have ad:=dC v (n -2);have S:zK .or .u64 (IntKind.u64.wrap (((aP u (j+n):Nat):Int)*2^min 32 IntKind.u64.bits)) ((aP u (j+n -1):Nat):Int)=some (.int .u64 ((aP u (j+n)*W+aP u (j+n -1):Nat):Int)):=iu ak a7;have d0:=aFh (t2:=aP u (j+n)) (t1:=aP u (j+n -1)) (v2:=aP v (n -2)) e ae;have ar:gsU u v n j=gsD (aP u (j+n)) (aP u (j+n -1)) (aP u (j+n -2)) (aP v (n -1)) (aP v (n -2)):=rfl;have gu:∀i,i<17->(wC (aV 17 u)).getD i aB=.int .u32 (aP u i):=fun i h=>l17 h;have M:∀i,i<16->(wC (aV 16 v)).getD i aB=.int .u32 (aP v i):=fun i h=>gJ h;refine bP ?_;refine Ty ?_;refine bQ ?_;generalize hX:H.alloc _=I;have g0:=Kx (i:=p) hX;have g:=Kv (i:=H.next) hX;have F:H.next<=I.next/\∀k,k<H.next->I.get k=H.get k:=by subst hX;exact⟨by simp only[zI,seval];omega,fun k E=>by simp only[zI,seval,show k≠H.next by omega]⟩
 clear hX;refine bP ?_;refine Dz ?_;simp only[↓zP,zJ,seval,zD,w1,w2,g0,aD,lu,show j+n<17 by omega,show j+n+1<=17 by omega,show j+n -1<17 by omega,show j+n -1+1<=17 by omega,gu _ (show j+n<17 by omega),gu _ (show j+n -1<17 by omega),ll,S];refine bQ ?_;generalize Q:aP u (j+n)*W+aP u (j+n -1)=x at *;have az:x<2^64:=by rw[<-Q,hW];omega
 refine bP ?_;have :n -1<16:=by omega
 have :n -1+1<=16:=by omega
 have :=M _ (show n -1<16 by omega);refine Wz ?_;refine fW ?_;refine Dz ?_;have aE:¬((aP v (n -1):Nat):Int)=0:=by omega
 have T:(((x:Nat):Int)).tdiv ((aP v (n -1):Nat):Int)=((x / aP v (n -1):Nat):Int):=rfl;have e2:(((x:Nat):Int)).tmod ((aP v (n -1):Nat):Int)=((x%aP v (n -1):Nat):Int):=rfl;have dl:x / aP v (n -1)<=x:=Fs _ _;have rl:x%aP v (n -1)<aP v (n -1):=Bz _ e;have e3:IntKind.u64.wrap ((x / aP v (n -1):Nat):Int)=((x / aP v (n -1):Nat):Int):=jE A0 (.inl rfl);have U:IntKind.u64.wrap ((x%aP v (n -1):Nat):Int)=((x%aP v (n -1):Nat):Int):=jE A0 (.inl rfl);refine Wz ?_;refine bQ ?_;refine bW fun f N=>?_;have f0:=Kf (i:=0) N;have s:=Kf (i:=2) N;have c:=Kf (i:=3) N;have f5:=Kf (i:=5) N;have aj:=Kf (i:=10) N;have z:=Kf (i:=11) N;have ag:=Kf (i:=12) N;clear N;refine aM fun K hK=>?_;refine aJ (kJ [11,12] (fun m vs H'=>H'=I/\∃d r:Nat,vs=[.int .u64 (d:Nat),.int .u64 (r:Nat)]/\m=d/\d*aP v (n -1)+r=x/\gsU u v n j<=d/\d<2^64/\r<2^33) (x / aP v (n -1)) (by rfl) ?_ ?_)
 . refine⟨rfl,_,x%aP v (n -1),by simp only[sm,z,ag],rfl,by rw[Cc];exact Dy _ _,by rw[ar];exact d0,by omega,by omega⟩
 rintro d f' H1 E ⟨rfl,_,r,J,rfl,he,PB,VJ,O⟩;simp only[zM] at J;obtain⟨l,X⟩:=J;have k0:=(E 0 rfl).trans f0;have k2:=(E 2 rfl).trans s;have k3:=(E 3 rfl).trans c;have k5:=(E 5 rfl).trans f5;have af:=(E 10 rfl).trans aj;clear f0 s c f5 aj z ag;refine aM fun D cY=>?_
 have more:∀V:dD,gsU u v n j<d->r<2^32->V 10=.int .u64 (aP v (n -1):Nat)->V 11=.int .u64 (d:Nat)->V 12=.int .u64 (r:Nat)->D V [] H1:=by intro V fF ed an ab al;apply cY;clear cY D hK;have s1:IntKind.u64.wrap ((d:Int) -1)=((d -1:Nat):Int):=jE A0 (.inl A0);have Z:IntKind.u64.wrap ((r:Int)+((aP v (n -1):Nat):Int))=((r+aP v (n -1):Nat):Int):=jE A0 (.inl A0);refine aJ ?_;simp only[↓zP,zJ,seval,an,ab,al,s1,Z];refine⟨d -1,by omega,trivial,d -1,r+aP v (n -1),rfl,rfl,?_,by omega,by omega,by omega⟩;rw[<-he,Nat.sub_mul,Fk];have :aP v (n -1)<=d*aP v (n -1):=Gr _ A0;omega
 have a6:∀V:dD,d=gsU u v n j->V 11=.int .u64 (d:Nat)->K V [] H1:=by intro V hd ab;apply hK;clear hK cY more K D;simp only[↓zP,zG,seval,ab];refine Rx ?_;exact⟨by rw[hd];rfl,F⟩
 clear hK cY;have w:∀b A B,gI aB b A B=B:=fun _ _ _=>rfl;refine aM fun K3 CG=>?_;refine Dz ?_;by_cases y:r<W
 . have R:decide ((r:Int)<4294967296)=true:=Ag A0;by_cases c2:W<=d
   . have L:decide ((d:Int)≥4294967296)=true:=Ag A0;simp only[↓zP,zJ,seval,zD,l,X,R,L];apply CG;clear CG K3;refine Tz ?_;refine more _ (nf e (he.trans Q.symm) (.inl c2)) A0 ?_ ?_ ?_<;>simp only[zB,seval,l,X,af]
   have L:decide ((d:Int)≥4294967296)=false:=Ab A0;have C:d*aP v (n -2)<=4294967295*4294967295:=Be A0 A0;have s1:IntKind.u64.wrap ((d:Int)*((aP v (n -2):Nat):Int))=((d*aP v (n -2):Nat):Int):=jE A0 (.inl A2);have aq:zK .or .u64 (IntKind.u64.wrap (((r:Nat):Int)*2^min 32 IntKind.u64.bits)) ((aP u (j+n -2):Nat):Int)=some (.int .u64 ((r*W+aP u (j+n -2):Nat):Int)):=iu y ae;simp only[↓zP,zJ,seval,zD,l,X,R,L,k0,k2,k3,k5,w1,w3,w5,g0,g,aD,lu,la,show n -2<16 by omega,show n -2+1<=16 by omega,show j+n -2<17 by omega,show j+n -2+1<=17 by omega,gu _ (show j+n -2<17 by omega),M _ (show n -2<16 by omega),ll,s1,aq];apply CG;clear CG K3;by_cases c3:r*W+aP u (j+n -2)<d*aP v (n -2)
   . have b3:decide (((d*aP v (n -2):Nat):Int)>((r*W+aP u (j+n -2):Nat):Int))=true:=Ag (Int.ofNat_lt.2 c3);simp only[↓zP,zG,seval,b3];refine more _ (nf e (he.trans Q.symm) (.inr c3)) A0 ?_ ?_ ?_<;>simp only[zB,seval,l,X,af]
   have b3:decide (((d*aP v (n -2):Nat):Int)>((r*W+aP u (j+n -2):Nat):Int))=false:=Ab (fun h=>c3 (Int.ofNat_lt.1 h));simp only[↓zP,zG,seval,b3];refine a6 _ (aFg e a7 ad q (he.trans Q.symm) PB (.inr ⟨by omega,by omega⟩)) ?_;simp only[zB,seval,l]
 have R:decide ((r:Int)<4294967296)=false:=Ab A0;refine Wz ?_;apply CG;clear CG K3;refine Tz ?_;refine a6 _ (aFg e a7 ad q (he.trans Q.symm) PB (.inl A0)) ?_;simp only[zB,seval,l]
end Go.Proofs.YtogfcjbgeebfkaaGreatDoor
