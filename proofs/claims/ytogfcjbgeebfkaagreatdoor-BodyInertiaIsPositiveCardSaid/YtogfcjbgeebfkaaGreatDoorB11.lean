/-
  Part of the proof of statement 13
-/
import Derived.Test.YtogfcjbgeebfkaaGreatDoorB09
import Derived.Test.YtogfcjbgeebfkaaGreatDoorB10
import Derived.Test.YtogfcjbgeebfkaaGreatDoorB07
set_option linter.unusedVariables false
set_option maxRecDepth 100000
set_option linter.unusedSimpArgs false
set_option maxHeartbeats 16000000
namespace Go.Proofs.YtogfcjbgeebfkaaGreatDoor
open Go Go.Av Go.iW
attribute [local congr] aZ aQ aR aL bD aU aS aG bE
attribute [local irreducible] FC bS eE
theorem QM(a:Nat)(H:aB):Sg 268 [.int .u32 a] H (.ret (.bool false)) H:=by
 refine So bJq (by rfl) ?_ H;unfold aXh;simp only[↓zP,zJ,seval,Jh]
 (refine Rx ?_;rfl)
theorem UB(a b:Nat)(H:aB):Sg 213 [.int .u32 a,.int .u32 b] H (.ret (.int .i64 (IK a b))) H:=by
 refine So bIh Zad ?_ H;unfold aVy;dsimp only;have :=QM a;have :=QM b;refine Wz ?_;refine⟨fun h=>?_,fun h=>⟨fun Z=>?_,fun Z=>?_⟩⟩<;>refine Rx ?_<;>unfold IK
 . rw[if_pos A0];rfl
 . exact ZbF
 rw[if_neg A0,if_neg A0];rfl
variable{a b:Nat}
theorem Lm(I:a<W^16)(X:b<W^16)(H:aB):Sg 136 [.agg (wC (aV 16 a)),.agg (wC (aV 16 b))] H (.ret (.int .i64 (IK a b))) H:=by
 refine So bGu Zad ?_ H;unfold aUm;dsimp only;have G:=iL (.aV a);have j:=iL (.aV b);refine Wz ?_;refine aM (jW [5] (fun m vs H'=>vs=[.int .i64 ((m:Int) -1)]/\m<=16/\a / W^m=b / W^m/\H'.get 0=some (.cells (wC (aV 16 a)) false)/\H'.get 1=some (.cells (wC (aV 16 b)) false)) 16 (by rfl) ?_ ?_)
 . refine⟨by simp only[sm,zB];rfl,by omega,by rw[Dg I,Dg X],by simp only[zI,Nat.reduceEqDiff],by simp only[zI,Nat.reduceEqDiff]⟩
 rintro m f H E ⟨J,t,hd,g0,g⟩;simp only[zM] at J;refine Wz ?_;refine⟨fun h=>?_,fun h=>?_⟩
 . obtain⟨m,rfl⟩:∃k,m=k+1:=⟨m -1,by omega⟩;have e:((m+1:Nat):Int) -1=(m:Nat):=by omega
   refine aM ?_;simp only[↓zP,e];refine Dz ?_;simp only[↓zP,zJ,Nat.reduceLT,Nat.reduceEqDiff,Nat.reduceAdd,zD,reduceCtorEq,J,e,E 2 rfl,E 3 rfl,aI,g0,g,show m<16 by omega,show m+1<=16 by omega,G,j,gP (show m<16 by omega)];by_cases s:aT a m=aT b m
   . simp only[zG,s,Jh];have w:IntKind.i64.wrap ((m:Int) -1)=(m:Int) -1:=wrap_i64 A0 A0;exact⟨m,by omega,by rw[w],by omega,Sr hd s⟩
   have X:(((aT a m:Nat):Int) != ((aT b m:Nat):Int))=true:=Zag;simp only[zG,X];refine Dz ?_;simp only[↓zP,zJ,Nat.reduceLT,Nat.reduceEqDiff,Nat.reduceAdd,zD,reduceCtorEq,J,e,E 2 rfl,E 3 rfl,aI,g0,g,show m<16 by omega,show m+1<=16 by omega,G,j,gP (show m<16 by omega)];refine gV (UB (aT a m) (aT b m) _) ?_;simp only[↓zP,zJ,Nat.reduceLT,Nat.reduceEqDiff,Nat.reduceAdd,zD,reduceCtorEq];refine Rx ?_;rw[aMb hd s];rfl
 obtain rfl:m=0:=by omega
 simp only[Gr,Ho] at hd;refine Rx ?_;simp[hd,IK,nJ]
theorem aPc(I:a<W^16)(X:b<W^16)(H:aB):Sg 135 [.agg (wC (aV 16 a)),.agg (wC (aV 16 b))] H (.ret (.iV [.agg (wC (aV 16 (a+b))),.bool (decide (a+b<W^16))])) H:=by
 refine So bGt Zad ?_ H;unfold aUl;dsimp only;have G:=iL (.aV a);have j:=iL (.aV b);refine Wz ?_;refine fE [7] (fun i vs H'=>vs=[.int .u64 (cr a b i:Nat)]/\H'.get 0=some (.cells (wC (aV 16 a)) false)/\H'.get 1=some (.cells (wC (aV 16 b)) false)/\H'.get 2=some (.cells (wC zs) false)/\H'.get 3=some (.cells (wC (YJ i (aV 16 (a+b)))) false)) 16 A1 rfl A1 ?_ ?_ ?_ ?_
 . simp only[zB]
 . refine⟨by simp only[sm,zB,Nat.reduceEqDiff,aMg];rfl,?_⟩;rw[BC];simp only[zJ,Nat.reduceEqDiff,Nat.reduceAdd]
 . rintro i f H F E T ⟨J,g0,g,e,U⟩;simp only[zM] at J;have k:=aRb a b i;have h:=dC a i;have c3:=dC b i;have hW:W=4294967296:=rfl;have w1:IntKind.u64.wrap ((aT a i:Nat):Int)=(aT a i:Nat):=jA A0 (.inl rfl);have w2:IntKind.u64.wrap ((aT b i:Nat):Int)=(aT b i:Nat):=jA A0 (.inl rfl);have R:IntKind.u64.wrap (((aT a i:Nat):Int)+(aT b i:Nat))=((aT a i+aT b i:Nat):Int):=jA A0 (.inl A0);have C:IntKind.u64.wrap (((cr a b i:Nat):Int)+((aT a i+aT b i:Nat):Int))=((cr a b i+aT a i+aT b i:Nat):Int):=jA A0 (.inl A0);refine aM ?_;refine Wz ?_;refine Dz ?_;simp only[↓zP,zJ,Nat.reduceLT,Nat.reduceEqDiff,Nat.reduceAdd,zD,reduceCtorEq,Int.reduceLT,J,E 2 rfl,E 3 rfl,E 6 rfl,aI,g0,g,U,F,show i+1<=16 by omega,G,j,gP F,w1,w2,R,C,CB,Mf,tX,<-aMf];exact⟨e,by rw[BB F (by rw[aGa])]⟩
 rintro f H E ⟨J,g0,g,e,U⟩;simp only[zM] at J;simp only[↓zP,zJ,Nat.reduceEqDiff,J,E 6 rfl,E 4 rfl,e,U,FL,(iL (.aV (a+b)))]
 have d:(((cr a b 16:Nat):Int)==0)=decide (a+b<W^16):=by rw[aYs I X];split<;>rename_i c<;>simp[c]
 refine⟨rfl,_,by simp only[↓zP,zR,Nat.reduceEqDiff,E 4 rfl,iL (.aV (a+b))];rfl,?_⟩;rw[d];rfl
theorem aEg(u:Nat):(u:Int).fdiv (2^min (Int.toNat 63) IntKind.u64.bits)=((u / 2^63:Nat):Int):=by
 show(u:Int).fdiv (2^63)=_
 grind
theorem Qd(I:a<W^16)(X:b<=a)(H:aB):Sg 137 [.agg (wC (aV 16 a)),.agg (wC (aV 16 b))] H (.ret (.agg (wC (aV 16 (a -b))))) H:=by
 refine So bGv Zad ?_ H;unfold aUn;dsimp only;have G:=iL (.aV a);have j:=iL (.aV b);refine Wz ?_;refine fE [6] (fun i vs H'=>vs=[.int .u64 (bw a b i:Nat)]/\H'.get 0=some (.cells (wC (aV 16 a)) false)/\H'.get 1=some (.cells (wC (aV 16 b)) false)/\H'.get 2=some (.cells (wC zs) false)/\H'.get 3=some (.cells (wC (YJ i (aV 16 (a -b)))) false)) 16 A1 rfl A1 ?_ ?_ ?_ ?_
 . simp only[zB]
 . refine⟨by simp only[sm,zB,Nat.reduceEqDiff,aLw];rfl,?_⟩;rw[BC];simp only[zJ,Nat.reduceEqDiff,Nat.reduceAdd]
 . rintro i f H F E T ⟨J,g0,g,e,U⟩;simp only[zM] at J;have d:bw a b i<=1:=by unfold bw;split<;>omega
   have c:=dC a i;have c3:=dC b i;have S:=aGb X i;have Y:=aLv a b i;have hW:W=4294967296:=rfl;have w1:IntKind.u64.wrap ((aT a i:Nat):Int)=(aT a i:Nat):=jA A0 (.inl rfl);have w2:IntKind.u64.wrap ((aT b i:Nat):Int)=(aT b i:Nat):=jA A0 (.inl rfl);obtain⟨D,K⟩:∃D:Nat,(D:Int)=(((aT a i:Nat):Int) -(aT b i:Nat) -(bw a b i:Nat))%2^64:=⟨((((aT a i:Nat):Int) -(aT b i:Nat) -(bw a b i:Nat))%2^64).toNat,Int.toNat_of_nonneg A0⟩
   have R:IntKind.u64.wrap (IntKind.u64.wrap (((aT a i:Nat):Int) -(aT b i:Nat)) -((bw a b i:Nat):Int))=(D:Int):=by simp only[IntKind.wrap,IntKind.bits,IntKind.signed,K];simp
   have C:D / 2^63=bw a b (i+1):=(by rw[Y];split<;>omega);refine aM ?_;simp only[↓zP,zG,Nat.reduceLT,Nat.reduceEqDiff,T];refine Dz ?_;simp only[↓zP,zJ,Nat.reduceLT,Nat.reduceEqDiff,Nat.reduceAdd,zD,reduceCtorEq,Int.reduceLT,J,E 2 rfl,E 3 rfl,E 5 rfl,aI,g0,g,U,F,show i+1<=16 by omega,G,j,gP F,w1,w2,R,CB,aEg,tX,C];exact⟨e,by rw[BB F (by rw[S,hW];omega)]⟩
 rintro f H E ⟨J,g0,g,e,U⟩;simp only[zM] at J;simp only[↓zP,zJ,Nat.reduceEqDiff,E 5 rfl,E 4 rfl,e,U,FL,(iL (.aV (a -b)))];exact⟨rfl,_,by simp only[↓zP,zR,Nat.reduceEqDiff,E 4 rfl,iL (.aV (a -b))];rfl,rfl⟩
variable{a:List AV}{x:Option Int}
theorem uX(I:eJ a x)(H:aB):Sg 133 [.bK 1 18 [a]] H (.ret (.bool x.isSome)) H:=by
 obtain⟨r,rfl,-,V⟩:=I.raw;have :=lk [r] A3 H
 grind
variable{b:List AV}{y:Option Int}
theorem qR(I:eJ a x)(X:eJ b y)(H:aB):Sg 133 [.bK 1 18 [a,b]] H (.ret (.bool (x.isSome&&y.isSome))) H:=by
 obtain⟨r,rfl,-,V⟩:=I.raw;obtain⟨q,rfl,-,D⟩:=X.raw;have :=lk [r,q] A3 H
 grind
theorem jI{n:Bool}{m:Nat}(t:m<W^16){z:Int}(s:z=sg n m)(H:aB):Sg 129 [.bool n,.agg (wC (aV 16 m))] H (.ret (.agg (cI z))) H:=by
 have :=NK n (.aV m) H
 have e:(n&& !decide (aV 16 m=zs))=decide (z<0):=by
  have G:aV 16 m=zs↔m=0:=by rw[<-DZ (.aV m),fP t]
  grind[sg,vH]
 grind[jU,cI]
theorem kc(I:eJ a x)(X:eJ b y)(f:(x.isSome&&y.isSome)=false)(H:aB):Sg 57 [.agg a,.agg b] H (.ret (.agg xH)) H:=by have d:=qR I X;rw[f] at d;refine So bKx Zan ?_ H;unfold W57;dsimp only;have :=oL I.len;have :=oL X.len;have :=tD;have := @xH;refine Wz ?_;exact⟨rfl,_,by simp only[↓zP,zR,seval];rfl,rfl⟩
theorem aBi{z w:Int}(s:z.natAbs<W^16)(L:w.natAbs<W^16)(H:aB):Sg 57 [.agg (cI z),.agg (cI w)] H (.ret (.agg (cO (norm (z+w))))) H:=by
 refine So bKx (by simp only[sf,sfI]) ?_ H;unfold W57;dsimp only;have G:=iL (.aV z.natAbs);have j:=iL (.aV w.natAbs);refine Ty ?_;refine eI (qR (.enc s) (.enc L) _) ?_;simp only[↓zP,zJ,seval,Bg,Dx,cI,G,j];by_cases M:decide (z<0)=decide (w<0)
 . simp only[zG,seval,M,Hh];refine eI (aPc s L _) ?_;have U:=iL (.aV (z.natAbs+w.natAbs))
   have e:z+w=sg (decide (w<0)) (z.natAbs+w.natAbs):=by by_cases O:z<0<;>by_cases Z:w<0<;>simp[O,Z,sg] at M ⊢ <;>omega
   have o:(z+w).natAbs=z.natAbs+w.natAbs:=(by rw[e,jU]);simp only[↓zP,zJ,seval,U];refine⟨fun h=>?_,fun h=>?_⟩
   . refine eI (jI h e _) ?_;have V:norm (z+w)=some (z+w):=(by unfold norm;rw[o,if_pos h]);have U:=iL (.aV (z+w).natAbs);simp only[↓zP,zJ,seval,cI,U];exact ZaX
   refine eI (tD _) ?_;simp only[↓zP,zJ,seval,xH];refine Rx ?_;have V:norm (z+w)=none:=(by unfold norm;rw[o,if_neg h]);rw[V];rfl
 have y:(decide (z<0)==decide (w<0))=false:=by simpa using M
 have a:(z+w).natAbs<W^16:=by generalize W^16=X at *;by_cases O:z<0<;>by_cases Z:w<0<;>simp[O,Z] at M<;>omega
 have V:norm (z+w)=some (z+w):=by unfold norm;rw[if_pos a]
 have U:=iL (.aV (z+w).natAbs);simp only[zG,seval,y];refine eI (Lm s L _) ?_;refine Tz ?_;refine⟨fun h=>?_,fun h=>?_⟩
 . have m:w.natAbs<=z.natAbs:=by
    unfold IK at h;split at h<;>omega
   have e:z+w=sg (decide (z<0)) (z.natAbs -w.natAbs):=by by_cases O:z<0<;>by_cases Z:w<0<;>simp[O,Z,sg] at M ⊢ <;>omega
   refine Dz ?_;simp only[↓zP,zJ,seval,zD,G,j];refine gV (Qd s m _) ?_;simp only[seval];refine gV (jI (Bv (Nat.sub_le _ _) s) e _) ?_;simp only[↓zP,zJ,seval,zD,cI,U];exact ZaX
 have m:z.natAbs<=w.natAbs:=by unfold IK at h;split at h<;>(try split at h)<;>omega
 have e:z+w=sg (decide (w<0)) (w.natAbs -z.natAbs):=by by_cases O:z<0<;>by_cases Z:w<0<;>simp[O,Z,sg] at M ⊢ <;>omega
 refine Dz ?_;simp only[↓zP,zJ,seval,zD,G,j];refine gV (Qd L m _) ?_;simp only[seval];refine gV (jI (Bv (Nat.sub_le _ _) L) e _) ?_;simp only[↓zP,zJ,seval,zD,cI,U];exact ZaX
theorem xB(I:eJ a x)(X:eJ b y)(H:aB):Sg 57 [.agg a,.agg b] H (.ret (.agg (cO (oI x y)))) H:=by
 cases x with
 |none=>exact kc I X rfl H
 |some z=>cases y with
  |none=>exact kc I X rfl H
  |some w=>obtain⟨rfl,s⟩:=I.some;obtain⟨rfl,L⟩:=X.some;exact aBi s L H
theorem PM(I:eJ a x)(H:aB):Sg 165 [.agg a] H (.ret (.agg (cO (wH x)))) H:=by
 refine So bHj ZaJ ?_ H;unfold aVb;dsimp only;have :=oL I.len;have :=uX I;refine Wz ?_
 cases x with
 |none=>have :=tD;have := @xH;refine Wz ?_;exact⟨rfl,_,by simp only[↓zP,zR,seval];rfl,rfl⟩
 |some z=>obtain⟨rfl,s⟩:=I.some;have G:=iL (.aV z.natAbs);have U:=iL (.aV (-z).natAbs);have := @cI;have :=jI (n:= !decide (z<0)) s (z:= -z) (by by_cases h:z<0<;>simp[sg,h]<;>omega);refine Wz ?_;exact⟨rfl,_,by simp only[↓zP,zR,seval,U];rfl,rfl⟩
theorem ZX(I:eJ a x)(X:eJ b y)(H:aB):Sg 158 [.agg a,.agg b] H (.ret (.agg (cO (oI x (wH y))))) H:=by
 refine So bHe Zan ?_ H;unfold aUw;dsimp only;refine Ty ?_;refine Dz ?_;have :=oL I.len;have :=oL X.len;have :=PM X;have :=xB I X.neg;refine Wz ?_
 (refine Rx ?_;rfl)
theorem tY(a:Nat)(H:aB):Sg 197 [.agg (wC (aV 16 a))] H (.ret (.int .i64 (sz a:Nat))) H:=by
 refine So bHw Zad ?_ H;unfold aVo;dsimp only;have G:=iL (.aV a);simp only[↓zP,zJ,Nat.reduceLT];refine aM (jW [3] (fun m vs H'=>vs=[.int .i64 (m:Nat)]/\m<=16/\qy m a=sz a/\H'.get 0=some (.cells (wC (aV 16 a)) false)) 16 (by rfl) ?_ ?_)
 . refine⟨by simp only[sm,zB];rfl,by omega,rfl,by simp only[zI]⟩
 rintro m f H E ⟨J,t,hd,g0⟩;simp only[zM] at J;refine Wz ?_
 cases m with
 |zero=>simp only[zJ,show decide (((0:Nat):Int)>0)=false from rfl];refine Rx ?_;rw[<-hd];rfl
 |succ m=>
  have w:IntKind.i64.wrap (((m+1:Nat):Int) -1)=(m:Nat):=wI A0;simp only[↓zP,zJ,Nat.reduceEqDiff,show decide (((m+1:Nat):Int)>0)=true from Af A0,E 1 rfl,w,aI,g0,show m<16 by omega,show m+1<=16 by omega,G,gP (show m<16 by omega)];by_cases s:aT a m=0
  . simp only[zG,s,show(((0:Nat):Int)==0)=true from rfl];refine aM ?_;simp only[↓zP,zG,Nat.reduceLT,Nat.reduceEqDiff,J,w];refine⟨m,by omega,rfl,by omega,by rw[<-hd,qy,if_pos s],g0⟩
  have X:(((aT a m:Nat):Int)==0)=false:=by simp;omega
  simp only[zG,X];refine Rx ?_;rw[<-hd,qy,if_neg s];rfl
theorem LU:∀b:Nat,b<256->([0,1,2,2,3,3,3,3,4,4,4,4,4,4,4,4,5,5,5,5,5,5,5,5,5,5,5,5,5,5,5,5,6,6,6,6,6,6,6,6,6,6,6,6,6,6,6,6,6,6,6,6,6,6,6,6,6,6,6,6,6,6,6,6,7,7,7,7,7,7,7,7,7,7,7,7,7,7,7,7,7,7,7,7,7,7,7,7,7,7,7,7,7,7,7,7,7,7,7,7,7,7,7,7,7,7,7,7,7,7,7,7,7,7,7,7,7,7,7,7,7,7,7,7,7,7,7,7,8,8,8,8,8,8,8,8,8,8,8,8,8,8,8,8,8,8,8,8,8,8,8,8,8,8,8,8,8,8,8,8,8,8,8,8,8,8,8,8,8,8,8,8,8,8,8,8,8,8,8,8,8,8,8,8,8,8,8,8,8,8,8,8,8,8,8,8,8,8,8,8,8,8,8,8,8,8,8,8,8,8,8,8,8,8,8,8,8,8,8,8,8,8,8,8,8,8,8,8,8,8,8,8,8,8,8,8,8,8,8,8,8,8,8,8,8,8,8,8,8,8,8,8,8,8,8,8]:List UInt8)[b]?=some (UInt8.ofNat (dW b)):=by decide+kernel
theorem aEh(u k:Nat)(kk:IntKind)(E:k<=kk.bits):(u:Int).fdiv (2^min (Int.toNat k) kk.bits)=((u / 2^k:Nat):Int):=by grind
variable{n:Nat}
theorem Oo{b:Nat}(X:b<256)(A:n<=24):IntKind.i64.wrap ((n:Int)+IntKind.i64.wrap ((UInt8.ofNat (dW b)).toNat:Int))=((n+dW b:Nat):Int):=by
 have O:dW b<=8:=jS.2 X;have Z:(UInt8.ofNat (dW b)).toNat=dW b:=by simp;omega
 grind[wrap_i64]
theorem wu8{b:Nat}(X:b<256):IntKind.u8.wrap (b:Int)=(b:Int):=by grind[IntKind.wrap,IntKind.bits,IntKind.signed]
theorem Wc{a:Nat}(I:a<W)(H:aB):Sg 271 [.int .u32 a] H (.ret (.int .i64 (dW a:Nat))) H:=by
 refine So bJu Zad ?_ H;unfold aXl;dsimp only;have hW:W=4294967296:=rfl;simp only[↓zP,zJ,Nat.reduceLT,Nat.reduceEqDiff,Int.reduceLT];have c:∀u:Nat,(u:Int).fdiv (2^min (Int.toNat 16) IntKind.u32.bits)=((u / 2^16:Nat):Int):=fun u=>aEh u 16 .u32 A1;have z:∀u:Nat,(u:Int).fdiv (2^min (Int.toNat 8) IntKind.u32.bits)=((u / 2^8:Nat):Int):=fun u=>aEh u 8 .u32 A1;have b:IntKind.i64.wrap (16+8)=((24:Nat):Int):=by decide
 have p:IntKind.i64.wrap (0+8)=((8:Nat):Int):=by decide
 refine⟨fun h=>?_,fun h=>?_⟩
 . simp only[c];refine⟨fun Z=>?_,fun Z=>?_⟩
   . have X:a / 2^16 / 2^8<256:=A0;simp only[↓zP,zJ,z,wu8 X,aI,LU _ X,b,Oo X (show 24<=24 by omega)];refine Rx ?_
     have e:dW a=24+dW (a / 2^16 / 2^8):=by rw[Dn,<-Ee,tT (k:=16+8) A0];omega
     rw[e];rfl
   have X:a / 2^16<256:=A0;have :=Oo X (show 16<=24 by omega);simp only[↓zP,zJ,wu8 X,aI,LU _ X];refine Rx ?_;have e:dW a=16+dW (a / 2^16):=(by rw[tT (k:=16) A0];omega);rw[e,<-this];rfl
 refine⟨fun Z=>?_,fun Z=>?_⟩
 . have X:a / 2^8<256:=by omega
   simp only[↓zP,zJ,z,wu8 X,aI,LU _ X,p,Oo X (show 8<=24 by omega)];refine Rx ?_;have e:dW a=8+dW (a / 2^8):=(by rw[tT (k:=8) A0];omega);rw[e];rfl
 have X:a<256:=by omega
 have :=Oo X (show 0<=24 by omega);simp only[↓zP,zJ,wu8 X,aI,LU _ X];refine Rx ?_;rw[Ds] at this;rw[<-this];rfl
theorem aRi{α:Type}(a b d:α)(l:List α)(k:Nat):(a::b::l).getD (2+k) d=l.getD k d:=by grind
def aDc:Option Int->Nat
 |some z=>dW z.natAbs
 |none=>0
theorem aJz(I:eJ a x)(H:aB):Sg 220 [.agg a] H (.ret (.int .i64 (aDc x:Nat))) H:=by
 refine So bIn ZaJ ?_ H;unfold aWe;dsimp only;obtain⟨r,rfl,C,-⟩:=I.raw;have V:=o5 r.hl;have E:=Ms r.hl;have M:=tY (vK r.l);rw[E] at M;have e:=uX I;rw[show r.cells=.bool r.b::.bool r.n::wC r.l from rfl] at e;simp only[↓zP,zJ,seval,xE.cells,iL r.hl];refine eI (M _) ?_;simp only[↓zP,zJ,seval,iL r.hl];refine eI (e _) ?_
 cases x with
 |none=>simp only[↓zP,zJ,seval,Ci];exact⟨rfl,_,by simp only[↓zP,zR,seval];rfl,rfl⟩
 |some z=>
  have s:=I.fit;obtain⟨X,A,U,-⟩:=Tq r.hl C.symm;have c:vK r.l=z.natAbs:=by rw[U,fP s]
  rw[c];by_cases G:sz z.natAbs=0
  . simp only[↓zP,zJ,seval,Bg,G];refine Rx ?_;rw[aDc,(rf s).1 G];rfl
  have X:(((sz z.natAbs:Nat):Int)==0)=false:=by simp;omega
  have f:=Yn z.natAbs;have w1:IntKind.i64.wrap (((sz z.natAbs:Nat):Int) -1)=((sz z.natAbs -1:Nat):Int):=wI A0;have w2:IntKind.i64.wrap (32*((sz z.natAbs -1:Nat):Int))=((32*(sz z.natAbs -1):Nat):Int):=by rw[wrap_i64 A0 A0];simp
  have d:(wC r.l).getD (sz z.natAbs -1) aC=.int .u32 (aT z.natAbs (sz z.natAbs -1)):=by rw[U,gP A0]
  have O:dW (aT z.natAbs (sz z.natAbs -1))<=32:=jS.2 (dC _ _)
  have R:IntKind.i64.wrap (((32*(sz z.natAbs -1):Nat):Int)+(dW (aT z.natAbs (sz z.natAbs -1)):Nat))=((dW z.natAbs:Nat):Int):=by rw[wrap_i64 A0 A0,um s G];simp
  simp only[↓zP,zJ,seval,Bg,X,w1,w2,aI,show sz z.natAbs -1<16 by omega,show 2+(sz z.natAbs -1)<=17 by omega,iL r.hl,aRi,d];refine eI (Wc (dC z.natAbs (sz z.natAbs -1)) _) ?_;simp only[↓zP,zG,seval,R]
  (refine Rx ?_;rfl)
def fU:Option Int->Int×Bool
 |some z=>if -2^63<=z/\z<2^63 then(z,true) else(0,false)
 |none=>(0,false)
theorem e9{a b:Nat}(I:a<4294967296)(X:b<4294967296):GP .or .u64 (IntKind.u64.wrap (((a:Nat):Int)*2^(min (Int.toNat 32) IntKind.u64.bits))) ((b:Nat):Int)=some (.int .u64 ((a*4294967296+b:Nat):Int)):=by
 have e:IntKind.u64.wrap (((a:Nat):Int)*2^(min (Int.toNat 32) IntKind.u64.bits))=((a*4294967296:Nat):Int):=by show IntKind.u64.wrap (((a:Nat):Int)*4294967296)=_;exact jA A0 A0
 rw[e]
 have o:(a*4294967296|||b)=a*4294967296+b:=by
  have :=Nat.two_pow_add_eq_or_of_lt (i:=32) X a
  grind
 have C:∀n:Nat,BitVec.ofInt 64 (n:Int)=BitVec.ofNat 64 n:=fun n=>by simp
 simp only[GP];congr 2;rw[show IntKind.u64.bits=64 from rfl,C,C,<-BitVec.ofNat_or,o,BitVec.toNat_ofNat,Bk A0];exact jA A0 (.inl rfl)
theorem yJ(I:eJ a x)(H:aB):Sg 156 [.agg a] H (.ret (.iV [.int .i64 (fU x).1,.bool (fU x).2])) H:=by
 refine So bHc ZaJ ?_ H;unfold aUu;dsimp only;have :=oL I.len;have :=uX I;refine Wz ?_
 cases x with
 |none=>refine Wz ?_;exact⟨rfl,_,by simp only[↓zP,zR,Nat.reduceEqDiff];rfl,rfl⟩
 |some z=>
  obtain⟨rfl,s⟩:=I.some;have G:=iL (.aV z.natAbs);have hW:W=4294967296:=rfl;have p:W^2=2^64:=rfl;simp only[↓zP,zJ,Nat.reduceLT,Nat.reduceEqDiff,Bg];refine eI (aJz I _) ?_;simp only[↓zP,zJ,Nat.reduceLT,Nat.reduceEqDiff,aDc];refine⟨fun h=>?_,fun h=>?_⟩
  . have :¬z.natAbs<2^64:=fun X=>by have :=jS.2 X;omega
    refine Rx ?_;rw[fU,if_neg A0];rfl
  have r:z.natAbs<2^64:=jS.1 A0;have Y:(wC (aV 16 z.natAbs)).getD 0 aC=.int .u32 (aT z.natAbs 0:Nat):=gP A0;have T:(wC (aV 16 z.natAbs)).getD 1 aC=.int .u32 (aT z.natAbs 1:Nat):=gP A0;have c:=dC z.natAbs 0;have O:=dC z.natAbs 1;have w0:IntKind.u64.wrap ((aT z.natAbs 0:Nat):Int)=(aT z.natAbs 0:Nat):=jA A0 (.inl rfl);have w1:IntKind.u64.wrap ((aT z.natAbs 1:Nat):Int)=(aT z.natAbs 1:Nat):=jA A0 (.inl rfl)
  have b:aT z.natAbs 1*W+aT z.natAbs 0=z.natAbs:=by have Z:aT z.natAbs 0=z.natAbs%W:=(by simp[aT]);have B:aT z.natAbs 1=z.natAbs / W:=(by unfold aT;rw[Nat.pow_one,hW,Bk A0]);rw[Z,B,Cc];exact Dt _ _
  have S:=e9 O c;rw[hW] at b;rw[b] at S;unfold cI;simp only[↓zP,zJ,Nat.reduceLT,Nat.reduceAdd,Nat.reduceLeDiff,Int.reduceLT,G,AH,Y,T,w0,w1,S];refine aM ?_;by_cases D:z<0
  . simp only[↓zP,zJ,Nat.reduceLT,Nat.reduceEqDiff,Nat.reduceAdd,Nat.reduceLeDiff,Af D,G];refine⟨fun h4=>?_,fun h4=>?_⟩
    . have w2:IntKind.u64.wrap (0 -((z.natAbs:Nat):Int))=((2^64 -z.natAbs:Nat):Int):=jA A0 A0
      have R:IntKind.i64.wrap ((2^64 -z.natAbs:Nat):Int)=z:=by simp only[IntKind.wrap,IntKind.bits,IntKind.signed];simp;omega
      refine⟨rfl,_,by simp only[↓zP,zR,Nat.reduceEqDiff,w2,R];rfl,?_⟩;rw[fU,if_pos A0];rfl
    refine Rx ?_;rw[fU,if_neg A0];rfl
  simp only[↓zP,zJ,Nat.reduceLT,Nat.reduceEqDiff,Nat.reduceAdd,Nat.reduceLeDiff,Ac D,G];refine⟨fun h4=>?_,fun h4=>?_⟩
  . have R:IntKind.i64.wrap ((z.natAbs:Nat):Int)=z:=by
     rw[wrap_i64 A0 A0];omega
    refine⟨rfl,_,by simp only[↓zP,zR,Nat.reduceEqDiff,R];rfl,?_⟩;rw[fU,if_pos A0];rfl
  refine Rx ?_;rw[fU,if_neg A0];rfl
def iI:Option Int->Int
 |some z=>if z<0 then -1 else if z=0 then 0 else 1
 |none=>0
def aYl:Option Int->Option Int
 |some z=>some z.natAbs
 |none=>none
def mH:Option Int->Option Int->Int
 |some x,some y=>if x<y then -1 else if y<x then 1 else 0
 |none,none=>0
 |none,_=> -1
 |_,none=>1
theorem wS(h:n<W^16):aV 16 n=zs↔n=0:=by rw[<-DZ (.aV n),fP h]
theorem tR(I:eJ a x)(H:aB):Sg 110 [.agg a] H (.ret (.int .i64 (iI x))) H:=by
 refine So bGd ZaJ ?_ H;unfold aTw;dsimp only;refine Ty ?_;refine aM ?_;have :=oL I.len;have :=uX I;refine Wz ?_
 cases x with
 |none=>refine Wz ?_;exact⟨rfl,_,by simp only[↓zP,zR,seval];rfl,rfl⟩
 |some z=>
  obtain⟨rfl,s⟩:=I.some;have G:=iL (.aV z.natAbs);unfold cI;by_cases D:z<0
  . have b:decide (aV 16 z.natAbs=zs)=false:=by rw[Ac];rw[wS s];omega
    simp only[↓zP,zJ,seval,Bg,G,b,Af D];refine Rx ?_;rw[iI,if_pos D];rfl
  by_cases O:z=0
  . subst O;refine Wz ?_;exact Zaa
  have b:decide (aV 16 z.natAbs=zs)=false:=by rw[Ac];rw[wS s];omega
  have :=Ac D;refine Wz ?_;refine Rx ?_;rw[iI,if_neg D,if_neg O];rfl
theorem aBh(I:eJ a x)(H:aB):Sg 199 [.agg a] H (.ret (.agg (cO (aYl x)))) H:=by
 refine So bHy ZaJ ?_ H;unfold aVq;dsimp only;have :=oL I.len;have :=uX I;refine Wz ?_
 cases x with
 |none=>have :=tD;refine Wz ?_;exact⟨rfl,_,by simp only[↓zP,zR,seval];rfl,rfl⟩
 |some z=>obtain⟨rfl,s⟩:=I.some;have G:=iL (.aV z.natAbs);unfold cI;have :=jI (n:=false) s (z:=(z.natAbs:Int)) rfl;refine Wz ?_;exact⟨rfl,_,by simp only[↓zP,zR,seval];rfl,rfl⟩
theorem HR(I:eJ a x)(X:eJ b y)(H:aB):Sg 95 [.agg a,.agg b] H (.ret (.int .i64 (mH x y))) H:=by
 refine So bRp Zan ?_ H;unfold W95;dsimp only;refine bP ?_;refine Ty ?_;refine fQ ?_;refine Dz ?_;have :=oL I.len;have :=uX I;have :=oL X.len;have :=uX X;refine Wz ?_;refine bQ ?_;refine aP fun K hK=>?_;refine aM ?_
 cases x with
 |none=>
  cases y<;>
  . refine Wy ?_;exact Zaa
 |some z=>cases y with
  |none=>refine Wy ?_;exact⟨rfl,_,by simp only[↓zP,zR,seval];rfl,rfl⟩
  |some w=>
   obtain⟨rfl,s⟩:=I.some;obtain⟨rfl,L⟩:=X.some;have G:=iL (.aV z.natAbs);have j:=iL (.aV w.natAbs);unfold cI;by_cases O:z<0<;>by_cases Z:w<0
   . simp only[↓zP,zJ,seval,Bg,Af O,Af Z,G,j];refine eI (Lm L s _) ?_;refine Tz ?_;refine⟨rfl,_,by simp only[↓zP,zR,seval];rfl,?_⟩
     have e:mH (some z) (some w)=IK w.natAbs z.natAbs:=by
      simp only[mH,IK]
      repeat' split
      all_goals first|rfl|omega
     rw[e];rfl
   . simp only[↓zP,zJ,seval,Bg,Af O,Ac Z,G,j];refine⟨rfl,_,by simp only[↓zP,zR,seval];rfl,?_⟩;rw[mH,if_pos A0];rfl
   . have :=Ac O;refine Wy ?_;refine⟨rfl,_,by simp only[↓zP,zR,seval];rfl,?_⟩;rw[mH,if_neg A0,if_pos A0];rfl
   refine Wy ?_;apply hK;have :=Lm s L;refine Wy ?_;refine⟨rfl,_,by simp only[↓zP,zR,seval];rfl,?_⟩
   have e:mH (some z) (some w)=IK z.natAbs w.natAbs:=by
    simp only[mH,IK]
    repeat' split
    all_goals first|rfl|omega
   rw[e];rfl
theorem aQu:[AV.int .u32 0,.int .u32 0,.int .u32 0,.int .u32 0,.int .u32 0,.int .u32 0,.int .u32 0,.int .u32 0,.int .u32 0,.int .u32 0,.int .u32 0,.int .u32 0,.int .u32 0,.int .u32 0,.int .u32 0,.int .u32 0,.int .u32 0,.int .u32 0,.int .u32 0,.int .u32 0,.int .u32 0,.int .u32 0,.int .u32 0,.int .u32 0,.int .u32 0,.int .u32 0,.int .u32 0,.int .u32 0,.int .u32 0,.int .u32 0,.int .u32 0,.int .u32 0]=wC (List.replicate 32 0):=rfl
theorem xD(I:eJ a x)(X:eJ b y)(H:aB):Sg 114 [.agg a,.agg b] H (.ret (.agg (cO (oD x y)))) H:=by
 refine So bGg Zan ?_ H;unfold aTz;dsimp only;refine aP fun K hK=>?_;refine Wy ?_;apply hK;clear hK K;refine aP fun K hK=>?_;have :=oL I.len;have :=oL X.len;have :=qR I X;refine Wy ?_
 cases x with
 |none=>have := @Bool.false_and;have :=tD;have := @xH;refine Wy ?_;exact⟨rfl,_,by simp only[↓zP,zR,Nat.reduceEqDiff,Nat.reduceAdd];rfl,rfl⟩
 |some z=>cases y with
  |none=>simp only[↓zP,zG,Nat.reduceLT,zI,Ci,Bool.and_false];refine eI (tD _) ?_;simp only[↓zP,zG,Nat.reduceEqDiff,Nat.reduceAdd,zI,xH];exact⟨rfl,_,by simp only[↓zP,zR,Nat.reduceEqDiff,Nat.reduceAdd];rfl,rfl⟩
  |some w=>
   obtain⟨rfl,s⟩:=I.some;obtain⟨rfl,hw⟩:=X.some;have G:=iL (.aV z.natAbs);have lb:=iL (.aV w.natAbs);have hW:W=4294967296:=rfl;simp only[↓zP,zG,Nat.reduceLT,zI,Bg,Dx];apply hK;clear hK K;unfold cI;generalize hA:z.natAbs=A at *;generalize hB:w.natAbs=B at *;refine aP fun K hK=>?_;simp only[↓zP,zG,Nat.reduceLT,aQu];apply hK;clear hK K;refine aP fun K hK=>?_;refine Dz ?_;simp only[↓zP,zG,Nat.reduceLT,Nat.reduceEqDiff,Nat.reduceAdd,zD,reduceCtorEq,zI,G];refine gV (tY A _) ?_;simp only[↓zP,zG,Nat.reduceLT,Nat.reduceEqDiff,Nat.reduceAdd,zD,reduceCtorEq,zI,lb];refine gV (tY B _) ?_;simp only[↓zP,zG,Nat.reduceLT,Nat.reduceEqDiff,Nat.reduceAdd,zD,reduceCtorEq,zI];apply hK;clear hK K;have hn:=Yn A;have t:=Yn B;have ab:=MC s;have a7:=MC hw;generalize C:sz A=n at *;generalize ae:sz B=m at *;refine aP fun K hK=>?_;refine aP fun L dJ=>?_;simp only[↓zP,zG,Nat.reduceLT,Nat.reduceEqDiff];apply dJ;clear dJ L;refine bR [] (fun i _ H'=>∃o,LW 32 o/\vK o=A%W^i*B/\H'.get 0=some (.cells (.bool false::.bool (decide (z<0))::wC (aV 16 A)) false)/\H'.get 1=some (.cells (.bool false::.bool (decide (w<0))::wC (aV 16 B)) false)/\H'.get 2=some (.cells (.bool false::.bool false::wC zs) false)/\H'.get 3=some (.cells (wC o) false)) n A0 A1 ?_ ?_ ?_ ?_ ?_
   . simp only[zB]
   . exact ZaH
   . refine⟨List.replicate 32 0,⟨by simp,fun d hd=>by rw[Hk hd];decide⟩,by rw[Gr,Ih,Gq];decide,?_⟩;simp only[zG,Nat.reduceEqDiff,Nat.reduceAdd,zI]
   . rintro i f H hi E T ⟨o,S,J,g0,g,g2,U⟩;have hD:=dC A i;refine aM ?_;refine aP fun L dJ=>?_;refine Ww ?_;apply dJ;clear dJ L;refine aP fun L dJ=>?_;simp only[↓zP,zG,Nat.reduceLT];apply dJ;clear dJ L;refine aP fun L dJ=>?_;refine aP fun F DJ=>?_;simp only[↓zP,zG,Nat.reduceLT,Nat.reduceEqDiff,E 7 rfl];apply DJ;clear DJ F
     have hP:A%W^i*B<W^(i+m):=by rw[Ee];exact Hz (Bz _ (eB i)) a7
     refine bR [9] (fun k vs H'=>∃o c,vs=[.int .u64 (c:Nat)]/\c<W/\LW 32 o/\vK o+c*W^(i+k)=A%W^i*B+aT A i*W^i*(B%W^k)/\(∀j,i+k<=j->o.getD j 0=aT (A%W^i*B) j)/\H'.get 0=some (.cells (.bool false::.bool (decide (z<0))::wC (aV 16 A)) false)/\H'.get 1=some (.cells (.bool false::.bool (decide (w<0))::wC (aV 16 B)) false)/\H'.get 2=some (.cells (.bool false::.bool false::wC zs) false)/\H'.get 3=some (.cells (wC o) false)) m A0 A1 ?_ ?_ ?_ ?_ ?_
     . simp only[zB]
     . exact ZaH
     . refine⟨o,0,by simp only[sm,zB,Nat.reduceEqDiff];rfl,by omega,S,by rw[J];simp[Ih],fun j Y=>by rw[<-J,S.aT],g0,g,g2,U⟩
     . rintro k P H2 af N e2 ⟨o,c,q,R,S,he,Y,g0,g,g2,U⟩;simp only[zM] at q;have ag:=dC B k;have xy:=S.getD (i+k);have D:aT A i*aT B k<=4294967295*4294967295:=Az A0 A0;have q1:IntKind.u64.wrap ((aT A i:Nat):Int)=(aT A i:Nat):=jA A0 (.inl rfl);have q2:IntKind.u64.wrap ((aT B k:Nat):Int)=(aT B k:Nat):=jA A0 (.inl rfl);have q3:IntKind.u64.wrap ((o.getD (i+k) 0:Nat):Int)=(o.getD (i+k) 0:Nat):=jA A0 (.inl rfl);have q4:IntKind.u64.wrap (((aT A i:Nat):Int)*(aT B k:Nat))=((aT A i*aT B k:Nat):Int):=jA A0 (.inl A3);have q5:IntKind.u64.wrap (((aT A i*aT B k:Nat):Int)+(o.getD (i+k) 0:Nat))=((aT A i*aT B k+o.getD (i+k) 0:Nat):Int):=jA A0 (.inl A0);have v:IntKind.u64.wrap (((c:Nat):Int)+((aT A i*aT B k+o.getD (i+k) 0:Nat):Int))=((c+aT A i*aT B k+o.getD (i+k) 0:Nat):Int):=jA A0 (.inl A0);have Q:IntKind.i64.wrap ((i:Int)+(k:Int))=((i+k:Nat):Int):=wI A0;have hg:(wC o).getD (i+k) aC=.int .u32 (o.getD (i+k) 0:Nat):=oG Zaq;have M:=aGr S (show i+k<32 by omega) he;refine aM ?_;refine aP fun L dJ=>?_;refine Ww ?_;apply dJ;clear dJ L;refine aP fun L dJ=>?_;refine Dz ?_;simp only[↓zP,zG,Nat.reduceLT,Nat.reduceEqDiff,Nat.reduceAdd,zD,reduceCtorEq,zI,Nat.reduceLeDiff,q,N 8 rfl,N 2 rfl,N 3 rfl,N 5 rfl,E 2 rfl,E 3 rfl,E 5 rfl,aI,g0,g,U,show i<16 by omega,show k<16 by omega,show 2+i<=17 by omega,show 2+k<=17 by omega,G,lb,aRi,gP (show i<16 by omega),gP (show k<16 by omega),q1,q2,q3,q4,q5,v,Q,show i+k<32 by omega,show i+k+1<=32 by omega,cK,S.1,hg];apply dJ;clear dJ L;simp only[↓zP,zG,Nat.reduceLT,Nat.reduceEqDiff,zI,Int.reduceLT,N 8 rfl,N 5 rfl,E 5 rfl,Q,aI,U,show i+k<32 by omega,show i+k+1<=32 by omega,cK,S.1,CB,Mf];refine⟨o.set (i+k) _,_,rfl,?_,S.set (i+k) (Bz _ qJ),M,fun j u=>?_,g0,g,g2,?_⟩
       . rw[Cm qJ,hW];omega
       . rw[XT Zaq,if_neg A0];exact Y j A0
       exact Al (fun l=>some (eS.cells l false)) (uH Zaq _)
     rintro P H2 N ⟨o,c,q,R,S,he,Y,g0,g,g2,U⟩;simp only[zM] at q;have Q:IntKind.i64.wrap ((i:Int)+(m:Int))=((i+m:Nat):Int):=wI A0;simp only[↓zP];apply dJ;clear dJ L;simp only[↓zP,zG,Nat.reduceLT,Nat.reduceEqDiff,zI,N 8 rfl,N 7 rfl,N 5 rfl,E 7 rfl,E 5 rfl,Q,q,aI,U,show i+m<32 by omega,show i+m+1<=32 by omega,cK,S.1,CB];rw[Bk R];refine⟨o.set (i+m) c,S.set _ R,aOb S A0 a7 rfl he (by rw[Y _ (Ad _)];exact FE hP),g0,g,g2,?_⟩;exact Al (fun l=>some (eS.cells l false)) (uH Zaq _)
   rintro f H E ⟨o,S,J,g0,g,g2,U⟩;simp only[↓zP];apply hK;clear hK K;rw[Bk ab] at J;have a6:=S.eq;rw[J] at a6;have l1:(wC o).length=32:=by rw[cK,S.1]
   have p:((wC o).drop 16).take 16=wC (o.drop 16):=by rw[Bd (by simp[l1])];simp[wC]
   have BY:(z*w).natAbs=A*B:=(by rw[Ew,hA,hB]);have hX:A*B<W^32:=(by rw[<-J];exact S.lt);have l3:(wC o).take 16=wC (aV 16 (A*B)):=(by rw[a6,<-QU (by omega:16<=32)];simp[wC]);have l4:(A*B<W^16)↔o.drop 16=zs:=(by rw[a6];exact de hX);have ad:(o.drop 16).length=16:=(by simp[S.1]);simp only[↓zP,zG,Nat.reduceLT,Nat.reduceEqDiff,Nat.reduceAdd,zI,Nat.reduceLeDiff,Nat.reduceSub,E 5 rfl,U,l1,p,eD,show asNat (.int .i64 16)=some 16 from rfl,Ci,jV,Du,By,EW (b:=zs) ad rfl];refine⟨fun h=>?_,fun h=>?_⟩
   . have r:=l4.2 h;have V:norm (z*w)=some (z*w):=(by unfold norm;rw[BY,if_pos r]);refine Dz ?_;simp only[↓zP,zG,Nat.reduceLT,Nat.reduceEqDiff,Nat.reduceAdd,zD,reduceCtorEq,zI,Nat.reduceLeDiff,E 5 rfl,E 2 rfl,E 3 rfl,g0,g,U,l1,l3,G,lb,eD,show asNat (.int .i64 16)=some 16 from rfl,Ci,Bg,jV,Du,By]
     have e:z*w=sg (!(decide (z<0)==decide (w<0))) (A*B):=by
      have ez:z=if z<0 then -(A:Int) else A:=by split<;>omega
      have ew:w=if w<0 then -(B:Int) else B:=ZaU;by_cases O:z<0<;>by_cases Z:w<0<;>simp only[O,Z,if_true,Db] at ez ew<;>simp[O,Z,sg]<;>(conv=>lhs;rw[ez,ew])<;>simp only[Hu,Kl,Int.neg_neg]
     refine gV (jI r e _) ?_;simp only[↓zP,zG,Nat.reduceEqDiff,Nat.reduceAdd,zD,reduceCtorEq,zI,E 4 rfl,g2];refine⟨rfl,_,by simp only[↓zP,zR,Nat.reduceEqDiff,E 4 rfl];rfl,?_⟩;rw[oD,V];rfl
   refine eI (tD _) ?_;simp only[↓zP,zG,Nat.reduceEqDiff,Nat.reduceAdd,zI,xH,E 4 rfl,g2];refine⟨rfl,_,by simp only[↓zP,zR,Nat.reduceEqDiff,Nat.reduceAdd,E 4 rfl];rfl,?_⟩;have V:norm (z*w)=none:=(by unfold norm;rw[BY,if_neg (fun hh=>h (l4.1 hh))]);rw[oD,V];rfl
theorem bSb{x:Nat}(C:x<W)(A:n<32):IntKind.u64.wrap ((x:Int)*2^min (Int.toNat (n:Int)) IntKind.u64.bits)=((x*2^n:Nat):Int):=by have Z:x*2^n<2^32*2^32:=Hz C (Nat.pow_lt_pow_right A1 A);rw[Int.toNat_natCast,show min n IntKind.u64.bits=n from Nat.min_eq_left (by show n<=64;omega)];exact jA (Au Z A1) (.inl A3)
theorem orW{c x:Nat}(R:c<2^n)(a:x<W)(A:n<32):GP .or .u64 ((c:Nat):Int) ((x*2^n:Nat):Int)=some (.int .u64 ((c+x*2^n:Nat):Int)):=by
 have Z:c+x*2^n<2^64:=by
  have B:(x+1)*2^n<=2^32*2^32:=Az a (Bu A1 A0);rw[Bn,Fh] at B;have :(2^32*2^32:Nat)=2^64:=by decide
  omega
 have o:(c|||x*2^n)=c+x*2^n:=by have :=Nat.two_pow_add_eq_or_of_lt (i:=n) R x;rw[Cc] at this;rw[Nat.or_comm,<-this,Iu]
 have C:∀n:Nat,BitVec.ofInt 64 (n:Int)=BitVec.ofNat 64 n:=fun n=>by simp
 simp only[GP];congr 2;rw[show IntKind.u64.bits=64 from rfl,C,C,<-BitVec.ofNat_or,o,BitVec.toNat_ofNat,Bk Z];exact jA Z (.inl rfl)
theorem bEd(u n:Nat)(A:n<32):(u:Int).fdiv (2^min (Int.toNat (n:Int)) IntKind.u64.bits)=((u / 2^n:Nat):Int):=aEh u n .u64 (by show n<=64;omega)
theorem aZa(u:Nat):(u:Int).fdiv (2^min 32 IntKind.u64.bits)=((u / W:Nat):Int):=Mf u
theorem aTj{w:Nat}(L:w<W^16)(A:n<32)(H:aB):
 Sg 254 [.agg (wC (aV 16 w)),.int .i64 n] H (.ret (.iV [.agg (wC (aV 16 (w*2^n))),.int .u32 ((w*2^n / W^16:Nat):Int)])) H:=by
 refine So bJi Zad ?_ H;unfold aWz;dsimp only;have G:=iL (.aV w);have C:¬((n:Int)<0):=by omega
 have B:(2^n:Nat)<W:=Nat.pow_lt_pow_right A1 A;have a:∀i,rq w n i<W:=fun i=>Cx (aJm w n i) B;refine Ty ?_;refine fE [7] (fun i vs H'=>vs=[.int .u64 (rq w n i:Nat)]/\H'.get 0=some (.cells (wC (aV 16 w)) false)/\H'.get 1=some (.cells (wC zs) false)/\H'.get 2=some (.cells (wC (YJ i (aV 16 (w*2^n)))) false)) 16 A1 rfl A1 ?_ ?_ ?_ ?_
 . exact zq
 . refine⟨by simp only[sm,zB,seval,aJo,Int.cast_ofNat_Int],?_⟩;rw[BC];simp only[zJ,seval]
 . rintro i f H F E T ⟨J,g0,g,e⟩;simp only[zM] at J;have X:=dC w i;have hW:W=4294967296:=rfl;have w1:IntKind.u64.wrap ((aT w i:Nat):Int)=(aT w i:Nat):=jA A0 (.inl rfl);have w2:=bSb X A;have R:=orW (aJm w n i) X A;have u:f 1=.int .i64 (n:Nat):=by rw[E 1 rfl];simp only[↓zP,zG,seval]
   refine aM ?_;simp only[↓zP,zJ,seval,T,J,E 2 rfl,E 6 rfl,u,aI,g0,e,F,show i+1<=16 by omega,G,gP F,w1,w2,R,C,CB,aZa,tX,aJn];exact⟨trivial,trivial,g,by rw[BB F (by rw[aNr])]⟩
 rintro f H E ⟨J,g0,g,e⟩;simp only[zM] at J;have Y:rq w n 16=w*2^n / W^16:=aQj L;have t:=a 16;rw[Y] at J t;simp only[↓zP,zJ,seval,J,E 6 rfl,E 4 rfl,g,e,FL,(iL (.aV (w*2^n))),CB,Bk t];refine⟨rfl,_,by simp only[↓zP,zR,seval,E 4 rfl,iL (.aV (w*2^n))];rfl,?_⟩;rfl
theorem aMm{w:Nat}(c:w<W^16)(A:n<32)(H:aB):
 Sg 258 [.agg (wC (aV 16 w)),.int .i64 n] H (.ret (.agg (wC (aV 16 (w / 2^n))))) H:=by
 refine So bJm Zad ?_ H;unfold aXd;dsimp only;have G:=iL (.aV w);have C:¬((n:Int)<0):=by omega
 refine Ty ?_;refine fE [] (fun i vs H'=>H'.get 0=some (.cells (wC (aV 16 w)) false)/\H'.get 1=some (.cells (wC zs) false)/\H'.get 2=some (.cells (wC (YJ i (aV 16 (w / 2^n)))) false)) 16 A1 rfl A1 ?_ ?_ ?_ ?_
 . exact zq
 . rw[BC];simp only[zJ,seval]
 . rintro i f H F E T ⟨g0,g,e⟩;have X:=dC w i;have c3:=dC w (i+1);have hW:W=4294967296:=rfl;have w1:IntKind.u64.wrap ((aT w i:Nat):Int)=(aT w i:Nat):=jA A0 (.inl rfl);have w2:IntKind.u64.wrap ((aT w (i+1):Nat):Int)=(aT w (i+1):Nat):=jA A0 (.inl rfl);have R:IntKind.i64.wrap ((i:Int)+1)=((i+1:Nat):Int):=by rw[wrap_i64 A0 A0];rfl
   have u:f 1=.int .i64 (n:Nat):=(by rw[E 1 rfl];simp only[↓zP,zG,seval]);have S:GP .or .u64 (IntKind.u64.wrap (((aT w (i+1):Nat):Int)*2^min 32 IntKind.u64.bits)) ((aT w i:Nat):Int)=some (.int .u64 ((aT w (i+1)*W+aT w i:Nat):Int)):=e9 c3 X;have hd:=bEd (aT w (i+1)*W+aT w i) n A;have U:=yd w n i A0;refine aM ?_;refine bP ?_;simp only[↓zP,zG,seval,T];refine fQ ?_;refine Tz ?_;refine bQ ?_;refine aP fun L dJ=>?_
   have key:∀(f:dI) (y:Nat),y=aT w (i+1)->f 1=.int .i64 (n:Nat)->f 2=.ref 0 0->f 5=.ref 2 0->f 6=.int .i64 (i:Nat)->f 7=.int .u64 (y:Nat)->L f [] H:=by rintro f y rfl u P s d J;apply dJ;clear dJ L;simp only[↓zP,zJ,seval,u,P,s,d,J,aI,g0,e,F,show i+1<=16 by omega,G,gP F,w1,S,C,hd,CB,tX,<-U];exact⟨trivial,g,by rw[BB F rfl]⟩
   have P:f 2=.ref 0 0:=(by rw[E 2 rfl];simp only[↓zP,zG,seval]);have s:f 5=.ref 2 0:=(by rw[E 5 rfl];simp only[↓zP,zG,seval]);by_cases b:i=15
   . have a:decide (((i+1:Nat):Int)<16)=false:=Ac A0;have m:aT w (i+1)=0:=zK c A0;simp only[↓zP,zG,seval,R,a];refine key _ 0 m.symm ?_ ?_ ?_ ?_ ?_<;>simp only[zB,seval,u,P,s,Int.cast_ofNat_Int]
   have a:decide (((i+1:Nat):Int)<16)=true:=Af A0;simp only[↓zP,zJ,seval,R,a,P,g0,aI,show i+1<16 by omega,show i+1+1<=16 by omega,G,gP (show i+1<16 by omega),w2];refine key _ _ rfl ?_ ?_ ?_ ?_ ?_<;>simp only[zB,seval,u,P,s]
 rintro f H E ⟨g0,g,e⟩;simp only[↓zP,zJ,seval,E 5 rfl,E 4 rfl,g,e,FL,(iL (.aV (w / 2^n)))];refine⟨rfl,_,by simp only[↓zP,zR,seval,E 4 rfl,iL (.aV (w / 2^n))];rfl,?_⟩;rfl
variable{a:Nat}
theorem bDp(I:a<W)(H:aB):Sg 253 [.int .u32 a] H (.ret (.int .i64 ((32 -dW a:Nat):Int))) H:=by
 refine So bJh Zad ?_ H;unfold aWy;dsimp only;have X:dW a<=32:=jS.2 I;have w:IntKind.i64.wrap (32 -((dW a:Nat):Int))=((32 -dW a:Nat):Int):=wI A0;refine Ty ?_;refine eI (Wc I _) ?_;simp only[↓zP,zG,seval,w]
 (refine Rx ?_;rfl)
def NU(H H':aB)(p:Nat):Prop:=H.next<=H'.next/\∀j,j<H.next->j≠p->H'.get j=H.get j
theorem l17{i:Nat}(h:i<17):(wC (aV 17 a)).getD i aC=.int .u32 (aT a i):=by rw[oG (by assumption),kW h]
theorem bBx(a:Nat):(wC (aV 17 a)).length=17:=by rfl
def gsU(u v n j:Nat):Nat:=gsD (aT u (j+n)) (aT u (j+n -1)) (aT u (j+n -2)) (aT v (n -1)) (aT v (n -2))
theorem aEv{u v j p:Nat}{H:aB}(hg:H.get p=some (.cells (wC (aV 17 u)) false))(hp:p<H.next)(OQ:2<=n)(hn:n<=16)(Y:j+n<=16)(ht:aT u (j+n)<=aT v (n -1))(Z:0<aT v (n -1)):
 ∃o H',(o=.ret (.int .u64 (gsU u v n j:Nat))/\H.next<=H'.next/\∀k,k<H.next->H'.get k=H.get k)/\Sg 255 [.ref p 0,.agg (wC (aV 16 v)),.int .i64 n,.int .i64 j] H o H':=by
 refine bZ fit bJj (Ab rfl) ?_;unfold aXa;dsimp only;have G:=iL (.aV v);have lu:=bBx u;have hW:W=4294967296:=rfl;have p1:p≠H.next:=by omega
 have w1:IntKind.i64.wrap ((j:Int)+(n:Int))=((j+n:Nat):Int):=wI A0;have w2:IntKind.i64.wrap (((j+n:Nat):Int) -1)=((j+n -1:Nat):Int):=wI A0;have w3:IntKind.i64.wrap (((j+n:Nat):Int) -2)=((j+n -2:Nat):Int):=wI A0;have w4:IntKind.i64.wrap ((n:Int) -1)=((n -1:Nat):Int):=wI A0;have w5:IntKind.i64.wrap ((n:Int) -2)=((n -2:Nat):Int):=wI A0;have P:∀a k,IntKind.u64.wrap ((aT a k:Nat):Int)=(aT a k:Nat):=fun a k=>jA (Cx (dC a k) A1) (.inl rfl);have ae:=dC u (j+n);have a6:=dC u (j+n -1);have ab:=dC u (j+n -2);have an:=dC v (n -1);have a7:=dC v (n -2);have ho:GP .or .u64 (IntKind.u64.wrap (((aT u (j+n):Nat):Int)*2^min 32 IntKind.u64.bits)) ((aT u (j+n -1):Nat):Int)=some (.int .u64 ((aT u (j+n)*W+aT u (j+n -1):Nat):Int)):=e9 ae a6;have d0:=aEt (t2:=aT u (j+n)) (t1:=aT u (j+n -1)) (v2:=aT v (n -2)) Z ab;have ak:gsU u v n j=gsD (aT u (j+n)) (aT u (j+n -1)) (aT u (j+n -2)) (aT v (n -1)) (aT v (n -2)):=rfl;have gu:∀i,i<17->(wC (aV 17 u)).getD i aC=.int .u32 (aT u i):=fun i h=>l17 h;have gw:∀i,i<16->(wC (aV 16 v)).getD i aC=.int .u32 (aT v i):=fun i h=>gP h;refine bP ?_;refine Ty ?_;refine bQ ?_;generalize hX:H.alloc _=c;have g0:=Kx (i:=p) hX;have g:=Kv (i:=H.next) hX;have y:H.next<=c.next/\∀k,k<H.next->c.get k=H.get k:=by subst hX;exact⟨by simp only[zI,seval];omega,fun k E=>by simp only[zI,seval,show k≠H.next by omega]⟩
 clear hX;refine bP ?_;refine Dz ?_;simp only[↓zP,zJ,seval,zD,w1,w2,g0,aI,lu,show j+n<17 by omega,show j+n+1<=17 by omega,show j+n -1<17 by omega,show j+n -1+1<=17 by omega,gu _ (show j+n<17 by omega),gu _ (show j+n -1<17 by omega),P,ho];refine bQ ?_;generalize t:aT u (j+n)*W+aT u (j+n -1)=q at *;have C:q<2^64:=by rw[<-t,hW];omega
 refine bP ?_;have :n -1<16:=by omega
 have :n -1+1<=16:=by omega
 have :=gw _ (show n -1<16 by omega);refine Wz ?_;refine fQ ?_;refine Dz ?_;have aq:¬((aT v (n -1):Nat):Int)=0:=by omega
 have T:(((q:Nat):Int)).tdiv ((aT v (n -1):Nat):Int)=((q / aT v (n -1):Nat):Int):=rfl;have e2:(((q:Nat):Int)).tmod ((aT v (n -1):Nat):Int)=((q%aT v (n -1):Nat):Int):=rfl;have dl:q / aT v (n -1)<=q:=Fq _ _;have rl:q%aT v (n -1)<aT v (n -1):=Bz _ Z;have e3:IntKind.u64.wrap ((q / aT v (n -1):Nat):Int)=((q / aT v (n -1):Nat):Int):=jA A0 (.inl rfl);have e4:IntKind.u64.wrap ((q%aT v (n -1):Nat):Int)=((q%aT v (n -1):Nat):Int):=jA A0 (.inl rfl);refine Wz ?_;refine bQ ?_;refine cC fun f N=>?_;have f0:=Kf (i:=0) N;have f2:=Kf (i:=2) N;have S:=Kf (i:=3) N;have f5:=Kf (i:=5) N;have ad:=Kf (i:=10) N;have s:=Kf (i:=11) N;have O:=Kf (i:=12) N;clear N;refine aP fun K hK=>?_;refine aM (jW [11,12] (fun m vs H'=>H'=c/\∃d r:Nat,vs=[.int .u64 (d:Nat),.int .u64 (r:Nat)]/\m=d/\d*aT v (n -1)+r=q/\gsU u v n j<=d/\d<2^64/\r<2^33) (q / aT v (n -1)) (by rfl) ?_ ?_)
 . refine⟨rfl,_,q%aT v (n -1),by simp only[sm,s,O],rfl,by rw[Cc];exact Dt _ _,by rw[ak];exact d0,by omega,by omega⟩
 rintro d f' H1 E ⟨rfl,_,r,J,rfl,z,R,Ut,VA⟩;simp only[zM] at J;obtain⟨Q,M⟩:=J;have k0:=(E 0 rfl).trans f0;have k2:=(E 2 rfl).trans f2;have k3:=(E 3 rfl).trans S;have k5:=(E 5 rfl).trans f5;have x:=(E 10 rfl).trans ad;clear f0 f2 S f5 ad s O;refine aP fun L dJ=>?_
 have more:∀V:dI,gsU u v n j<d->r<2^32->V 10=.int .u64 (aT v (n -1):Nat)->V 11=.int .u64 (d:Nat)->V 12=.int .u64 (r:Nat)->L V [] H1:=by intro V eZ bx ag e af;apply dJ;clear dJ L hK;have s1:IntKind.u64.wrap ((d:Int) -1)=((d -1:Nat):Int):=jA A0 (.inl A0);have s2:IntKind.u64.wrap ((r:Int)+((aT v (n -1):Nat):Int))=((r+aT v (n -1):Nat):Int):=jA A0 (.inl A0);refine aM ?_;simp only[↓zP,zJ,seval,ag,e,af,s1,s2];refine⟨d -1,by omega,trivial,d -1,r+aT v (n -1),rfl,rfl,?_,by omega,by omega,by omega⟩;rw[<-z,Nat.sub_mul,Fh];have :aT v (n -1)<=d*aT v (n -1):=Gs _ A0;omega
 have l:∀V:dI,d=gsU u v n j->V 11=.int .u64 (d:Nat)->K V [] H1:=by intro V hd e;apply hK;clear hK dJ more K L;simp only[↓zP,zG,seval,e];refine Rx ?_;exact⟨by rw[hd];rfl,y⟩
 clear hK dJ;have w:∀b A B,gM aC b A B=B:=fun _ _ _=>rfl;refine aP fun F U=>?_;refine Dz ?_;by_cases I:r<W
 . have b1:decide ((r:Int)<4294967296)=true:=Af A0;by_cases X:W<=d
   . have b2:decide ((d:Int)≥4294967296)=true:=Af A0;simp only[↓zP,zJ,seval,zD,Q,M,b1,b2];apply U;clear U F;refine Tz ?_;refine more _ (l5 Z (z.trans t.symm) (.inl X)) A0 ?_ ?_ ?_<;>simp only[zB,seval,Q,M,x]
   have b2:decide ((d:Int)≥4294967296)=false:=Ac A0;have m1:d*aT v (n -2)<=4294967295*4294967295:=Az A0 A0;have s1:IntKind.u64.wrap ((d:Int)*((aT v (n -2):Nat):Int))=((d*aT v (n -2):Nat):Int):=jA A0 (.inl A3);have aj:GP .or .u64 (IntKind.u64.wrap (((r:Nat):Int)*2^min 32 IntKind.u64.bits)) ((aT u (j+n -2):Nat):Int)=some (.int .u64 ((r*W+aT u (j+n -2):Nat):Int)):=e9 I ab;simp only[↓zP,zJ,seval,zD,Q,M,b1,b2,k0,k2,k3,k5,w1,w3,w5,g0,g,aI,lu,G,show n -2<16 by omega,show n -2+1<=16 by omega,show j+n -2<17 by omega,show j+n -2+1<=17 by omega,gu _ (show j+n -2<17 by omega),gw _ (show n -2<16 by omega),P,s1,aj];apply U;clear U F;by_cases c3:r*W+aT u (j+n -2)<d*aT v (n -2)
   . have D:decide (((d*aT v (n -2):Nat):Int)>((r*W+aT u (j+n -2):Nat):Int))=true:=Af (Int.ofNat_lt.2 c3);simp only[↓zP,zG,seval,D];refine more _ (l5 Z (z.trans t.symm) (.inr c3)) A0 ?_ ?_ ?_<;>simp only[zB,seval,Q,M,x]
   have D:decide (((d*aT v (n -2):Nat):Int)>((r*W+aT u (j+n -2):Nat):Int))=false:=Ac (fun h=>c3 (Int.ofNat_lt.1 h));simp only[↓zP,zG,seval,D];refine l _ (aEs Z a6 a7 ht (z.trans t.symm) R (.inr ⟨by omega,by omega⟩)) ?_;simp only[zB,seval,Q]
 have b1:decide ((r:Int)<4294967296)=false:=Ac A0;refine Wz ?_;apply U;clear U F;refine Tz ?_;refine l _ (aEs Z a6 a7 ht (z.trans t.symm) R (.inl A0)) ?_;simp only[zB,seval,Q]
end Go.Proofs.YtogfcjbgeebfkaaGreatDoor
