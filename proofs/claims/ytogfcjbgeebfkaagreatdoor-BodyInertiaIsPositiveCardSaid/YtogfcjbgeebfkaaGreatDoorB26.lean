/-
  Part of the proof of statement 13
-/
import Derived.Test.YtogfcjbgeebfkaaGreatDoorB25
import Derived.Test.YtogfcjbgeebfkaaGreatDoorB06
import Derived.Test.YtogfcjbgeebfkaaGreatDoorB07
set_option linter.unusedVariables false
set_option linter.unusedSimpArgs false
set_option maxRecDepth 100000
set_option maxHeartbeats 16000000
namespace Go.Proofs.YtogfcjbgeebfkaaGreatDoor
open Go Go.Av Go.iW
attribute [local congr] aZ aQ aR aL bD aU aS aG bE
attribute [local irreducible] FC bS eE
def nE(l:List Nat):List (List AV):=l.map fun(k:Nat)=>[AV.int .i64 (k:Int)]
theorem fB(z:List Nat):(nE z).length=z.length:=by simp[nE]
variable{i:Nat}
theorem VQ{z:List Nat}(h:i<z.length):(nE z).getD i []=[AV.int .i64 (z[i]:Int)]:=fT h
theorem TY(a b:List Nat):nE (a++b)=nE a++nE b:=by simp[nE]
theorem xc(a:List Nat):fK (nE a)=true:=dQ (fun _=>by rfl) a
variable{tag:Nat}
theorem wO(W:Nat.blt tag 2=true)(l:List Nat):(AV.bK tag 1 (nE l)).free=true:=by simp[AV.free,W,xc,Dx]
theorem Kc2{α:Type}(a b d:α)(l:List α)(k:Nat):(a::b::l).getD (2+k) d=l.getD k d:=by grind
variable{l:List Nat}
theorem qP{k:Nat}(h:k<l.length):l.getD k 0=l[k]:=by grind
theorem aPs(H:aB):Sg 143 [] H (.ret (.agg xH)) H:=by refine So bGz (by rfl) ?_ H;unfold aUr;refine Ty ?_;exact⟨rfl,_,by rfl,rfl⟩
theorem FP(W:Nat.blt tag 2=true)(l:List Nat)(Q:l.length<2^30)(k:Nat)(E:k<2^30)(H:aB):Sg 208 [.bK tag 1 (nE l),.int .i64 k] H (.ret (.int .i64 (l.getD k 0:Nat))) H:=by
 refine So bIe (by simp only[sf,wO W]) ?_ H;unfold aVv;dsimp only;simp only[↓zP,zJ,seval,fB];refine⟨fun h=>?_,fun h=>?_⟩
 . have M:k<l.length:=by omega
   have d:=VQ M;simp only[zJ,seval,aI,M,d,qP M];exact Zaa
 have M:¬k<l.length:=by omega
 have :l.getD k 0=0:=by rw[Dj,Cr A0];rfl
 rw[this];exact Zaa
theorem _root_.Go.Av.Sound.aQf{P:Program}{g:bL}{f:FuncId}{x:AV}{sz:Nat}{els:List (List AV)}{rest:List AV}{H H':aB}{out:Out}(h:Sound P g f (x::.bK 0 sz els::rest) H out H')(tag:Nat):
 Sound P g f (x::.bK tag sz els::rest) H out H':=by
 refine⟨h.1,fun G w vs L J=>h.2 G w vs L ⟨J.1,fun j Y=>?_⟩⟩;have :=J.2 j Y
 match j with
 |0=>grind
 |1=>exact VR.JS this
 |j+2=>grind
theorem bDc(l:List Nat)(Q:l.length<2^30)(H:aB):Sg 207 [.bK 0 1 (nE l)] H (.ret (.bK 0 1 (nE (wZ l)))) H:=by
 have W:Nat.blt 0 2=true:=rfl;refine Sp bId (by simp only[sf,wO W]) (by simp only[wO W]) ?_ H;unfold aVu;dsimp only;simp only[↓zP,zJ,seval,fB];refine aM ?_;refine jW [3] (fun n vs H'=>H'=⟨0,.nil⟩/\vs=[.int .i64 n]/\n<=l.length/\∀k,n<=k->k<l.length->l.getD k 0=0) l.length (by rfl) ?_ ?_
 . exact⟨rfl,by simp only[sm,zB,seval],Ad _,fun k O Z=>absurd Z A0⟩
 rintro n f H1 E ⟨rfl,J,A,s⟩;simp only[zM] at J;have a:f 0=.bK 0 1 (nE l):=E 0 rfl;have t:(nE l).take n=nE (l.take n):=by simp[nE]
 have g:nA 1 (.bK 0 1 (nE l)) none (some n) none=some (.bK 0 1 (nE (l.take n))):=by
  simp only[nA,Du,By];rw[if_pos ⟨trivial,Bh _,by rw[fB];exact A⟩];split
  . rename_i h;rw[fB] at h;rw[h.1,Ap,Eo]
  rw[Eo,Is,t]
 have c:(n=0\/l.getD (n -1) 0≠0)->l.take n=wZ l:=fun h=>BJ A s h;by_cases G:n=0
 . have hd:decide ((n:Int)>0)=false:=Ac A0;rw[c (.inl G)] at g;simp only[↓zP,zJ,seval,J,hd,a,eD,aI,g,Ci,Bg];refine⟨rfl,_,by simp only[↓zP,zR,seval];rfl,?_⟩;rfl
 have hd:decide ((n:Int)>0)=true:=Af A0;have w1:IntKind.i64.wrap ((n:Int) -1)=((n -1:Nat):Int):=wI A0;have B:n -1<l.length:=by omega
 have d:=VQ B;by_cases D:l[n -1]=0
 . have X:(((l[n -1]:Nat):Int)==0)=true:=by rw[D];rfl
   have := @fB;refine Wz ?_;refine aM ?_;simp only[↓zP,zG,seval,J,w1];refine⟨n -1,by omega,trivial,rfl,by omega,fun k O Z=>?_⟩;by_cases e:k=n -1
   . subst e;rw[qP B];exact D
   exact s k A0 Z
 have X:(((l[n -1]:Nat):Int)==0)=false:=by rw[Dc];omega
 rw[c (.inr (by rw[qP B];exact D))] at g;simp only[↓zP,zJ,seval,J,hd,a,w1,aI,fB,B,d,X,eD,g,Ci,Bg];refine⟨rfl,_,by simp only[↓zP,zR,seval];rfl,?_⟩;rfl
theorem RE(tag:Nat)(l:List Nat)(Q:l.length<2^30)(H:aB):Sg 207 [.bK tag 1 (nE l)] H (.ret (.bK 0 1 (nE (wZ l)))) H:=(bDc l Q H).JS tag
def Zd(l:List Nat)(i:Nat):Bool:=(List.range i).all fun k=>((l.getD k 0:Nat):Int)==0
theorem ue(l:List Nat)(i:Nat):Zd l (i+1)=(Zd l i&&(((l.getD i 0:Nat):Int)==0)):=by simp[Zd,Dh,List.all_append]
theorem aLp(U:UQ l):Zd l 16=decide (l=zs):=by
 unfold Zd;rw[Eh,Bi,Bs];constructor
 . intro h;refine Et (by rw[U.1];rfl) fun k O Z=>?_;have :=h k (Bb.2 (by rw[U.1] at O;exact O));rw[Dr,qP O] at this;have B:zs[k]∈zs:=Ag Z;rw[Hk B];omega
 rintro rfl k E;have q:k<zs.length:=Bb.1 E;have B:zs[k]'q=0:=Hk (Ag q);rw[Dr,qP q,B];rfl
theorem zz(b n:Bool){l:List Nat}(U:UQ l)(H:aB):Sg 206 [.agg (.bool b::.bool n::wC l)] H (.ret (.bool (if b then decide (l=zs)&& !n else !decide (l=zs)|| !n))) H:=by
 refine So bIc Zad ?_ H;unfold aVt;dsimp only;refine Ty ?_;refine cH [3] (fun i vs H'=>H'=((⟨0,.nil⟩:aB).alloc (.cells (.bool b::.bool n::wC l) false))/\vs=[.bool (Zd l i)]) 0 16 A1 A1 A1 ?_ ?_ ?_ ?_ ?_
 . exact zq
 . exact ZbS
 . rintro i f H1 G F E T ⟨rfl,J⟩;exact ZaF
 . rintro i f H1 G F E T ⟨rfl,J⟩;simp only[zM] at J;have u:f 1=.ref 0 0:=E 1 rfl;have d:=oG (l:=l) (i:=i) (by rw[U.1];omega);have Q:(wC l).length=16:=by rw[cK,U.1]
   have M:(AV.bool b::.bool n::wC l).getD (2+i) aC=.int .u32 (l.getD i 0):=(by rw[Kc2];exact d);have I:2+i<=17:=A0;refine aM ?_;rw[ue]
   cases X:Zd l i with
   |false=>rw[X] at J;simp only[↓zP,zJ,seval,J,Bool.false_and]
   |true=>rw[X] at J;simp only[↓zP,zJ,seval,J,u,T,aI,F,Q,M,I,Dm]
 rintro f H1 E ⟨rfl,J⟩;simp only[zM] at J;have u:f 1=.ref 0 0:=E 1 rfl;rw[aLp U] at J;cases b<;>cases h:decide (l=zs)<;>rw[h] at J
 . refine Wz ?_;exact Zaa
 . refine Wz ?_;exact Zaa
 . refine Wz ?_;exact Zaa
 refine Wz ?_;exact Zaa
theorem zx(b n:Bool){l:List Nat}(U:UQ l)(H:aB):Sg 122 [.agg (.bool b::.bool n::wC l)] H (.ret (.bool (GS b n l))) H:=by
 refine So bGl Zad ?_ H;unfold aUe;dsimp only;have J:=zz b n U;unfold GS;simp only[↓zP,zJ,seval,iL U];cases b<;>cases n<;>cases h:decide (l=zs)<;>rw[h] at J
 . refine Wz ?_;exact Zaa
 . refine Wz ?_;exact Zaa
 . refine Wz ?_;exact Zaa
 . refine Wz ?_;exact Zaa
 . refine Wz ?_;exact Zaa
 . refine Wz ?_;exact Zaa
 . refine Wz ?_;exact Zaa
 refine Wz ?_;exact Zaa
theorem vN{v:List AV}{x:Option Int}(h:eJ v x)(H:aB):Sg 122 [.agg v] H (.ret (.bool x.isSome)) H:=by
 obtain⟨b,n,l,U,rfl,rfl⟩:=h
 have :(SO b n l).isSome=GS b n l:=by grind[SO]
 rw[this];exact zx b n U H
theorem Xa(h:i<l.length):qT (l.take (i+1))=qT (l.take i)++[l[i]%65536,l[i] / 65536]:=by unfold qT;rw[Ao,Gi,Ai h];simp
theorem IW(l:List Nat):(qT l).length=2*l.length:=by
 induction l with
 |nil=>rfl
 |cons x l K=>
  have :qT (x::l)=x%65536::x / 65536::qT l:=rfl
  grind
theorem vP(b n:Bool){l:List Nat}(U:UQ l)(H:aB):Sg 123 [.agg (.bool b::.bool n::wC l)] H (.ret (.bK 0 1 (nE (dg (vK l))))) H:=by
 refine fA fit dZ bGm (Ab rfl) Zad ?_ H;unfold aUf;dsimp only;refine Ty ?_;refine cH [3] (fun i vs H'=>∃v,vs=[v]/\H'.get 0=some (.cells (.bool b::.bool n::wC l) false)/\1<=H'.next/\Own H' 1 v (nE (qT (l.take i)))) 0 16 A1 A1 A1 ?_ ?_ ?_ ?_ ?_
 . exact zq
 . exact⟨.bG,by simp only[sm,zB,seval],by simp only[zI,seval],by simp only[zI,seval],.nil _ _⟩
 . rintro i f H1 G F E T ⟨v,J,g0,A,S⟩;exact ZaF
 . rintro i f H1 G F E T ⟨v,J,g0,A,S⟩;simp only[zM] at J;have u:f 1=.ref 0 0:=E 1 rfl;have p:i<l.length:=by rw[U.1];exact F
   have M:(AV.bool b::.bool n::wC l).getD (2+i) aC=.int .u32 (l[i]:Nat):=by rw[Kc2,oG p,qP p]
   have I:2+i<=17:=A0;have m:=U.2 _ (Ag p);have c:=Xa p;have d:=IW (l.take i);rw[c,TY];generalize qT (l.take i)=done at *;generalize l[i]=w at *;have hW:w<4294967296:=m
   have w1:IntKind.i64.wrap ((w:Int).tmod 65536)=((w%65536:Nat):Int):=by rw[Fz A0,wrap_i64 A0 A0];omega
   have w2:IntKind.i64.wrap (IntKind.u32.wrap ((w:Int).tdiv 65536))=((w / 65536:Nat):Int):=by rw[Hg A0,Tt (k:=.u32) rfl,wrap_i64 (by simp only[IntKind.bits];omega) (by simp only[IntKind.bits];omega)];simp only[IntKind.bits];omega
   obtain⟨a,g,z,j,r,B⟩:=Has.push (.inr S) (ys:=nE [w%65536,w / 65536]) (bytes:=8) rfl (by simp only[fB,d,Fb,As,Bo];omega);refine aM ?_;refine Dz ?_;have :=iL U;refine Wz ?_;rw[show ∀(h:aB) (x y:List AV),dM h 1 (.bK 1 1 [x,y])=some [x,y] from fun _ _ _=>rfl];rw[show nE [w%65536,w / 65536]=[[.int .i64 ((w%65536:Nat):Int)],[.int .i64 ((w / 65536:Nat):Int)]] from rfl] at g ⊢;simp only[g,bV,seval];exact⟨by omega,_,rfl,(r 0 A0 (by rw[g0];simp)).trans g0,by omega,.inr ⟨H1.next,rfl,by omega,j⟩⟩
 rintro f H1 E ⟨v,J,g0,A,S⟩;simp only[zM] at J;have e:l.take 16=l:=by rw[<-U.1,Ap]
 rw[e] at S
 have s:nE (qT l)≠[]:=by intro h;have :=Al List.length h;rw[fB,IW,U.1] at this;cases this
 rcases S with ⟨_,h⟩|⟨k,rfl,O,Z⟩
 . exact absurd h s
 simp only[↓zP,seval,J];refine eI (RE (k+2) (qT l) (by rw[IW,U.1];decide) _) ?_;rw[ME (SS U.2),OF];refine Tz ?_;refine⟨rfl,_,by simp only[↓zP,zR,seval];rfl,?_⟩;exact⟨_,0,rfl,fun t=>uG (wO rfl _)⟩
theorem uU{n:Nat}:(dg n).length<=32↔n<W^16:=by
 constructor
 . intro h;have O:=FX (KC n);rw[BK] at O;exact Au O (Bu A1 h)
 intro h;exact Si h
variable{d:List Nat}
theorem c9(hd:DD d){m:Nat}(h:2*m<d.length)(t:d.length<=32):aT (cY (d.take (2*m))) m=0/\(aV 16 (cY (d.take (2*m)))).set m (d.getD (2*m) 0)=aV 16 (cY (d.take (2*m+1))):=by have O:=tZ hd (k:=2*m) A0;rw[pow_even] at O;have G:aT (cY (d.take (2*m))) m=0:=FE O;have Z:=hd.getD (2*m);have hW:W=4294967296:=rfl;have B:=Mt (v:=cY (d.take (2*m))) (X:=d.getD (2*m) 0) (m:=m) A0 (Au O (Bu A1 A0)) A0;rw[G,Ds] at B;refine⟨G,?_⟩;rw[B,NN h,pow_even,Cc (W^m)]
theorem yg(hd:DD d){m:Nat}(h:2*m+1<d.length)(t:d.length<=32):aT (cY (d.take (2*m+1))) m<65536/\(aV 16 (cY (d.take (2*m+1)))).set m (aT (cY (d.take (2*m+1))) m+d.getD (2*m+1) 0*65536)=aV 16 (cY (d.take (2*m+1+1))):=by
 have O:=tZ hd (k:=2*m+1) A0;rw[pow_odd] at O;have G:=(c7 O).1;have Z:=hd.getD (2*m+1);have hW:W=4294967296:=rfl
 have r:cY (d.take (2*m+1))<W^16:=by have :=tZ hd (k:=2*m+1) A0;have e:(65536:Nat)^32=W^16:=pow_even 16;rw[<-e];exact Au this (Bu A1 A0)
 have B:=Mt (v:=cY (d.take (2*m+1))) (X:=d.getD (2*m+1) 0*65536) (m:=m) A0 r A0;refine⟨G,?_⟩;rw[B,NN h,pow_odd];rw[Cf,Cc (d.getD (2*m+1) 0)]
theorem bMy{a b:AV}(h:i<l.length)(x:Nat):(a::b::wC l).take (2+i)++[AV.int .u32 (x:Int)]++(b::wC l).drop (2+i)=a::b::wC (l.set i x):=by rw[<-uH h,Iu 2 i];rfl
theorem bDs(neg:Bool){n:Nat}(A:n<W^16):cI (sg neg n)=.bool false::.bool (neg&& !decide (n=0))::wC (aV 16 n):=by
 cases neg with
 |false=>rfl
 |true=>
  simp only[cI,sg,if_true,Ja,Cs,Dm];by_cases h:n=0
  . simp_all
  simp[h];omega
theorem aIg(neg:Bool){l:List Nat}(U:DD l)(Q:l.length<2^30)(H:aB):Sg 140 [.bool neg,.bK 0 1 (nE l)] H (.ret (.agg (cO (norm (sg neg (cY l)))))) H:=by
 have N:Nat.blt 0 2=true:=rfl;refine Sp bGw (by simp only[sf,wO N]) (by simp only[AV.free,KU]) ?_ H;unfold aUo;dsimp only;refine bP ?_;simp only[↓zP,zJ,Nat.reduceLT];refine fQ ?_;simp only[↓zP,zJ,Nat.reduceLT,Nat.reduceEqDiff];refine eI (RE 0 l Q _) ?_;rw[ME U];simp only[↓zP,zG,Nat.reduceLT];refine bQ ?_;have hd:=KC (cY l);have J:=BK (cY l);have F:=uU (n:=cY l);by_cases X:cY l<W^16
 . have u:=F.2 X;have p:decide (((dg (cY l)).length:Int)>32)=false:=Ac A0
   have e:norm (sg neg (cY l))=some (sg neg (cY l)):=by unfold norm;rw[if_pos (by rw[jU];exact X)]
   rw[e];simp only[cO];rw[bDs neg X]
   have x:decide (cY l=0)= !decide (((dg (cY l)).length:Int)>0):=by
    rw[<-Jr,Bj,<-Ud (n:=cY l)];constructor
    . intro h;rw[h];simp
    intro h;exact Cl A0
   rw[x,Bool.not_not];generalize cY l=n at *;generalize dg n=d at *;clear U Q F;subst J;refine bP ?_;simp only[↓zP,zJ,Nat.reduceLT,fB,p];refine bQ ?_;refine aP fun K hK=>?_
   have key:∀f:dI,f 4=.ref 0 0->f 5=.bK 0 1 (nE d)->f 6=.ref 1 0->K f [] (((((⟨0,.nil⟩:aB).alloc (.cells (.bool false::.bool false::wC zs) false)).alloc (.cells (.bool false::.bool false::wC zs) false)).set 1 (.cells (.bool false::.bool (neg&&decide ((d.length:Int)>0))::wC zs) false))):=by
    intro f w s L;apply hK;clear hK K;generalize (neg&&decide ((d.length:Int)>0))=o;have Z:wC zs=wC (aV 16 (cY (d.take 0))):=(by rw[Hv];rfl);simp only[↓zP,zJ,Nat.reduceLT,Nat.reduceEqDiff];refine cH [] (fun k vs H'=>H'.get 0=some (.cells (.bool false::.bool false::wC zs) false)/\H'.get 1=some (.cells (.bool false::.bool o::wC (aV 16 (cY (d.take k)))) false)) 0 d.length (Bh _) A0 A1 ?_ ?_ ?_ ?_ ?_
    . exact ZaW
    . exact⟨by simp only[zI,Nat.reduceEqDiff],by rw[<-Z];simp only[zI,Nat.reduceEqDiff]⟩
    . rintro i f H1 G F E T ⟨g0,g⟩;have Y:f 5=.bK 0 1 (nE d):=Zb3;simp only[↓zP,zJ,Nat.reduceLT,Nat.reduceEqDiff,T,Y,fB];exact tB A0
    . rintro i f H1 G F E T ⟨g0,g⟩;have Y:f 5=.bK 0 1 (nE d):=Zb3;have t:f 6=.ref 1 0:=Zb2;have v:=VQ F;have c:=hd.getD i;rw[qP F] at c;have j:i / 2<16:=by omega
      have w1:IntKind.i64.wrap ((i:Int).tdiv 2)=((i / 2:Nat):Int):=by rw[Hg A0,wrap_i64 A0 A0];omega
      have hW:W=4294967296:=rfl;have w2:IntKind.u32.wrap ((d[i]:Nat):Int)=(d[i]:Nat):=Zb1;have r:=oG (l:=aV 16 (cY (d.take i))) (i:=i / 2) (by rw[cW];exact j);rw[kW j] at r;have M:(AV.bool false::.bool o::wC (aV 16 (cY (d.take i)))).getD (2+i / 2) aC=.int .u32 (aT (cY (d.take i)) (i / 2):Nat):=(by rw[Kc2];exact r);have I:2+i / 2<=17:=A0;refine aM ?_;by_cases a:i%2=0
      . have q:(((i:Int).tmod 2)==0)=true:=(by rw[Fz A0,Dr];omega);obtain⟨q1,q2⟩:=c9 hd (m:=i / 2) A0 u;rw[show 2*(i / 2)=i by omega] at q1 q2;rw[qP F] at q2;refine Wz ?_;refine Dz ?_;rw[q1] at M;simp only[↓zP,zJ,Nat.reduceLT,Nat.reduceEqDiff,Nat.reduceAdd,zD,reduceCtorEq,Nat.reduceLeDiff,Int.reduceEq,T,Y,t,w1,aI,j,g,iL (.aV _),I,M,fB,F,v,w2];have R:IntKind.u32.wrap (((0:Nat):Int)+((d[i]:Nat):Int))=(d[i]:Nat):=Zb1;rw[R,bMy (by rw[cW];exact j),q2];exact⟨g0,rfl⟩
      have q:(((i:Int).tmod 2)==0)=false:=(by rw[Fz A0,Dc];omega);obtain⟨q1,q2⟩:=yg hd (m:=i / 2) A0 u;rw[show 2*(i / 2)+1=i by omega] at q1 q2;rw[qP F] at q2;refine Wz ?_;refine Dz ?_;simp only[↓zP,zJ,Nat.reduceLT,Nat.reduceEqDiff,Nat.reduceAdd,zD,reduceCtorEq,Nat.reduceLeDiff,Int.reduceEq,T,Y,t,w1,aI,j,g,iL (.aV _),I,M,fB,F,v,w2]
      have R:IntKind.u32.wrap (((aT (cY (d.take i)) (i / 2):Nat):Int)+IntKind.u32.wrap (((d[i]:Nat):Int)*65536))=((aT (cY (d.take i)) (i / 2)+d[i]*65536:Nat):Int):=by rw[Tt (k:=.u32) rfl,Tt (k:=.u32) rfl];simp only[IntKind.bits];omega
      rw[R,bMy (by rw[cW];exact j),q2];exact⟨g0,rfl⟩
    rintro f H1 E ⟨g0,g⟩;rw[Ap] at g;have b:f 4=.ref 0 0:=(by rw[E 4 rfl];simp only[zB,Nat.reduceEqDiff];exact w);have t:f 6=.ref 1 0:=Zb2;simp only[↓zP,zJ,Nat.reduceAdd,b,t,g0,g,iL (.aV _)];refine⟨rfl,_,by simp only[↓zP,zR,Nat.reduceEqDiff,Nat.reduceAdd,b,iL (.aV _)];rfl,?_⟩;rfl
   cases neg with
   |false=>refine Wz ?_;exact key _ ZaH ZaH (by simp only[zB])
   |true=>have := @fB;refine Wz ?_;exact key _ ZaH ZaH (by simp only[zB])
 have p:decide (((dg (cY l)).length:Int)>32)=true:=Af A0
 have e:norm (sg neg (cY l))=none:=by unfold norm;rw[if_neg (by rw[jU];exact X)]
 rw[e];have := @fB;have :=aPs;refine Wz ?_;have O:xH.length=18:=rfl;simp only[↓zP,zJ,Nat.reduceEqDiff,Nat.reduceAdd,oL O];refine⟨rfl,_,by simp only[↓zP,zR,Nat.reduceEqDiff,oL O];rfl,?_⟩;rfl
theorem BE(neg:Bool)(tag:Nat){l:List Nat}(U:DD l)(Q:l.length<2^30)(H:aB):Sg 140 [.bool neg,.bK tag 1 (nE l)] H (.ret (.agg (cO (norm (sg neg (cY l)))))) H:=(aIg neg U Q H).aQf tag
variable{a b:List Nat}
theorem bCz(I:DD a)(X:DD b)(e:a.length<2^29)(x:b.length<2^29)(H:aB):Sg 144 [.bK 0 1 (nE a),.bK 0 1 (nE b)] H (.ret (.bool (decide (cY a<cY b)))) H:=by
 have N:Nat.blt 0 2=true:=rfl;refine So bHa (by simp only[sf,wO N]) ?_ H;unfold aUs;dsimp only
 have L:IntKind.i64.wrap ((if(b.length:Int)>a.length then(b.length:Int) else a.length) -1)=((max a.length b.length:Nat):Int) -1:=by rw[wrap_i64 ZaU ZaU];split<;>omega
 simp only[↓zP,zJ,Nat.reduceLT,Nat.reduceEqDiff,fB,L];refine UJ [] (fun i vs H'=>H'=⟨0,.nil⟩/\cY (a.drop i)=cY (b.drop i)) (max a.length b.length) A0 A1 ?_ ?_ ?_ ?_ ?_
 . simp only[zB]
 . exact⟨rfl,by rw[Bl A0,Bl A0]⟩
 . rintro i f H1 F E T ⟨rfl,J⟩;exact ZbB
 . rintro i f H1 F E T ⟨rfl,J⟩;have A:f 0=.bK 0 1 (nE a):=E 0 rfl;have u:f 1=.bK 0 1 (nE b):=E 1 rfl;have p:=FP (tag:=0) rfl a A0 i A0;have m:=FP (tag:=0) rfl b A0 i A0;refine aM ?_;refine aP fun K hK=>?_;refine Wy ?_;by_cases z:a.getD i 0=b.getD i 0
   . have o:(((a.getD i 0:Nat):Int) != ((b.getD i 0:Nat):Int))=false:=(by rw[z];simp);simp only[↓zP,zJ,Nat.reduceLT,Nat.reduceEqDiff,o];apply hK;clear hK K;simp only[↓zP,zG];exact⟨trivial,Vy J z⟩
   have o:(((a.getD i 0:Nat):Int) != ((b.getD i 0:Nat):Int))=true:=(by rw[Ge];omega);refine Wz ?_;apply hK;clear hK K;refine Wz ?_;refine Rx ?_
   have :decide (((a.getD i 0:Nat):Int)<((b.getD i 0:Nat):Int))=decide (cY a<cY b):=by
    rw[Bj];constructor
    . intro h;exact Yt I X J A0
    intro h;refine Ey fun R=>?_;have :=Yt X I J.symm (k:=i) A0;omega
   rw[this];rfl
 rintro f H1 E ⟨rfl,J⟩;rw[Eo,Eo] at J;simp only[↓zP];refine Rx ?_;rw[J,Ac (Ff _)];rfl
theorem YX(I:DD a)(X:DD b)(e:a.length<2^29)(x:b.length<2^29)(t1 t2:Nat)(H:aB):Sg 144 [.bK t1 1 (nE a),.bK t2 1 (nE b)] H (.ret (.bool (decide (cY a<cY b)))) H:=
 ((bCz I X e x H).aQf t2).JS t1
theorem bDa(I:DD a)(w:DD b)(e:a.length<2^29)(K:b.length<2^29)(H:aB):Sg 141 [.bK 0 1 (nE a),.bK 0 1 (nE b)] H (.ret (.bK 0 1 (nE (dg (cY a+cY b))))) H:=by
 have N:Nat.blt 0 2=true:=rfl;refine fA fit dZ bGx (Ab rfl) (by simp only[sf,wO N]) ?_ H;unfold aUp;dsimp only;simp only[↓zP,zG,Nat.reduceLT];refine cH [5,6] (fun k vs H'=>∃v c ds,vs=[v,.int .i64 (c:Nat)]/\Own H' 1 v (nE ds)/\ds.length=k/\DD ds/\c<=1/\cY ds+65536^k*c=cY (a.take k)+cY (b.take k)) 0 (max a.length b.length+1) (Bh _) A0 A1 ?_ ?_ ?_ ?_ ?_
 . exact ZaW
 . exact⟨.bG,0,[],by simp only[sm,zB,Nat.reduceEqDiff];rfl,.nil _ _,rfl,(fun d hd=>by cases hd),by decide,by simp[cY]⟩
 . rintro i f H1 G F E T ⟨v,c,ds,J,S,U,hd,R,z⟩;have A:f 0=.bK 0 1 (nE a):=E 0 rfl;have u:f 1=.bK 0 1 (nE b):=E 1 rfl
   have L:IntKind.i64.wrap ((if(b.length:Int)>a.length then(b.length:Int) else a.length)+1)=((max a.length b.length+1:Nat):Int):=by rw[wrap_i64 ZaU ZaU];split<;>omega
   simp only[↓zP,zJ,Nat.reduceLT,Nat.reduceEqDiff,T,A,u,fB,L];exact tB A0
 . rintro i f H1 G F E T ⟨v,c,ds,J,S,U,hd,R,z⟩;simp only[zM] at J;have A:f 0=.bK 0 1 (nE a):=E 0 rfl;have u:f 1=.bK 0 1 (nE b):=E 1 rfl;have p:=FP (tag:=0) rfl a A0 i A0;have m:=FP (tag:=0) rfl b A0 i A0;have q:=I.getD i;have j:=w.getD i;have M:=aAx z;generalize a.getD i 0=x at *;generalize b.getD i 0=y at *;have w1:IntKind.i64.wrap ((x:Int)+(y:Int))=((x+y:Nat):Int):=wI A0;have w2:IntKind.i64.wrap (((x+y:Nat):Int)+(c:Int))=((x+y+c:Nat):Int):=wI A0;have Q:(((x+y+c:Nat):Int).tmod 65536)=(((x+y+c)%65536:Nat):Int):=by rw[Fz A0];omega
   have C:IntKind.i64.wrap (((x+y+c:Nat):Int).tdiv 65536)=(((x+y+c) / 65536:Nat):Int):=(by rw[Hg A0,wrap_i64 A0 A0];omega);obtain⟨W,n,P,D,r,B⟩:=Has.push (.inr S) (ys:=nE [(x+y+c)%65536]) (bytes:=8) rfl (by simp only[fB,U,As,Bo];omega);rw[show nE [(x+y+c)%65536]=[[.int .i64 (((x+y+c)%65536:Nat):Int)]] from rfl] at n;refine aM ?_;refine bP ?_;have := @J.2;refine Wz ?_;refine bQ ?_;have := @J.1;refine Wz ?_;rw[eL];simp only[n,bV];refine⟨_,(x+y+c) / 65536,ds++[(x+y+c)%65536],rfl,?_,by simp[U],?_,by omega,?_⟩
   . rw[TY];exact .inr ⟨H1.next,rfl,by omega,D⟩
   . intro d l
     rcases Ar.1 l with h|h
     . exact hd d h
     rw[Ca] at h;subst h;omega
   rw[xA,U];simp only[cY,Nat.mul_zero,Cv];exact M
 rintro f H1 E ⟨v,c,ds,J,S,U,hd,R,z⟩;simp only[zM] at J;rw[Bd A0,Bd A0] at z
 have g:c=0:=by
  have O:=FX I;have Z:=FX w;have V:cY a<65536^max a.length b.length:=Au O (Bu A1 A0);have h4:cY b<65536^max a.length b.length:=Au Z (Bu A1 A0);rw[De] at z;generalize 65536^max a.length b.length=X at *
  rcases Fy c with h|h
  . exact h
  have :c=1:=by omega
  subst this;omega
 subst g;rw[Nat.mul_zero,Cv] at z
 have s:nE ds≠[]:=by intro h;have :=Al List.length h;rw[fB,U] at this;simp at this
 rcases S with ⟨_,h⟩|⟨k,o,O,Z⟩
 . exact absurd h s
 rw[o] at J;simp only[↓zP,J.1];refine eI (RE (k+2) ds (by rw[U];omega) _) ?_;rw[ME hd,z];simp only[↓zP,zG,Nat.reduceLT];refine Rx ?_;exact⟨_,0,rfl,fun t=>uG (wO rfl _)⟩
theorem aIh(I:DD a)(X:DD b)(e:a.length<2^29)(x:b.length<2^29)(t1 t2:Nat)(H:aB):Sg 141 [.bK t1 1 (nE a),.bK t2 1 (nE b)] H (.ret (.bK 0 1 (nE (dg (cY a+cY b))))) H:=
 ((bDa I X e x H).aQf t2).JS t1
end Go.Proofs.YtogfcjbgeebfkaaGreatDoor
