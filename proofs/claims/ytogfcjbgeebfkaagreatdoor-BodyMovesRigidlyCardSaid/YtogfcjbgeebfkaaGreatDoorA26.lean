/-
  Part of the proof of statement 9
-/
import Derived.Test.YtogfcjbgeebfkaaGreatDoorA25
import Derived.Test.YtogfcjbgeebfkaaGreatDoorA06
import Derived.Test.YtogfcjbgeebfkaaGreatDoorA07
set_option linter.unusedSimpArgs false
set_option linter.unusedVariables false
set_option maxRecDepth 100000
set_option maxHeartbeats 16000000
namespace Go.Proofs.YtogfcjbgeebfkaaGreatDoor
open Go Go.Av Go.jG
attribute [local congr] aX aQ aR aL bA aW aS aG bB
attribute [local irreducible] FC bT eI
def nE(l:List Nat):List (List AV):=l.map fun(k:Nat)=>[AV.int .i64 (k:Int)]
theorem eU(I:List Nat):(nE I).length=I.length:=by simp[nE]
variable{i:Nat}
theorem Vf{I:List Nat}(h:i<I.length):(nE I).getD i []=[AV.int .i64 (I[i]:Int)]:=eO h
theorem Tk(a b:List Nat):nE (a++b)=nE a++nE b:=by simp[nE]
theorem xr(a:List Nat):fN (nE a)=true:=dP (fun _=>by simp only[sf]) a
variable{tag:Nat}
theorem xG(q:Nat.blt tag 2=true)(l:List Nat):(AV.bJ tag 1 (nE l)).free=true:=by simp only[AV.free,q,xr,Ee]
theorem Kc2{α:Type}(a b d:α)(l:List α)(k:Nat):(a::b::l).getD (2+k) d=l.getD k d:=by rw[Iy];rfl
variable{l:List Nat}
theorem qX{k:Nat}(h:k<l.length):l.getD k 0=l[k]:=by simp[List.getD,h]
theorem aQk(H:aA):Sg 143 [] H (.ret (.agg yA)) H:=by refine So bHg Zac ?_ H;unfold aVe;dsimp only;refine Ty ?_;exact⟨rfl,_,by simp only[↓zP,zR,seval];rfl,rfl⟩
theorem GJ(q:Nat.blt tag 2=true)(l:List Nat)(Q:l.length<2^30)(k:Nat)(E:k<2^30)(H:aA):Sg 208 [.bJ tag 1 (nE l),.int .i64 k] H (.ret (.int .i64 (l.getD k 0:Nat))) H:=by
 refine So bIk (by simp only[sf,xG q]) ?_ H;unfold aWf;dsimp only;simp only[↓zP,zJ,seval,eU];refine⟨fun h=>?_,fun h=>?_⟩
 . have K:k<l.length:=by omega
   have t:=Vf K;simp only[zJ,seval,aD,K,t,qX K];exact Zaa
 have K:¬k<l.length:=by omega
 have :l.getD k 0=0:=by rw[Dh,Cu A0];rfl
 rw[this];exact Zaa
theorem _root_.Go.Av.Sound.aQx{P:Program}{g:bL}{f:FuncId}{x:AV}{sz:Nat}{els:List (List AV)}{rest:List AV}{H H':aA}{out:Out}(h:Sound P g f (x::.bJ 0 sz els::rest) H out H')(tag:Nat):
 Sound P g f (x::.bJ tag sz els::rest) H out H':=by
 refine⟨h.1,fun G w vs L J=>h.2 G w vs L ⟨J.1,fun j Y=>?_⟩⟩;have :=J.2 j Y
 match j with
 |0=>exact this
 |1=>exact VR.KD this
 |j+2=>exact this
theorem bDc(l:List Nat)(Q:l.length<2^30)(H:aA):Sg 207 [.bJ 0 1 (nE l)] H (.ret (.bJ 0 1 (nE (xV l)))) H:=by
 have q:Nat.blt 0 2=true:=rfl;refine Sp bIj (by simp only[sf,xG q]) (by simp only[xG q]) ?_ H;unfold aWe;dsimp only;simp only[↓zP,zJ,seval,eU];refine aJ ?_;refine kJ [3] (fun n vs H'=>H'=⟨0,.nil⟩/\vs=[.int .i64 n]/\n<=l.length/\∀k,n<=k->k<l.length->l.getD k 0=0) l.length (by rfl) ?_ ?_
 . exact⟨rfl,by simp only[sm,zB,seval],Ae _,fun k O Z=>absurd Z A0⟩
 rintro n f H1 E ⟨rfl,J,A,s⟩;simp only[zM] at J;have b:f 0=.bJ 0 1 (nE l):=E 0 rfl;have m:(nE l).take n=nE (l.take n):=by simp[nE]
 have a:uG 1 (.bJ 0 1 (nE l)) none (some n) none=some (.bJ 0 1 (nE (l.take n))):=by
  simp only[uG,Eb,By];rw[if_pos ⟨trivial,Bk _,by rw[eU];exact A⟩];split
  . rename_i h;rw[eU] at h;rw[h.1,Aq,Fm]
  rw[Fm,Hy,m]
 have c:(n=0\/l.getD (n -1) 0≠0)->l.take n=xV l:=fun h=>CC A s h;by_cases o:n=0
 . have hd:decide ((n:Int)>0)=false:=Ab A0;rw[c (.inl o)] at a;simp only[↓zP,zJ,seval,J,hd,b,eM,aD,a,Co,Bi];exact Zbn
 have hd:decide ((n:Int)>0)=true:=Ag A0;have w1:IntKind.i64.wrap ((n:Int) -1)=((n -1:Nat):Int):=wI A0;have K:n -1<l.length:=by omega
 have t:=Vf K;by_cases g:l[n -1]=0
 . have X:(((l[n -1]:Nat):Int)==0)=true:=by rw[g];rfl
   have := @eU;refine Wz ?_;refine aJ ?_;simp only[↓zP,zG,seval,J,w1];refine⟨n -1,by omega,trivial,rfl,by omega,fun k O Z=>?_⟩;by_cases e:k=n -1
   . subst e;rw[qX K];exact g
   exact s k A0 Z
 have X:(((l[n -1]:Nat):Int)==0)=false:=by rw[Cy];omega
 rw[c (.inr (by rw[qX K];exact g))] at a;simp only[↓zP,zJ,seval,J,hd,b,w1,aD,eU,K,t,X,eM,a,Co,Bi];exact Zbn
theorem RV(tag:Nat)(l:List Nat)(Q:l.length<2^30)(H:aA):Sg 207 [.bJ tag 1 (nE l)] H (.ret (.bJ 0 1 (nE (xV l)))) H:=(bDc l Q H).KD tag
def Zs(l:List Nat)(i:Nat):Bool:=(List.range i).all fun k=>((l.getD k 0:Nat):Int)==0
theorem uz(l:List Nat)(i:Nat):Zs l (i+1)=(Zs l i&&(((l.getD i 0:Nat):Int)==0)):=by unfold Zs;rw[Ds,List.all_append];simp
theorem aMh(U:UZ l):Zs l 16=decide (l=zs):=by
 unfold Zs;rw[Dc,Bh,Br];constructor
 . intro h;refine Fh (by rw[U.1];rfl) fun k O Z=>?_;have :=h k (Ax.2 (by rw[U.1] at O;exact O));rw[Dl,qX O] at this;have W:zs[k]∈zs:=Ac Z;rw[Hn W];omega
 rintro rfl k E;have R:k<zs.length:=Ax.1 E;have W:zs[k]'R=0:=Hn (Ac R);rw[Dl,qX R,W];rfl
theorem aAr(b n:Bool){l:List Nat}(U:UZ l)(H:aA):Sg 206 [.agg (.bool b::.bool n::wC l)] H (.ret (.bool (if b then decide (l=zs)&& !n else !decide (l=zs)|| !n))) H:=by
 refine So bIi Zac ?_ H;unfold aWd;dsimp only;refine Ty ?_;refine cL [3] (fun i vs H'=>H'=((⟨0,.nil⟩:aA).alloc (.cells (.bool b::.bool n::wC l) false))/\vs=[.bool (Zs l i)]) 0 16 A1 A1 A1 ?_ ?_ ?_ ?_ ?_
 . exact zq
 . exact Zb5
 . rintro i f H1 o F E T ⟨rfl,J⟩;exact ZaK
 . rintro i f H1 o F E T ⟨rfl,J⟩;simp only[zM] at J;have a:f 1=.ref 0 0:=E 1 rfl;have t:=oK (l:=l) (i:=i) (by rw[U.1];omega);have Q:(wC l).length=16:=by rw[cE,U.1]
   have M:(AV.bool b::.bool n::wC l).getD (2+i) aB=.int .u32 (l.getD i 0):=(by rw[Kc2];exact t);have p:2+i<=17:=A0;refine aJ ?_;rw[uz]
   cases X:Zs l i with
   |false=>rw[X] at J;simp only[↓zP,zJ,seval,J,Bool.false_and]
   |true=>rw[X] at J;simp only[↓zP,zJ,seval,J,a,T,aD,F,Q,M,p,Dk]
 rintro f H1 E ⟨rfl,J⟩;simp only[zM] at J;have a:f 1=.ref 0 0:=E 1 rfl;rw[aMh U] at J;cases b<;>cases h:decide (l=zs)<;>rw[h] at J
 . refine Wz ?_;exact Zaa
 . refine Wz ?_;exact Zaa
 . refine Wz ?_;exact Zaa
 refine Wz ?_;exact Zaa
theorem aAp(b n:Bool){l:List Nat}(U:UZ l)(H:aA):Sg 122 [.agg (.bool b::.bool n::wC l)] H (.ret (.bool (EB b n l))) H:=by
 refine So bGs Zac ?_ H;unfold aUr;dsimp only;have J:=aAr b n U;unfold EB;simp only[↓zP,zJ,seval,iL U];cases b<;>cases n<;>cases h:decide (l=zs)<;>rw[h] at J
 . refine Wz ?_;exact Zaa
 . refine Wz ?_;exact Zaa
 . refine Wz ?_;exact Zaa
 . refine Wz ?_;exact Zaa
 . refine Wz ?_;exact Zaa
 . refine Wz ?_;exact Zaa
 . refine Wz ?_;exact Zaa
 refine Wz ?_;exact Zaa
theorem wL{v:List AV}{x:Option Int}(h:dN v x)(H:aA):Sg 122 [.agg v] H (.ret (.bool x.isSome)) H:=by
 obtain⟨b,n,l,U,rfl,rfl⟩:=h
 have :(Sm b n l).isSome=EB b n l:=by unfold Sm;cases EB b n l<;>rfl
 rw[this];exact aAp b n U H
theorem Xq(h:i<l.length):rB (l.take (i+1))=rB (l.take i)++[l[i]%65536,l[i] / 65536]:=by unfold rB;rw[Ao,Gg,Af h];simp
theorem JG(l:List Nat):(rB l).length=2*l.length:=by
 induction l with
 |nil=>rfl
 |cons x l z=>have :rB (x::l)=x%65536::x / 65536::rB l:=rfl;rw[this];simp only[Ba,z];omega
theorem wN(b n:Bool){l:List Nat}(U:UZ l)(H:aA):Sg 123 [.agg (.bool b::.bool n::wC l)] H (.ret (.bJ 0 1 (nE (dg (wJ l))))) H:=by
 refine eP fit eE bGt (Ai rfl) Zac ?_ H;unfold aUs;dsimp only;refine Ty ?_;refine cL [3] (fun i vs H'=>∃v,vs=[v]/\H'.get 0=some (.cells (.bool b::.bool n::wC l) false)/\1<=H'.next/\Own H' 1 v (nE (rB (l.take i)))) 0 16 A1 A1 A1 ?_ ?_ ?_ ?_ ?_
 . exact zq
 . exact⟨.bE,by simp only[sm,zB,seval],by simp only[zI,seval],by simp only[zI,seval],.nil _ _⟩
 . rintro i f H1 o F E T ⟨v,J,g0,A,S⟩;exact ZaK
 . rintro i f H1 o F E T ⟨v,J,g0,A,S⟩;simp only[zM] at J;have s:f 1=.ref 0 0:=E 1 rfl;have e:i<l.length:=by rw[U.1];exact F
   have M:(AV.bool b::.bool n::wC l).getD (2+i) aB=.int .u32 (l[i]:Nat):=by rw[Kc2,oK e,qX e]
   have p:2+i<=17:=A0;have r:=U.2 _ (Ac e);have g:=Xq e;have j:=JG (l.take i);rw[g,Tk];generalize rB (l.take i)=done at *;generalize l[i]=w at *;have hW:w<4294967296:=r
   have w1:IntKind.i64.wrap ((w:Int).tmod 65536)=((w%65536:Nat):Int):=by rw[Fx A0,wrap_i64 A0 A0];omega
   have w2:IntKind.i64.wrap (IntKind.u32.wrap ((w:Int).tdiv 65536))=((w / 65536:Nat):Int):=by rw[Gz A0,Rs (k:=.u32) rfl,wrap_i64 (by simp only[IntKind.bits];omega) (by simp only[IntKind.bits];omega)];simp only[IntKind.bits];omega
   obtain⟨t,q,c,C,a,N⟩:=Has.push (.inr S) (ys:=nE [w%65536,w / 65536]) (bytes:=8) rfl (by simp only[eU,j,Et,Ba,Ca];omega);refine aJ ?_;refine Dz ?_;have :=iL U;refine Wz ?_;rw[show ∀(h:aA) (x y:List AV),dJ h 1 (.bJ 1 1 [x,y])=some [x,y] from fun _ _ _=>rfl];rw[show nE [w%65536,w / 65536]=[[.int .i64 ((w%65536:Nat):Int)],[.int .i64 ((w / 65536:Nat):Int)]] from rfl] at q ⊢;simp only[q,bX,seval];exact⟨by omega,_,rfl,(a 0 A0 (by rw[g0];simp)).trans g0,by omega,.inr ⟨H1.next,rfl,by omega,C⟩⟩
 rintro f H1 E ⟨v,J,g0,A,S⟩;simp only[zM] at J;have m:l.take 16=l:=by rw[<-U.1,Aq]
 rw[m] at S
 have z:nE (rB l)≠[]:=by intro h;have :=Am List.length h;rw[eU,JG,U.1] at this;cases this
 rcases S with ⟨_,h⟩|⟨k,rfl,O,Z⟩
 . exact absurd h z
 simp only[↓zP,seval,J];refine fC (RV (k+2) (rB l) (by rw[JG,U.1];decide) _) ?_;rw[MY (Sq U.2),Oa];refine Tz ?_;refine⟨rfl,_,by simp only[↓zP,zR,seval];rfl,?_⟩;exact⟨_,0,rfl,fun d=>sJ (xG rfl _)⟩
theorem vO{n:Nat}:(dg n).length<=32↔n<W^16:=by
 have e:(65536:Nat)^32=W^16:=pow_even 16;constructor
 . intro h;have O:=GM (KN n);rw[CD] at O;rw[<-e];exact Bg O (Bu A1 h)
 intro h;rw[<-e] at h;exact Sz h
variable{d:List Nat}
theorem fo(hd:DD d){m:Nat}(h:2*m<d.length)(p:d.length<=32):aP (cZ (d.take (2*m))) m=0/\(aV 16 (cZ (d.take (2*m)))).set m (d.getD (2*m) 0)=aV 16 (cZ (d.take (2*m+1))):=by have O:=vA hd (k:=2*m) A0;rw[pow_even] at O;have o:aP (cZ (d.take (2*m))) m=0:=FY O;have Z:=hd.getD (2*m);have hW:W=4294967296:=rfl;have a:=NP (v:=cZ (d.take (2*m))) (X:=d.getD (2*m) 0) (m:=m) A0 (Bg O (Bu A1 A0)) (by rw[o];omega);rw[o,Em] at a;refine⟨o,?_⟩;rw[a,Nj h,pow_even,Cc (W^m)]
theorem ze(hd:DD d){m:Nat}(h:2*m+1<d.length)(p:d.length<=32):aP (cZ (d.take (2*m+1))) m<65536/\(aV 16 (cZ (d.take (2*m+1)))).set m (aP (cZ (d.take (2*m+1))) m+d.getD (2*m+1) 0*65536)=aV 16 (cZ (d.take (2*m+1+1))):=by
 have O:=vA hd (k:=2*m+1) A0;rw[pow_odd] at O;have o:=(fm O).1;have Z:=hd.getD (2*m+1);have hW:W=4294967296:=rfl
 have r:cZ (d.take (2*m+1))<W^16:=by have :=vA hd (k:=2*m+1) A0;have e:(65536:Nat)^32=W^16:=pow_even 16;rw[<-e];exact Bg this (Bu A1 A0)
 have a:=NP (v:=cZ (d.take (2*m+1))) (X:=d.getD (2*m+1) 0*65536) (m:=m) A0 r A0;refine⟨o,?_⟩;rw[a,Nj h,pow_odd];congr 1;rw[Cf,Cc (d.getD (2*m+1) 0)]
theorem bMs{a b:AV}(h:i<l.length)(x:Nat):(a::b::wC l).take (2+i)++[AV.int .u32 (x:Int)]++(b::wC l).drop (2+i)=a::b::wC (l.set i x):=by rw[<-vF h,Iy 2 i];simp[iT]
theorem bEc(neg:Bool){n:Nat}(A:n<W^16):cI (sg neg n)=.bool false::.bool (neg&& !decide (n=0))::wC (aV 16 n):=by
 cases neg with
 |false=>simp[cI,sg]
 |true=>
  simp only[cI,sg,if_true,Jg,Cp,Dk];congr 2;by_cases h:n=0
  . subst h;simp
  simp[h];omega
theorem aIz(neg:Bool){l:List Nat}(U:DD l)(Q:l.length<2^30)(H:aA):Sg 140 [.bool neg,.bJ 0 1 (nE l)] H (.ret (.agg (cO (norm (sg neg (cZ l)))))) H:=by
 have w:Nat.blt 0 2=true:=rfl;refine Sp bHd (by simp only[sf,xG w]) (by simp only[AV.free,LJ]) ?_ H;unfold aVb;dsimp only;refine bP ?_;simp only[↓zP,zJ,Nat.reduceLT];refine fW ?_;simp only[↓zP,zJ,Nat.reduceLT,Nat.reduceEqDiff];refine fC (RV 0 l Q _) ?_;rw[MY U];simp only[↓zP,zG,Nat.reduceLT];refine bQ ?_;have hd:=KN (cZ l);have J:=CD (cZ l);have F:=vO (n:=cZ l);by_cases X:cZ l<W^16
 . have x:=F.2 X;have S:decide (((dg (cZ l)).length:Int)>32)=false:=Ab A0
   have c:norm (sg neg (cZ l))=some (sg neg (cZ l)):=by unfold norm;rw[if_pos (by rw[jY];exact X)]
   rw[c];simp only[cO];rw[bEc neg X]
   have z:decide (cZ l=0)= !decide (((dg (cZ l)).length:Int)>0):=by
    rw[<-Ij,Aw,<-Up (n:=cZ l)];constructor
    . intro h;rw[h];simp
    intro h;exact Cm A0
   rw[z,Bool.not_not];generalize cZ l=n at *;generalize dg n=d at *;clear U Q F;subst J;refine bP ?_;simp only[↓zP,zJ,Nat.reduceLT,eU,S];refine bQ ?_;refine aM fun K hK=>?_
   have key:∀f:dD,f 4=.ref 0 0->f 5=.bJ 0 1 (nE d)->f 6=.ref 1 0->K f [] (((((⟨0,.nil⟩:aA).alloc (.cells (.bool false::.bool false::wC zs) false)).alloc (.cells (.bool false::.bool false::wC zs) false)).set 1 (.cells (.bool false::.bool (neg&&decide ((d.length:Int)>0))::wC zs) false))):=by
    intro f A j L;apply hK;clear hK K;generalize (neg&&decide ((d.length:Int)>0))=q;have Z:wC zs=wC (aV 16 (cZ (d.take 0))):=(by rw[Ia];rfl);simp only[↓zP,zJ,Nat.reduceLT,Nat.reduceEqDiff];refine cL [] (fun k vs H'=>H'.get 0=some (.cells (.bool false::.bool false::wC zs) false)/\H'.get 1=some (.cells (.bool false::.bool q::wC (aV 16 (cZ (d.take k)))) false)) 0 d.length (Bk _) A0 A1 ?_ ?_ ?_ ?_ ?_
    . exact Za3
    . exact⟨by simp only[zI,Nat.reduceEqDiff],by rw[<-Z];simp only[zI,Nat.reduceEqDiff]⟩
    . rintro i f H1 o F E T ⟨g0,g⟩;have u:f 5=.bJ 0 1 (nE d):=Zci;simp only[↓zP,zJ,Nat.reduceLT,Nat.reduceEqDiff,T,u,eU];exact tB A0
    . rintro i f H1 o F E T ⟨g0,g⟩;have u:f 5=.bJ 0 1 (nE d):=Zci;have v:f 6=.ref 1 0:=Zch;have t:=Vf F;have b:=hd.getD i;rw[qX F] at b;have r:i / 2<16:=by omega
      have w1:IntKind.i64.wrap ((i:Int).tdiv 2)=((i / 2:Nat):Int):=by rw[Gz A0,wrap_i64 A0 A0];omega
      have hW:W=4294967296:=rfl;have w2:IntKind.u32.wrap ((d[i]:Nat):Int)=(d[i]:Nat):=Zcg;have s:=oK (l:=aV 16 (cZ (d.take i))) (i:=i / 2) (by rw[cK];exact r);rw[lA r] at s;have M:(AV.bool false::.bool q::wC (aV 16 (cZ (d.take i)))).getD (2+i / 2) aB=.int .u32 (aP (cZ (d.take i)) (i / 2):Nat):=(by rw[Kc2];exact s);have p:2+i / 2<=17:=A0;refine aJ ?_;by_cases a:i%2=0
      . have e:(((i:Int).tmod 2)==0)=true:=(by rw[Fx A0,Dl];omega);obtain⟨q1,q2⟩:=fo hd (m:=i / 2) A0 x;rw[show 2*(i / 2)=i by omega] at q1 q2;rw[qX F] at q2;refine Wz ?_;refine Dz ?_;rw[q1] at M;simp only[↓zP,zJ,Nat.reduceLT,Nat.reduceEqDiff,Nat.reduceAdd,zD,reduceCtorEq,Nat.reduceLeDiff,Int.reduceEq,T,u,v,w1,aD,r,g,iL (.aV _),p,M,eU,F,t,w2];have G:IntKind.u32.wrap (((0:Nat):Int)+((d[i]:Nat):Int))=(d[i]:Nat):=Zcg;rw[G,bMs (by rw[cK];exact r),q2];exact⟨g0,rfl⟩
      have e:(((i:Int).tmod 2)==0)=false:=(by rw[Fx A0,Cy];omega);obtain⟨q1,q2⟩:=ze hd (m:=i / 2) A0 x;rw[show 2*(i / 2)+1=i by omega] at q1 q2;rw[qX F] at q2;refine Wz ?_;refine Dz ?_;simp only[↓zP,zJ,Nat.reduceLT,Nat.reduceEqDiff,Nat.reduceAdd,zD,reduceCtorEq,Nat.reduceLeDiff,Int.reduceEq,T,u,v,w1,aD,r,g,iL (.aV _),p,M,eU,F,t,w2]
      have G:IntKind.u32.wrap (((aP (cZ (d.take i)) (i / 2):Nat):Int)+IntKind.u32.wrap (((d[i]:Nat):Int)*65536))=((aP (cZ (d.take i)) (i / 2)+d[i]*65536:Nat):Int):=by rw[Rs (k:=.u32) rfl,Rs (k:=.u32) rfl];simp only[IntKind.bits];omega
      rw[G,bMs (by rw[cK];exact r),q2];exact⟨g0,rfl⟩
    rintro f H1 E ⟨g0,g⟩;rw[Aq] at g;have y:f 4=.ref 0 0:=(by rw[E 4 rfl];simp only[zB,Nat.reduceEqDiff];exact A);have v:f 6=.ref 1 0:=Zch;simp only[↓zP,zJ,Nat.reduceAdd,y,v,g0,g,iL (.aV _)];refine⟨rfl,_,by simp only[↓zP,zR,Nat.reduceEqDiff,Nat.reduceAdd,y,iL (.aV _)];rfl,?_⟩;rfl
   cases neg with
   |false=>refine Wz ?_;exact key _ ZaM ZaM (by simp only[zB])
   |true=>have := @eU;refine Wz ?_;exact key _ ZaM ZaM (by simp only[zB])
 have S:decide (((dg (cZ l)).length:Int)>32)=true:=Ag A0
 have c:norm (sg neg (cZ l))=none:=by unfold norm;rw[if_neg (by rw[jY];exact X)]
 rw[c];have := @eU;have :=aQk;refine Wz ?_;have O:yA.length=18:=rfl;simp only[↓zP,zJ,Nat.reduceEqDiff,Nat.reduceAdd,oL O];refine⟨rfl,_,by simp only[↓zP,zR,Nat.reduceEqDiff,oL O];rfl,?_⟩;rfl
theorem BW(neg:Bool)(tag:Nat){l:List Nat}(U:DD l)(Q:l.length<2^30)(H:aA):Sg 140 [.bool neg,.bJ tag 1 (nE l)] H (.ret (.agg (cO (norm (sg neg (cZ l)))))) H:=(aIz neg U Q H).aQx tag
variable{a b:List Nat}
theorem bCz(I:DD a)(X:DD b)(g:a.length<2^29)(e:b.length<2^29)(H:aA):Sg 144 [.bJ 0 1 (nE a),.bJ 0 1 (nE b)] H (.ret (.bool (decide (cZ a<cZ b)))) H:=by
 have w:Nat.blt 0 2=true:=rfl;refine So bHh (by simp only[sf,xG w]) ?_ H;unfold aVf;dsimp only
 have L:IntKind.i64.wrap ((if(b.length:Int)>a.length then(b.length:Int) else a.length) -1)=((max a.length b.length:Nat):Int) -1:=by rw[wrap_i64 ZaN ZaN];split<;>omega
 simp only[↓zP,zJ,Nat.reduceLT,Nat.reduceEqDiff,eU,L];refine US [] (fun i vs H'=>H'=⟨0,.nil⟩/\cZ (a.drop i)=cZ (b.drop i)) (max a.length b.length) A0 A1 ?_ ?_ ?_ ?_ ?_
 . simp only[zB]
 . exact⟨rfl,by rw[Bc A0,Bc A0]⟩
 . rintro i f H1 F E T ⟨rfl,J⟩;exact ZbR
 . rintro i f H1 F E T ⟨rfl,J⟩;have A:f 0=.bJ 0 1 (nE a):=E 0 rfl;have c:f 1=.bJ 0 1 (nE b):=E 1 rfl;have p:=GJ (tag:=0) rfl a A0 i A0;have j:=GJ (tag:=0) rfl b A0 i A0;refine aJ ?_;refine aM fun K hK=>?_;refine Wy ?_;by_cases B:a.getD i 0=b.getD i 0
   . have o:(((a.getD i 0:Nat):Int) != ((b.getD i 0:Nat):Int))=false:=(by rw[B];simp);simp only[↓zP,zJ,Nat.reduceLT,Nat.reduceEqDiff,o];apply hK;clear hK K;simp only[↓zP,zG];exact⟨trivial,WK J B⟩
   have o:(((a.getD i 0:Nat):Int) != ((b.getD i 0:Nat):Int))=true:=(by rw[Gc];omega);refine Wz ?_;apply hK;clear hK K;refine Wz ?_;refine Rx ?_
   have :decide (((a.getD i 0:Nat):Int)<((b.getD i 0:Nat):Int))=decide (cZ a<cZ b):=by
    rw[Aw];constructor
    . intro h;exact ZJ I X J A0
    intro h;refine Fc fun R=>?_;have :=ZJ X I J.symm (k:=i) A0;omega
   rw[this];rfl
 rintro f H1 E ⟨rfl,J⟩;rw[Fm,Fm] at J;simp only[↓zP];refine Rx ?_;rw[J,Ab (Ec _)];rfl
theorem Ym(I:DD a)(X:DD b)(g:a.length<2^29)(e:b.length<2^29)(t1 t2:Nat)(H:aA):Sg 144 [.bJ t1 1 (nE a),.bJ t2 1 (nE b)] H (.ret (.bool (decide (cZ a<cZ b)))) H:=
 ((bCz I X g e H).aQx t2).KD t1
theorem bDa(I:DD a)(K:DD b)(g:a.length<2^29)(e:b.length<2^29)(H:aA):Sg 141 [.bJ 0 1 (nE a),.bJ 0 1 (nE b)] H (.ret (.bJ 0 1 (nE (dg (cZ a+cZ b))))) H:=by
 have w:Nat.blt 0 2=true:=rfl;refine eP fit eE bHe (Ai rfl) (by simp only[sf,xG w]) ?_ H;unfold aVc;dsimp only;simp only[↓zP,zG,Nat.reduceLT];refine cL [5,6] (fun k vs H'=>∃v c D,vs=[v,.int .i64 (c:Nat)]/\Own H' 1 v (nE D)/\D.length=k/\DD D/\c<=1/\cZ D+65536^k*c=cZ (a.take k)+cZ (b.take k)) 0 (max a.length b.length+1) (Bk _) A0 A1 ?_ ?_ ?_ ?_ ?_
 . exact Za3
 . exact⟨.bE,0,[],by simp only[sm,zB,Nat.reduceEqDiff];rfl,.nil _ _,rfl,(fun d hd=>by cases hd),by decide,by simp[cZ]⟩
 . rintro i f H1 o F E T ⟨v,c,D,J,S,U,hd,R,B⟩;have A:f 0=.bJ 0 1 (nE a):=E 0 rfl;have P:f 1=.bJ 0 1 (nE b):=E 1 rfl
   have L:IntKind.i64.wrap ((if(b.length:Int)>a.length then(b.length:Int) else a.length)+1)=((max a.length b.length+1:Nat):Int):=by rw[wrap_i64 ZaN ZaN];split<;>omega
   simp only[↓zP,zJ,Nat.reduceLT,Nat.reduceEqDiff,T,A,P,eU,L];exact tB A0
 . rintro i f H1 o F E T ⟨v,c,D,J,S,U,hd,R,B⟩;simp only[zM] at J;have A:f 0=.bJ 0 1 (nE a):=E 0 rfl;have P:f 1=.bJ 0 1 (nE b):=E 1 rfl;have p:=GJ (tag:=0) rfl a A0 i A0;have j:=GJ (tag:=0) rfl b A0 i A0;have u:=I.getD i;have s:=K.getD i;have M:=aBp B;generalize a.getD i 0=x at *;generalize b.getD i 0=y at *;have w1:IntKind.i64.wrap ((x:Int)+(y:Int))=((x+y:Nat):Int):=wI A0;have w2:IntKind.i64.wrap (((x+y:Nat):Int)+(c:Int))=((x+y+c:Nat):Int):=wI A0;have G:(((x+y+c:Nat):Int).tmod 65536)=(((x+y+c)%65536:Nat):Int):=by rw[Fx A0];omega
   have t:IntKind.i64.wrap (((x+y+c:Nat):Int).tdiv 65536)=(((x+y+c) / 65536:Nat):Int):=(by rw[Gz A0,wrap_i64 A0 A0];omega);obtain⟨r,q,V,C,Q,N⟩:=Has.push (.inr S) (ys:=nE [(x+y+c)%65536]) (bytes:=8) rfl (by simp only[eU,U,Ba,Ca];omega);rw[show nE [(x+y+c)%65536]=[[.int .i64 (((x+y+c)%65536:Nat):Int)]] from rfl] at q;refine aJ ?_;refine bP ?_;have := @J.2;refine Wz ?_;refine bQ ?_;have := @J.1;refine Wz ?_;rw[eL];simp only[q,bX];refine⟨_,(x+y+c) / 65536,D++[(x+y+c)%65536],rfl,?_,by simp[U],?_,by omega,?_⟩
   . rw[Tk];exact .inr ⟨H1.next,rfl,by omega,C⟩
   . intro d m
     rcases Ar.1 m with h|h
     . exact hd d h
     rw[Bw] at h;subst h;omega
   rw[xW,U];simp only[cZ,Nat.mul_zero,Di];exact M
 rintro f H1 E ⟨v,c,D,J,S,U,hd,R,B⟩;simp only[zM] at J;rw[Au A0,Au A0] at B
 have l:c=0:=by
  have O:=GM I;have Z:=GM K;have W:cZ a<65536^max a.length b.length:=Bg O (Bu A1 A0);have h4:cZ b<65536^max a.length b.length:=Bg Z (Bu A1 A0);rw[De] at B;generalize 65536^max a.length b.length=X at *
  rcases Ho c with h|h
  . exact h
  have :c=1:=by omega
  subst this;omega
 subst l;rw[Nat.mul_zero,Di] at B
 have z:nE D≠[]:=by intro h;have :=Am List.length h;rw[eU,U] at this;simp at this
 rcases S with ⟨_,h⟩|⟨k,n,O,Z⟩
 . exact absurd h z
 rw[n] at J;simp only[↓zP,J.1];refine fC (RV (k+2) D (by rw[U];omega) _) ?_;rw[MY hd,B];simp only[↓zP,zG,Nat.reduceLT];refine Rx ?_;exact⟨_,0,rfl,fun Y=>sJ (xG rfl _)⟩
theorem aJa(I:DD a)(X:DD b)(g:a.length<2^29)(e:b.length<2^29)(t1 t2:Nat)(H:aA):Sg 141 [.bJ t1 1 (nE a),.bJ t2 1 (nE b)] H (.ret (.bJ 0 1 (nE (dg (cZ a+cZ b))))) H:=
 ((bDa I X g e H).aQx t2).KD t1
end Go.Proofs.YtogfcjbgeebfkaaGreatDoor
