/-
  Part of the proof of statement 5
-/
import Derived.Test.YtbndcmnnbiiobaaGreatDoorA14
import Derived.Test.YtbndcmnnbiiobaaGreatDoorA11
import Derived.Test.YtbndcmnnbiiobaaGreatDoorA18
import Derived.Test.YtbndcmnnbiiobaaGreatDoorA16
import Derived.Test.YtbndcmnnbiiobaaGreatDoorA17
import Derived.Test.YtbndcmnnbiiobaaGreatDoorA07
import Derived.Test.YtbndcmnnbiiobaaGreatDoorRows
import Derived.LaidMore
import Derived.LaidLaws
import Derived.MakeChecks
import Derived.OpenShut
import Derived.Lay
import Derived.ChangeMaps5
set_option linter.unusedVariables false
set_option maxRecDepth 100000
set_option maxHeartbeats 16000000
namespace Go.Proofs.YtbndcmnnbiiobaaGreatDoor
open Go Go.Av Go.mO
attribute [local congr] aU aO aP aN aY aR aQ aI aZ
attribute [local irreducible] FC bL eU
def nC (o:List Nat):List AV:=o.map fun(k:Nat)=>AV.int .i64 (k:Int)
theorem GM (o:List Nat):(nC o).length=o.length:=Ad _
theorem Nj {o:List Nat} {k:Nat} (h:k<o.length):(nC o).getD k aD=.int .i64 (o.getD k 0:Nat):=by unfold nC;rw[List.getD,Bo,Ab h,List.getD,Ab h];rfl
theorem UO {o:List Nat} {k:Nat} (h:k<o.length) (x:Nat):(nC o).take k++[AV.int .i64 (x:Int)]++(nC o).drop (k+1)=nC (o.set k x):=by unfold nC;rw[List.map_set,Ir,if_pos (by rw[Ad];exact h)];simp
theorem jc:∀o:List Nat,bU (nC o)=true
 |[]=>rfl
 |x::o=>jc o
theorem Vq:∀{o:List Nat} {m:Nat},m<=o.length->eR 1 m (nC o)=nE (o.take m)
 |_,0,_=>rfl
 |x::o,m+1,h=>by have :=Vq (o:=o) (m:=m) (by simpa using h);simp only[nC,By,eR,nE,Dn,Eb,Gx,Cy] at this ⊢;rw[this]
theorem jy {H2:aA} {id m cap:Nat} {o:List Nat} {opn:Bool} (hg:H2.get id=some (.cells (nC o) opn)) (hm:m<=o.length) (nw:Nat):fT H2 none nw 0 (.sl id 1 0 m cap)=some (.aV 0 1 (nE (o.take m))):=by
 have hc:H2.eP id=some (nC o):=by simp[aA.eP,hg]
 have hl:Nat.ble (0+m*1) (nC o).length=true:=by rw[GM];simpa using hm
 simp only[fT,jR,hc,Cy,hl,jc,Ds,Vq hm]
theorem uT (o:List Nat):o.take (mQ o).length=mQ o:=by
 have h:∀n,n<=o.length->(∀k,n<=k->k<o.length->o.getD k 0=0)->∃m,m<=o.length/\(∀k,m<=k->k<o.length->o.getD k 0=0)/\(m=0\/o.getD (m -1) 0≠0):=by
  intro n
  induction n with
  |zero=>intro h1 h2;exact⟨0,h1,h2,.inl rfl⟩
  |succ n ih=>
   intro h1 h2;by_cases h0:o.getD n 0=0
   · exact ih (by omega) fun k h3 h4=>by
      by_cases e:k=n
      · subst e;exact h0
      exact h2 k (by omega) h4
   exact⟨n+1,h1,h2,.inr h0⟩
 obtain⟨m,h1,h2,h3⟩:=h o.length (Ak _) fun k h1 h2=>by omega
 have e:=rD h1 h2 h3;rw[<-e,Cb,Jk h1]
theorem Un {o:List Nat} (hlen:o.length<2^30) (h0:0<o.length) {id:Nat} {H:aA} (hg:H.get id=some (.cells (nC o) false)):Sg 87 [.sl id 1 0 o.length o.length] H (.ret (.sl id 1 0 (mQ o).length o.length)) H:=by
 refine lQ bBu (Af rfl) ?_;unfold W87;dsimp only;simp only[↓zP,zJ,seval];refine aH ?_;refine fK [3] (fun n vs H'=>H'=H/\vs=[.int .i64 n]/\n<=o.length/\∀k,n<=k->k<o.length->o.getD k 0=0) o.length (by rfl) ?_ ?_
 · exact⟨rfl,by simp only[sm,zB,seval],Ak _,fun k h1 h2=>absurd h2 (by omega)⟩
 rintro n f H1 hk ⟨rfl,hv,hn,hz⟩;simp only[zM] at hv;have f0:f 0=.sl id 1 0 o.length o.length:=hk 0 rfl
 have Mk:iY 1 (.sl id 1 0 o.length o.length) none (some n) none=some (.sl id 1 0 n o.length):=by simp only[iY,Dg,Bc];rw[if_pos ⟨trivial,Bb _⟩,if_pos hn,if_neg (by omega)];rfl
 have wE:(n=0\/o.getD (n -1) 0≠0)->n=(mQ o).length:=fun h=>by rw[<-rD hn hz h,Cb,Jk hn]
 by_cases Wb:n=0
 · have hd:decide ((n:Int)>0)=false:=Ae (by omega);have e:=wE (.inl Wb);simp only[↓zP,zJ,seval,hv,hd,f0,cZ,aB,Mk,Bu,Bd];refine Rx ?_;exact⟨by rw[e];rfl,rfl⟩
 have hd:decide ((n:Int)>0)=true:=Al (by omega);have w1:IntKind.i64.wrap ((n:Int) -1)=((n -1:Nat):Int):=wI (by omega);have DJ:n -1<o.length:=by omega
 have Mf:=Nj DJ;by_cases Mm:o.getD (n -1) 0=0
 · have hb:(((o.getD (n -1) 0:Nat):Int)==0)=true:=by rw[Mm];rfl
   simp only[↓zP,zJ,seval,hv,hd,f0,w1,aB,GM,DJ,hg,Mf,hb,show n -1+1<=o.length by omega];refine aH ?_;simp only[↓zP,zG,seval,hv,w1];refine⟨n -1,by omega,trivial,rfl,by omega,fun k h1 h2=>?_⟩;by_cases e:k=n -1
   · subst e;exact Mm
   exact hz k (by omega) h2
 have hb:(((o.getD (n -1) 0:Nat):Int)==0)=false:=by rw[Ca];omega
 have e:=wE (.inr Mm);simp only[↓zP,zJ,seval,hv,hd,f0,w1,aB,GM,DJ,hg,Mf,hb,cZ,Mk,Bu,Bd,show n -1+1<=o.length by omega];refine Rx ?_;exact⟨by rw[e];rfl,rfl⟩
theorem Ui:∀n:Nat,(List.replicate n [AV.int .i64 0]).flatten=nC (List.replicate n 0)
 |0=>rfl
 |n+1=>by have :=Ui n;simp only[Dv,Bp,nC,By,Iy] at this ⊢;rw[this];rfl
theorem Xp:∀n:Nat,bR (List.replicate n 0)=0
 |0=>rfl
 |n+1=>by rw[Dv];simp only[bR,Xp n]
theorem aVh {a:List Nat} (ha:DD a) {i:Nat} (hi:i<=a.length):10*bR (a.take i)<65536^(a.length+2):=by have h1:=qB ha hi;have h2:65536^i<=65536^a.length:=Dq (by decide) hi;rw[Dd,Dd];omega
theorem aJn {a:List Nat} (ha:DD a) (RJ:a.length<2^20) (H:aA):Sg 86 [.aV 0 1 (nE a),.aV 1 1 [[.int .i64 10]]] H (.ret (.aV 0 1 (nE (dg (10*bR a))))) H:=by
 refine dH fit dQ bBt (Af rfl) (by simp only[sf,SF]) ?_ H;unfold W86;dsimp only;have w1:IntKind.i64.wrap ((a.length:Int)+1)=((a.length+1:Nat):Int):=wI (by omega);have w2:IntKind.i64.wrap (((a.length+1:Nat):Int)+1)=((a.length+2:Nat):Int):=wI (by omega);simp only[↓zP,zJ,seval,cF,w1,w2,aB,show 8*(a.length+2)<=1099511627776 by omega,Ui];refine bG [] (fun i _ H'=>∃o,H'.get 0=some (.cells (nC o) false)/\o.length=a.length+2/\DD o/\bR o=10*bR (a.take i)) 0 a.length (Bb _) (by omega) (by decide) ?_ ?_ ?_ ?_ ?_
 · simp only[zB,seval]
 · exact⟨List.replicate (a.length+2) 0,by simp only[zI,seval],by simp,fun d hd=>by rw[Ff hd];decide,by rw[Xp];rfl⟩
 · rintro i f H1 h0 hi hk e1 _;have f0:f 0=.aV 0 1 (nE a):=hk 0 rfl;simp only[↓zP,zG,seval,e1,f0,cF];exact tB (by omega)
 · rintro i f H1 h0 hi hk e1 ⟨o,g0,ol,hd,hv⟩;have f0:f 0=.aV 0 1 (nE a):=hk 0 rfl;have f1:f 1=.aV 1 1 [[.int .i64 10]]:=hk 1 rfl;have f5:f 5=.sl 0 1 0 (a.length+2) (a.length+2):=hk 5 rfl;have hai:=ha.getD i;have hoi:=hd.getD i;have BN:i<o.length:=by omega
   have AJ:=Nj BN;have hni:(nE a).getD i []=[.int .i64 (a.getD i 0:Nat)]:=by rw[JP hi,kW hi]
   have xJ:bR (o.set i (o.getD i 0+a.getD i 0*10))=10*bR (a.take (i+1)):=by
    have h1:=Qc BN (o.getD i 0+a.getD i 0*10);rw[DX hi,Ej,<-hv]
    have h2:65536^i*(o.getD i 0+a.getD i 0*10)=65536^i*o.getD i 0+10*(65536^i*a.getD i 0):=by rw[Ej,Da (a.getD i 0) 10,Nat.mul_left_comm]
    omega
   have eQ:=aVh ha (i:=i+1) hi
   have ER:∀j,(o.set i (o.getD i 0+a.getD i 0*10)).getD j 0<2^20:=fun j=>by
    by_cases e:j=i
    · subst e;rw[List.getD,Hj BN,Bc];omega
    rw[List.getD,Gs (Ne.symm e),<-List.getD];have :=hd.getD j;omega
   have KT:=UO BN (o.getD i 0+a.getD i 0*10);have w3:IntKind.i64.wrap ((i:Int)+0)=i:=wI (by omega);have w4:IntKind.i64.wrap (((a.getD i 0:Nat):Int)*10)=((a.getD i 0*10:Nat):Int):=wI (by omega);have w5:IntKind.i64.wrap (((o.getD i 0:Nat):Int)+((a.getD i 0*10:Nat):Int))=((o.getD i 0+a.getD i 0*10:Nat):Int):=wI (by omega);have nol:(nC o).length=a.length+2:=(by rw[GM,ol]);refine aH ?_;refine aJ fun K hK=>?_;simp only[↓zP,zG,seval];refine bG [] (fun k _ H'=>H'.get 0=some (.cells (nC (if k=0 then o else o.set i (o.getD i 0+a.getD i 0*10))) false)) 0 1 (by decide) (by decide) (by decide) ?_ ?_ ?_ ?_ ?_
   · simp only[zB,seval]
   · exact g0
   · rintro k f2 H2 _ RI dA e2 _;have q1:f2 1=.aV 1 1 [[.int .i64 10]]:=(dA 1 rfl).trans f1;simp only[↓zP,zJ,seval,e2,q1];exact tB (by omega)
   · rintro k f2 H2 _ RI dA e2 g2;obtain rfl:k=0:=by omega
     rw[if_pos rfl] at g2;have q0:f2 0=.aV 0 1 (nE a):=(dA 0 rfl).trans f0;have q1:f2 1=.aV 1 1 [[.int .i64 10]]:=(dA 1 rfl).trans f1;have q5:f2 5=.sl 0 1 0 (a.length+2) (a.length+2):=(dA 5 rfl).trans f5;have q6:f2 6=.int .i64 i:=(dA 6 rfl).trans e1;refine aH ?_;refine Dz ?_;simp only[↓zP,zJ,seval,zD,q0,q1,q5,q6,e2,w3,jI,aB,g2,nol,show i<a.length+2 by omega,show i+1<=a.length+2 by omega,AJ,hni,cF,hi,w4,w5,KT]
   rintro f2 H2 dA g2;rw[if_neg (by decide)] at g2;have q5:f2 5=.sl 0 1 0 (a.length+2) (a.length+2):=(dA 5 rfl).trans f5;simp only[↓zP,seval];apply hK;clear hK K;refine bS ?_;simp only[↓zP,zG,seval];refine bT ?_;simp only[↓zP,zG,seval];refine bG [8] (fun k vs H'=>∃(o:List Nat) (c:Nat),vs=[.int .i64 c]/\H'.get 0=some (.cells (nC o) false)/\o.length=a.length+2/\bR o+65536^k*c=10*bR (a.take (i+1))/\c<32/\(∀j,o.getD j 0<2^20)/\∀j,j<k->o.getD j 0<65536) 0 (a.length+2) (Bb _) (by omega) (by decide) ?_ ?_ ?_ ?_ ?_
   · simp only[zB,seval]
   · exact⟨_,0,by simp only[sm,zB,seval],g2,by rw[Eg,ol],by rw[xJ];rfl,by decide,ER,fun j hj=>absurd hj (Ax _)⟩
   · rintro k f3 H3 _ kR aRz e3 _;have p5:f3 5=.sl 0 1 0 (a.length+2) (a.length+2):=(by rw[aRz 5 rfl];simp only[zB,seval,q5]);simp only[↓zP,zG,seval,e3,p5];exact tB (by omega)
   · rintro k f3 H3 _ kR aRz e3 ⟨o2,c,fP,g3,ol3,hT,hc,hb3,hd3⟩;simp only[zM] at fP;have p5:f3 5=.sl 0 1 0 (a.length+2) (a.length+2):=(by rw[aRz 5 rfl];simp only[zB,seval,q5]);have VK:k<o2.length:=(by omega);have hg3:=Nj VK;have eF:=Yf VK hT;have hb:=hb3 k;have bIx:(nC o2).length=a.length+2:=(by rw[GM,ol3]);have bEo:=UO VK ((o2.getD k 0+c)%65536)
     have bEh:∀j,(o2.set k ((o2.getD k 0+c)%65536)).getD j 0<2^20:=fun j=>by
      by_cases e:j=k
      · subst e;rw[List.getD,Hj VK,Bc];omega
      rw[List.getD,Gs (Ne.symm e),<-List.getD];exact hb3 j
     have bEq:∀j,j<k+1->(o2.set k ((o2.getD k 0+c)%65536)).getD j 0<65536:=fun j hj=>by
      by_cases e:j=k
      · subst e;rw[List.getD,Hj VK,Bc];omega
      rw[List.getD,Gs (Ne.symm e),<-List.getD];exact hd3 j (by omega)
     have gg:(o2.set k ((o2.getD k 0+c)%65536)).length=a.length+2:=(by rw[Eg,ol3]);generalize o2.getD k 0=x at *;have v1:IntKind.i64.wrap ((x:Int)+(c:Int))=((x+c:Nat):Int):=wI (by omega);have v2:((x+c:Nat):Int).tmod 65536=(((x+c)%65536:Nat):Int):=(by rw[Cu (by omega)];omega);have v3:IntKind.i64.wrap (((x+c:Nat):Int).tdiv 65536)=(((x+c) / 65536:Nat):Int):=(by rw[Eu (by omega),wrap_i64 (by omega) (by omega)];omega);refine aH ?_;simp only[↓zP,zJ,seval,p5,e3,fP,aB,kR,g3,bIx,show k+1<=a.length+2 by omega,hg3,v1,v2,v3,bEo];exact⟨_,(x+c) / 65536,rfl,rfl,gg,eF,by omega,bEh,bEq⟩
   rintro f3 H3 kR ⟨o2,c,fP,g3,ol3,hT,hc,hb3,hd3⟩
   have hc0:c=0:=by
    rcases Gi c with h|h
    · exact h
    have :65536^(a.length+2)*1<=65536^(a.length+2)*c:=Ey _ h;omega
   subst hc0;refine⟨o2,g3,ol3,fun d hd=>?_,by rw[<-hT];rfl⟩;obtain⟨j,hj,rfl⟩:=Cv hd;have :=hd3 j (by omega)
   rwa [kW hj] at this
 rintro f H1 hk ⟨o,g0,ol,hd,hv⟩;have f5:f 5=.sl 0 1 0 (a.length+2) (a.length+2):=hk 5 rfl;have ht:=Un (by omega) (by omega) g0;have hs:=jy (cap:=a.length+2) g0 (KM o);rw[uT] at hs;rw[Ar] at hv;rw[ol] at ht;rw[sF hd,hv] at ht hs;simp only[↓zP,seval,f5];refine bK (ht) ?_;simp only[↓zP,zG,seval];refine Rx ?_;exact⟨_,0,rfl,hs⟩
theorem aJo (H:aA):Sg 86 [.aS,.aV 1 1 [[.int .i64 10]]] H (.ret (.aV 0 1 [])) H:=by
 refine dH fit dQ bBt (Af rfl) (by simp only[sf]) ?_ H;unfold W86;dsimp only;have w1:IntKind.i64.wrap 1=1:=rfl;have w2:IntKind.i64.wrap 2=2:=rfl;simp only[↓zP,zJ,seval,jI,w1,w2];refine bG [] (fun i _ H'=>H'.get 0=some (.cells (nC [0,0]) false)) 0 0 (Bb _) (by decide) (by decide) ?_ ?_ ?_ ?_ ?_
 · simp only[zB,seval]
 · rfl
 · rintro i f H1 h0 hi hk e1 _;have f0:f 0=.aS:=hk 0 rfl;simp only[↓zP,zG,seval,e1,f0];exact tB (by omega)
 · rintro i f H1 h0 hi hk;exact absurd hi (Ax _)
 rintro f H1 hk g0;have f5:f 5=.sl 0 1 0 2 2:=hk 5 rfl;have ht:Sg 87 [.sl 0 1 0 2 2] H1 (.ret (.sl 0 1 0 (mQ [0,0]).length 2)) H1:=Un (o:=[0,0]) (by decide) (by decide) g0;have hs:=jy (cap:=2) g0 (KM _);simp only[↓zP,seval,f5];refine bK (ht) ?_;simp only[↓zP,zG,seval];refine Rx ?_;exact⟨_,0,rfl,hs⟩
theorem aKa {c:UInt8} {n:Nat} (hn:n<256):((c.toNat:Int)==(n:Int))=(c==UInt8.ofNat n):=by
 rw[Du,Dc,Dc];constructor
 · intro h;have h:c.toNat=n:=by omega
   rw[<-h];simp
 intro h;have :=Ao UInt8.toNat h;rw[Jp] at this;omega
theorem u45 (c:UInt8):((c.toNat:Int)==45)=(c==45):=aKa (n:=45) (by decide)
theorem u48 (c:UInt8):((c.toNat:Int)==48)=(c==48):=aKa (n:=48) (by decide)
theorem KP:∀(j:Nat) (l:List UInt8),kQ (l.take (l.length -j))<=kQ l
 |0,l=>by simp
 |j+1,l=>by
  have ih:=KP j l;by_cases h:l.length<=j
  · rw[show l.length -(j+1)=l.length -j by omega];exact ih
  have hk:l.length -(j+1)<l.length:=by omega
  rw[show l.length -j=l.length -(j+1)+1 by omega,Ap,Ab hk] at ih;rw[show(some l[l.length -(j+1)]).toList=[l[l.length -(j+1)]] from rfl,yD] at ih;omega
theorem vh {l:List UInt8} {k:Nat} (hk:k<=l.length):kQ (l.take k)<=kQ l:=by
 have :=KP (l.length -k) l
 rwa [show l.length -(l.length -k)=k by omega] at this
theorem Vp {s:List UInt8} (h:kV s=false):pZ s=none/\eZ s=281:=by unfold pZ eZ;rw[if_neg (by rw[h];simp),if_pos h];exact⟨rfl,rfl⟩
def rZ (s:List UInt8):Nat:=if s.head?=some 45 then 1 else 0
theorem aHy (s:List UInt8):s.length=rZ s+(cX s).length/\∀k,s[rZ s+k]?=(cX s)[k]?:=by
 unfold rZ cX
 cases s with
 |nil=>simp
 |cons c r=>
  by_cases h:(c::r).head?=some 45
  · rw[if_pos h,if_pos h];simp only[List.drop_one,List.tail_cons,Ah];exact⟨by omega,fun k=>by rw[Hh 1 k];simp⟩
  rw[if_neg h,if_neg h];simp
theorem tl {s:List UInt8} (hs:s.length<2^28) (H:aA):Sg 42 [.str s] H (.ret (.gP [.agg (cO (pZ s)),.int .i64 (eZ s)])) H:=by
 refine Sp bHj (by simp only[sf]) (by simp only[sf,tG]) ?_ H;unfold W42;dsimp only;have wD:wU.length=18:=rfl;refine bS ?_;simp only[↓zP,zJ,seval];refine bT ?_;obtain⟨H0,oo⟩:∃H0,H0=({next:=0,tr:=Tr.nil}:aA).alloc (dY.cells (AV.bool false::AV.bool false::wC zs) false):=⟨_,rfl⟩;have g0:H0.get 0=some (.cells (AV.bool false::AV.bool false::wC zs) false):=by rw[oo];rfl
 rw[<-oo];clear oo;obtain⟨Mk,hsk⟩:=aHy s;obtain⟨ng,hng⟩:∃ng,(s.head?==some 45)=ng:=⟨_,rfl⟩
 have ZY:rZ s=if ng=true then 1 else 0:=by
  unfold rZ;rw[<-hng];by_cases h:s.head?=some 45
  · rw[if_pos h,if_pos (by rw[h];rfl)]
  rw[if_neg h,if_neg (by simpa using h)]
 refine aJ fun K hK=>?_
 have ph:∀f':cU,f' 0=.str s->f' 2=.ref 0 0->f' 3=.int .i64 0->f' 4=.bool ng->K f' [] H0:=by
  intro f' f0 f2 f3 f4;apply hK;clear hK K;refine bS ?_;simp only[↓zP,zG,seval];refine bT ?_;refine aJ fun K hK=>?_
  have ph2:∀f':cU,f' 0=.str s->f' 2=.ref 0 0->f' 3=.int .i64 0->f' 4=.bool ng->f' 5=.int .i64 (rZ s:Nat)->K f' [] H0:=by
   clear f0 f2 f3 f4 f';intro f' f0 f2 f3 f4 f5;apply hK;clear hK K;refine aJ fun K hK=>?_
   have ph3:∀f':cU,f' 0=.str s->f' 2=.ref 0 0->f' 3=.int .i64 0->f' 4=.bool ng->f' 5=.int .i64 (rZ s:Nat)->(cX s).isEmpty=false->((cX s).head? != some 48||s==[48])=true->K f' [] H0:=by
    clear f0 f2 f3 f4 f5 f';intro f' f0 f2 f3 f4 f5 bN h48;apply hK;clear hK K;refine aJ fun K hK=>?_
    have ph4:∀f':cU,f' 0=.str s->f' 2=.ref 0 0->f' 4=.bool ng->f' 5=.int .i64 (rZ s:Nat)->(cX s).all rM=true->K f' [] H0:=by
     clear f0 f2 f3 f4 f5 f';intro f' f0 f2 f4 f5 dB;have BM:kV s=true:=by unfold kV;rw[bN,h48,dB];rfl
     have hsg:sg ng (kQ (cX s))=jw s:=by
      unfold sg jw;rw[<-hng];by_cases h:s.head?=some 45
      · rw[if_pos h,if_pos (by rw[h];rfl)]
      rw[if_neg h,if_neg (by simpa using h)]
     have ZR:cX s≠[]:=(by simpa using bN);have NN:0<(cX s).length:=Ij.2 ZR;apply hK;clear hK K;refine bS ?_;simp only[↓zP,zG,seval];refine bT ?_;refine aJ fun K hK=>?_;simp only[↓zP,zG,seval,f5];refine bG [7] (fun k vs H'=>H'=H0/\vs=[if k=rZ s then .aS else .aV 0 1 (nE (dg (kQ ((cX s).take (k -rZ s)))))]/\kQ ((cX s).take (k -rZ s))<W^16) (rZ s) s.length (by omega) (by omega) (by decide) ?_ ?_ ?_ ?_ ?_
     · simp only[zB,seval]
     · exact⟨rfl,by simp only[sm,zB,seval],by rw[Kc,Eb];decide⟩
     · rintro k VD H1 h0 hk WZ e1 _;have q0:VD 0=.str s:=(WZ 0 rfl).trans f0;simp only[↓zP,zG,seval,e1,q0];exact tB (by omega)
     · rintro k VD H1 h0 hk WZ e1 ⟨rfl,fP,hV⟩;simp only[zM] at fP;have q0:VD 0=.str s:=(WZ 0 rfl).trans f0;have q2:VD 2=.ref 0 0:=(WZ 2 rfl).trans f2;obtain⟨m,rfl⟩:∃m,k=rZ s+m:=⟨k -rZ s,by omega⟩;have hm:m<(cX s).length:=by omega
       obtain⟨c,hc⟩:∃c,(cX s)[m]?=some c:=⟨_,Ab hm⟩
       have hx:=(hsk m).trans hc;have o5:=Ba.1 dB c (Jg hc);simp only[rM,Am,Bh] at o5;rw[show rZ s+m -rZ s=m by omega] at fP hV;rw[show rZ s+m+1 -rZ s=m+1 by omega,if_neg (by omega)]
       have hV1:kQ ((cX s).take (m+1))=10*kQ ((cX s).take m)+(c.toNat -48):=by rw[Ap,hc,Ec,yD]
       have xF:=vh (l:=cX s) (k:=m+1) (by omega);generalize kQ ((cX s).take (m+1))=V1 at *;have p9:=iU.2 hV
       have htm:∀H,Sg 86 [VD 7,.aV 1 1 [[.int .i64 10]]] H (.ret (.aV 0 1 (nE (dg (10*kQ ((cX s).take m)))))) H:=fun H=>by
        rw[fP];by_cases JA:m=0
        · rw[if_pos (by omega)];subst JA;rw[Eb,show kQ []=0 from rfl,Ke,pL];exact aJo H
        rw[if_neg (by omega)];have :=aJn (vC (kQ ((cX s).take m))) (by omega) H
        rwa [nS] at this
       have hvt:(dg (10*kQ ((cX s).take m))).length<=33:=DC (by
        have e:(65536:Nat)^33=65536*W^16:=pow_odd 16
        omega)
       generalize kQ ((cX s).take m)=V at *;obtain⟨y,hy⟩:∃y:Nat,c.toNat=48+y:=⟨c.toNat -48,by omega⟩;rw[hy] at hV1;have w1:IntKind.i64.wrap (c.toNat:Int)=c.toNat:=wrap_i64 (by omega) (by omega);have w2:IntKind.i64.wrap ((c.toNat:Int) -48)=y:=wI (by omega);have hD1:DD [y]:=fun d hd=>by rw[Bq] at hd;subst hd;omega
       have htr:∀H,Sg 87 [.aV 1 1 [[.int .i64 (y:Int)]]] H (.ret (.aV 0 1 (nE (dg y)))) H:=fun H=>by
        have :=KF 1 [y] (by simp) H
        rwa [sF hD1,show bR [y]=y by simp[bR]] at this
       have nP:=Xb (vC (10*V)) (vC y) (by omega) (by have :=DC (k:=1) (n:=y) (by omega);omega) 0 0;rw[nS,nS,show 10*V+y=V1 by omega] at nP;refine aH ?_;refine bS ?_;refine Dz ?_;simp only[↓zP,zJ,seval,zD];refine eT (htm _) ?_;simp only[↓zP,zJ,seval,zD,q0,e1,aB,hx,w1,w2];refine eT (htr _) ?_;simp only[seval];refine eT (nP _) ?_;simp only[↓zP,zJ,seval,zD];refine bT ?_;by_cases yS:V1<W^16
       · have hle:=iU.2 yS;have d1:decide (((dg V1).length:Int)>32)=false:=Ae (by omega);simp only[↓zP,zJ,seval,cF,d1];exact⟨trivial,trivial,yS⟩
       have hle:¬(dg V1).length<=32:=fun h=>yS (iU.1 h);have d1:decide (((dg V1).length:Int)>32)=true:=Al (by omega)
       have hp:pZ s=none:=by rw[aDg BM];unfold norm;rw[if_neg (by rw[DT];omega)]
       have he:eZ s=30:=by unfold eZ;rw[if_neg (by rw[BM];decide),hp];rfl
       simp only[↓zP,zJ,seval,cF,d1];refine bK (zN _) ?_;simp only[↓zP,zJ,seval,q2,g0,oL wD];refine⟨rfl,_,by simp only[↓zP,zR,seval,q2,oL wD];rfl,?_⟩;rw[hp,he];rfl
     rintro VD H1 WZ ⟨rfl,fP,hV⟩;simp only[zM] at fP;have q2:VD 2=.ref 0 0:=(WZ 2 rfl).trans f2;have q4:VD 4=.bool ng:=(WZ 4 rfl).trans f4;rw[show s.length -rZ s=(cX s).length by omega,Ar] at fP hV;rw[if_neg (by omega)] at fP;have hle:=iU.2 hV;have NO:=uQ ng 0 (vC (kQ (cX s))) (by omega);rw[nS,hsg,<-aDg BM] at NO
     have he:eZ s=0:=by
      unfold eZ
      have vJ:norm (jw s)=some (jw s):=by unfold norm;rw[if_pos (by rw[DT];exact hV)]
      rw[if_neg (by rw[BM];decide),aDg BM,vJ];rfl
     have hz:=isZ s;simp only[↓zP,seval];apply hK;clear hK K;simp only[↓zP,zG,seval,q4,fP];refine bK (NO _) ?_;simp only[↓zP,zJ,seval,q2,g0,oL hz];refine⟨rfl,_,by simp only[↓zP,zR,seval,q2,oL hz];rfl,?_⟩;rw[he];rfl
    simp only[↓zP,zG,seval,f5];refine bG [] (fun k _ H'=>H'=H0/\∀j,j<k -rZ s->rM ((cX s).getD j 0)=true) (rZ s) s.length (by omega) (by omega) (by decide) ?_ ?_ ?_ ?_ ?_
    · simp only[zB,seval]
    · exact⟨rfl,fun j hj=>by omega⟩
    · rintro k VD H1 h0 hk WZ e1 _;have q0:VD 0=.str s:=(WZ 0 rfl).trans f0;simp only[↓zP,zG,seval,e1,q0];exact tB (by omega)
    · rintro k VD H1 h0 hk WZ e1 ⟨rfl,hJ⟩;have q0:VD 0=.str s:=(WZ 0 rfl).trans f0;have q2:VD 2=.ref 0 0:=(WZ 2 rfl).trans f2;obtain⟨m,rfl⟩:∃m,k=rZ s+m:=⟨k -rZ s,by omega⟩;have hm:m<(cX s).length:=by omega
      obtain⟨c,hc⟩:∃c,(cX s)[m]?=some c:=⟨_,Ab hm⟩
      have hx:=(hsk m).trans hc;have hcd:(cX s).getD m 0=c:=(by rw[List.getD,hc];rfl);refine aH ?_;by_cases o5:rM c=true
      · have aWl:=o5;simp only[rM,Am,Bh] at aWl;have d1:decide ((c.toNat:Int)<48)=false:=Ae (by omega);have d2:decide ((c.toNat:Int)>57)=false:=Ae (by omega);simp only[↓zP,zG,seval,q0,e1,aB,hx,d1,d2];refine⟨trivial,fun j hj=>?_⟩;by_cases e:j=m
        · subst e;rw[hcd];exact o5
        exact hJ j (by omega)
      obtain⟨h1,h2⟩:=Vp (s:=s) (by
       have :(cX s).all rM=false:=by rw[Hu];exact⟨c,Jg hc,by simpa using o5⟩
       unfold kV
       rw[this,Bool.and_false])
      simp only[rM,Am,Bh] at o5;by_cases AK:c.toNat<48
      · have d1:decide ((c.toNat:Int)<48)=true:=Al (by omega);simp only[↓zP,zG,seval,q0,e1,aB,hx,d1];refine bK (zN _) ?_;simp only[↓zP,zJ,seval,q2,g0,oL wD];refine⟨rfl,_,by simp only[↓zP,zR,seval,q2,oL wD];rfl,?_⟩;rw[h1,h2];rfl
      have d1:decide ((c.toNat:Int)<48)=false:=Ae (by omega);have d2:decide ((c.toNat:Int)>57)=true:=Al (by omega);simp only[↓zP,zG,seval,q0,e1,aB,hx,d1,d2];refine bK (zN _) ?_;simp only[↓zP,zJ,seval,q2,g0,oL wD];refine⟨rfl,_,by simp only[↓zP,zR,seval,q2,oL wD];rfl,?_⟩;rw[h1,h2];rfl
    rintro VD H1 WZ ⟨rfl,hJ⟩;simp only[↓zP,seval];refine ph4 VD ((WZ 0 rfl).trans f0) ((WZ 2 rfl).trans f2) ((WZ 4 rfl).trans f4) ((WZ 5 rfl).trans f5) ?_;rw[Ba];intro c hc;obtain⟨j,hj,rfl⟩:=Cv hc;have :=hJ j (by omega)
    rwa [List.getD,Ab hj] at this
   have bad:kV s=false->pZ s=none/\eZ s=281:=Vp
   cases hd:cX s with
   |nil=>have hb:(((s.length:Nat):Int)==((rZ s:Nat):Int))=true:=(by rw[Dc,Mk,hd];simp);obtain⟨h1,h2⟩:=bad (by unfold kV;rw[hd];rfl);rw[h1,h2];simp only[↓zP,zG,seval,f0,f5,hb,yR];refine bK (zN _) ?_;simp only[↓zP,zJ,seval,f2,g0,oL wD];refine⟨rfl,_,by simp only[↓zP,zR,seval,f2,oL wD];rfl,?_⟩;rfl
   |cons d rest=>
    have hb:(((s.length:Nat):Int)==((rZ s:Nat):Int))=false:=by rw[Ca,Mk,hd];simp only[Ah];omega
    have hx:s[rZ s]?=some d:=by have :=hsk 0;rw[hd] at this;simpa using this
    rw[hd] at ph3
    cases d48:d==48 with
    |false=>
     simp only[↓zP,zG,seval,f0,f5,hb,aB,hx,u48,d48,yR]
     exact ph3 _ (by simp only[zB,seval];exact f0) (by simp only[zB,seval];exact f2) (by simp only[zB,seval];exact f3) (by simp only[zB,seval];exact f4) (by simp only[zB,seval];exact f5) rfl (by
      have :(some d != some (48:UInt8))=true:=by rw[El];intro e;cases e;cases d48
      rw[show(d::rest).head?=some d from rfl,this]
      rfl)
    |true=>
     have e48:d=48:=by simpa using d48
     cases ng with
     |true=>
      obtain⟨h1,h2⟩:=bad (by
       unfold kV
       rw[hd,e48,show(s==[48])=false from by
        rw[Ca];intro e;rw[e] at hng
        cases hng]
       rfl)
      simp only[↓zP,zG,seval,f0,f4,f5,hb,aB,hx,u48,d48];refine bK (zN _) ?_;simp only[↓zP,zJ,seval,f2,g0,oL wD];refine⟨rfl,_,by simp only[↓zP,zR,seval,f2,oL wD];rfl,?_⟩;rw[h1,h2];rfl
     |false=>
      by_cases hgt:s.length>1
      · have dg1:decide (((s.length:Nat):Int)>1)=true:=Al (by omega)
        obtain⟨h1,h2⟩:=bad (by
         unfold kV
         rw[hd,e48,show(s==[48])=false from by
          rw[Ca];intro e;rw[e] at hgt
          exact absurd hgt (by decide)]
         rfl)
        simp only[↓zP,zG,seval,f0,f4,f5,hb,aB,hx,u48,d48,dg1];refine bK (zN _) ?_;simp only[↓zP,zJ,seval,f2,g0,oL wD];refine⟨rfl,_,by simp only[↓zP,zR,seval,f2,oL wD];rfl,?_⟩;rw[h1,h2];rfl
      have dg1:decide (((s.length:Nat):Int)>1)=false:=Ae (by omega);simp only[↓zP,zG,seval,f0,f4,f5,hb,aB,hx,u48,d48,dg1]
      have bGb:s=[48]:=by
       match s,hgt,hx,ZY,hd with
       |[c],_,hx,ZY,hd=>rw[ZY] at hx;simp at hx;rw[hx,e48]
       |[],_,hx,_,_=>simp at hx
       |c::c2::r,hgt,_,_,_=>simp at hgt
      exact ph3 _ (by simp only[zB,seval];exact f0) (by simp only[zB,seval];exact f2) (by simp only[zB,seval];exact f3) (by simp only[zB,seval];exact f4) (by simp only[zB,seval];exact f5) rfl (by rw[bGb];simp)
  cases ng with
  |true=>simp only[↓zP,zG,seval,f4];exact ph2 _ (by simp only[zB,seval];exact f0) (by simp only[zB,seval];exact f2) (by simp only[zB,seval];exact f3) (by simp only[zB,seval];exact f4) (by simp only[zB,seval];rw[ZY];rfl)
  |false=>simp only[↓zP,zG,seval,f4];exact ph2 _ (by simp only[zB,seval];exact f0) (by simp only[zB,seval];exact f2) (by simp only[zB,seval];exact f3) (by simp only[zB,seval];exact f4) (by simp only[zB,seval];rw[ZY];rfl)
 cases s with
 |nil=>simp only[↓zP,zJ,seval,Fm];exact ph _ (by simp only[zB,seval,dW,Ci]) (by simp only[zB,seval]) (by simp only[zB,seval]) (by simp only[zB,seval];rw[<-hng];rfl)
 |cons c r=>have hd:decide (((r.length+1:Nat):Int)>0)=true:=Al (by omega);simp only[↓zP,zJ,seval,jI,hd,Ep,u45];exact ph _ (by simp only[zB,seval,dW,Ci]) (by simp only[zB,seval]) (by simp only[zB,seval]) (by simp only[zB,seval];rw[<-hng];simp)
theorem XR (H:aA):Sg 43 [.agg wU] H (.ret (.gP [.int .i64 0,.bool false])) H:=by refine So aTh (by simp only[sf,wU]) ?_ H;unfold W43;dsimp only;have gz:=nK fZ.bad;have wD:wU.length=18:=rfl;refine bS ?_;simp only[↓zP,zJ,seval];refine bT ?_;refine aJ fun K hK=>?_;simp only[↓zP,zJ,seval,oL wD];refine bK (gz _) ?_;simp only[↓zP,zJ,seval,Bu];refine Rx ?_;rfl
theorem bo {z:Int} (hz:z.natAbs<W^16) (h:¬(-2^63<=z/\z<2^63)) (H:aA):Sg 43 [.agg (cI z)] H (.ret (.gP [.int .i64 0,.bool false])) H:=by
 refine So aTh (by simp only[sf,cH]) ?_ H;unfold W43;dsimp only;have gz:=nK (fZ.enc hz);have lo:=rA (z:= -9223372036854775808) (by decide) (by decide);have hi:=rA (z:=9223372036854775807) (by decide) (by decide);have c1:=vM hz (y:= -9223372036854775808) (by decide);have c2:=vM hz (y:=9223372036854775807) (by decide);have fS:∀z,(cI z).length=18:=fun z=>by simp[cI,cM,bW]
 refine bS ?_;simp only[↓zP,zJ,seval];refine fL ?_;simp only[↓zP,zJ,seval];refine bK (gz _) ?_;simp only[Bd];simp only[↓zP,zJ,seval];refine fL ?_;simp only[↓zP,seval,zI];refine bK (lo _) ?_;simp only[↓zP,zJ,seval,oL (fS (-9223372036854775808))];refine fL ?_;simp only[↓zP,seval,zI];refine bK (hi _) ?_;simp only[↓zP,zJ,seval,oL (fS 9223372036854775807)];refine bT ?_;refine aJ fun K hK=>?_;simp only[↓zP,zJ,seval];refine bK (c1 _) ?_;by_cases AK:z< -2^63
 · have d1:decide (iH (some z) (some (-9223372036854775808))<0)=true:=Al (by simp only[iH];rw[if_pos (by omega)];decide);simp only[↓zP,zG,seval,d1];refine Rx ?_;rfl
 have d1:decide (iH (some z) (some (-9223372036854775808))<0)=false:=Ae (by simp only[iH];split<;>(try split)<;>omega);have d2:decide (iH (some z) (some 9223372036854775807)>0)=true:=Al (by simp only[iH];rw[if_neg (by omega),if_pos (by omega)];decide);simp only[↓zP,zJ,seval,d1];refine bK (c2 _) ?_;simp only[↓zP,zG,seval,d2];refine Rx ?_;rfl
theorem bDe {s:List UInt8} {z:Int} (h:pZ s=some z):z.natAbs<W^16:=by
 unfold pZ norm at h;split at h
 · split at h
   · rename_i q;cases h;exact q
   cases h
 cases h
theorem bm (s:List UInt8) (H:aA):Sg 43 [.agg (cO (pZ s))] H (.ret (.gP [.int .i64 (eN (pZ s)).1,.bool (eN (pZ s)).2])) H:=by
 cases hp:pZ s with
 |none=>exact XR H
 |some z=>
  have hz:=bDe hp;by_cases h: -2^63<=z/\z<2^63
  · simp only[eN,if_pos h];exact Lx h.1 h.2 H
  simp only[eN,if_neg h];exact bo hz h H
def MJ (xs:List (List UInt8)):AV:=match pT xs with
 |some ns=>.gP [nH ns,.bool true]
 |none=>.gP [.aS,.bool false]
theorem qg {xs:List (List UInt8)} (h:∀x∈xs,(pI x).isSome=true):pT xs=some (xs.filterMap pI):=by unfold pT;rw[if_pos (Ba.2 h)]
theorem aBr {xs:List (List UInt8)} {x:List UInt8} (hx:x∈xs) (h:pI x=none):pT xs=none:=by unfold pT;rw[if_neg];intro ha;have :=Ba.1 ha x hx;rw[h] at this;cases this
theorem aUz {xs:List (List UInt8)} (hl:xs.length<2^30) (hs:∀x∈xs,x.length<2^28) (H:aA):Sg 17 [.aV 0 1 (cD xs)] H (.ret (MJ xs)) H:=by
 refine dH fit dQ bGs (Af rfl) (by simp only[bU,fo];rfl) ?_ H;unfold W17;dsimp only;simp only[↓zP,zJ,seval];refine bG [4] (fun i vs H'=>∃v,vs=[v]/\pF H' 1 v (eA ((xs.take i).filterMap pI))/\∀x∈xs.take i,(pI x).isSome=true) 0 xs.length (Bb _) (by omega) (by decide) ?_ ?_ ?_ ?_ ?_
 · simp only[zB,seval]
 · exact⟨.aS,by simp only[sm,zB,seval],.nil _ _,fun x hx=>by simp at hx⟩
 · rintro i f H1 h0 hi hk e1 _;have f0:f 0=.aV 0 1 (cD xs):=hk 0 rfl;simp only[↓zP,zG,seval,e1,f0,eI];exact tB (by omega)
 · rintro i f H1 h0 hi hk e1 ⟨v,fP,ho,dB⟩;simp only[zM] at fP;have f0:f 0=.aV 0 1 (cD xs):=hk 0 rfl;have hP:=tl (hs _ (Ai hi));have hxm:xs[i]∈xs:=Ai hi;have hg:=zV hi;have sH:xs.take (i+1)=xs.take i++[xs[i]]:=by rw[Ap,Ab hi];rfl
   rw[sH];generalize xs[i]=x at *;have AK:=oL (isZ x);have hsm:=bm x;refine aH ?_;refine bS ?_;simp only[↓zP,zJ,seval,f0,e1,aB,eI,hi,hg];refine bK (hP _) ?_;simp only[↓zP,zJ,seval,AK];refine fL ?_;simp only[↓zP,zJ,seval,AK];refine bK (hsm _) ?_;simp only[↓zP,zJ,seval];refine bT ?_;obtain⟨H2,ZO⟩:∃H2,H2=(H1.alloc (dY.cells (AV.bool false::AV.bool false::wC zs) false)).set H1.next (dY.cells (cO (pZ x)) false):=⟨_,rfl⟩;have RO:pF H2 1 v (eA ((xs.take i).filterMap pI)):=pF.jb ho (by rw[ZO];simp) fun j hj=>by rw[ZO,aA.aC,if_neg (by omega),aA.aF,if_neg (by omega)]
   rw[<-ZO];clear ZO ho;refine aJ fun K hK=>?_
   cases YG:pI x with
   |none=>
    have hR:MJ xs=.gP [.aS,.bool false]:=(by unfold MJ;rw[aBr hxm YG]);have GC:=jn YG;rw[hR];by_cases he:eZ x=0
    · have hs2:(eN (pZ x)).2=false:=GC.resolve_left (fun h=>h he);have z0:((0:Int) != 0)=false:=rfl;simp only[↓zP,zJ,seval,he,hs2,z0];refine Rx ?_;exact⟨_,0,rfl,fun nw=>rfl⟩
    have z0:(eZ x != 0)=true:=(by rw[El];exact he);simp only[↓zP,zG,seval,z0];refine Rx ?_;exact⟨_,0,rfl,fun nw=>rfl⟩
   |some z=>
    obtain⟨he,jA⟩:=jo YG;have z0:((0:Int) != 0)=false:=rfl;simp only[↓zP,zJ,seval,he,jA,z0];apply hK;clear hK K;have hzl:((xs.take i).filterMap pI).length<=xs.length:=Br (List.length_filterMap_le _ _) (by rw[Cb];omega);obtain⟨v',H3,ha,ZX,_⟩:=RO.append (bytes:=8) (e:=[.int .i64 z]) (by rw[dZ];omega);have f4:f 4=v:=fP;simp only[↓zP,zJ,seval,f4,eL,ha];refine⟨v',rfl,?_,fun y hy=>?_⟩
    · rw[Iz,JC];simpa [YG,eA] using ZX
    rcases As.1 hy with hy|hy
    · exact dB y hy
    simp at hy;subst hy;rw[YG];rfl
 rintro f H1 hk ⟨v,fP,ho,dB⟩;simp only[zM] at fP;rw[Ar] at ho dB;simp only[↓zP,seval,fP];refine⟨rfl,_,by simp only[↓zP,zR,seval];rfl,?_⟩;refine⟨_,1,rfl,fun nw=>?_⟩
 have hsh:fT H1 none nw 0 v=some (nH (xs.filterMap pI)):=by
  unfold nH;by_cases bN:xs.filterMap pI=[]
  · rw[if_pos bN,ho.2 (by rw[bN];rfl)];rfl
  rw[if_neg bN];have RN:eA (xs.filterMap pI)≠[]:=fun e=>bN (Ee.1 e);refine Has.shut (.inr ho.1) RN (fun e=>?_) (GI _) nw
  rcases ho.1 with ⟨h1,h2⟩|⟨k,h1,_⟩
  · exact RN h2
  rw[h1] at e;cases e
 unfold MJ;rw[qg dB];have bGd:jR H1 none nw v=some (nH (xs.filterMap pI)):=hsh;simp only[fT,pY,Pb,bGd,show jR H1 none nw (.bool true)=some (.bool true) from rfl,Bt]
theorem XX {xs:List (List UInt8)} (hl:xs.length<2^30) (hs:∀x∈xs,x.length<2^28) (tag:Nat) (H:aA):Sg 17 [.aV tag 1 (cD xs)] H (.ret (MJ xs)) H:=(aUz hl hs H).yB tag
theorem u10 (c:UInt8):((c.toNat:Int)==10)=(c==10):=aKa (n:=10) (by decide)
theorem bDr (c:UInt8):((c.toNat:Int)==32)=(c==32):=aKa (n:=32) (by decide)
def PU (ls:List (List UInt8)):AV:=if ls=[] then .aS else .aV 0 1 (cD ls)
theorem HD:∀xs:List (List UInt8),dJ (cD xs)=true
 |[]=>rfl
 |x::xs=>HD xs
theorem XH {s:List UInt8} {i:Nat} {c:UInt8} (h:s[i]?=some c):(s.drop i).take 1=[c]:=by obtain⟨hi,rfl⟩:=Be.1 h;rw[Dm hi];rfl
theorem uh {s:List UInt8} (hs:s.length<2^28) (H:aA):Sg 15 [.str s] H (.ret (PU (sT s))) H:=by
 refine dH fit dQ bGq (Af rfl) (by simp only[sf]) ?_ H;unfold W15;dsimp only;simp only[↓zP,zJ,seval];refine bG [3,4] (fun i vs H'=>∃(v:AV) (o:List (List UInt8)) (l:List UInt8),vs=[v,.str l]/\cL 10 (s.take i)=o++[l]/\pF H' 1 v (cD o)/\o.length<=i/\l.length<=i) 0 s.length (Bb _) (by omega) (by decide) ?_ ?_ ?_ ?_ ?_
 · simp only[zB,seval]
 · exact⟨.aS,[],[],by simp only[sm,zB,seval],rfl,.nil _ _,Ak _,Ak _⟩
 · rintro i f H1 h0 hi hk e1 _;have f0:f 0=.str s:=hk 0 rfl;simp only[↓zP,zG,seval,e1,f0];exact tB (by omega)
 · rintro i f H1 h0 hi hk e1 ⟨v,o,l,fP,NP,ho,ol,ll⟩;simp only[zM] at fP;obtain⟨f3,f4⟩:=fP;have f0:f 0=.str s:=hk 0 rfl
   obtain⟨c,hc⟩:∃c,s[i]?=some c:=⟨_,Ab hi⟩
   have hsn:=CN (b:=c) NP;rw[show s.take i++[c]=s.take (i+1) by rw[Ap,hc];rfl] at hsn;have sP:=XH hc;have w1:IntKind.i64.wrap ((i:Int)+1)=((i+1:Nat):Int):=wI (by omega);refine aH ?_;rw[hsn]
   cases h10:c==10 with
   |true=>obtain⟨v',H3,ha,ZX,_⟩:=ho.append (bytes:=16) (e:=[.str l]) (by rw[eI];omega);simp only[↓zP,zJ,seval,f0,e1,aB,hc,u10,h10,f3,f4,oQ,ha];refine⟨v',o++[l],[],rfl,by simp,?_,by simp;omega,by simp⟩;rw[show cD (o++[l])=cD o++[[.str l]] by simp[cD]];exact ZX
   |false=>
    have hb:qL .add l [c]=some (.str (l++[c])):=by unfold qL;rw[if_pos (by simp only[Ah,Ay];omega)]
    simp only[↓zP,zJ,seval,f0,e1,aB,hc,u10,h10,f3,f4,w1,cZ,Bc,show i<=i+1/\i+1<=s.length from ⟨by omega,by omega⟩,show i+1 -i=1 by omega,sP,hb];exact⟨v,o,l++[c],rfl,rfl,ho,by omega,by simp;omega⟩
 rintro f H1 hk ⟨v,o,l,fP,NP,ho,ol,ll⟩;simp only[zM] at fP;obtain⟨f3,f4⟩:=fP;rw[Ar] at NP;have hR:=Sc NP;have hb:qL .neq l []=some (.bool (!(l==[]))):=rfl;by_cases hl:l=[]
 · rw[if_pos hl] at hR;rw[hR];have Ma:(l==[])=true:=by rw[hl];rfl
   simp only[↓zP,zJ,seval,f3,f4,hb,Ma];refine⟨rfl,_,by simp only[↓zP,zR,seval];rfl,?_⟩;refine⟨_,0,rfl,fun nw=>?_⟩;unfold PU;by_cases bN:o=[]
   · rw[if_pos bN,ho.2 (by rw[bN];rfl)];rfl
   rw[if_neg bN];have RN:cD o≠[]:=fun e=>bN (Ee.1 e);refine Has.shut (.inr ho.1) RN (fun e=>?_) (HD _) nw
   rcases ho.1 with ⟨h1,h2⟩|⟨k,h1,_⟩
   · exact RN h2
   rw[h1] at e;cases e
 rw[if_neg hl] at hR;rw[hR];have Ma:(l==[])=false:=by rw[Ca];exact hl
 simp only[↓zP,zJ,seval,f4,hb,Ma];refine Rx ?_;exact⟨_,0,rfl,fun nw=>rfl⟩
theorem uw {H2:aA} {id cap:Nat} {xs:List (List UInt8)} {opn:Bool} (hg:H2.get id=some (.cells (lC xs) opn)) (nw:Nat):fT H2 none nw 0 (.sl id 1 0 xs.length cap)=some (.aV 0 1 (cD xs)):=by
 have e:(cD xs).flatten=lC xs:=by
  clear hg
  induction xs with
  |nil=>rfl
  |cons x r ih=>simp only[cD,lC,By,Bp,Iy] at ih ⊢;rw[ih]
 have :=KI (els:=cD xs) (sz:=1) (cap:=cap) (by rw[e];exact hg) (fun a ha=>by
  simp only[cD,Bf] at ha;obtain⟨x,_,rfl⟩:=ha
  rfl) (HD xs) nw
 rwa [eI] at this
theorem OW:∀xs:List (List UInt8),eR 1 xs.length (lC xs)=cD xs
 |[]=>rfl
 |x::r=>by have :=OW r;simp only[lC,cD,By,Ah,eR,Dn,Eb,Gx,Cy] at this ⊢;rw[this]
theorem Om:∀xs:List (List UInt8),(cD xs).flatten=lC xs
 |[]=>rfl
 |x::r=>by have :=Om r;simp only[cD,lC,By,Bp,Iy] at this ⊢;rw[this]
theorem aGd {H:aA} {id:Nat} {xs:List (List UInt8)} {opn:Bool} (hg:H.get id=some (.cells (lC xs) opn)) (hl:xs.length<2^30) (x:List UInt8):
 ∃H3,dU H 1 16 true (.sl id 1 0 xs.length xs.length) [[.str x]]=some (.sl H.next 1 0 (xs.length+1) (xs.length+1),H3)/\H3.get H.next=some (.cells (lC (xs++[x])) true)/\H.next<H3.next:=by
 have hc:(lC xs).length=xs.length:=yA xs;have e:lC xs++[AV.str x]=lC (xs++[x]):=by simp[lC]
 cases opn with
 |false=>
  refine⟨H.alloc (.cells (lC (xs++[x])) true),?_,by rw[aA.aF,if_pos rfl],by simp⟩;have hb:(xs.length+1)*16<=2^40:=by omega
  simp only[dU,List.isEmpty_cons,Bj,Cm,hg,hc,Ah,Ay,Df,Ak,Kq,hb,if_true,show ¬xs.length+1<=xs.length by omega,Dl,true_or,Cy,OW,iO,An,eI,Ez,Om,Bp,List.flatten_nil,Bz,e]
 |true=>refine⟨_,rL hg (by rw[hc,Dl]) rfl (by simp only[Ah,Ay];omega) (by decide),?_,by simp⟩;rw[aA.aF,if_pos (by simp)];simp[lC]
theorem QG {s:List UInt8} (hs:s.length<2^28) (H:aA):Sg 16 [.str s] H (.ret (.aV 0 1 (cD (cL 32 s)))) H:=by
 refine dH fit dQ bGr (Af rfl) (by simp only[sf]) ?_ H;unfold W16;dsimp only;simp only[↓zP,zJ,seval,jI];refine bG [3] (fun i vs H'=>∃(id:Nat) (opn:Bool) (o:List (List UInt8)) (l:List UInt8),vs=[.sl id 1 0 (o++[l]).length (o++[l]).length]/\cL 32 (s.take i)=o++[l]/\H'.get id=some (.cells (lC (o++[l])) opn)/\id<H'.next/\o.length<=i/\l.length<=i) 0 s.length (Bb _) (by omega) (by decide) ?_ ?_ ?_ ?_ ?_
 · simp only[zB,seval]
 · exact⟨0,false,[],[],by simp only[sm,zB,seval];rfl,rfl,rfl,by simp,Ak _,Ak _⟩
 · rintro i f H1 h0 hi hk e1 _;have f0:f 0=.str s:=hk 0 rfl;simp only[↓zP,zG,seval,e1,f0];exact tB (by omega)
 · rintro i f H1 h0 hi hk e1 ⟨id,opn,o,l,fP,NP,hg,hid,ol,ll⟩;simp only[zM] at fP;have f0:f 0=.str s:=hk 0 rfl
   obtain⟨c,hc⟩:∃c,s[i]?=some c:=⟨_,Ab hi⟩
   have hsn:=CN (b:=c) NP;rw[show s.take i++[c]=s.take (i+1) by rw[Ap,hc];rfl] at hsn;have sP:=XH hc;have w1:IntKind.i64.wrap ((i:Int)+1)=((i+1:Nat):Int):=wI (by omega);have Wh:(o++[l]).length=o.length+1:=(by simp);refine aH ?_;rw[hsn]
   cases h32:c==32 with
   |true=>
    have Oz:(H1.alloc (.cells [.str []] false)).get id=some (.cells (lC (o++[l])) opn):=(by rw[aA.aF,if_neg (by omega)];exact hg);obtain⟨H3,ha,hg3,RL⟩:=aGd Oz (by omega) []
    have Oy:dM (H1.alloc (.cells [.str []] false)) 1 (.sl H1.next 1 0 1 1)=some [[.str []]]:=by simp[dM,aA.eP,aA.aF,eR]
    simp only[↓zP,zJ,seval,f0,e1,aB,jI,hc,bDr,h32,fP];simp only[show [[AV.str []]].flatten=[AV.str []] from rfl,Oy,ha,bP];exact⟨_,true,o++[l],[],by simp,by simp,by simpa using hg3,RL,by omega,by simp⟩
   |false=>
    have hb:qL .add l [c]=some (.str (l++[c])):=by unfold qL;rw[if_pos (by simp only[Ah,Ay];omega)]
    have w2:IntKind.i64.wrap (((o++[l]).length:Int) -1)=(o.length:Nat):=(by rw[Wh,wrap_i64 (by omega) (by omega)];omega);have hx:=ME (xs:=o++[l]) (i:=o.length) (by omega);rw[show(o++[l]).getD o.length []=l by simp[List.getD]] at hx;have rU:=CP (xs:=o++[l]) (i:=o.length) (by omega) (l++[c]);rw[show(o++[l]).set o.length (l++[c])=o++[l++[c]] by simp] at rU;have IW:(lC (o++[l])).length=(o++[l]).length:=yA _;simp only[↓zP,zJ,seval,f0,e1,aB,hc,bDr,h32];refine Dz ?_;simp only[↓zP,zJ,seval,zD,f0,e1,fP,aB,w1,w2,hg,hx,rU,IW,cZ,Bc,show i<=i+1/\i+1<=s.length from ⟨by omega,by omega⟩,show i+1 -i=1 by omega,sP,hb,show o.length<(o++[l]).length by omega,show o.length+1<=(o++[l]).length by omega];exact⟨id,opn,o,l++[c],by simp,rfl,by rw[if_pos rfl],hid,by omega,by simp;omega⟩
 rintro f H1 hk ⟨id,opn,o,l,fP,NP,hg,hid,ol,ll⟩;simp only[zM] at fP;rw[Ar] at NP;simp only[↓zP,seval,fP];refine⟨rfl,_,by simp only[↓zP,zR,seval];rfl,?_⟩;rw[NP];exact⟨_,0,rfl,uw hg⟩
end Go.Proofs.YtbndcmnnbiiobaaGreatDoor
namespace Go.Proofs.YtbndcmnnbiiobaaGreatDoor
open Go Go.Av Go.mO Go.Shelf
attribute [local congr] aU aO aP aN aY aR aQ aI aZ
attribute [local irreducible] FC bL eU
def bDv (H:aA) (d:AV) (l:List Nat):Prop:=d=.aV 0 1 (nE l)\/∃id o,d=.sl id 1 0 l.length o.length/\H.get id=some (.cells (nC o) false)/\o.take l.length=l/\1<=id/\id<H.next
theorem aEs {o l:List Nat} (h:o.take l.length=l) {k:Nat} (hk:k<l.length):k<o.length/\o.getD k 0=l.getD k 0:=by
 have h1:l.length<=o.length:=by have :=Ao List.length h;rw[Cb] at this;omega
 refine⟨by omega,?_⟩;have :(o.take l.length).getD k 0=l.getD k 0:=by rw[h]
 rw[List.getD,Gj,if_pos hk] at this;exact this
theorem Oe {n v:Nat} {out:List UInt8} (hn:n<W^16) (h:if v=0 then Lib.decDigits n=out else Lib.decDigits n=Lib.decDigits v++out):out.length<=160:=by
 have h1:n<10^160:=Cf hn (Br (Nat.pow_le_pow_left (show W<=10^10 by decide) 16) (by rw[<-Nat.pow_mul];exact Ak _));have h2:=yO (k:=160) (by decide) h1;by_cases hv:v=0
 · rw[if_pos hv] at h;rw[<-h];exact h2
 rw[if_neg hv] at h;rw[h,An] at h2;omega
theorem dm {k:Nat} (h:k<256):bytesOf [[AV.int .u8 (k:Int)]]=some [UInt8.ofNat k]:=by simp[bytesOf]
theorem DD.drop {l:List Nat} (h:DD l) (k:Nat):DD (l.drop k):=fun d hd=>h d (Es hd)
theorem aDs {z:Int} (hz:z.natAbs<W^16) (H:aA):Sg 100 [.agg (cI z)] H (.ret (.str (Lib.itoa z))) H:=by
 refine Sp aXj (by simp only[sf,cH]) (by simp only[sf]) ?_ H;unfold aMr;dsimp only;have gz:=nK (fZ.enc hz)
 have we:∀H,Sg 149 [.agg (cI z)] H (.ret (.aV 0 1 (nE (dg z.natAbs)))) H:=fun H=>by
  have :=rB false (decide (z<0)) (.aW z.natAbs) H
  rwa [gU hz] at this
 have fS:(cI z).length=18:=by simp[cI,cM,bW]
 have e1:(cI z).getD 1 aD=.bool (decide (z<0)):=rfl;refine bS ?_;simp only[↓zP,zJ,seval];refine bT ?_;obtain⟨H0,oo⟩:∃H0,H0=({next:=0,tr:=Tr.nil}:aA).alloc (dY.cells (cI z) false):=⟨_,rfl⟩;have g0:H0.get 0=some (.cells (cI z) false):=by rw[oo];rfl
 have UR:H0.next=1:=by rw[oo];rfl
 rw[<-oo];clear oo;refine bS ?_;simp only[↓zP,zJ,seval,g0,oL fS];refine bK (gz _) ?_;simp only[Bd];simp only[↓zP,zJ,seval];refine fL ?_;simp only[↓zP,zJ,seval,g0,oL fS];refine bK (we _) ?_;simp only[↓zP,zG,seval];refine fL ?_;by_cases Mm:z.natAbs=0
 · have hz':z=0:=by omega
   subst hz';rw[show(0:Int).natAbs=0 from rfl,pL];simp only[↓zP,zG,seval,cF];refine Rx ?_;rw[show Lib.itoa 0=[48] by unfold Lib.itoa;rw[if_neg (by decide)];exact aKr];rfl
 have NN:0<(dg z.natAbs).length:=Ij.2 fun h=>Mm (LS.1 h);have hb:(((dg z.natAbs).length:Int)==0)=false:=by rw[Ca];omega
 simp only[↓zP,zG,seval,cF,hb];refine bT ?_;generalize hn:z.natAbs=n at *;refine bS ?_;simp only[↓zP,zG,seval];refine bT ?_;refine aJ fun K hK=>?_
 have fin:∀(f:cU) (H':aA),f 1=.ref 0 0->f 4=.str (Lib.decDigits n)->H'.get 0=some (.cells (cI z) false)->K f [] H':=by
  intro f H' f1 f4 g;apply hK;clear hK K;refine aJ fun K hK=>?_;by_cases pt:z<0
  · have hi:Lib.itoa z=45::Lib.decDigits n:=by unfold Lib.itoa;rw[if_pos pt,hn]
    have hln:=Oe (v:=0) (out:=Lib.decDigits n) hz (by rw[if_pos rfl])
    have SL:qL .add [45] (Lib.decDigits n)=some (.str (45::Lib.decDigits n)):=by unfold qL;rw[if_pos (by simp only[Ah,Ay];omega)];rfl
    rw[Al pt] at e1;simp only[↓zP,zJ,seval,f1,g,fS,e1,f4,SL];refine Rx ?_;rw[hi];rfl
  have hi:Lib.itoa z=Lib.decDigits n:=by unfold Lib.itoa;rw[if_neg pt];congr 1;omega
  rw[Ae pt] at e1;simp only[↓zP,zJ,seval,f1,g,fS,e1];apply hK;clear hK K;simp only[↓zP,zG,seval,f4];refine Rx ?_;rw[hi];rfl
 refine aH (fK [3,4] (fun m vs H'=>∃(d:AV) (out:List UInt8),vs=[d,.str out]/\bDv H' d (dg m)/\(if m=0 then Lib.decDigits n=out else Lib.decDigits n=Lib.decDigits m++out)/\m<=n/\H'.get 0=some (.cells (cI z) false)/\1<=H'.next) n (by rfl) ?_ ?_)
 · exact⟨.aV 0 1 (nE (dg n)),[],by simp only[sm,zB,seval],.inl rfl,by rw[if_neg Mm];simp,Ak _,g0,by omega⟩
 rintro m f H1 hk ⟨d,out,fP,kY,ZQ,hmn,g,xG⟩;simp only[zM] at fP;obtain⟨f3,f4⟩:=fP;have f1:f 1=.ref 0 0:=hk 1 rfl;have hmW:m<W^16:=Er hmn hz;have Nc:=iU.2 hmW;have hln:=Oe hz ZQ;have w0:IntKind.i64.wrap (((dg m).length:Int) -1)=((dg m).length:Int) -1:=wrap_i64 (by omega) (by omega);have hDD:=vC m;by_cases JA:m=0
 · subst JA;rw[if_pos rfl] at ZQ;rw[pL] at kY;have VE:f 4=.str (Lib.decDigits n):=by rw[ZQ];exact f4
   rcases kY with rfl|⟨id,o,rfl,_⟩
   · simp only[↓zP,zG,seval,f3,cF,Fm];exact fin _ _ (by simp only[zB,seval];exact f1) (by simp only[zB,seval];exact VE) g
   simp only[↓zP,zG,seval,f3,Fm];exact fin _ _ (by simp only[zB,seval];exact f1) (by simp only[zB,seval];exact VE) g
 have hlm:0<(dg m).length:=Ij.2 fun h=>JA (LS.1 h);have hgt:decide (((dg m).length:Int)>0)=true:=Al (by omega);have eF:=aAb ZQ JA;have xJ:bR (dg m)=m:=nS m
 rcases kY with rfl|⟨id,o,rfl,aBc,hto,bJu,bFa⟩
 · skip
   simp only[↓zP,zJ,seval,f3,cF,hgt];refine aH ?_;refine bS ?_;simp only[↓zP,zG,seval];refine fL ?_;simp only[↓zP,zJ,seval,f3,cF,aB,show 8*(dg m).length<=1099511627776 by omega,Ui];refine bT ?_;refine aJ fun K2 cK=>?_;simp only[↓zP,zG,seval,f3,cF,w0];refine NX [5] (fun i vs H'=>∃(q:List Nat) (rest:Nat),vs=[.int .i64 rest]/\H'.get H1.next=some (.cells (nC q) false)/\q.length=(dg m).length/\DD q/\rest<10/\10*bR (q.drop i)+rest=bR ((dg m).drop i)/\H'.next=H1.next+1/\∀j,j<H1.next->H'.get j=H1.get j) (dg m).length (by omega) (by decide) ?_ ?_ ?_ ?_ ?_
   · simp only[zB,seval]
   · refine⟨List.replicate (dg m).length 0,0,by simp only[sm,zB,seval],by rw[aA.aF,if_pos rfl],by simp,fun d hd=>by rw[Ff hd];decide,by decide,by rw[Bl (by simp),Bl (by simp)];rfl,by simp,fun j hj=>by rw[aA.aF,if_neg (by omega)]⟩
   · rintro i f2 H2 hi dA e2 _;simp only[↓zP,zG,seval,e2];exact tB (by omega)
   · rintro i f2 H2 hi dA e2 ⟨q,rest,qT,g2,ql,qd,r10,nJ,DK,RO⟩;simp only[zM] at qT;have q3:f2 3=.aV 0 1 (nE (dg m)):=(dA 3 rfl).trans f3;have q6:f2 6=.sl H1.next 1 0 (dg m).length (dg m).length:=dA 6 rfl;have hx:=hDD.getD i;have aSs:=Xl hi ql nJ;have Mf:=JP hi;rw[<-kW hi] at Mf;have rU:=UO (o:=q) (k:=i) (by omega) ((65536*rest+(dg m).getD i 0) / 10);generalize hxx:(dg m).getD i 0=x at *;have w1:IntKind.i64.wrap (65536*(rest:Int))=((65536*rest:Nat):Int):=wI (by omega);have w2:IntKind.i64.wrap (((65536*rest:Nat):Int)+(x:Int))=((65536*rest+x:Nat):Int):=wI (by omega);have w3:IntKind.i64.wrap (((65536*rest+x:Nat):Int).tdiv 10)=(((65536*rest+x) / 10:Nat):Int):=(by rw[Eu (by omega),wrap_i64 (by omega) (by omega)];omega);have w4:((65536*rest+x:Nat):Int).tmod 10=(((65536*rest+x)%10:Nat):Int):=(by rw[Cu (by omega)];omega);refine aH ?_;simp only[↓zP,zJ,seval,q3,qT,q6,e2,aB,hi,cF,Mf,w1,w2,g2,GM,ql,show i+1<=(dg m).length by omega,w3,w4,rU];refine⟨_,(65536*rest+x)%10,rfl,rfl,by rw[Eg,ql],fun d hd=>?_,by omega,aSs,DK,fun j hj=>by rw[if_neg (by omega)];exact RO j hj⟩
     rcases Ju hd with hd|rfl
     · exact qd d hd
     omega
   rintro f2 H2 dA ⟨q,rest,qT,g2,ql,qd,r10,nJ,DK,RO⟩;have q1:f2 1=.ref 0 0:=(dA 1 rfl).trans f1;have q4:f2 4=.str out:=(dA 4 rfl).trans f4;have q6:f2 6=.sl H1.next 1 0 (dg m).length (dg m).length:=dA 6 rfl;simp only[zM] at qT;have AA:=(RO 0 (by omega)).trans g;have ht:=Un (by omega) (by omega) g2;rw[Cy,Cy,xJ] at nJ;have hvq:bR q=m / 10:=(by omega);have hr:rest=m%10:=(by omega);have sH:=uT q;rw[sF qd,hvq] at ht sH;rw[ql] at ht;have w5:IntKind.i64.wrap (48+(rest:Int))=((48+rest:Nat):Int):=wI (by omega);have w6:IntKind.u8.wrap ((48+rest:Nat):Int)=((48+rest:Nat):Int):=by rw[KR (k:=.u8) rfl];simp only[IntKind.bits];omega
   have SL:qL .add [UInt8.ofNat (48+rest)] out=some (.str (UInt8.ofNat (48+rest)::out)):=by unfold qL;rw[if_pos (by simp only[Ah,Ay];omega)];rfl
   rw[<-hr] at eF;simp only[↓zP,seval];apply cK;clear cK K2;refine bS ?_;simp only[↓zP,zG,seval,q6];refine bK (ht) ?_;simp only[↓zP,zG,seval];refine bT ?_;have hby:bytesOf [[AV.int .u8 ((48+rest:Nat):Int)]]=some [UInt8.ofNat (48+rest)]:=dm (by omega);simp only[↓zP,zJ,seval,qT,q4,w5,w6,oQ,hby,SL];exact⟨m / 10,by omega,_,_,rfl,.inr ⟨H1.next,q,by rw[ql],g2,sH,xG,by omega⟩,eF,by omega,AA,by omega⟩
 skip
 simp only[↓zP,zJ,seval,f3,hgt];refine aH ?_;refine bS ?_;simp only[↓zP,zG,seval];refine fL ?_;simp only[↓zP,zJ,seval,f3,aB,show 8*(dg m).length<=1099511627776 by omega,Ui];refine bT ?_;refine aJ fun K2 cK=>?_;simp only[↓zP,zG,seval,f3,w0];refine NX [5] (fun i vs H'=>∃(q:List Nat) (rest:Nat),vs=[.int .i64 rest]/\H'.get H1.next=some (.cells (nC q) false)/\q.length=(dg m).length/\DD q/\rest<10/\10*bR (q.drop i)+rest=bR ((dg m).drop i)/\H'.next=H1.next+1/\∀j,j<H1.next->H'.get j=H1.get j) (dg m).length (by omega) (by decide) ?_ ?_ ?_ ?_ ?_
 · simp only[zB,seval]
 · refine⟨List.replicate (dg m).length 0,0,by simp only[sm,zB,seval],by rw[aA.aF,if_pos rfl],by simp,fun d hd=>by rw[Ff hd];decide,by decide,by rw[Bl (by simp),Bl (by simp)];rfl,by simp,fun j hj=>by rw[aA.aF,if_neg (by omega)]⟩
 · rintro i f2 H2 hi dA e2 _;simp only[↓zP,zG,seval,e2];exact tB (by omega)
 · rintro i f2 H2 hi dA e2 ⟨q,rest,qT,g2,ql,qd,r10,nJ,DK,RO⟩;simp only[zM] at qT;have q3:f2 3=.sl id 1 0 (dg m).length o.length:=(dA 3 rfl).trans f3;have q6:f2 6=.sl H1.next 1 0 (dg m).length (dg m).length:=dA 6 rfl;have hx:=hDD.getD i;have aSs:=Xl hi ql nJ;obtain⟨hio,hoe⟩:=aEs hto hi;have Mf:=Nj hio;rw[hoe] at Mf;have hgo:=(RO id bFa).trans aBc;have rU:=UO (o:=q) (k:=i) (by omega) ((65536*rest+(dg m).getD i 0) / 10);generalize hxx:(dg m).getD i 0=x at *;have w1:IntKind.i64.wrap (65536*(rest:Int))=((65536*rest:Nat):Int):=wI (by omega);have w2:IntKind.i64.wrap (((65536*rest:Nat):Int)+(x:Int))=((65536*rest+x:Nat):Int):=wI (by omega);have w3:IntKind.i64.wrap (((65536*rest+x:Nat):Int).tdiv 10)=(((65536*rest+x) / 10:Nat):Int):=by rw[Eu (by omega),wrap_i64 (by omega) (by omega)];omega
   have w4:((65536*rest+x:Nat):Int).tmod 10=(((65536*rest+x)%10:Nat):Int):=(by rw[Cu (by omega)];omega);refine aH ?_;simp only[↓zP,zJ,seval,q3,qT,q6,e2,aB,hi,Mf,hgo,show i+1<=o.length by omega,w1,w2,g2,GM,ql,show i+1<=(dg m).length by omega,w3,w4,rU];refine⟨_,(65536*rest+x)%10,rfl,rfl,by rw[Eg,ql],fun d hd=>?_,by omega,aSs,DK,fun j hj=>by rw[if_neg (by omega)];exact RO j hj⟩
   rcases Ju hd with hd|rfl
   · exact qd d hd
   omega
 rintro f2 H2 dA ⟨q,rest,qT,g2,ql,qd,r10,nJ,DK,RO⟩;have q1:f2 1=.ref 0 0:=(dA 1 rfl).trans f1;have q4:f2 4=.str out:=(dA 4 rfl).trans f4;have q6:f2 6=.sl H1.next 1 0 (dg m).length (dg m).length:=dA 6 rfl;simp only[zM] at qT;have AA:=(RO 0 (by omega)).trans g;have ht:=Un (by omega) (by omega) g2;rw[Cy,Cy,xJ] at nJ;have hvq:bR q=m / 10:=by omega
 have hr:rest=m%10:=by omega
 have sH:=uT q;rw[sF qd,hvq] at ht sH;rw[ql] at ht;have w5:IntKind.i64.wrap (48+(rest:Int))=((48+rest:Nat):Int):=wI (by omega);have w6:IntKind.u8.wrap ((48+rest:Nat):Int)=((48+rest:Nat):Int):=by rw[KR (k:=.u8) rfl];simp only[IntKind.bits];omega
 have SL:qL .add [UInt8.ofNat (48+rest)] out=some (.str (UInt8.ofNat (48+rest)::out)):=by unfold qL;rw[if_pos (by simp only[Ah,Ay];omega)];rfl
 rw[<-hr] at eF;simp only[↓zP,seval];apply cK;clear cK K2;refine bS ?_;simp only[↓zP,zG,seval,q6];refine bK (ht) ?_;simp only[↓zP,zG,seval];refine bT ?_;have hby:bytesOf [[AV.int .u8 ((48+rest:Nat):Int)]]=some [UInt8.ofNat (48+rest)]:=dm (by omega);simp only[↓zP,zJ,seval,qT,q4,w5,w6,oQ,hby,SL];exact⟨m / 10,by omega,_,_,rfl,.inr ⟨H1.next,q,by rw[ql],g2,sH,xG,by omega⟩,eF,by omega,AA,by omega⟩
theorem CI {n:Int} (h0: -2^63<=n) (h1:n<2^63) (H:aA):Sg 48 [.int .i64 n] H (.ret (.str (Lib.itoa n))) H:=by refine Sp bHn (by simp only[sf]) (by simp only[sf]) ?_ H;unfold W48;dsimp only;simp only[↓zP,zJ,seval];refine bK (rA h0 h1 _) ?_;refine bK (aDs (z:=n) (w63 (by omega)) _) ?_;simp only[↓zP,zG,seval];refine Rx ?_;rfl
theorem aQp {x y:List UInt8} (hx:x.length<=2^38) (hy:y.length<=2^38):qL .add x y=some (.str (x++y)):=by unfold qL;rw[if_pos (by omega)]
theorem pH {x y:List UInt8} {n m:Nat} (hx:x.length<=n) (hy:y.length<=m) (h:n+m<=2^38):∃s,s=x++y/\s.length<=n+m/\qL .add x y=some (.str s):=
 ⟨x++y,rfl,by rw[An];omega,aQp (by omega) (by omega)⟩
theorem WE (v:aG.V) {j:Nat} (h:j<3):1<=((bZ v).drop j).length/\((bZ v).drop j).getD 0 aD=.int .i64 (v.at j):=by
 match j,h with
 |0,_=>exact⟨Af rfl,rfl⟩
 |1,_=>exact⟨Af rfl,rfl⟩
 |2,_=>exact⟨Af rfl,rfl⟩
def wvR (v:aG.V):List UInt8:=(lD v).flatMap (32:: ·)
theorem VA {v:aG.V} (h:yl v):∀j,(((lD v).take j).flatMap (32:: ·)).length<=63:=by
 intro j;have hx:=eV h.1.1 h.1.2;have hy:=eV h.2.1.1 h.2.1.2;have hz:=eV h.2.2.1 h.2.2.2
 match j with
 |0=>simp
 |1=>simp[lD];omega
 |2=>simp[lD];omega
 |j+3=>simp[lD];omega
theorem BI {α:Type} {f:α->List UInt8} {B:Nat}:∀{l:List α},(∀x∈l,(f x).length<=B)->(l.flatMap f).length<=l.length*B
 |[],_=>by simp
 |x::r,h=>by have h1:=h x Au;have h2:=BI (l:=r) fun y hy=>h y (Aw _ hy);rw[Cl,An,Ah,Fg];omega
theorem wv3 (v:aG.V):wvR v=((lD v).take 3).flatMap (32:: ·):=rfl
theorem XO {ls:List (List aG.V)} {i:Nat} (h:i<ls.length):(xg ls).getD i []=[.aV 0 3 (bF ls[i])]:=dT h
theorem qY (ls:List (List aG.V)):(xg ls).length=ls.length:=Ad _
theorem KC (ls:List (List aG.V)):dJ (xg ls)=true:=dF (fun l=>by rw[show bU [AV.aV 0 3 (bF l)]=((AV.aV 0 3 (bF l)).free&&bU []) from rfl,cE rfl l];rfl) ls
theorem sx {b:BD} (hb:b.Fit) (H:aA):Sg 19 [.agg (YA b)] H (.ret (.str b.text)) H:=by
 refine Sp bGt (by simp only[YA,bX,sf,KC]) (by simp only[sf]) ?_ H;unfold W19;dsimp only;obtain⟨name,ls,m0,m1,r0,r1⟩:=b;have hnl:=hb.nl;simp only at hnl;have n0:=CI hb.n0.1 hb.n0.2;have n1:=CI hb.n1.1 hb.n1.2;have n2:=CI hb.n2.1 hb.n2.2;have n3:=CI hb.n3.1 hb.n3.2;have l0:=eV hb.n0.1 hb.n0.2;have l1:=eV hb.n1.1 hb.n1.2;have l2:=eV hb.n2.1 hb.n2.2;have l3:=eV hb.n3.1 hb.n3.2;have nP:=hb.pl;have JB:=hb.pv;simp only at n0 n1 n2 n3 l0 l1 l2 l3 nP JB;have gw:BD.text ⟨name,ls,m0,m1,r0,r1⟩=Mc name m0 m1 r0 r1++ls.flatMap QK:=Xm _ _ _ _ _ _;rw[gw];obtain⟨hd,hhd⟩:∃hd,Mc name m0 m1 r0 r1=hd:=⟨_,rfl⟩
 have Nc:hd.length<=1000:=by rw[<-hhd];unfold Mc;simp only[An,Ah,Ay];omega
 refine bS ?_;simp only[↓zP,zJ,seval,YA,bX];refine bT ?_;generalize hX:(aA.mk 0 .nil).alloc _=HA;have g0:HA.get 0=some (.cells [.str name,.aV 0 1 (xg ls),.int .i64 m0,.int .i64 m1,.int .i64 r0,.int .i64 r1] false):=by subst hX;simp only[zI,seval]
 clear hX;refine bS ?_;refine Dz ?_;obtain⟨S0,e0,k0,a0⟩:=pH (x:=[98,111,100,121,32]) (y:=name) (n:=5) (m:=32) (by simp) hnl (by decide);obtain⟨S1,e1,k1,a1⟩:=pH (x:=S0) (y:=[32,109,97,115,115,32]) k0 (m:=6) (by simp) (by decide);obtain⟨S2,e2,k2,a2⟩:=pH (x:=S1) k1 l0 (by decide);obtain⟨S3,e3,k3,a3⟩:=pH (x:=S2) (y:=[32]) k2 (m:=1) (by simp) (by decide);obtain⟨S4,e4,k4,a4⟩:=pH (x:=S3) k3 l1 (by decide);obtain⟨S5,e5,k5,a5⟩:=pH (x:=S4) (y:=[32,114,111,117,103,104,32]) k4 (m:=7) (by simp) (by decide);obtain⟨S6,e6,k6,a6⟩:=pH (x:=S5) k5 l2 (by decide);obtain⟨S7,e7,k7,a7⟩:=pH (x:=S6) (y:=[32]) k6 (m:=1) (by simp) (by decide);obtain⟨S8,e8,k8,a8⟩:=pH (x:=S7) k7 l3 (by decide);obtain⟨S9,e9,k9,a9⟩:=pH (x:=S8) (y:=[10]) k8 (m:=1) (by simp) (by decide);have h9:S9=hd:=by rw[<-hhd,e9,e8,e7,e6,e5,e4,e3,e2,e1,e0];rfl
 rw[h9] at a9;simp only[↓zP,zJ,seval,zD,g0,a0,a1,jI];refine eT (n0 _) ?_;simp only[↓zP,zJ,seval,zD,g0,a2,a3,jI];refine eT (n1 _) ?_;simp only[↓zP,zJ,seval,zD,g0,a4,a5,jI];refine eT (n2 _) ?_;simp only[↓zP,zJ,seval,zD,g0,a6,a7,jI];refine eT (n3 _) ?_;simp only[↓zP,zJ,seval,zD,a8,a9];refine bT ?_;clear e0 e1 e2 e3 e4 e5 e6 e7 e8 e9 a0 a1 a2 a3 a4 a5 a6 a7 a8 a9 k0 k1 k2 k3 k4 k5 k6 k7 k8 k9 h9
 have kY:∀l∈ls,(QK l).length<=5001:=fun l hl=>by rw[<-Uk,An];have :=Nh (JB l hl).2.2 (JB l hl).2.1;simp only[Ah,Ay];omega
 have bEe:∀i,((ls.take i).flatMap QK).length<=8*5001:=fun i=>Br (BI fun l hl=>kY l (Cx hl)) (Cj _ (by rw[Cb];omega));simp only[↓zP,zG,seval];refine bG [3] (fun i vs H'=>H'=HA/\vs=[.str (hd++(ls.take i).flatMap QK)]) 0 ls.length (Bb _) (by omega) (by decide) ?_ ?_ ?_ ?_ ?_
 · simp only[zB,seval]
 · exact⟨rfl,by simp only[sm,zB,seval,Eb,Jz,Bz]⟩
 · rintro i f H1 h0 hi hk e1 ⟨rfl,_⟩;have f1:f 1=.ref 0 0:=hk 1 rfl;simp only[↓zP,zJ,seval,e1,f1,g0,qY];exact tB (by omega)
 · rintro i f H1 h0 hi hk e1 ⟨rfl,fP⟩;simp only[zM] at fP;have f1:f 1=.ref 0 0:=hk 1 rfl;have hgl:=XO hi;have hlm:=JB _ (Ai hi);rw[Ap,Ab hi,Ec,Fa];have hai:=bEe i;generalize ls[i]=l at *;generalize tI:hd++(ls.take i).flatMap QK=out at *;have hol:out.length<=42000:=by rw[<-tI,An];omega
   refine aH ?_;refine bS ?_;obtain⟨O1,o1,q1,b1⟩:=pH (x:=out) (y:=[112,97,114,116]) hol (m:=4) (by simp) (by decide);simp only[↓zP,zG,seval,fP,b1];refine bT ?_;refine aJ fun K hK=>?_;simp only[↓zP,zJ,seval];refine bG [3] (fun k vs H'=>H'=H1/\vs=[.str (O1++(l.take k).flatMap wvR)]) 0 l.length (Bb _) (by omega) (by decide) ?_ ?_ ?_ ?_ ?_
   · simp only[zB,seval]
   · exact⟨rfl,by simp only[sm,zB,seval,Eb,Jz,Bz]⟩
   · rintro k f2 H2 _ RI dA e2 ⟨rfl,_⟩;have p1:f2 1=.ref 0 0:=(dA 1 rfl).trans f1;have p4:f2 4=.int .i64 i:=(dA 4 rfl).trans e1;simp only[↓zP,zJ,seval,e2,p1,p4,g0,aB,qY,hi,hgl,aL];exact tB (by omega)
   · rintro k f2 H2 _ RI dA e2 ⟨rfl,qT⟩;simp only[zM] at qT;have p1:f2 1=.ref 0 0:=(dA 1 rfl).trans f1;have p4:f2 4=.int .i64 i:=(dA 4 rfl).trans e1;have hgv:=bY RI;have hvv:=hlm.2.2 _ (Ai RI);rw[Ap,Ab RI,Ec,Fa];have hal:((l.take k).flatMap wvR).length<=64*63:=Br (BI fun v hv=>by rw[wv3];exact VA (hlm.2.2 v (Cx hv)) 3) (Cj _ (by rw[Cb];omega));generalize l[k]=v at *;generalize hot:O1++(l.take k).flatMap wvR=ot at *;have bKb:ot.length<=50000:=(by rw[<-hot,An];omega);refine aH ?_;simp only[↓zP,zJ,seval];refine bG [3] (fun j vs H'=>H'=H2/\vs=[.str (ot++((lD v).take j).flatMap (32:: ·))]) 0 3 (by decide) (by decide) (by decide) ?_ ?_ ?_ ?_ ?_
     · simp only[zB,seval]
     · exact⟨rfl,by simp only[sm,zB,seval,Eb,Jz,Bz,qT]⟩
     · rintro j f3 H3 _ EE EF e3 _;simp only[↓zP,zG,seval,e3];exact tB (by omega)
     · rintro j f3 H3 _ EE EF e3 ⟨rfl,PG⟩;simp only[zM] at PG;have s1:f3 1=.ref 0 0:=(EF 1 rfl).trans p1;have s4:f3 4=.int .i64 i:=(EF 4 rfl).trans p4;have s5:f3 5=.int .i64 k:=(EF 5 rfl).trans e2;have MZ:=hvv.at EE;have NO:=CI MZ.1 MZ.2;have hwl:=VA hvv j;have BN:=eV MZ.1 MZ.2;obtain⟨O2,o2,q2,b2⟩:=pH (x:=ot++((lD v).take j).flatMap (32:: ·)) (y:=[32]) (n:=51000) (m:=1) (by rw[An];omega) (by simp) (by decide);obtain⟨O3,o3,q3,b3⟩:=pH (x:=O2) q2 BN (by decide);refine aH ?_;simp only[↓zP,zJ,seval,PG,b2,s1,s4,s5,e3,g0,aB,qY,hi,hgl,aL,RI,hgv,EE,WE v EE];refine bK (NO _) ?_;simp only[↓zP,zG,seval,b3];refine⟨trivial,?_⟩;rw[o3,o2,Qi v EE,Fa];simp
     rintro f3 H3 EF ⟨rfl,PG⟩;simp only[zM] at PG;refine⟨rfl,?_⟩;simp only[PG];rw[<-hot,Cw,<-wv3];simp
   rintro f2 H2 dA ⟨rfl,qT⟩;simp only[zM] at qT;rw[Ar] at qT;have hal:(l.flatMap wvR).length<=64*63:=Br (BI fun v hv=>by rw[wv3];exact VA (hlm.2.2 v hv) 3) (Cj _ hlm.2.1);obtain⟨O4,o4,q4,b4⟩:=pH (x:=O1++l.flatMap wvR) (y:=[10]) (n:=51000) (m:=1) (by rw[An];omega) (by simp) (by decide);simp only[↓zP,seval];apply hK;clear hK K;simp only[↓zP,zJ,seval,qT,b4];refine⟨trivial,?_⟩;rw[o4,o1,<-tI];unfold QK;simp;rfl
 rintro f H1 hk ⟨rfl,fP⟩;simp only[zM] at fP;rw[Ar] at fP;simp only[↓zP,seval,fP];refine Rx ?_;rw[hhd];rfl
theorem aEt {b:BD} (hb:b.Fit):b.text.length<2^28:=by
 have gw:b.text=Mc b.name b.m0 b.m1 b.r0 b.r1++b.ls.flatMap QK:=Xm _ _ _ _ _ _;have l0:=eV hb.n0.1 hb.n0.2;have l1:=eV hb.n1.1 hb.n1.2;have l2:=eV hb.n2.1 hb.n2.2;have l3:=eV hb.n3.1 hb.n3.2;have hnl:=hb.nl;have nP:=hb.pl
 have h1:(b.ls.flatMap QK).length<=b.ls.length*5001:=BI fun l hl=>by rw[<-Uk,An];have :=Nh (hb.pv l hl).2.2 (hb.pv l hl).2.1;simp only[Ah,Ay];omega
 rw[gw,An];unfold Mc;simp only[An,Ah,Ay];omega
def Vn:Option BD->AV
 |none=>.agg (iG++[.int .i64 3])
 |some b=>.agg (YA b++[.int .i64 0])
theorem _root_.Go.Av.Sound.bIz {P:Program} {g:bB} {f:FuncId} {args:List AV} {H H':aA} {a a':AV} (h:Sound P g f args H (.ret a) H') (hw:Wk a a'):Sound P g f args H (.ret a') H':=by
 refine⟨h.1,fun G w vs hG hv=>(h.2 G w vs hG hv).mono fun e w' ⟨G',h1,h2,h3⟩=>⟨G',h1,h2,?_⟩⟩
 cases e with
 |returned u=>exact VR.wk hw h3
 |_=>exact h3.elim
theorem bd {name:List UInt8} (mC:name.length<2^63) {H0:aA} {v:AV} {ps:List (AV×List aG.V)} (hv:pF H0 1 v (jF ps)) (oZ:∀p∈ps,AP p) (hlen:∀p∈ps,p.2.length<2^30) (nP:ps.length<2^30) (m0 m1 r0 r1:Int) (H:aA):
 Sg 18 [.agg (bX name v m0 m1 r0 r1)] H (.ret (.int .i64 (kS name (ps.map (·.2)) m0 m1 r0 r1))) H:=by
 apply Sound.wB;rw[IJ,<-II];refine Sw mC (Np hv) (LZ oZ) (fun p hp=>?_) (by simp[nr];omega) m0 m1 r0 r1 H;obtain⟨q,hq,rfl⟩:=Bf.1 hp;exact hlen q hq
theorem tp {b:BD} (hb:b.Fit) {H0:aA} {v:AV} {ps:List (AV×List aG.V)} (hv:pF H0 1 v (jF ps)) (oZ:∀p∈ps,AP p) (gg:ps.map (·.2)=b.ls) (H:aA):
 Sg 19 [.agg (bX b.name v b.m0 b.m1 b.r0 b.r1)] H (.ret (.str b.text)) H:=by
 apply Sound.wB;have bN:ps≠[]:=fun e=>hb.pn (by rw[<-gg,e];rfl);rw[IJ,ZF hv oZ bN fun p hp=>(hb.pv p.2 (by rw[<-gg];exact Bf.2 ⟨p,hp,rfl⟩)).1,gg];exact sx hb H
theorem Zo (s:List UInt8):(sT s).length<=s.length/\∀x∈sT s,x.length<=s.length:=by
 obtain⟨h1,h2⟩:=oJ 10 s;unfold sT;split
 · refine⟨by rw[List.length_dropLast];omega,fun x hx=>h2 x (List.dropLast_subset _ hx)⟩
 simp
theorem mc {ns:List Int} {k:Nat} {x y z:Int} (h:(ns.drop (3*k)).take 3=[x,y,z]):(eA ns).getD (3*k) []=[.int .i64 x]/\(eA ns).getD (3*k+1) []=[.int .i64 y]/\(eA ns).getD (3*k+2) []=[.int .i64 z]:=by
 have g:∀j,j<3->ns[3*k+j]?=[x,y,z][j]?:=fun j hj=>by rw[<-h,Gj,if_pos hj,Ft]
 have q:∀(i:Nat) (a:Int),ns[i]?=some a->(eA ns).getD i []=[.int .i64 a]:=fun i a ha=>by unfold eA;rw[List.getD,Bo,ha];rfl
 exact⟨q _ _ (g 0 (by decide)),q _ _ (g 1 (by decide)),q _ _ (g 2 (by decide))⟩
theorem tj {s:List UInt8} (hs:s.length<2^28):
 FC Tryz.prog gv (W5.1).ntmps (W5.1).body (dW [.str s]) [] ⟨0,.nil⟩ (MA (W5.1).results fun o _=>∃a,o=.ret a/\wB a=Vn (qV s (sT s))):=by
 unfold W5;dsimp only;have fz:wB (.agg (iG++[.int .i64 3]))=Vn none:=by simp[wB,nY,Vn,iG,bX]
 refine bS ?_;simp only[↓zP,zG,seval];refine bT ?_;obtain⟨A,hA⟩:∃A,aA.alloc ⟨0,.nil⟩ (.cells (iG++[.int .i64 0]) false)=A:=⟨_,rfl⟩;have hAn:A.next=1:=by rw[<-hA];rfl
 have a0:A.get 0=some (.cells (iG++[.int .i64 0]) false):=by rw[<-hA];simp only[zI,seval]
 have hAf:cN A:=by rw[<-hA];exact(cN.nil 0).alloc _
 have hz:[AV.str [],.aS,.int .i64 0,.int .i64 0,.int .i64 0,.int .i64 0,.int .i64 0]=iG++[.int .i64 0]:=rfl;rw[hz,hA];clear hA;obtain⟨xE,VL⟩:=Zo s;refine bS ?_;simp only[↓zP,zJ,seval];refine bK (uh hs _) ?_;simp only[↓zP,zG,seval];refine bT ?_;generalize pg:sT s=ls at *;refine bS ?_
 cases ls with
 |nil=>have hv:PU []=.aS:=rfl;rw[hv,oU (show xP []=none from rfl)];simp only[↓zP,zJ,seval,a0,<-hz];refine Rx ?_;exact⟨_,rfl,fz⟩
 |cons l0 r=>
 have hv:PU (l0::r)=.aV 0 1 (cD (l0::r)):=by unfold PU;rw[if_neg (by simp)]
 have hL0:(cD (l0::r)).getD 0 []=[.str l0]:=rfl;have vw:(cD (l0::r)).length=r.length+1:=by simp[cD]
 have wF:0<r.length+1:=Nat.succ_pos _;have hgL:∀i (hi:i<r.length),(cD (l0::r)).getD (i+1) []=[.str r[i]]:=fun i hi=>zV (xs:=l0::r) (i:=i+1) (by simp;omega);have BO:=VL l0 Au;simp only[Ah] at xE;obtain⟨Nd,uY⟩:=oJ 32 l0;have aSn:=QG (s:=l0) (by omega);have Tp:(((r.length+1:Nat):Int)==0)=false:=by rw[Ca];omega
 rw[hv];generalize hLg:cD (l0::r)=L at *;simp only[↓zP,zG,seval,vw,Tp];refine fL ?_;simp only[↓zP,zJ,seval,jI,hL0,vw,wF];refine bK (aSn _) ?_;simp only[↓zP,zG,seval];refine bT ?_;generalize hw:cL 32 l0=w at *;have hwl:(cD w).length=w.length:=eI w;refine bS ?_;by_cases h8:w.length=8;rotate_left
 · rw[oU (show xP (l0::r)=none by simp only[xP,hw,Ox,if_neg h8])];have hb:((w.length:Int) != 8)=true:=by rw[El];omega
   simp only[↓zP,zJ,seval,hwl,hb,a0,<-hz];refine Rx ?_;exact⟨_,rfl,fz⟩
 have hb:((w.length:Int) != 8)=false:=by rw[h8];rfl
 simp only[↓zP,zG,seval,hwl,hb];refine bT ?_
 obtain⟨w0,w1,w2,w3,w4,w5,w6,w7,rfl⟩:∃w0 w1 w2 w3 w4 w5 w6 w7,w=[w0,w1,w2,w3,w4,w5,w6,w7]:=by
  match w,h8 with
  |[w0,w1,w2,w3,w4,w5,w6,w7],_=>exact⟨_,_,_,_,_,_,_,_,rfl⟩
 have i4:asNat (.int .i64 4)=some 4:=rfl;have i6:asNat (.int .i64 6)=some 6:=rfl;have i7:asNat (.int .i64 7)=some 7:=rfl;have hE:cD [w0,w1,w2,w3,w4,w5,w6,w7]=[[.str w0],[.str w1],[.str w2],[.str w3],[.str w4],[.str w5],[.str w6],[.str w7]]:=rfl
 have hwn:∀x∈[w3,w4,w6,w7],x.length<2^28:=fun x hx=>by have :=uY x (by simp only[Aq,Bx,Em] at hx ⊢;rcases hx with h|h|h|h<;>simp[h]);omega
 rw[hE];have gD:∀H,Sg 17 [.aV 1 1 [[.str w3],[.str w4],[.str w6],[.str w7]]] H (.ret (MJ [w3,w4,w6,w7])) H:=XX (by simp) hwn 1;have hhd:Ox [w0,w1,w2,w3,w4,w5,w6,w7]=(pT [w3,w4,w6,w7]).map fun n=>(w1,n):=rfl;unfold MJ at gD;refine aJ fun K hK=>?_;refine Dz ?_;simp only[↓zP,zJ,seval,zD,jI,i4,i6,i7];refine eT (gD _) ?_
 cases hI:pT [w3,w4,w6,w7] with
 |none=>simp only[↓zP,zJ,seval,zD];apply hK;clear hK K;refine aJ fun K hK=>?_;simp only[↓zP,zJ,seval,a0,<-hz];refine Rx ?_;exact⟨_,rfl,by rw[oU (show xP (l0::r)=none by simp only[xP,hw,hhd,hI];rfl)];exact fz⟩
 |some ns=>
 obtain⟨dB,pz,hnl⟩:=yV hI
 obtain⟨n0,n1,n2,n3,rfl⟩:∃n0 n1 n2 n3,ns=[n0,n1,n2,n3]:=by
  match ns,hnl with
  |[a,b,c,d],_=>exact⟨_,_,_,_,rfl⟩
 have hA:nH [n0,n1,n2,n3]=.aV 0 1 [[.int .i64 n0],[.int .i64 n1],[.int .i64 n2],[.int .i64 n3]]:=by unfold nH;rw[if_neg (by simp)];rfl
 simp only[hA];simp only[↓zP,zJ,seval,zD];apply hK;clear hK K;refine bS ?_;simp only[↓zP,zJ,seval];refine fL ?_;refine nG 1 (by decide) hAf.at1 fun B hBn hBg=>?_;simp only[↓zP,zJ,seval,zD,jI,hBg,hBn,hAn];refine bT ?_;generalize hX:(B.set 1 _).set 1 _=C;have hCn:C.next=2:=by subst hX;simp only[aA.aX,hBn,hAn]
 have c0:C.get 0=some (.cells (iG++[.int .i64 0]) false):=by subst hX;simp only[zI,seval,hBg,a0]
 have c1:C.get 1=some (.cells (bX w1 .aS n0 n1 n2 n3) false):=by subst hX;simp only[zI,seval];rfl
 clear hX a0 hAn hAf hBg hBn;refine aJ fun K hK=>?_;refine bS ?_;simp only[↓zP,zG,seval];refine bT ?_
 refine bG [] (fun i _ H'=>∃(ps:List (AV×List aG.V)) (v:AV),mZ (r.take (i -1))=some (ps.map (·.2))/\H'.get 1=some (.cells (bX w1 v n0 n1 n2 n3) false)/\H'.get 0=some (.cells (iG++[.int .i64 0]) false)/\2<=H'.next/\HV H' 2 1 v (jF ps)/\
  (∀p∈ps,AP p)/\ps.length=i -1/\∀p∈ps,p.2.length<2^30) 1 (r.length+1) (by omega) (by omega) (by decide) ?_ ?_ ?_ ?_ ?_
 · simp only[zB,seval]
 · exact⟨[],.aS,rfl,c1,c0,by omega,.inl ⟨rfl,rfl⟩,fun p hp=>by simp at hp,rfl,fun p hp=>by simp at hp⟩
 · rintro i f H1 h0 hi hk e1 _;have f3:f 3=.aV 0 1 L:=hk 3 rfl;simp only[↓zP,zG,seval,e1,f3,vw];exact tB (by omega)
 · rintro i f H1 h0 hi hk e1 ⟨ps,v,RJ,g1,g0,hn,Lo,Wd,nP,ZZ⟩;obtain⟨i,rfl⟩:∃j,i=j+1:=⟨i -1,by omega⟩;simp only[Jq] at RJ nP ⊢;have hir:i<r.length:=by omega
   have f3:f 3=.aV 0 1 L:=hk 3 rfl;have f2:f 2=.ref 0 0:=hk 2 rfl;have f7:f 7=.ref 1 0:=hk 7 rfl;have hxm:r[i]∈r:=Ai hir
   have aSa:∀q,uI r[i]=some q->mZ (r.take (i+1))=some (ps.map (·.2)++[q]):=fun q hq=>by rw[Ap,Ab hir];exact Ms RJ hq
   have Wh:=VL _ (Aw l0 hxm);have AJ:=hgL i hir;have VJ:i+1<r.length+1:=hi;generalize r[i]=x at *;obtain⟨hu1,hu2⟩:=oJ 32 x;have aSo:=QG (s:=x) (by omega);have aSt:=xX 32 x;have pq:uI x=_:=rfl
   conv at pq=>rhs;unfold uI
   generalize cL 32 x=u at *
   have hul:1<=u.length:=by
    cases u with
    |nil=>exact absurd rfl aSt
    |cons a b=>simp
   obtain⟨tg2,bGg,aBn⟩:=GY 0 1 (els:=cD u) (a:=1) (by rw[eI];omega);rw[show(cD u).drop 1=cD (u.drop 1) by simp[cD]] at aBn;have PE:∀y∈u.drop 1,y.length<2^28:=fun y hy=>by have :=hu2 y (Es hy);omega
   have aHm:(u.drop 1).length<2^30:=(by rw[Dy];omega);have aBd:=XX aHm PE tg2;unfold MJ at aBd;refine aH ?_;refine bS ?_;simp only[↓zP,zJ,seval,f3,e1,aB,vw,VJ,AJ];refine bK (aSo _) ?_;simp only[↓zP,zG,seval];refine bT ?_;refine aJ fun K2 cK=>?_;simp only[↓zP,zJ,seval,jI,cZ,aBn,Bu];refine bK (aBd _) ?_
   have bad:uI x=none->wB (.agg (iG++[.int .i64 3]))=Vn (qV s (l0::r)):=fun h=>by
    rw[oU,fz];simp only[xP,yZ hxm h];split
    · rename_i h;cases h
    rfl
   cases RH:pT (u.drop 1) with
   |none=>simp only[↓zP,zJ,seval];apply cK;clear cK K2;refine aJ fun K2 cK=>?_;simp only[↓zP,zJ,seval,f2,g0,<-hz];refine⟨rfl,_,by simp only[↓zP,zR,seval,f2];rfl,?_⟩;exact⟨_,rfl,bad (by rw[pq,RH])⟩
   |some ns=>
   obtain⟨aKy,ZW,bFm⟩:=yV RH;simp only[↓zP,zJ,seval];apply cK;clear cK K2;refine aJ fun K2 cK=>?_
   have tail:∀f':cU,f' 10=nH ns->f' 7=.ref 1 0->ns.length%3=0->K2 f' [] H1:=by
    intro f' q10 q7 h3;apply cK;clear cK K2;have hq:uI x=some (mS ns):=(by rw[pq,RH];simp only[if_pos h3]);have IW:=LO h3;have MZ:=fun k=>OT (v:=ns) (k:=k);generalize mS ns=cs at *;refine bS ?_;simp only[↓zP,zG,seval];refine bT ?_;refine aJ fun K2 cK=>?_;simp only[↓zP,zG,seval];refine TP [] (fun k _ H'=>∃cv:AV,H'.get H1.next=some (.cells [cv] false)/\HV H' (H1.next+1) 3 cv (bF (cs.take k))/\H1.next+1<=H'.next/\∀j,j<H1.next->H'.get j=H1.get j) (fun k=>((3*k:Nat):Int)) cs.length (by decide) ?_ ?_ ?_ ?_ ?_ ?_
    · intro k hk;simp only[qF,if_true];rw[wrap_i64 (by omega) (by omega)];simp only[Ac,AV.int.injEq,Jx];omega
    · simp only[zB,seval]
    · exact⟨.aS,by rw[aA.aF,if_pos rfl],.inl ⟨rfl,rfl⟩,by simp,fun j hj=>by rw[aA.aF,if_neg (by omega)]⟩
    · rintro k f2 H2 RI dA e2 _;have su:f2 10=nH ns:=(dA 10 rfl).trans q10;have w2:IntKind.i64.wrap (((3*k:Nat):Int)+2)=((3*k+2:Nat):Int):=wI (by omega);by_cases bN:ns=[]
      · have Wb:ns.length=0:=(by rw[bN];rfl);have hz:nH ns=.aS:=(by unfold nH;rw[if_pos bN]);rw[hz] at su;simp only[↓zP,zG,seval,e2,su,w2];exact tB (by omega)
      have hz:nH ns=.aV 0 1 (eA ns):=(by unfold nH;rw[if_neg bN]);rw[hz] at su;simp only[↓zP,zG,seval,e2,su,w2,dZ];exact tB (by omega)
    · rintro k f2 H2 hkc dA e2 ⟨cv,gc,hoc,xG,hold⟩;have bN:ns≠[]:=fun e=>by rw[e] at IW;simp at IW;omega
      have hz:nH ns=.aV 0 1 (eA ns):=(by unfold nH;rw[if_neg bN]);have su:f2 10=.aV 0 1 (eA ns):=(by rw[dA 10 rfl];simp only[zB,seval,q10,hz]);have q12:f2 12=.ref H1.next 0:=dA 12 rfl;have w1:IntKind.i64.wrap (((3*k:Nat):Int)+1)=((3*k+1:Nat):Int):=wI (by omega);have w2:IntKind.i64.wrap (((3*k:Nat):Int)+2)=((3*k+2:Nat):Int):=wI (by omega);obtain⟨hx,hy,hzz⟩:=mc (MZ k hkc);obtain⟨H3,z1,z2,z3,z4⟩:=hoc.push (bytes:=24) (e:=[.int .i64 cs[k].x,.int .i64 cs[k].y,.int .i64 cs[k].z]) (by omega) (by rw[aL,Cb];omega);have gc3:=(z4 _ (Ew _)).trans gc;refine aH ?_;refine Dz ?_;simp only[↓zP,zJ,seval,zD,q12,gc,su,e2,aB,dZ,w1,w2,hx,hy,hzz,show 3*k<ns.length by omega,show 3*k+1<ns.length by omega,show 3*k+2<ns.length by omega,eL,z1,gc3];refine⟨by omega,_,rfl,?_,by omega,fun j hj=>by rw[if_neg (by omega),z4 j (by omega),hold j hj]⟩;rw[Ap,Ab hkc,show bF (cs.take k++(some cs[k]).toList)=bF (cs.take k)++[bZ cs[k]] by unfold bF;rw[Ch];rfl];exact z2.mono (by simp) fun j h1 h2=>by rw[aA.aC,if_neg (by omega)]
    rintro f3' H2 dA ⟨cv,gc,hoc,xG,hold⟩;have p12:f3' 12=.ref H1.next 0:=dA 12 rfl;have p7:f3' 7=.ref 1 0:=(dA 7 rfl).trans q7;rw[Ar] at hoc;have k0:=(hold 0 (by omega)).trans g0;have k1:=(hold 1 (by omega)).trans g1;have aSu:=Lo.mono (H':=H2) (by omega) fun j _ hj=>hold j hj;have GG:(jF ps).length=ps.length:=Ad _;obtain⟨H3,z1,z2,z3,z4⟩:=aSu.push (bytes:=24) (e:=[cv]) (by omega) (by rw[GG];omega);have e0:=(z4 0 (by omega)).trans k0;have vu:=(z4 1 (by omega)).trans k1;simp only[bX] at k1 vu;simp only[↓zP,seval];apply cK;clear cK K2;simp only[↓zP,zJ,seval,p12,p7,k1,gc,eL,z1,vu];refine⟨ps++[(cv,cs)],.aV (H2.next+2) 1 (jF ps++[[cv]]),by rw[aSa _ hq];simp,rfl,e0,by omega,?_,?_,by simp[nP],?_⟩
    · rw[show jF (ps++[(cv,cs)])=jF ps++[[cv]] by simp[jF]];exact z2.mono (by simp) fun j h1 h2=>by rw[aA.aC,if_neg (by omega)]
    · intro p hp
      rcases As.1 hp with hp|hp
      · exact Wd p hp
      rw[Bq.1 hp];exact hoc.aMi
    intro p hp
    rcases As.1 hp with hp|hp
    · exact ZZ p hp
    rw[Bq.1 hp];show cs.length<_;omega
   by_cases h3:ns.length%3=0
   · by_cases bN:ns=[]
     · have hz:nH ns=.aS:=(by unfold nH;rw[if_pos bN]);rw[hz] at tail ⊢;simp only[↓zP,zJ,seval];exact tail _ (by simp only[zB,seval]) (by simp only[zB,seval];exact f7) h3
     have hz:nH ns=.aV 0 1 (eA ns):=(by unfold nH;rw[if_neg bN]);rw[hz] at tail ⊢;have JA:(ns.length:Int).tmod 3=0:=(by rw[Cu (by omega)];omega);simp only[↓zP,zJ,seval,dZ,JA];exact tail _ (by simp only[zB,seval]) (by simp only[zB,seval];exact f7) h3
   have bN:ns≠[]:=fun e=>by subst e;exact h3 rfl
   have hz':nH ns=.aV 0 1 (eA ns):=(by unfold nH;rw[if_neg bN]);rw[hz'];have JA:((ns.length:Int).tmod 3 != 0)=true:=(by rw[El,Cu (by omega)];omega);simp only[↓zP,zJ,seval,dZ,JA,f2,g0,<-hz];refine⟨rfl,_,by simp only[↓zP,zR,seval,f2];rfl,?_⟩;exact⟨_,rfl,bad (by rw[pq,RH];simp only[if_neg h3])⟩
 rintro f H1 hk ⟨ps,v,RJ,g1,g0,hn,Lo,Wd,nP,ZZ⟩;have f2:f 2=.ref 0 0:=hk 2 rfl;have f7:f 7=.ref 1 0:=hk 7 rfl;have f0:f 0=.str s:=hk 0 rfl;rw[Jq,Ar] at RJ;rw[Jq] at nP
 have ZV:xP (l0::r)=some ⟨w1,ps.map (·.2),n0,n1,n2,n3⟩:=by simp only[xP,hw,hhd,hI,RJ];rfl
 have hck:=bd (name:=w1) (by have :=uY w1 (by simp);omega) Lo.ry Wd ZZ (by omega) n0 n1 n2 n3;generalize ER:(⟨w1,ps.map (·.2),n0,n1,n2,n3⟩:BD)=b at *;have hcb:kS w1 (ps.map (·.2)) n0 n1 n2 n3=b.VC:=by rw[<-ER];rfl
 rw[hcb] at hck;simp only[↓zP,seval];apply hK;clear hK K;have b6:(bX w1 v n0 n1 n2 n3).length=6:=rfl;refine bS ?_;by_cases hc:b.VC=0;rotate_left
 · have hb:(b.VC != 0)=true:=by rw[El];exact hc
   simp only[↓zP,zJ,seval,f7,g1,oL b6];refine bK (hck _) ?_;simp only[↓zP,zJ,seval,hb,f2,g0,<-hz];refine⟨rfl,_,by simp only[↓zP,zR,seval,f2];rfl,?_⟩;exact⟨_,rfl,by rw[JX ZV fun q=>hc q.1];exact fz⟩
 have hb:(b.VC != 0)=false:=by rw[hc];rfl
 have sO:=BD.fit hc
 have gw:∀H,Sg 19 [.agg (bX w1 v n0 n1 n2 n3)] H (.ret (.str b.text)) H:=fun H=>by subst ER;exact tp sO Lo.ry Wd rfl H
 have aBi:qL .neq b.text s=some (.bool (!(b.text==s))):=rfl;simp only[↓zP,zJ,seval,f7,g1,oL b6];refine bK (hck _) ?_;simp only[↓zP,zJ,seval,hb,f7,g1,oL b6];refine bK (gw _) ?_;by_cases ht:b.text=s;rotate_left
 · have Ma:(b.text==s)=false:=by rw[Ca];exact ht
   simp only[↓zP,zJ,seval,f0,aBi,Ma,f2,g0,<-hz];refine⟨rfl,_,by simp only[↓zP,zR,seval,f2];rfl,?_⟩;exact⟨_,rfl,by rw[JX ZV fun q=>ht q.2];exact fz⟩
 have Ma:(b.text==s)=true:=by rw[Dc];exact ht
 simp only[↓zP,zJ,seval,f0,aBi,Ma];refine bT ?_;simp only[bX] at g1;simp only[↓zP,zJ,seval,f2,f7,g0,g1,<-hz];refine⟨rfl,_,by simp only[↓zP,zR,seval,f2];rfl,?_⟩;refine⟨_,rfl,?_⟩
 have bN:ps≠[]:=fun e=>by subst ER;exact sO.pn (by rw[e];rfl)
 have hv:=ZF Lo.ry Wd bN fun p hp=>by subst ER;exact(sO.pv p.2 (Bf.2 ⟨p,hp,rfl⟩)).1
 show wB (.agg [.str w1,v,.int .i64 n0,.int .i64 n1,.int .i64 n2,.int .i64 n3,.int .i64 0])=_;rw[XI ZV ⟨hc,ht⟩,show wB (.agg [.str w1,v,.int .i64 n0,.int .i64 n1,.int .i64 n2,.int .i64 n3,.int .i64 0])=.agg [.str w1,wB v,.int .i64 n0,.int .i64 n1,.int .i64 n2,.int .i64 n3,.int .i64 0] by simp[wB,nY],hv,<-ER];rfl
theorem Rg (o:Option BD):(Vn o).free=true:=by
 cases o with
 |none=>rfl
 |some b=>simp only[Vn,YA,bX,Ei,Dk,sf,KC]
theorem ao {s:List UInt8} (hs:s.length<2^28) (H:aA):Sg 5 [.str s] H (.ret (Vn (qV s (sT s)))) H:=by obtain⟨out,H',⟨a,rfl,he⟩,hS⟩:=gA fit is5 (args:=[.str s]) (Af rfl) (tj hs);refine(hS.bIz (Qh a)).frame dQ (by simp only[sf]) (tk:=none) (fun k hk=>by cases hk) (n:=0) H ?_;show fT _ none _ 0 (wB a)=_;rw[he];exact oV (Rg _)
theorem aHs {l:List aG.V} (hl:l.length<2^30) (H:aA):St 49 [.agg [.aV 0 3 (bF l)],.agg [.aV 0 3 (bF l)],.int .i64 0] H (.ret (.bool true)) H:=by
 refine gH sN gY aMf (Af rfl) (by rw[show bU [AV.agg [.aV 0 3 (bF l)],.agg [.aV 0 3 (bF l)],.int .i64 0]=(((AV.aV 0 3 (bF l)).free&&true)&&(((AV.aV 0 3 (bF l)).free&&true)&&true)) from rfl,cE rfl l];rfl) (by simp only[sf]) ?_ H;unfold aGb;dsimp only;have bN:((l.length:Int) != l.length)=false:=Fx _;refine bS ?_;simp only[↓zP,zJ,seval];refine bT ?_;generalize hX:(aA.alloc _ _:aA)=HA;have g0:HA.get 0=some (.cells [.aV 0 3 (bF l)] false):=by subst hX;simp only[zI,seval]
 have g1:HA.get 1=some (.cells [.aV 0 3 (bF l)] false):=by subst hX;simp only[zI,seval]
 clear hX;refine bS ?_;simp only[↓zP,zJ,seval,g0,g1,aL,bN];refine bT ?_;refine aJ fun K hK=>?_;simp only[↓zP,zG,seval];refine bG [] (fun i _ H'=>H'=HA) 0 l.length (Bb _) (by omega) (by decide) ?_ ?_ ?_ ?_ ?_
 · simp only[zB,seval]
 · rfl
 · rintro i f H1 h0 hi hk e1 rfl;have f3:f 3=.ref 0 0:=hk 3 rfl;simp only[↓zP,zJ,seval,e1,f3,g0,aL];exact tB (by omega)
 · rintro i f H1 h0 hi hk e1 rfl;have f3:f 3=.ref 0 0:=hk 3 rfl;have f4:f 4=.ref 1 0:=hk 4 rfl;have f2:f 2=.int .i64 0:=hk 2 rfl;have hgv:=bY hi;generalize l[i]=v at *;refine aH ?_;simp only[↓zP,zG,seval];refine bG [] (fun j _ H'=>H'=H1) 0 3 (by decide) (by decide) (by decide) ?_ ?_ ?_ ?_ ?_
   · simp only[zB,seval]
   · rfl
   · rintro j q H2 _ hj dA e2 _;simp only[↓zP,zG,seval,e2];exact tB (by omega)
   · rintro j q H2 _ hj dA e2 rfl;have q3:q 3=.ref 0 0:=(dA 3 rfl).trans f3;have q4:q 4=.ref 1 0:=(dA 4 rfl).trans f4;have q2:q 2=.int .i64 0:=(dA 2 rfl).trans f2;have q7:q 7=.int .i64 i:=(dA 7 rfl).trans e1;have w0:IntKind.i64.wrap (v.at j -v.at j)=0:=(by rw[Int.sub_self];rfl);have w1:IntKind.i64.wrap 0=0:=rfl;refine aH ?_;refine bS ?_;refine Dz ?_;simp only[↓zP,zJ,seval,zD,q3,q4,q7,e2,g0,g1,aB,aL,hi,hgv,hj,WE v hj,w0];refine bT ?_;simp only[↓zP,zG,seval,q2,w1,Fm]
   rintro q H2 dA rfl;simp only[↓zP,seval]
 rintro f H1 hk rfl;simp only[↓zP,seval];apply hK;clear hK K;simp only[↓zP,zG,seval];refine Rx ?_;rfl
theorem aFh {b:BD} (hb:b.Fit) (H:aA):St 20 [.agg (YA b),.agg (YA b),.int .i64 0] H (.ret (.bool true)) H:=by
 refine gH sN gY aBw (Af rfl) (by simp only[YA,bX,sf,KC]) (by simp only[sf]) ?_ H;unfold yy;dsimp only;obtain⟨name,ls,m0,m1,r0,r1⟩:=b;have nP:=hb.pl;have JB:=hb.pv;simp only at nP JB;have bN:((ls.length:Int) != ls.length)=false:=Fx _;refine bS ?_;simp only[↓zP,zJ,seval,YA,bX];refine bT ?_;generalize hX:(aA.alloc _ _:aA)=HA;have g0:HA.get 0=some (.cells [.str name,.aV 0 1 (xg ls),.int .i64 m0,.int .i64 m1,.int .i64 r0,.int .i64 r1] false):=by subst hX;simp only[zI,seval]
 have g1:HA.get 1=some (.cells [.str name,.aV 0 1 (xg ls),.int .i64 m0,.int .i64 m1,.int .i64 r0,.int .i64 r1] false):=by subst hX;simp only[zI,seval]
 clear hX;refine bS ?_;simp only[↓zP,zJ,seval,g0,g1,qY,bN];refine bT ?_;refine aJ fun K hK=>?_;simp only[↓zP,zG,seval];refine bG [] (fun i _ H'=>H'=HA) 0 ls.length (Bb _) (by omega) (by decide) ?_ ?_ ?_ ?_ ?_
 · simp only[zB,seval]
 · rfl
 · rintro i f H1 h0 hi hk e1 rfl;have f3:f 3=.ref 0 0:=hk 3 rfl;simp only[↓zP,zJ,seval,e1,f3,g0,qY];exact tB (by omega)
 · rintro i f H1 h0 hi hk e1 rfl;have f3:f 3=.ref 0 0:=hk 3 rfl;have f4:f 4=.ref 1 0:=hk 4 rfl;have f2:f 2=.int .i64 0:=hk 2 rfl;have hgl:=XO hi;have hnr:=aHs (l:=ls[i]) (by have :=(JB _ (Ai hi)).2.1;omega);generalize ls[i]=l at *;refine aH ?_;refine bS ?_;refine Dz ?_;simp only[↓zP,zJ,seval,zD,f2,f3,f4,e1,g0,g1,aB,qY,hi,hgl];refine eT (hnr _) ?_;simp only[↓zP,zJ,seval,zD];refine bT ?_;simp only[↓zP,zJ,seval]
 rintro f H1 hk rfl;simp only[↓zP,seval];apply hK;clear hK K;simp only[↓zP,zG,seval];refine Rx ?_;rfl
theorem xx (H:aA):St 20 [.agg iG,.agg iG,.int .i64 0] H (.ret (.bool true)) H:=by
 refine gH sN gY aBw (Af rfl) (by simp only[iG,bX,sf]) (by simp only[sf]) ?_ H;unfold yy;dsimp only;have bN:((0:Int) != 0)=false:=rfl;refine bS ?_;simp only[↓zP,zJ,seval,iG,bX];refine bT ?_;generalize hX:(aA.alloc _ _:aA)=HA;have g0:HA.get 0=some (.cells [.str [],.aS,.int .i64 0,.int .i64 0,.int .i64 0,.int .i64 0] false):=by subst hX;simp only[zI,seval]
 have g1:HA.get 1=some (.cells [.str [],.aS,.int .i64 0,.int .i64 0,.int .i64 0,.int .i64 0] false):=by subst hX;simp only[zI,seval]
 clear hX;refine bS ?_;simp only[↓zP,zJ,seval,g0,g1,bN];refine bT ?_;refine aJ fun K hK=>?_;simp only[↓zP,zG,seval];refine bG [] (fun i _ H'=>H'=HA) 0 0 (Bb _) (by decide) (by decide) ?_ ?_ ?_ ?_ ?_
 · simp only[zB,seval]
 · rfl
 · rintro i f H1 h0 hi hk e1 rfl;have f3:f 3=.ref 0 0:=hk 3 rfl;simp only[↓zP,zJ,seval,e1,f3,g0];exact tB (by omega)
 · rintro i f H1 h0 hi hk;exact absurd hi (Ax _)
 rintro f H1 hk rfl;simp only[↓zP,seval];apply hK;clear hK K;simp only[↓zP,zG,seval];refine Rx ?_;rfl
theorem Vf {bc:List AV} {name:List UInt8} {v:AV} {m0 m1 r0 r1:Int} (wa:bc=bX name v m0 m1 r0 r1) (hf:bU [AV.agg bc,.agg bc]=true) (hF:∀H,St 20 [.agg bc,.agg bc,.int .i64 0] H (.ret (.bool true)) H) (H:aA):
 St 6 [.agg bc,.agg bc] H (.ret (.bool true)) H:=by
 refine gH sN gY bBn (Af rfl) hf (by simp only[sf]) ?_ H;unfold W6T;dsimp only;have hb:qL .eql name name=some (.bool (name==name)):=rfl;have Ma:(name==name)=true:=Jc _;have b6:bc.length=6:=by rw[wa];rfl
 refine bS ?_;simp only[↓zP,zJ,seval];refine bT ?_;generalize hX:(aA.alloc _ _:aA)=HA;have g0:HA.get 0=some (.cells bc false):=by subst hX;simp only[zI,seval]
 have g1:HA.get 1=some (.cells bc false):=by subst hX;simp only[zI,seval]
 clear hX;have e0:bc.getD 0 aD=.str name:=by rw[wa];rfl
 have t2:(bc.drop 2).take 2=[.int .i64 m0,.int .i64 m1]:=by rw[wa];rfl
 have t4:(bc.drop 4).take 2=[.int .i64 r0,.int .i64 r1]:=by rw[wa];rfl
 have hq:∀a b:Int,cP [Sk.i,Sk.i] [.int .i64 a,.int .i64 b] [.int .i64 a,.int .i64 b]=some true:=fun a b=>by simp[cP]
 simp only[↓zP,zJ,seval,g0,g1,b6,e0,hb,Ma,t2,t4,hq,oL b6];refine bK (hF _) ?_;simp only[↓zP,zG,seval];refine Rx ?_;rfl
theorem dh {b:BD} (hb:b.Fit) (H:aA):St 6 [.agg (YA b),.agg (YA b)] H (.ret (.bool true)) H:=
 Vf rfl (by simp only[bX,sf,KC]) (aFh hb) H
theorem yi (H:aA):St 6 [.agg iG,.agg iG] H (.ret (.bool true)) H:=
 Vf rfl (by simp only[bX,sf]) xx H
theorem XS {name:List UInt8} (mC:name.length<2^63) {pv:AV} {ps:List (AV×List aG.V)} (JB:vU pv ps) (oZ:∀p∈ps,mP p) (nP:ps.length<2^63) (m0 m1 r0 r1:Int) (H:aA):
 Sg 7 [.agg (bX name pv m0 m1 r0 r1)] H (.ret (.bool (Oi (ps.map (·.2))&&(kS name (ps.map (·.2)) m0 m1 r0 r1==0)))) H:=by
 refine Sp is7 (by simp only[sf,bX,JB.free oZ]) (by simp only[sf]) ?_ H;unfold W7;dsimp only;have bEw:=aJi (name:=name) JB oZ nP m0 m1 r0 r1
 have tS:Oi (ps.map (·.2))=true->(∀p∈ps,p.2.length<2^30)/\ps.length<2^30:=fun h=>by simp only[Oi,Am,Ct,Fo,Bh,Ad] at h;refine⟨fun p hp=>?_,by omega⟩;have :=h.1 p.2 (Bf.2 ⟨p,hp,rfl⟩);omega
 have Qo:=fun h=>Sw (name:=name) mC JB oZ (tS h).1 (tS h).2 m0 m1 r0 r1;have b6:(bX name pv m0 m1 r0 r1).length=6:=rfl;generalize bX name pv m0 m1 r0 r1=bc at *;generalize kS name (ps.map (·.2)) m0 m1 r0 r1=z at *;refine bS ?_;simp only[↓zP,zJ,seval];refine bT ?_;simp only[↓zP,zJ,seval,oL b6];refine bK (bEw _) ?_
 cases hfe:Oi (ps.map (·.2)) with
 |false=>simp only[↓zP,zG,seval];refine Rx ?_;rfl
 |true=>simp only[↓zP,zJ,seval,oL b6];refine bK (Qo hfe _) ?_;simp only[↓zP,zG,seval];refine Rx ?_;rfl
end Go.Proofs.YtbndcmnnbiiobaaGreatDoor
namespace Go.Proofs.YtbndcmnnbiiobaaGreatDoor
open Go Go.Av Go.aG Go.mO Go.Shelf
attribute [local congr] aU aO aP aN aY aR aQ aI aZ
attribute [local irreducible] FC bL eU
theorem aIu (s:List UInt8):qV s (sT s)=qV s (iX s):=by
 have hO:∀b:BD,b.Fit->b.text=s->iX s=Lib.join (iC b.name b.m0 b.m1 b.r0 b.r1) [32]::b.ls.map kZ:=fun b hb ht=>by rw[<-ht];exact BU hb
 have hR:∀b:BD,b.Fit->b.text=s->sT s=Lib.join (iC b.name b.m0 b.m1 b.r0 b.r1) [32]::b.ls.map kZ:=fun b hb ht=>by rw[<-ht];exact Ww hb
 refine Option.ext fun b=>?_;rw[JW hO,JW hR]
theorem aDf {s:List UInt8} {b:BD} (h:qV s (iX s)=some b):b.VC=0:=
 ((JW (fun b hb ht=>by rw[<-ht];exact BU hb)).1 h).1
theorem rz {b:BD} (h:b.VC=0):qV b.text (iX b.text)=some b:=
 (JW (s:=b.text) (ls:=iX b.text) fun b' hb ht=>by rw[<-ht];exact BU hb).2 ⟨h,rfl⟩
theorem aQr {name:List UInt8} {pv:AV} {ps:List (AV×List aG.V)} (JB:vU pv ps) (oZ:∀p∈ps,mP p) {m0 m1 r0 r1:Int} (hb:BD.Fit ⟨name,ps.map (·.2),m0,m1,r0,r1⟩):pv=.aV 0 1 (jF ps)/\jF ps=xg (ps.map (·.2)):=by
 have bN:ps≠[]:=fun e=>hb.pn (by rw[e];rfl);refine⟨(JB.resolve_left fun h=>bN h.2),?_⟩;unfold jF xg;rw[Dp];refine Ef fun p hp=>?_
 rcases oZ p hp with ⟨_,h2⟩|h1
 · exact absurd h2 (hb.pv p.2 (Bf.2 ⟨p,hp,rfl⟩)).1
 simp only[Function.comp_apply,h1]
theorem aUd {s:List UInt8} {name:List UInt8} (mC:name.length<2^63) {pv:AV} {ps:List (AV×List aG.V)} (JB:vU pv ps) (oZ:∀p∈ps,mP p) (nP:ps.length<2^63) (m0 m1 r0 r1:Int) (H:aA):
 St 3 [.str s,.agg (bX name pv m0 m1 r0 r1)] H (.ret (.bool true)) H:=by
 refine gH sN gY bHh (Af rfl) (by simp only[sf,bX,JB.free oZ]) (by simp only[sf]) ?_ H;unfold W3T;dsimp only;have DI:bU [AV.agg (bX name pv m0 m1 r0 r1)]=true:=by simp only[sf,bX,JB.free oZ]
 have xJ:=toT DI rfl fun H=>XS mC JB oZ nP m0 m1 r0 r1 H;have b6:(bX name pv m0 m1 r0 r1).length=6:=rfl;generalize wa:bX name pv m0 m1 r0 r1=bc at *;refine bS ?_;simp only[↓zP,zJ,seval];refine bT ?_;refine aJ fun K hK=>?_
 have rest:∀(f:cU) (H:aA),f 3=.ref 0 0->H.get 0=some (.cells bc false)->1<=H.next->K f [] H:=by
  intro f H1 f3 g0 hn;apply hK;clear hK K;refine aJ fun K hK=>?_;simp only[↓zP,zJ,seval,f3,g0,oL b6];refine bK (xJ _) ?_;have aXd:=uv
  cases hv:Oi (ps.map (·.2))&&(kS name (ps.map (·.2)) m0 m1 r0 r1==0) with
  |false=>simp only[↓zP,zJ,seval];refine bK (aXd _) ?_;simp only[↓zP,zG,seval];refine Rx ?_;rfl
  |true=>
   rw[Am,Dc] at hv;have sO:BD.Fit ⟨name,ps.map (·.2),m0,m1,r0,r1⟩:=BD.fit hv.2;obtain⟨hp1,hp2⟩:=aQr JB oZ sO;have gD:∀p∈ps,p.2∈ps.map (·.2):=fun p hp=>Bf.2 ⟨p,hp,rfl⟩
   have gw:∀H,St 9 [.agg bc] H (.ret (.str (BD.text ⟨name,ps.map (·.2),m0,m1,r0,r1⟩))) H:=fun H=>by rw[<-wa,hp1];exact Vi (Br sO.nl (by decide)) oZ (fun p hp=>(sO.pv _ (gD p hp)).2.1) (by have :=sO.pl;simpa using this) (fun p hp=>(sO.pv _ (gD p hp)).2.2) sO.n0 sO.n1 sO.n2 sO.n3 H
   have ER:YA ⟨name,ps.map (·.2),m0,m1,r0,r1⟩=bc:=by rw[<-wa,hp1,hp2];rfl
   have hpr:∀H,St 4 [.str (BD.text ⟨name,ps.map (·.2),m0,m1,r0,r1⟩)] H (.ret (.gP [.agg (YA ⟨name,ps.map (·.2),m0,m1,r0,r1⟩),.int .i64 0])) H:=fun H=>by have :=Rh (aEt sO) H;rw[rz (show BD.VC ⟨name,ps.map (fun p=>p.2),m0,m1,r0,r1⟩=0 from hv.2)] at this;exact this
   have hsm:=fun H=>dh sO H;rw[ER] at hpr hsm;simp only[↓zP,zJ,seval];apply hK;clear hK K;refine bS ?_;simp only[↓zP,zJ,seval,f3,g0,oL b6];refine bK (gw _) ?_;refine bK (hpr _) ?_;simp only[↓zP,zJ,seval,b6];refine bT ?_;simp only[↓zP,seval];refine bK (aXd _) ?_;simp only[↓zP,zJ,seval,f3,g0,b6,oL b6,Jc,show(0=H1.next)=False from eq_false (by omega)];refine bK (hsm _) ?_;simp only[↓zP,zG,seval];refine Rx ?_;rfl
 by_cases h6:s.length<=600
 · have hd:decide ((s.length:Int)<=600)=true:=Al (by omega);have hp:=fun H=>Rh (s:=s) (by omega) H;have hr:=toT (args:=[.str s]) (by simp only[sf]) (Rg _) fun H=>ao (s:=s) (by omega) H;rw[aIu] at hr
   obtain⟨xb,e,x6,hP,hG,hSm⟩:∃(xb:List AV) (e:Int),xb.length=6/\zf (qV s (iX s))=.gP [.agg xb,.int .i64 e]/\Vn (qV s (iX s))=.agg (xb++[.int .i64 e])/\∀H,St 6 [.agg xb,.agg xb] H (.ret (.bool true)) H:=by
    cases ho:qV s (iX s) with
    |none=>exact⟨iG,3,rfl,rfl,rfl,yi⟩
    |some b=>exact⟨YA b,0,rfl,rfl,rfl,dh (BD.fit (aDf ho))⟩
   rw[hP] at hp;rw[hG] at hr
   obtain⟨yb,hy,y7,yg,yt⟩:∃yb,yb=xb++[AV.int .i64 e]/\yb.length=7/\yb.getD 6 aD=.int .i64 e/\yb.take 6=xb:=by
    match xb,x6 with
    |[a,b,c,d,f,g],_=>exact⟨_,rfl,rfl,rfl,rfl⟩
   rw[<-hy] at hr;have he:(e != e)=false:=Fx e;simp only[↓zP,zJ,seval,hd];refine bK (hp _) ?_;simp only[↓zP,zJ,seval,x6];refine bK (hr _) ?_;simp only[↓zP,zJ,seval,x6,oL x6,y7,yg,yt,he];refine bK (hSm _) ?_;simp only[↓zP,zJ,seval];exact rest _ _ (by simp only[zB,seval]) (by simp only[zI,seval]) (by simp)
 have hd:decide ((s.length:Int)<=600)=false:=Ae (by omega);simp only[↓zP,zJ,seval,hd];exact rest _ _ (by simp only[zB,seval]) (by simp only[zI,seval]) (by simp)
end Go.Proofs.YtbndcmnnbiiobaaGreatDoor
namespace Go.Proofs.YtbndcmnnbiiobaaGreatDoor
open Go Go.Av Go.aG
open Go.ChangeShapes Go.WideShapes Go.ChangeAt Go.RowKit
section
theorem own:ownKnob Tryz.prog.godebug=none:=by kernel_rfl
theorem laidOut:laidOutB Tryz.prog=true:=by kernel_rfl
def qw (i:Nat):String:=(Rows.bodyTextsRow.laid.map (·.1)).getD i default
theorem bEa:Tryz.prog.globalNamed (qw 2)=some 3:=by kernel_rfl
theorem bJj:(Tryz.prog.globals[3]?).map (·.type)=some 286:=by kernel_rfl
def Wr:List (String×DataW Unit):=[(qw 0,Rows.laid_math_bits_deBruijn32tab),(qw 1,Rows.laid_math_bits_deBruijn64tab),(qw 2,Rows.laid_internal_strconv_uint64pow10),(qw 3,Rows.laid_unicode_utf8_acceptRanges),(qw 4,Rows.laid_unicode_utf8_first)]
def Vo:AV->DataW Unit
 |.int k n=>.lit (.int k n)
 |_=>.nil
theorem aUt:Rows.laid_internal_strconv_uint64pow10=DataW.agg (qX.map Vo):=by kernel_rfl
theorem aHc {W:World} {mo:Bool} {enc:TypeId×Value->Unit} {name:String} {g:Nat} {cs:Array Value} {base fuel:Nat} {sp:Nat->Bool} {hd:Bool} {p:List MemPlace} (hg:Tryz.prog.globalNamed name=some g) (hv:W.var? Tryz.prog name=some cs)
 (h:DataW.trod enc Tryz.prog W base sp hd fuel 286 cs.toList=some (DataW.agg (qX.map Vo),p)):VR (sZ mo W) W (.pl qX) (.pointer (some ⟨g,0,none⟩)):=by
 obtain⟨xs,m,_,hx,hl,Wh,Oy⟩:=DataW.trod_array Tryz.underlying286 h;have c1:Tryz.prog.cellsOf 98=1:=by kernel_rfl
 simp only[Aj,DataW.agg.injEq] at hx;have hr:qX.length=20:=by kernel_rfl
 have key:∀j,j<20->∃n,cs[j]?=some (.int .u64 n)/\qX.getD j aD=.int .u64 n:=by
  intro j hj;have h1:=Oy j hj;rw[c1,Dl,Ab (by omega)] at h1;obtain⟨n,e1,e2,_⟩:=DataW.trod_int Tryz.underlying98 h1;refine⟨n,?_,?_⟩
  · have h3:(((cs.toList.drop j).take 1))[0]?=some (.int .u64 n):=by rw[e1];rfl
    rw[Gj,if_pos (by decide),Ft] at h3;simpa using h3
  have h2:(qX.map Vo)[j]?=some (.lit (.int .u64 n)):=by rw[hx.1,Bo,Ab (by omega),e2];rfl
  rw[Bo] at h2;rw[List.getD]
  cases hq:qX[j]? with
  |none=>rw[hq] at h2;cases h2
  |some a=>rw[hq] at h2;simp only[Bt,Ac] at h2;cases a<;>simp[Vo] at h2;obtain⟨rfl,rfl⟩:=h2;rfl
 have cell:∀j,W.cell? ⟨g,0+j,none⟩=cs[j]?:=fun j=>by rw[Df];exact World.var?_cell hg hv j
 obtain⟨f,hf⟩:=Go.Deep.choose_lt (α:=Int) (n:=20) (p:=fun j n=>cs[j]?=some (.int .u64 n)/\qX.getD j aD=.int .u64 n) key;refine .pl qX g 0 (fun j=>.int .u64 (f j)) (fun j hj=>?_) (fun j hj=>?_)
 · rw[hr] at hj;have :=hf j hj;refine⟨⟨_,(cell j).trans this.1⟩,(cell j).trans this.1,?_⟩;rw[this.2];rfl
 rw[hr] at hj;rw[(hf j hj).2];exact .int _ _
theorem aHd {W:World} {enc:TypeId×Value->Unit} {name:String} {g:Nat} {cs:Array Value} {base fuel:Nat} {sp:Nat->Bool} {hd:Bool} {p:List MemPlace} (hg:Tryz.prog.globalNamed name=some g) (hv:W.var? Tryz.prog name=some cs)
 (h:DataW.trod enc Tryz.prog W base sp hd fuel 286 cs.toList=some (DataW.agg (qX.map Vo),p)):∃c el fz,W.heap[g]?=some (.cells c el fz)/\c.size=qX.length:=by
 obtain⟨xs,m,_,hx,hl,Wh,Oy⟩:=DataW.trod_array Tryz.underlying286 h;have c1:Tryz.prog.cellsOf 286=20:=by kernel_rfl
 have hr:qX.length=20:=by kernel_rfl
 unfold World.var? at hv;rw[hg] at hv;simp only[Jy] at hv;split at hv
 · rename_i c el fz hh;cases hv;exact⟨_,_,_,hh,by rw[hr];rw[c1] at hl;simpa using hl⟩
 cases hv
theorem aHo {W:World} (h:laidMetH Tryz.prog Wr W):WR hU (sZ false W) ⟨0,.nil⟩ W:=by
 rw[MakeChecks.laidMetH_plain _ _ _ (by kernel_rfl)] at h;obtain⟨ps,⟨g0,t0,cs0,f0,p0,q0,hg0,Qp,Qq,Ow,⟨g1,t1,cs1,f1,p1,q1,VI,ht1,sR,ow,⟨g2,t2,cs2,f2,p2,q2,Oz,ht2,nJ,hd2,_,_⟩,_⟩,_⟩,_,_⟩:=h;obtain rfl:=Aa (bEa.symm.trans Oz);obtain rfl:=Aa (bJj.symm.trans ht2);rw[aUt] at hd2;refine aRg (fun n cs hn=>?_) fun n cs hn h0=>?_;rotate_left
 · have hn:Oq n=some cs:=hn;unfold Oq at hn;split at hn
   · rename_i hb;obtain rfl:=Bg hb;cases hn;exact aHd Oz nJ hd2
   split at hn
   · cases hn;exact absurd rfl h0
   cases hn
 have hn:Oq n=some cs:=hn;unfold Oq at hn;split at hn
 · rename_i hb;obtain rfl:=Bg hb;cases hn;exact aHc Oz nJ hd2
 split at hn
 · cases hn;exact .pl [] n 0 (fun _=>undef) (fun j hj=>absurd hj (Ax _)) (fun j hj=>absurd hj (Ax _))
 cases hn
def ivV:Value->Int
 |.int _ n=>n
 |_=>0
theorem aRd:MV Tryz.prog 8 25=some [9,22,3,3,3,3]:=by kernel_rfl
theorem aRe:MV Tryz.prog 8 44=some [42]:=by kernel_rfl
theorem aRf:MV Tryz.prog 8 46=some [3,3,3]:=by kernel_rfl
section
variable {H:Type} {enc:TypeId×Value->H} {W:World} {base:Nat} {hd:Bool}
theorem Zx {v:Value} {m:Nat} {y:DataW H×List MemPlace} (mo:Bool) (h:DataW.trod enc Tryz.prog W base (fun _=>true) hd m 42 [v]=some y):∃p:AV×List aG.V,mP p/\VR (sZ mo W) W p.1 v:=by
 rcases UY Tryz.underlying42 aRf (fun u hu=>by
  have :u=3:=by simpa using hu
  subst this;exact Tryz.underlying3) (by kernel_rfl) (by decide) mo h with rfl|⟨len,f,hl,hw,hv⟩
 · exact⟨(.aS,[]),.inl ⟨rfl,rfl⟩,.aS⟩
 refine⟨(.aV 0 3 (bF ((List.range len).map fun i=>(⟨f (i*3+0),f (i*3+1),f (i*3+2)⟩:aG.V))),(List.range len).map fun i=>⟨f (i*3+0),f (i*3+1),f (i*3+2)⟩),.inr rfl,hv _ ?_ ?_ ?_⟩
 · simp[bF]
 · intro e he;simp only[bF,Bf] at he;obtain⟨x,_,rfl⟩:=he;rfl
 rw[show([3,3,3]:List TypeId).length=3 from rfl,<-QC (fun j=>AV.int .i64 (f j)) 3 len];simp only[bF,Dp];rfl
theorem Zw {v:Value} {m:Nat} {y:DataW H×List MemPlace} (mo:Bool) (h:DataW.trod enc Tryz.prog W base (fun _=>true) hd m 22 [v]=some y) (aXh:∀a len cap,v=.slice (some a) len cap->a.spot=none):
 ∃(pv:AV) (ps:List (AV×List aG.V)),vU pv ps/\(∀p∈ps,mP p)/\ps.length<2^63/\VR (sZ mo W) W pv v:=by
 rcases Go.Deep.open_slice Tryz.underlying22 h with ⟨h0,_⟩|⟨a,len,cap,mm,n,D,Pl,hv,hb,hl,hm,hmm,rfl,hx⟩
 · obtain rfl:v=.slice none 0 0:=by simpa using h0
   exact⟨.aS,[],.inl ⟨rfl,rfl⟩,by simp,by decide,.aS⟩
 obtain rfl:v=.slice (some a) len cap:=by simpa using hv
 have hs:=aXh a len cap rfl;obtain⟨b,o,s⟩:=a;simp only at hs;subst hs;have hmc:mm=cap:=by simpa using hmm
 have c1:Tryz.prog.cellsOf 44=1:=by kernel_rfl
 have mY:cap<=2^63 -1:=hm
 obtain⟨f,hf⟩:=Go.Deep.choose_lt (α:=(AV×List aG.V)×Value) (n:=len) (p:=fun j r=>mP r.1/\W.cell? ⟨b,o+j,none⟩=some r.2/\VR (sZ mo W) W r.1.1 r.2) (fun j hj=>by
  obtain⟨CY,h1,h2⟩:=hx j (by omega);rw[c1,Dl] at h1;obtain⟨_,hlen,iB⟩:=World.cells?_some h1;obtain⟨u,mu,yu,hu,hyu⟩:=(yC 8 aRe h2) 0 42 rfl;obtain⟨p,hp,hvp⟩:=Zx mo hyu;refine⟨(p,u),hp,?_,hvp⟩;have :=iB 0 (by omega);rw[hu] at this;rw[<-this,Vl]
  rfl)
 refine⟨.aV 0 1 (jF ((List.range len).map fun j=>(f j).1)),(List.range len).map fun j=>(f j).1,.inr rfl,?_,by simp;omega,?_⟩
 · intro p hp;obtain⟨j,hj,rfl⟩:=Bf.1 hp;exact(hf j (Bi.1 hj)).1
 have Oy:(jF ((List.range len).map fun j=>(f j).1)).length=len:=by simp[jF]
 have tS:(jF ((List.range len).map fun j=>(f j).1)).flatten=(List.range len).map fun j=>(f j).1.1:=by
  unfold jF;rw[Dp];generalize List.range len=l
  induction l with
  |nil=>rfl
  |cons x r ih=>rw[By,Bp,ih];rfl
 have hg:∀j,j<len->(jF ((List.range len).map fun j=>(f j).1)).flatten.getD j aD=(f j).1.1:=fun j hj=>by rw[tS,List.getD,Bo,Gw hj];rfl
 have hfn:(jF ((List.range len).map fun j=>(f j).1)).flatten.length=len:=by rw[tS];simp
 have :=VR.aV (G:=sZ mo W) (w:=W) 0 1 (jF ((List.range len).map fun j=>(f j).1)) b o cap (fun j=>(f j).2)
  (fun e he=>by simp only[jF,Bf] at he;obtain⟨x,_,rfl⟩:=he;rfl)
  (fun j hj=>by
    rw[hfn] at hj;obtain⟨q1,q2,q3⟩:=hf j hj;refine⟨⟨_,q2⟩,q2,?_⟩;rw[hg j hj]
    rcases q1 with ⟨q,_⟩|q<;>rw[q]<;>rfl)
  (fun j hj=>by
    rw[hfn] at hj;rw[hg j hj]
    exact(hf j hj).2.2)
  ⟨by rw[Oy];exact hl,trivial⟩
 rw[Oy] at this;exact this
end
end
end Go.Proofs.YtbndcmnnbiiobaaGreatDoor
