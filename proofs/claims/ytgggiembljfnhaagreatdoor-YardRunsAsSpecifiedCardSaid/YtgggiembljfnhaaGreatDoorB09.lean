/-
  Part of the proof of statement 12
-/
import Derived.Test.YtgggiembljfnhaaGreatDoorB08
import Derived.Test.YtgggiembljfnhaaGreatDoorB06
import Derived.Test.YtgggiembljfnhaaGreatDoorB07
set_option linter.unusedVariables false
set_option linter.unusedSimpArgs false
set_option maxRecDepth 100000
set_option maxHeartbeats 16000000
namespace Go.Proofs.YtgggiembljfnhaaGreatDoor
open Go Go.Av Go.uE
attribute [local congr] aT aI aL aH aX aQ aM aF aY
attribute [local irreducible] FC bS eF
def nE (l:List Nat):List (List AV):=l.map fun(k:Nat)=>[AV.int .i64 (k:Int)]
theorem eH (on:List Nat):(nE on).length=on.length:=by simp[nE]
theorem TE {on:List Nat} {i:Nat} (h:i<on.length):(nE on).getD i []=[AV.int .i64 (on[i]:Int)]:=gK h
theorem RK (a b:List Nat):nE (a++b)=nE a++nE b:=by simp[nE]
theorem je (a:List Nat):dT (nE a)=true:=eK (fun _=>by simp only[sf]) a
theorem uM {tag:Nat} (ht:Nat.blt tag 2=true) (l:List Nat):(AV.bD tag 1 (nE l)).free=true:=by simp only[AV.free,ht,je,Cp]
theorem Kc2 {α:Type} (a b d:α) (l:List α) (k:Nat):(a::b::l).getD (2+k) d=l.getD k d:=by rw[Fa];rfl
theorem pH {l:List Nat} {k:Nat} (h:k<l.length):l.getD k 0=l[k]:=by simp[List.getD,h]
theorem aHp (H:aA):Sg 340 [] H (.ret (.agg EI)) H:=by refine So bCg Zag ?_ H;unfold aQy;dsimp only;refine Ty ?_;exact⟨rfl,_,by simp only[↓zP,zR,seval];rfl,rfl⟩
theorem CI {tag:Nat} (ht:Nat.blt tag 2=true) (l:List Nat) (hlen:l.length<2^30) (k:Nat) (hk:k<2^30) (H:aA):Sg 308 [.bD tag 1 (nE l),.int .i64 k] H (.ret (.int .i64 (l.getD k 0:Nat))) H:=by
 refine So bBp (by simp only[sf,uM ht]) ?_ H;unfold aQk;dsimp only;simp only[↓zP,zJ,seval,eH];refine⟨fun h=>?_,fun h=>?_⟩
 . have h':k<l.length:=by omega
   have hg:=TE h';simp only[zJ,seval,aB,h',hg,pH h'];exact Zab
 have h':¬k<l.length:=by omega
 have :l.getD k 0=0:=by rw[Bg,Bv (by omega)];rfl
 rw[this];exact Zab
theorem _root_.Go.Av.Sound.aIb {P:Program} {g:bG} {f:FuncId} {x:AV} {sz:Nat} {bB:List (List AV)} {rest:List AV} {H H':aA} {out:Out} (h:Sound P g f (x::.bD 0 sz bB::rest) H out H') (tag:Nat):
 Sound P g f (x::.bD tag sz bB::rest) H out H':=by
 refine⟨h.1,fun G w vs hw hv=>h.2 G w vs hw ⟨hv.1,fun j hj=>?_⟩⟩;have :=hv.2 j hj
 match j with
 |0=>exact this
 |1=>exact VR.DB this
 |j+2=>exact this
theorem aUf (l:List Nat) (hlen:l.length<2^30) (H:aA):Sg 307 [.bD 0 1 (nE l)] H (.ret (.bD 0 1 (nE (uU l)))) H:=by
 have ht:Nat.blt 0 2=true:=rfl;refine Sp bBo (by simp only[sf,uM ht]) (by simp only[uM ht]) ?_ H;unfold aQj;dsimp only;simp only[↓zP,zJ,seval,eH];refine aJ ?_;refine iP [3] (fun n vs H'=>H'=⟨0,.nil⟩/\vs=[.int .i64 n]/\n<=l.length/\∀k,n<=k->k<l.length->l.getD k 0=0) l.length (by rfl) ?_ ?_
 . exact⟨rfl,by simp only[sm,zB,seval],Ab _,fun k h1 h2=>absurd h2 (by omega)⟩
 rintro n f H1 hk ⟨rfl,hv,hn,hz⟩;simp only[zM] at hv;have f0:f 0=.bD 0 1 (nE l):=hk 0 rfl;have pT:(nE l).take n=nE (l.take n):=by simp[nE]
 have KM:vM 1 (.bD 0 1 (nE l)) none (some n) none=some (.bD 0 1 (nE (l.take n))):=by
  simp only[vM,Ef,Bi];rw[if_pos ⟨trivial,Az _,by rw[eH];exact hn⟩];split
  . rename_i h;rw[eH] at h;rw[h.1,Ax,Ee]
  rw[Ee,Ix,pT]
 have vo:(n=0\/l.getD (n -1) 0≠0)->l.take n=uU l:=fun h=>yG hn hz h;by_cases h0:n=0
 . have hd:decide ((n:Int)>0)=false:=Ag (by omega);rw[vo (.inl h0)] at KM;simp only[↓zP,zJ,seval,hv,hd,f0,eB,aB,KM,Cj,Bc];refine⟨rfl,_,by simp only[↓zP,zR,seval];rfl,?_⟩;rfl
 have hd:decide ((n:Int)>0)=true:=Aj (by omega);have w1:IntKind.i64.wrap ((n:Int) -1)=((n -1:Nat):Int):=wI (by omega);have KK:n -1<l.length:=by omega
 have hg:=TE KK;by_cases Pu:l[n -1]=0
 . have hb:(((l[n -1]:Nat):Int)==0)=true:=by rw[Pu];rfl
   simp only[↓zP,zJ,seval,hv,hd,f0,w1,aB,eH,KK,hg,hb];refine aJ ?_;simp only[↓zP,zG,seval,hv,w1];refine⟨n -1,by omega,trivial,rfl,by omega,fun k h1 h2=>?_⟩;by_cases e:k=n -1
   . subst e;rw[pH KK];exact Pu
   exact hz k (by omega) h2
 have hb:(((l[n -1]:Nat):Int)==0)=false:=by rw[Bq];omega
 rw[vo (.inr (by rw[pH KK];exact Pu))] at KM;simp only[↓zP,zJ,seval,hv,hd,f0,w1,aB,eH,KK,hg,hb,eB,KM,Cj,Bc];refine⟨rfl,_,by simp only[↓zP,zR,seval];rfl,?_⟩;rfl
theorem Ou (tag:Nat) (l:List Nat) (hlen:l.length<2^30) (H:aA):Sg 307 [.bD tag 1 (nE l)] H (.ret (.bD 0 1 (nE (uU l)))) H:=(aUf l hlen H).DB tag
def Wp (l:List Nat) (i:Nat):Bool:=(List.range i).all fun k=>((l.getD k 0:Nat):Int)==0
theorem fh (l:List Nat) (i:Nat):Wp l (i+1)=(Wp l i&&(((l.getD i 0:Nat):Int)==0)):=by unfold Wp;rw[Fg,List.all_append];simp
theorem aDu {l:List Nat} (hl:Rz l):Wp l 16=decide (l=zs):=by
 unfold Wp;rw[Ci,Aw,Bd];constructor
 . intro h;refine Fs (by rw[hl.1];rfl) fun k h1 h2=>?_;have :=h k (Ay.2 (by rw[hl.1] at h1;exact h1));rw[Cf,pH h1] at this;have h3:zs[k]∈zs:=Ac h2;rw[Hn h3];omega
 rintro rfl k hk;have rR:k<zs.length:=Ay.1 hk;have h3:zs[k]'rR=0:=Hn (Ac rR);rw[Cf,pH rR,h3];rfl
theorem ll (b n:Bool) {l:List Nat} (hl:Rz l) (H:aA):Sg 306 [.agg (.bool b::.bool n::wC l)] H (.ret (.bool (if b then decide (l=zs)&& !n else !decide (l=zs)|| !n))) H:=by
 refine So bBn Zag ?_ H;unfold aQi;dsimp only;refine Ty ?_;refine bP [3] (fun i vs H'=>H'=((⟨0,.nil⟩:aA).alloc (.cells (.bool b::.bool n::wC l) false))/\vs=[.bool (Wp l i)]) 0 16 (by decide) (by decide) (by decide) ?_ ?_ ?_ ?_ ?_
 . exact zq
 . exact⟨rfl,by simp only[sm,zB,seval];rfl⟩
 . rintro i f H1 h0 hi hk e1 ⟨rfl,hv⟩;simp only[↓zP,zG,seval,e1];exact Zae
 . rintro i f H1 h0 hi hk e1 ⟨rfl,hv⟩;simp only[zM] at hv;have f1:f 1=.ref 0 0:=hk 1 rfl;have hg:=uW (l:=l) (i:=i) (by rw[hl.1];omega);have hlen:(wC l).length=16:=by rw[dM,hl.1]
   have SV:(AV.bool b::.bool n::wC l).getD (2+i) aD=.int .u32 (l.getD i 0):=(by rw[Kc2];exact hg);have h2i:2+i<=17:=(by omega);refine aJ ?_;rw[fh]
   cases hb:Wp l i with
   |false=>rw[hb] at hv;simp only[↓zP,zJ,seval,hv,Je]
   |true=>rw[hb] at hv;simp only[↓zP,zJ,seval,hv,f1,e1,aB,hi,hlen,SV,h2i,Co]
 rintro f H1 hk ⟨rfl,hv⟩;simp only[zM] at hv;have f1:f 1=.ref 0 0:=hk 1 rfl;rw[aDu hl] at hv;cases b<;>cases h:decide (l=zs)<;>rw[h] at hv
 . simp only[↓zP,zJ,seval,f1,hv];exact Zab
 . simp only[↓zP,zJ,seval,f1,hv];exact Zab
 . simp only[↓zP,zJ,seval,f1,hv];exact Zab
 simp only[↓zP,zJ,seval,f1,hv];exact Zab
theorem lj (b n:Bool) {l:List Nat} (hl:Rz l) (H:aA):Sg 265 [.agg (.bool b::.bool n::wC l)] H (.ret (.bool (DK b n l))) H:=by
 refine So bAo Zag ?_ H;unfold aPk;dsimp only;have hv:=ll b n hl;unfold DK;simp only[↓zP,zJ,seval,iL hl];cases b<;>cases n<;>cases h:decide (l=zs)<;>rw[h] at hv
 . refine bY (hv _) ?_;refine Ty ?_;exact Zab
 . refine bY (hv _) ?_;refine Ty ?_;exact Zab
 . refine bY (hv _) ?_;refine Ty ?_;exact Zab
 . refine bY (hv _) ?_;refine Ty ?_;exact Zab
 . refine bY (hv _) ?_;refine Ty ?_;exact Zab
 . refine bY (hv _) ?_;refine Ty ?_;exact Zab
 . refine bY (hv _) ?_;refine Ty ?_;exact Zab
 refine bY (hv _) ?_;refine Ty ?_;exact Zab
theorem tW {v:List AV} {x:Option Int} (h:mD v x) (H:aA):Sg 265 [.agg v] H (.ret (.bool x.isSome)) H:=by
 obtain⟨b,n,l,hl,rfl,rfl⟩:=h
 have :(QB b n l).isSome=DK b n l:=by unfold QB;cases DK b n l<;>rfl
 rw[this];exact lj b n hl H
theorem Un {l:List Nat} {i:Nat} (h:i<l.length):mS (l.take (i+1))=mS (l.take i)++[l[i]%65536,l[i] / 65536]:=by unfold mS;rw[An,It,Ad h];simp
theorem EU (l:List Nat):(mS l).length=2*l.length:=by
 induction l with
 |nil=>rfl
 |cons x l ih=>have :mS (x::l)=x%65536::x / 65536::mS l:=rfl;rw[this];simp only[As,ih];omega
theorem tY (b n:Bool) {l:List Nat} (hl:Rz l) (H:aA):Sg 266 [.agg (.bool b::.bool n::wC l)] H (.ret (.bD 0 1 (nE (dg (CD l))))) H:=by
 refine eC fit eZ bAp (Ai rfl) Zag ?_ H;unfold aPl;dsimp only;refine Ty ?_;refine bP [3] (fun i vs H'=>∃v,vs=[v]/\H'.get 0=some (.cells (.bool b::.bool n::wC l) false)/\1<=H'.next/\Own H' 1 v (nE (mS (l.take i)))) 0 16 (by decide) (by decide) (by decide) ?_ ?_ ?_ ?_ ?_
 . exact zq
 . exact⟨.aO,by simp only[sm,zB,seval],by simp only[zI,seval],by simp only[zI,seval],.nil _ _⟩
 . rintro i f H1 h0 hi hk e1 ⟨v,hv,g0,hn,ho⟩;simp only[↓zP,zG,seval,e1];exact Zae
 . rintro i f H1 h0 hi hk e1 ⟨v,hv,g0,hn,ho⟩;simp only[zM] at hv;have f1:f 1=.ref 0 0:=hk 1 rfl;have MN:i<l.length:=by rw[hl.1];exact hi
   have SV:(AV.bool b::.bool n::wC l).getD (2+i) aD=.int .u32 (l[i]:Nat):=by rw[Kc2,uW MN,pH MN]
   have h2i:2+i<=17:=(by omega);have fJ:=hl.2 _ (Ac MN);have hht:=Un MN;have hhl:=EU (l.take i);rw[hht,RK];generalize mS (l.take i)=done at *;generalize l[i]=w at *;have hW:w<4294967296:=fJ
   have w1:IntKind.i64.wrap ((w:Int).tmod 65536)=((w%65536:Nat):Int):=by rw[Et (by omega),wrap_i64 (by omega) (by omega)];omega
   have w2:IntKind.i64.wrap (IntKind.u32.wrap ((w:Int).tdiv 65536))=((w / 65536:Nat):Int):=by rw[Fz (by omega),JD (k:=.u32) rfl,wrap_i64 (by simp only[IntKind.bits];omega) (by simp only[IntKind.bits];omega)];simp only[IntKind.bits];omega
   obtain⟨H5,z1,z2,z3,z4,z5⟩:=Has.push (.inr ho) (ys:=nE [w%65536,w / 65536]) (bytes:=8) rfl (by simp only[eH,hhl,Cz,As,Bm];omega);refine aJ ?_;refine Dz ?_;simp only[↓zP,zJ,seval,zD,f1,g0,hv,e1,aB,hi,SV,h2i,iL hl,w1,w2];rw[show ∀(h:aA) (x y:List AV),cK h 1 (.bD 1 1 [x,y])=some [x,y] from fun _ _ _=>rfl];rw[show nE [w%65536,w / 65536]=[[.int .i64 ((w%65536:Nat):Int)],[.int .i64 ((w / 65536:Nat):Int)]] from rfl] at z1 ⊢;simp only[z1,cE,seval];exact⟨by omega,_,rfl,(z4 0 (by omega) (by rw[g0];simp)).trans g0,by omega,.inr ⟨H1.next,rfl,by omega,z3⟩⟩
 rintro f H1 hk ⟨v,hv,g0,hn,ho⟩;simp only[zM] at hv;have bFm:l.take 16=l:=by rw[<-hl.1,Ax]
 rw[bFm] at ho
 have cQ:nE (mS l)≠[]:=by intro h;have :=Bn List.length h;rw[eH,EU,hl.1] at this;cases this
 rcases ho with ⟨_,h⟩|⟨k,rfl,h1,h2⟩
 . exact absurd h cQ
 simp only[↓zP,seval,hv];refine bY (Ou (k+2) (mS l) (by rw[EU,hl.1];decide) _) ?_;rw[JB (QF hl.2),Ln];refine Tz ?_;refine⟨rfl,_,by simp only[↓zP,zR,seval];rfl,?_⟩;exact⟨_,0,rfl,fun nw=>CM (uM rfl _)⟩
theorem tI {n:Nat}:(dg n).length<=32↔n<W^16:=by
 have e:(65536:Nat)^32=W^16:=BA 16;constructor
 . intro h;have h1:=CN (GF n);rw[yH] at h1;rw[<-e];exact Ck h1 (Ds (by decide) h)
 intro h;rw[<-e] at h;exact QX h
theorem Xp {d:List Nat} (hd:DD d) {m:Nat} (h:2*m<d.length) (hm:d.length<=32):bL (cS (d.take (2*m))) m=0/\(bJ 16 (cS (d.take (2*m)))).set m (d.getD (2*m) 0)=bJ 16 (cS (d.take (2*m+1))):=by have h1:=sR hd (k:=2*m) (by omega);rw[BA] at h1;have h0:bL (cS (d.take (2*m))) m=0:=CB h1;have h2:=hd.getD (2*m);have hW:W=4294967296:=rfl;have h3:=RF (v:=cS (d.take (2*m))) (X:=d.getD (2*m) 0) (m:=m) (by omega) (Ck h1 (Ds (by decide) (by omega))) (by rw[h0];omega);rw[h0,Cq] at h3;refine⟨h0,?_⟩;rw[h3,Kx h,BA,Dg (W^m)]
theorem kb {d:List Nat} (hd:DD d) {m:Nat} (h:2*m+1<d.length) (hm:d.length<=32):bL (cS (d.take (2*m+1))) m<65536/\(bJ 16 (cS (d.take (2*m+1)))).set m (bL (cS (d.take (2*m+1))) m+d.getD (2*m+1) 0*65536)=bJ 16 (cS (d.take (2*m+1+1))):=by
 have h1:=sR hd (k:=2*m+1) (by omega);rw[bu] at h1;have h0:=(Xo h1).1;have h2:=hd.getD (2*m+1);have hW:W=4294967296:=rfl
 have fJ:cS (d.take (2*m+1))<W^16:=by have :=sR hd (k:=2*m+1) (by omega);have e:(65536:Nat)^32=W^16:=BA 16;rw[<-e];exact Ck this (Ds (by decide) (by omega))
 have h3:=RF (v:=cS (d.take (2*m+1))) (X:=d.getD (2*m+1) 0*65536) (m:=m) (by omega) fJ (by omega);refine⟨h0,?_⟩;rw[h3,Kx h,bu];congr 1;rw[Gu,Dg (d.getD (2*m+1) 0)]
theorem bDx {a b:AV} {l:List Nat} {i:Nat} (h:i<l.length) (x:Nat):(a::b::wC l).take (2+i)++[AV.int .u32 (x:Int)]++(b::wC l).drop (2+i)=a::b::wC (l.set i x):=by rw[<-CO h,Fa 2 i];simp[fW]
theorem aUu (neg:Bool) {n:Nat} (hn:n<W^16):cI (sg neg n)=.bool false::.bool (neg&& !decide (n=0))::wC (bJ 16 n):=by
 cases neg with
 |false=>simp[cI,sg]
 |true=>
  simp only[cI,sg,if_true,Kf,En,Co];congr 2;by_cases h:n=0
  . subst h;simp
  simp[h];omega
theorem aBb (neg:Bool) {l:List Nat} (hl:DD l) (hlen:l.length<2^30) (H:aA):Sg 309 [.bool neg,.bD 0 1 (nE l)] H (.ret (.agg (cO (norm (sg neg (cS l)))))) H:=by
 have Qz:Nat.blt 0 2=true:=rfl;refine Sp bBq (by simp only[sf,uM Qz]) (by simp only[AV.free,SO]) ?_ H;unfold aQl;dsimp only;refine bQ ?_;simp only[↓zP,zJ,Nat.reduceLT];refine fF ?_;simp only[↓zP,zJ,Nat.reduceLT,Nat.reduceEqDiff];refine bY (Ou 0 l hlen _) ?_;rw[JB hl];simp only[↓zP,zG,Nat.reduceLT];refine bR ?_;have hd:=GF (cS l);have hv:=yH (cS l);have hi:=tI (n:=cS l);by_cases hb:cS l<W^16
 . have h32:=hi.2 hb;have d1:decide (((dg (cS l)).length:Int)>32)=false:=Ag (by omega)
   have xj:norm (sg neg (cS l))=some (sg neg (cS l)):=by unfold norm;rw[if_pos (by rw[lB];exact hb)]
   rw[xj];simp only[cO];rw[aUu neg hb]
   have cQ:decide (cS l=0)= !decide (((dg (cS l)).length:Int)>0):=by
    rw[<-Jm,Bs,<-SI (n:=cS l)];constructor
    . intro h;rw[h];simp
    intro h;exact Cm (by omega)
   rw[cQ,Bool.not_not];generalize cS l=n at *;generalize dg n=d at *;clear hl hlen hi;subst hv;refine bQ ?_;simp only[↓zP,zJ,Nat.reduceLT,eH,d1];refine bR ?_;refine aN fun K hK=>?_
   have key:∀f:dE,f 4=.ref 0 0->f 5=.bD 0 1 (nE d)->f 6=.ref 1 0->K f [] (((((⟨0,.nil⟩:aA).alloc (.cells (.bool false::.bool false::wC zs) false)).alloc (.cells (.bool false::.bool false::wC zs) false)).set 1 (.cells (.bool false::.bool (neg&&decide ((d.length:Int)>0))::wC zs) false))):=by
    intro f f4 f5 f6;apply hK;clear hK K;generalize (neg&&decide ((d.length:Int)>0))=ng;have BZ:wC zs=wC (bJ 16 (cS (d.take 0))):=(by rw[Fc];rfl);simp only[↓zP,zJ,Nat.reduceLT,Nat.reduceEqDiff];refine bP [] (fun k vs H'=>H'.get 0=some (.cells (.bool false::.bool false::wC zs) false)/\H'.get 1=some (.cells (.bool false::.bool ng::wC (bJ 16 (cS (d.take k)))) false)) 0 d.length (Az _) (by omega) (by decide) ?_ ?_ ?_ ?_ ?_
    . simp only[zB];rfl
    . exact⟨by simp only[zI,Nat.reduceEqDiff],by rw[<-BZ];simp only[zI,Nat.reduceEqDiff]⟩
    . rintro i f H1 h0 hi hk e1 ⟨g0,g1⟩;have e5:f 5=.bD 0 1 (nE d):=(by rw[hk 5 rfl];simp only[zB,Nat.reduceEqDiff];exact f5);simp only[↓zP,zJ,Nat.reduceLT,Nat.reduceEqDiff,e1,e5,eH];exact Zae
    . rintro i f H1 h0 hi hk e1 ⟨g0,g1⟩;have e5:f 5=.bD 0 1 (nE d):=(by rw[hk 5 rfl];simp only[zB,Nat.reduceEqDiff];exact f5);have e6:f 6=.ref 1 0:=(by rw[hk 6 rfl];simp only[zB,Nat.reduceEqDiff];exact f6);have hg:=TE hi;have hdi:=hd.getD i;rw[pH hi] at hdi;have jx:i / 2<16:=by omega
      have w1:IntKind.i64.wrap ((i:Int).tdiv 2)=((i / 2:Nat):Int):=by rw[Fz (by omega),wrap_i64 (by omega) (by omega)];omega
      have hW:W=4294967296:=rfl;have w2:IntKind.u32.wrap ((d[i]:Nat):Int)=(d[i]:Nat):=(by rw[JD (k:=.u32) rfl];simp only[IntKind.bits];omega);have hgl:=uW (l:=bJ 16 (cS (d.take i))) (i:=i / 2) (by rw[cW];exact jx);rw[kR jx] at hgl;have SV:(AV.bool false::.bool ng::wC (bJ 16 (cS (d.take i)))).getD (2+i / 2) aD=.int .u32 (bL (cS (d.take i)) (i / 2):Nat):=(by rw[Kc2];exact hgl);have h2i:2+i / 2<=17:=(by omega);refine aJ ?_;by_cases hev:i%2=0
      . have d2:(((i:Int).tmod 2)==0)=true:=(by rw[Et (by omega),Cf];omega);obtain⟨q1,q2⟩:=Xp hd (m:=i / 2) (by omega) h32;rw[show 2*(i / 2)=i by omega] at q1 q2;rw[pH hi] at q2;simp only[↓zP,zJ,Nat.reduceLT,Int.reduceEq,e1,d2];refine Dz ?_;rw[q1] at SV;simp only[↓zP,zJ,Nat.reduceLT,Nat.reduceEqDiff,Nat.reduceAdd,zD,reduceCtorEq,Nat.reduceLeDiff,Int.reduceEq,e1,e5,e6,w1,aB,jx,g1,iL (.bJ _),h2i,SV,eH,hi,hg,w2];have w3:IntKind.u32.wrap (((0:Nat):Int)+((d[i]:Nat):Int))=(d[i]:Nat):=(by rw[JD (k:=.u32) rfl];simp only[IntKind.bits];omega);rw[w3,bDx (by rw[cW];exact jx),q2];exact⟨g0,rfl⟩
      have d2:(((i:Int).tmod 2)==0)=false:=(by rw[Et (by omega),Bq];omega);obtain⟨q1,q2⟩:=kb hd (m:=i / 2) (by omega) h32;rw[show 2*(i / 2)+1=i by omega] at q1 q2;rw[pH hi] at q2;simp only[↓zP,zJ,Nat.reduceLT,Int.reduceEq,e1,d2];refine Dz ?_;simp only[↓zP,zJ,Nat.reduceLT,Nat.reduceEqDiff,Nat.reduceAdd,zD,reduceCtorEq,Nat.reduceLeDiff,Int.reduceEq,e1,e5,e6,w1,aB,jx,g1,iL (.bJ _),h2i,SV,eH,hi,hg,w2]
      have w3:IntKind.u32.wrap (((bL (cS (d.take i)) (i / 2):Nat):Int)+IntKind.u32.wrap (((d[i]:Nat):Int)*65536))=((bL (cS (d.take i)) (i / 2)+d[i]*65536:Nat):Int):=by rw[JD (k:=.u32) rfl,JD (k:=.u32) rfl];simp only[IntKind.bits];omega
      rw[w3,bDx (by rw[cW];exact jx),q2];exact⟨g0,rfl⟩
    rintro f H1 hk ⟨g0,g1⟩;rw[Ax] at g1;have e4:f 4=.ref 0 0:=(by rw[hk 4 rfl];simp only[zB,Nat.reduceEqDiff];exact f4);have e6:f 6=.ref 1 0:=(by rw[hk 6 rfl];simp only[zB,Nat.reduceEqDiff];exact f6);simp only[↓zP,zJ,Nat.reduceAdd,e4,e6,g0,g1,iL (.bJ _)];refine⟨rfl,_,by simp only[↓zP,zR,Nat.reduceEqDiff,Nat.reduceAdd,e4,iL (.bJ _)];rfl,?_⟩;rfl
   cases neg with
   |false=>simp only[↓zP,zJ,Nat.reduceLT,Nat.reduceEqDiff,Nat.reduceAdd,Nat.reduceLeDiff];exact key _ Zbe Zbe (by simp only[zB])
   |true=>simp only[↓zP,zJ,Nat.reduceLT,Nat.reduceEqDiff,Nat.reduceAdd,Nat.reduceLeDiff,eH];exact key _ Zbe Zbe (by simp only[zB])
 have d1:decide (((dg (cS l)).length:Int)>32)=true:=Aj (by omega)
 have xj:norm (sg neg (cS l))=none:=by unfold norm;rw[if_neg (by rw[lB];exact hb)]
 rw[xj];simp only[↓zP,zJ,Nat.reduceLT,Nat.reduceEqDiff,Nat.reduceAdd,Nat.reduceLeDiff,eH,d1];refine bY (aHp _) ?_;have Uq:EI.length=18:=rfl;simp only[↓zP,zJ,Nat.reduceEqDiff,Nat.reduceAdd,oL Uq];refine⟨rfl,_,by simp only[↓zP,zR,Nat.reduceEqDiff,oL Uq];rfl,?_⟩;rfl
theorem xY (neg:Bool) (tag:Nat) {l:List Nat} (hl:DD l) (hlen:l.length<2^30) (H:aA):Sg 309 [.bool neg,.bD tag 1 (nE l)] H (.ret (.agg (cO (norm (sg neg (cS l)))))) H:=(aBb neg hl hlen H).aIb tag
theorem aUc {a b:List Nat} (ha:DD a) (hb:DD b) (hla:a.length<2^29) (hlb:b.length<2^29) (H:aA):Sg 267 [.bD 0 1 (nE a),.bD 0 1 (nE b)] H (.ret (.bool (decide (cS a<cS b)))) H:=by
 have Qz:Nat.blt 0 2=true:=rfl;refine So bAq (by simp only[sf,uM Qz]) ?_ H;unfold aPm;dsimp only
 have hw:IntKind.i64.wrap ((if(b.length:Int)>a.length then(b.length:Int) else a.length) -1)=((max a.length b.length:Nat):Int) -1:=by rw[wrap_i64 Za4 Za4];split<;>omega
 simp only[↓zP,zJ,Nat.reduceLT,Nat.reduceEqDiff,eH,hw];refine ZB [] (fun i vs H'=>H'=⟨0,.nil⟩/\cS (a.drop i)=cS (b.drop i)) (max a.length b.length) (by omega) (by decide) ?_ ?_ ?_ ?_ ?_
 . simp only[zB]
 . exact⟨rfl,by rw[Ca (by omega),Ca (by omega)]⟩
 . rintro i f H1 hi hk e1 ⟨rfl,hv⟩;simp only[↓zP,zJ,Nat.reduceLT,e1];exact Zae
 . rintro i f H1 hi hk e1 ⟨rfl,hv⟩;have f0:f 0=.bD 0 1 (nE a):=hk 0 rfl;have f1:f 1=.bD 0 1 (nE b):=hk 1 rfl;have qa:=CI (tag:=0) rfl a (by omega) i (by omega);have qb:=CI (tag:=0) rfl b (by omega) i (by omega);refine aJ ?_;refine aN fun K hK=>?_;simp only[↓zP,zG,Nat.reduceLT,Nat.reduceEqDiff,e1,f0];refine bY (qa _) ?_;simp only[↓zP,zG,Nat.reduceLT,Nat.reduceEqDiff,e1,f1];refine bY (qb _) ?_;by_cases he:a.getD i 0=b.getD i 0
   . have gJ:(((a.getD i 0:Nat):Int) != ((b.getD i 0:Nat):Int))=false:=(by rw[he];simp);simp only[↓zP,zJ,Nat.reduceLT,Nat.reduceEqDiff,gJ];apply hK;clear hK K;simp only[↓zP,zG];exact⟨trivial,TY hv he⟩
   have gJ:(((a.getD i 0:Nat):Int) != ((b.getD i 0:Nat):Int))=true:=(by rw[Dd];omega);simp only[↓zP,zJ,Nat.reduceLT,Nat.reduceEqDiff,gJ];apply hK;clear hK K;simp only[↓zP,zG,Nat.reduceLT,Nat.reduceEqDiff,e1,f0];refine bY (qa _) ?_;simp only[↓zP,zG,Nat.reduceLT,Nat.reduceEqDiff,e1,f1];refine bY (qb _) ?_;simp only[↓zP,zJ,Nat.reduceLT,Nat.reduceEqDiff];refine Rx ?_
   have :decide (((a.getD i 0:Nat):Int)<((b.getD i 0:Nat):Int))=decide (cS a<cS b):=by
    rw[Bs];constructor
    . intro h;exact WB ha hb hv (by omega)
    intro h;refine Ew fun hc=>?_;have :=WB hb ha hv.symm (k:=i) (by omega);omega
   rw[this];rfl
 rintro f H1 hk ⟨rfl,hv⟩;rw[Ee,Ee] at hv;simp only[↓zP];refine Rx ?_;rw[hv,Ag (Ez _)];rfl
theorem Vn {a b:List Nat} (ha:DD a) (hb:DD b) (hla:a.length<2^29) (hlb:b.length<2^29) (t1 t2:Nat) (H:aA):Sg 267 [.bD t1 1 (nE a),.bD t2 1 (nE b)] H (.ret (.bool (decide (cS a<cS b)))) H:=
 ((aUc ha hb hla hlb H).aIb t2).DB t1
theorem aUd {a b:List Nat} (ha:DD a) (hb:DD b) (hla:a.length<2^29) (hlb:b.length<2^29) (H:aA):Sg 310 [.bD 0 1 (nE a),.bD 0 1 (nE b)] H (.ret (.bD 0 1 (nE (dg (cS a+cS b))))) H:=by
 have Qz:Nat.blt 0 2=true:=rfl;refine eC fit eZ bBs (Ai rfl) (by simp only[sf,uM Qz]) ?_ H;unfold aQn;dsimp only;simp only[↓zP,zG,Nat.reduceLT];refine bP [5,6] (fun k vs H'=>∃v c ds,vs=[v,.int .i64 (c:Nat)]/\Own H' 1 v (nE ds)/\ds.length=k/\DD ds/\c<=1/\cS ds+65536^k*c=cS (a.take k)+cS (b.take k)) 0 (max a.length b.length+1) (Az _) (by omega) (by decide) ?_ ?_ ?_ ?_ ?_
 . simp only[zB];rfl
 . exact⟨.aO,0,[],by simp only[sm,zB,Nat.reduceEqDiff];rfl,.nil _ _,rfl,(fun d hd=>by cases hd),by decide,by simp[cS]⟩
 . rintro i f H1 h0 hi hk e1 ⟨v,c,ds,hv,ho,hl,hd,hc,he⟩;have f0:f 0=.bD 0 1 (nE a):=hk 0 rfl;have f1:f 1=.bD 0 1 (nE b):=hk 1 rfl
   have hw:IntKind.i64.wrap ((if(b.length:Int)>a.length then(b.length:Int) else a.length)+1)=((max a.length b.length+1:Nat):Int):=by rw[wrap_i64 Za4 Za4];split<;>omega
   simp only[↓zP,zJ,Nat.reduceLT,Nat.reduceEqDiff,e1,f0,f1,eH,hw];exact Zae
 . rintro i f H1 h0 hi hk e1 ⟨v,c,ds,hv,ho,hl,hd,hc,he⟩;simp only[zM] at hv;have f0:f 0=.bD 0 1 (nE a):=hk 0 rfl;have f1:f 1=.bD 0 1 (nE b):=hk 1 rfl;have qa:=CI (tag:=0) rfl a (by omega) i (by omega);have qb:=CI (tag:=0) rfl b (by omega) i (by omega);have ba:=ha.getD i;have bb:=hb.getD i;have hs:=oj he;generalize a.getD i 0=x at *;generalize b.getD i 0=y at *;have w1:IntKind.i64.wrap ((x:Int)+(y:Int))=((x+y:Nat):Int):=wI (by omega);have w2:IntKind.i64.wrap (((x+y:Nat):Int)+(c:Int))=((x+y+c:Nat):Int):=wI (by omega);have w3:(((x+y+c:Nat):Int).tmod 65536)=(((x+y+c)%65536:Nat):Int):=by rw[Et (by omega)];omega
   have w4:IntKind.i64.wrap (((x+y+c:Nat):Int).tdiv 65536)=(((x+y+c) / 65536:Nat):Int):=(by rw[Fz (by omega),wrap_i64 (by omega) (by omega)];omega);obtain⟨H5,z1,z2,z3,z4,z5⟩:=Has.push (.inr ho) (ys:=nE [(x+y+c)%65536]) (bytes:=8) rfl (by simp only[eH,hl,As,Bm];omega);rw[show nE [(x+y+c)%65536]=[[.int .i64 (((x+y+c)%65536:Nat):Int)]] from rfl] at z1;refine aJ ?_;refine bQ ?_;simp only[↓zP,zJ,Nat.reduceLT,Nat.reduceEqDiff,e1,f0];refine bY (qa _) ?_;simp only[↓zP,zG,Nat.reduceLT,Nat.reduceEqDiff,e1,f1];refine bY (qb _) ?_;simp only[↓zP,zJ,Nat.reduceLT,Nat.reduceEqDiff,hv.2,w1,w2];refine bR ?_;simp only[↓zP,zJ,Nat.reduceLT,Nat.reduceEqDiff,Int.reduceEq,hv.1,w3,w4];rw[eL];simp only[z1,cE];refine⟨_,(x+y+c) / 65536,ds++[(x+y+c)%65536],rfl,?_,by simp[hl],?_,by omega,?_⟩
   . rw[RK];exact .inr ⟨H1.next,rfl,by omega,z3⟩
   . intro d hdm
     rcases Ao.1 hdm with h|h
     . exact hd d h
     rw[Cc] at h;subst h;omega
   rw[uV,hl];simp only[cS,Nat.mul_zero,Cw];exact hs
 rintro f H1 hk ⟨v,c,ds,hv,ho,hl,hd,hc,he⟩;simp only[zM] at hv;rw[Aq (by omega),Aq (by omega)] at he
 have hc0:c=0:=by
  have h1:=CN ha;have h2:=CN hb;have h3:cS a<65536^max a.length b.length:=Ck h1 (Ds (by decide) (by omega));have h4:cS b<65536^max a.length b.length:=Ck h2 (Ds (by decide) (by omega));rw[Eg] at he;generalize 65536^max a.length b.length=X at *
  rcases Hq c with h|h
  . exact h
  have :c=1:=by omega
  subst this;omega
 subst hc0;rw[Nat.mul_zero,Cw] at he
 have cQ:nE ds≠[]:=by intro h;have :=Bn List.length h;rw[eH,hl] at this;simp at this
 rcases ho with ⟨_,h⟩|⟨k,hvk,h1,h2⟩
 . exact absurd h cQ
 rw[hvk] at hv;simp only[↓zP,hv.1];refine bY (Ou (k+2) ds (by rw[hl];omega) _) ?_;rw[JB hd,he];simp only[↓zP,zG,Nat.reduceLT];refine Rx ?_;exact⟨_,0,rfl,fun nw=>CM (uM rfl _)⟩
theorem aBf {a b:List Nat} (ha:DD a) (hb:DD b) (hla:a.length<2^29) (hlb:b.length<2^29) (t1 t2:Nat) (H:aA):Sg 310 [.bD t1 1 (nE a),.bD t2 1 (nE b)] H (.ret (.bD 0 1 (nE (dg (cS a+cS b))))) H:=
 ((aUd ha hb hla hlb H).aIb t2).DB t1
end Go.Proofs.YtgggiembljfnhaaGreatDoor
