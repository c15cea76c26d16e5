/-
  Part of the proof of statement 11
-/
import Derived.Test.YtgggiembljfnhaaGreatDoorA08
import Derived.Test.YtgggiembljfnhaaGreatDoorA06
import Derived.Test.YtgggiembljfnhaaGreatDoorA07
set_option linter.unusedVariables false
set_option maxRecDepth 100000
set_option maxHeartbeats 16000000
namespace Go.Proofs.YtgggiembljfnhaaGreatDoor
open Go Go.Av Go.uG
attribute [local congr] aT aI aM aH aW aQ aN aF aX
attribute [local irreducible] FC bS eG
def nE (l:List Nat):List (List AV):=l.map fun(k:Nat)=>[AV.int .i64 (k:Int)]
theorem eH (on:List Nat):(nE on).length=on.length:=by simp[nE]
theorem Sx {on:List Nat} {i:Nat} (h:i<on.length):(nE on).getD i []=[AV.int .i64 (on[i]:Int)]:=gJ h
theorem RG (a b:List Nat):nE (a++b)=nE a++nE b:=by simp[nE]
theorem jb (a:List Nat):dR (nE a)=true:=eJ (fun _=>by simp only[sf]) a
theorem uP {tag:Nat} (ht:Nat.blt tag 2=true) (l:List Nat):(AV.bB tag 1 (nE l)).free=true:=by simp only[AV.free,ht,jb,Cv]
theorem Kc2 {α:Type} (a b d:α) (l:List α) (k:Nat):(a::b::l).getD (2+k) d=l.getD k d:=by rw[Fo];rfl
theorem pD {l:List Nat} {k:Nat} (h:k<l.length):l.getD k 0=l[k]:=by simp[List.getD,h]
theorem aHa (H:aA):Sg 340 [] H (.ret (.agg EK)) H:=by refine So bBp Zah ?_ H;unfold aQj;dsimp only;refine Ty ?_;exact⟨rfl,_,by simp only[↓zP,zR,seval];rfl,rfl⟩
theorem CM {tag:Nat} (ht:Nat.blt tag 2=true) (l:List Nat) (hlen:l.length<2^30) (k:Nat) (hk:k<2^30) (H:aA):Sg 308 [.bB tag 1 (nE l),.int .i64 k] H (.ret (.int .i64 (l.getD k 0:Nat))) H:=by
 refine So bAy (by simp only[sf,uP ht]) ?_ H;unfold aPv;dsimp only;simp only[↓zP,zJ,seval,eH];refine⟨fun h=>?_,fun h=>?_⟩
 . have h':k<l.length:=by omega
   have hg:=Sx h';simp only[zJ,seval,aB,h',hg,pD h'];exact Zad
 have h':¬k<l.length:=by omega
 have :l.getD k 0=0:=by rw[Bf,Bu (by omega)];rfl
 rw[this];exact Zad
theorem _root_.Go.Av.Sound.aHm {P:Program} {g:bG} {f:FuncId} {x:AV} {sz:Nat} {aY:List (List AV)} {rest:List AV} {H H':aA} {out:Out} (h:Sound P g f (x::.bB 0 sz aY::rest) H out H') (tag:Nat):
 Sound P g f (x::.bB tag sz aY::rest) H out H':=by
 refine⟨h.1,fun G w vs hw hv=>h.2 G w vs hw ⟨hv.1,fun j hj=>?_⟩⟩;have :=hv.2 j hj
 match j with
 |0=>exact this
 |1=>exact VR.DE this
 |j+2=>exact this
theorem aTr (l:List Nat) (hlen:l.length<2^30) (H:aA):Sg 307 [.bB 0 1 (nE l)] H (.ret (.bB 0 1 (nE (uY l)))) H:=by
 have ht:Nat.blt 0 2=true:=rfl;refine Sp bAx (by simp only[sf,uP ht]) (by simp only[uP ht]) ?_ H;unfold aPu;dsimp only;simp only[↓zP,zJ,seval,eH];refine aL ?_;refine iM [3] (fun n vs H'=>H'=⟨0,.nil⟩/\vs=[.int .i64 n]/\n<=l.length/\∀k,n<=k->k<l.length->l.getD k 0=0) l.length (by rfl) ?_ ?_
 . exact⟨rfl,by simp only[sm,zB,seval],Ab _,fun k h1 h2=>absurd h2 (by omega)⟩
 rintro n f H1 hk ⟨rfl,hv,hn,hz⟩;simp only[zM] at hv;have f0:f 0=.bB 0 1 (nE l):=hk 0 rfl;have rQ:(nE l).take n=nE (l.take n):=by simp[nE]
 have DS:vR 1 (.bB 0 1 (nE l)) none (some n) none=some (.bB 0 1 (nE (l.take n))):=by
  simp only[vR,Ee,Bi];rw[if_pos ⟨trivial,Az _,by rw[eH];exact hn⟩];split
  . rename_i h;rw[eH] at h;rw[h.1,Ay,El]
  rw[El,Ix,rQ]
 have vf:(n=0\/l.getD (n -1) 0≠0)->l.take n=uY l:=fun h=>yI hn hz h;by_cases h0:n=0
 . have hd:decide ((n:Int)>0)=false:=Ag (by omega);rw[vf (.inl h0)] at DS;simp only[↓zP,zJ,seval,hv,hd,f0,dZ,aB,DS,Ci,Bc];refine⟨rfl,_,by simp only[↓zP,zR,seval];rfl,?_⟩;rfl
 have hd:decide ((n:Int)>0)=true:=Aj (by omega);have w1:IntKind.i64.wrap ((n:Int) -1)=((n -1:Nat):Int):=wI (by omega);have KN:n -1<l.length:=by omega
 have hg:=Sx KN;by_cases Pr:l[n -1]=0
 . have hb:(((l[n -1]:Nat):Int)==0)=true:=by rw[Pr];rfl
   simp only[↓zP,zJ,seval,hv,hd,f0,w1,aB,eH,KN,hg,hb];refine aL ?_;simp only[↓zP,zG,seval,hv,w1];refine⟨n -1,by omega,trivial,rfl,by omega,fun k h1 h2=>?_⟩;by_cases e:k=n -1
   . subst e;rw[pD KN];exact Pr
   exact hz k (by omega) h2
 have hb:(((l[n -1]:Nat):Int)==0)=false:=by rw[Bl];omega
 rw[vf (.inr (by rw[pD KN];exact Pr))] at DS;simp only[↓zP,zJ,seval,hv,hd,f0,w1,aB,eH,KN,hg,hb,dZ,DS,Ci,Bc];refine⟨rfl,_,by simp only[↓zP,zR,seval];rfl,?_⟩;rfl
theorem Oo (tag:Nat) (l:List Nat) (hlen:l.length<2^30) (H:aA):Sg 307 [.bB tag 1 (nE l)] H (.ret (.bB 0 1 (nE (uY l)))) H:=(aTr l hlen H).DE tag
def Wj (l:List Nat) (i:Nat):Bool:=(List.range i).all fun k=>((l.getD k 0:Nat):Int)==0
theorem fe (l:List Nat) (i:Nat):Wj l (i+1)=(Wj l i&&(((l.getD i 0:Nat):Int)==0)):=by unfold Wj;rw[Ff,List.all_append];simp
theorem aDg {l:List Nat} (hl:Rt l):Wj l 16=decide (l=zs):=by
 unfold Wj;rw[Cg,Ax,Bd];constructor
 . intro h;refine Fs (by rw[hl.1];rfl) fun k h1 h2=>?_;have :=h k (Au.2 (by rw[hl.1] at h1;exact h1));rw[Ca,pD h1] at this;have h3:zs[k]∈zs:=Ac h2;rw[Hk h3];omega
 rintro rfl k hk;have rN:k<zs.length:=Au.1 hk;have h3:zs[k]'rN=0:=Hk (Ac rN);rw[Ca,pD rN,h3];rfl
theorem lg (b n:Bool) {l:List Nat} (hl:Rt l) (H:aA):Sg 306 [.agg (.bool b::.bool n::wC l)] H (.ret (.bool (if b then decide (l=zs)&& !n else !decide (l=zs)|| !n))) H:=by
 refine So bAw Zah ?_ H;unfold aPt;dsimp only;refine Ty ?_;refine bP [3] (fun i vs H'=>H'=((⟨0,.nil⟩:aA).alloc (.cells (.bool b::.bool n::wC l) false))/\vs=[.bool (Wj l i)]) 0 16 (by decide) (by decide) (by decide) ?_ ?_ ?_ ?_ ?_
 . exact zq
 . exact⟨rfl,by simp only[sm,zB,seval];rfl⟩
 . rintro i f H1 h0 hi hk e1 ⟨rfl,hv⟩;simp only[↓zP,zG,seval,e1];exact Zaf
 . rintro i f H1 h0 hi hk e1 ⟨rfl,hv⟩;simp only[zM] at hv;have f1:f 1=.ref 0 0:=hk 1 rfl;have hg:=vA (l:=l) (i:=i) (by rw[hl.1];omega);have hlen:(wC l).length=16:=by rw[dM,hl.1]
   have Np:(AV.bool b::.bool n::wC l).getD (2+i) aC=.int .u32 (l.getD i 0):=(by rw[Kc2];exact hg);have h2i:2+i<=17:=(by omega);refine aL ?_;rw[fe]
   cases hb:Wj l i with
   |false=>rw[hb] at hv;simp only[↓zP,zJ,seval,hv,Jd]
   |true=>rw[hb] at hv;simp only[↓zP,zJ,seval,hv,f1,e1,aB,hi,hlen,Np,h2i,Co]
 rintro f H1 hk ⟨rfl,hv⟩;simp only[zM] at hv;have f1:f 1=.ref 0 0:=hk 1 rfl;rw[aDg hl] at hv;cases b<;>cases h:decide (l=zs)<;>rw[h] at hv
 . simp only[↓zP,zJ,seval,f1,hv];exact Zad
 . simp only[↓zP,zJ,seval,f1,hv];exact Zad
 . simp only[↓zP,zJ,seval,f1,hv];exact Zad
 simp only[↓zP,zJ,seval,f1,hv];exact Zad
theorem k8 (b n:Bool) {l:List Nat} (hl:Rt l) (H:aA):Sg 265 [.agg (.bool b::.bool n::wC l)] H (.ret (.bool (DM b n l))) H:=by
 refine So aZx Zah ?_ H;unfold aOv;dsimp only;have hv:=lg b n hl;unfold DM;simp only[↓zP,zJ,seval,iL hl];cases b<;>cases n<;>cases h:decide (l=zs)<;>rw[h] at hv
 . refine bZ (hv _) ?_;refine Ty ?_;exact Zad
 . refine bZ (hv _) ?_;refine Ty ?_;exact Zad
 . refine bZ (hv _) ?_;refine Ty ?_;exact Zad
 . refine bZ (hv _) ?_;refine Ty ?_;exact Zad
 . refine bZ (hv _) ?_;refine Ty ?_;exact Zad
 . refine bZ (hv _) ?_;refine Ty ?_;exact Zad
 . refine bZ (hv _) ?_;refine Ty ?_;exact Zad
 refine bZ (hv _) ?_;refine Ty ?_;exact Zad
theorem tW {v:List AV} {x:Option Int} (h:mA v x) (H:aA):Sg 265 [.agg v] H (.ret (.bool x.isSome)) H:=by
 obtain⟨b,n,l,hl,rfl,rfl⟩:=h
 have :(Py b n l).isSome=DM b n l:=by unfold Py;cases DM b n l<;>rfl
 rw[this];exact k8 b n hl H
theorem Ui {l:List Nat} {i:Nat} (h:i<l.length):mQ (l.take (i+1))=mQ (l.take i)++[l[i]%65536,l[i] / 65536]:=by unfold mQ;rw[Ao,It,Ad h];simp
theorem EX (l:List Nat):(mQ l).length=2*l.length:=by
 induction l with
 |nil=>rfl
 |cons x l ih=>have :mQ (x::l)=x%65536::x / 65536::mQ l:=rfl;rw[this];simp only[Aq,ih];omega
theorem tY (b n:Bool) {l:List Nat} (hl:Rt l) (H:aA):Sg 266 [.agg (.bool b::.bool n::wC l)] H (.ret (.bB 0 1 (nE (dg (CH l))))) H:=by
 refine eQ fit fG aZy (Ak rfl) Zah ?_ H;unfold aOw;dsimp only;refine Ty ?_;refine bP [3] (fun i vs H'=>∃v,vs=[v]/\H'.get 0=some (.cells (.bool b::.bool n::wC l) false)/\1<=H'.next/\Own H' 1 v (nE (mQ (l.take i)))) 0 16 (by decide) (by decide) (by decide) ?_ ?_ ?_ ?_ ?_
 . exact zq
 . exact⟨.aR,by simp only[sm,zB,seval],by simp only[zI,seval],by simp only[zI,seval],.nil _ _⟩
 . rintro i f H1 h0 hi hk e1 ⟨v,hv,g0,hn,ho⟩;simp only[↓zP,zG,seval,e1];exact Zaf
 . rintro i f H1 h0 hi hk e1 ⟨v,hv,g0,hn,ho⟩;simp only[zM] at hv;have f1:f 1=.ref 0 0:=hk 1 rfl;have ML:i<l.length:=by rw[hl.1];exact hi
   have Np:(AV.bool b::.bool n::wC l).getD (2+i) aC=.int .u32 (l[i]:Nat):=by rw[Kc2,vA ML,pD ML]
   have h2i:2+i<=17:=(by omega);have fF:=hl.2 _ (Ac ML);have hht:=Ui ML;have hhl:=EX (l.take i);rw[hht,RG];generalize mQ (l.take i)=done at *;generalize l[i]=w at *;have hW:w<4294967296:=fF
   have w1:IntKind.i64.wrap ((w:Int).tmod 65536)=((w%65536:Nat):Int):=by rw[Es (by omega),wrap_i64 (by omega) (by omega)];omega
   have w2:IntKind.i64.wrap (IntKind.u32.wrap ((w:Int).tdiv 65536))=((w / 65536:Nat):Int):=by rw[Fz (by omega),JH (k:=.u32) rfl,wrap_i64 (by simp only[IntKind.bits];omega) (by simp only[IntKind.bits];omega)];simp only[IntKind.bits];omega
   obtain⟨H5,z1,z2,z3,z4,z5⟩:=Has.push (.inr ho) (ys:=nE [w%65536,w / 65536]) (bytes:=8) rfl (by simp only[eH,hhl,Db,Aq,Bm];omega);refine aL ?_;refine Dz ?_;simp only[↓zP,zJ,seval,zD,f1,g0,hv,e1,aB,hi,Np,h2i,iL hl,w1,w2];rw[show ∀(h:aA) (x y:List AV),cL h 1 (.bB 1 1 [x,y])=some [x,y] from fun _ _ _=>rfl];rw[show nE [w%65536,w / 65536]=[[.int .i64 ((w%65536:Nat):Int)],[.int .i64 ((w / 65536:Nat):Int)]] from rfl] at z1 ⊢;simp only[z1,cF,seval];exact⟨by omega,_,rfl,(z4 0 (by omega) (by rw[g0];simp)).trans g0,by omega,.inr ⟨H1.next,rfl,by omega,z3⟩⟩
 rintro f H1 hk ⟨v,hv,g0,hn,ho⟩;simp only[zM] at hv;have bEu:l.take 16=l:=by rw[<-hl.1,Ay]
 rw[bEu] at ho
 have cP:nE (mQ l)≠[]:=by intro h;have :=Bn List.length h;rw[eH,EX,hl.1] at this;cases this
 rcases ho with ⟨_,h⟩|⟨k,rfl,h1,h2⟩
 . exact absurd h cP
 simp only[↓zP,seval,hv];refine bZ (Oo (k+2) (mQ l) (by rw[EX,hl.1];decide) _) ?_;rw[JF (QC hl.2),Lk];refine Tz ?_;refine⟨rfl,_,by simp only[↓zP,zR,seval];rfl,?_⟩;exact⟨_,0,rfl,fun nw=>CQ (uP rfl _)⟩
theorem tH {n:Nat}:(dg n).length<=32↔n<W^16:=by
 have e:(65536:Nat)^32=W^16:=BE 16;constructor
 . intro h;have h1:=CR (GK n);rw[yJ] at h1;rw[<-e];exact Cj h1 (Ds (by decide) h)
 intro h;rw[<-e] at h;exact QU h
theorem Xl {d:List Nat} (hd:DD d) {m:Nat} (h:2*m<d.length) (hm:d.length<=32):bL (cQ (d.take (2*m))) m=0/\(bJ 16 (cQ (d.take (2*m)))).set m (d.getD (2*m) 0)=bJ 16 (cQ (d.take (2*m+1))):=by have h1:=sO hd (k:=2*m) (by omega);rw[BE] at h1;have h0:bL (cQ (d.take (2*m))) m=0:=CF h1;have h2:=hd.getD (2*m);have hW:W=4294967296:=rfl;have h3:=RB (v:=cQ (d.take (2*m))) (X:=d.getD (2*m) 0) (m:=m) (by omega) (Cj h1 (Ds (by decide) (by omega))) (by rw[h0];omega);rw[h0,Cs] at h3;refine⟨h0,?_⟩;rw[h3,Kv h,BE,Dg (W^m)]
theorem ka {d:List Nat} (hd:DD d) {m:Nat} (h:2*m+1<d.length) (hm:d.length<=32):bL (cQ (d.take (2*m+1))) m<65536/\(bJ 16 (cQ (d.take (2*m+1)))).set m (bL (cQ (d.take (2*m+1))) m+d.getD (2*m+1) 0*65536)=bJ 16 (cQ (d.take (2*m+1+1))):=by
 have h1:=sO hd (k:=2*m+1) (by omega);rw[bq] at h1;have h0:=(Xk h1).1;have h2:=hd.getD (2*m+1);have hW:W=4294967296:=rfl
 have fF:cQ (d.take (2*m+1))<W^16:=by have :=sO hd (k:=2*m+1) (by omega);have e:(65536:Nat)^32=W^16:=BE 16;rw[<-e];exact Cj this (Ds (by decide) (by omega))
 have h3:=RB (v:=cQ (d.take (2*m+1))) (X:=d.getD (2*m+1) 0*65536) (m:=m) (by omega) fF (by omega);refine⟨h0,?_⟩;rw[h3,Kv h,bq];congr 1;rw[Gt,Dg (d.getD (2*m+1) 0)]
theorem bDd {a b:AV} {l:List Nat} {i:Nat} (h:i<l.length) (x:Nat):(a::b::wC l).take (2+i)++[AV.int .u32 (x:Int)]++(b::wC l).drop (2+i)=a::b::wC (l.set i x):=by rw[<-CS h,Fo 2 i];simp[fW]
theorem aUd (neg:Bool) {n:Nat} (hn:n<W^16):cI (sg neg n)=.bool false::.bool (neg&& !decide (n=0))::wC (bJ 16 n):=by
 cases neg with
 |false=>simp[cI,sg]
 |true=>
  simp only[cI,sg,if_true,Kc,Em,Co];congr 2;by_cases h:n=0
  . subst h;simp
  simp[h];omega
theorem aAn (neg:Bool) {l:List Nat} (hl:DD l) (hlen:l.length<2^30) (H:aA):Sg 309 [.bool neg,.bB 0 1 (nE l)] H (.ret (.agg (cO (norm (sg neg (cQ l)))))) H:=by
 have Qv:Nat.blt 0 2=true:=rfl;refine Sp bAz (by simp only[sf,uP Qv]) (by simp only[AV.free,SK]) ?_ H;unfold aPw;dsimp only;refine bQ ?_;simp only[↓zP,zJ,Nat.reduceLT];refine fD ?_;simp only[↓zP,zJ,Nat.reduceLT,Nat.reduceEqDiff];refine bZ (Oo 0 l hlen _) ?_;rw[JF hl];simp only[↓zP,zG,Nat.reduceLT];refine bR ?_;have hd:=GK (cQ l);have hv:=yJ (cQ l);have hi:=tH (n:=cQ l);by_cases hb:cQ l<W^16
 . have h32:=hi.2 hb;have d1:decide (((dg (cQ l)).length:Int)>32)=false:=Ag (by omega)
   have wu:norm (sg neg (cQ l))=some (sg neg (cQ l)):=by unfold norm;rw[if_pos (by rw[kW];exact hb)]
   rw[wu];simp only[cO];rw[aUd neg hb]
   have cP:decide (cQ l=0)= !decide (((dg (cQ l)).length:Int)>0):=by
    rw[<-Jl,Bs,<-SE (n:=cQ l)];constructor
    . intro h;rw[h];simp
    intro h;exact Cm (by omega)
   rw[cP,Bool.not_not];generalize cQ l=n at *;generalize dg n=d at *;clear hl hlen hi;subst hv;refine bQ ?_;simp only[↓zP,zJ,Nat.reduceLT,eH,d1];refine bR ?_;refine aJ fun K hK=>?_
   have key:∀f:dE,f 4=.ref 0 0->f 5=.bB 0 1 (nE d)->f 6=.ref 1 0->K f [] (((((⟨0,.nil⟩:aA).alloc (.cells (.bool false::.bool false::wC zs) false)).alloc (.cells (.bool false::.bool false::wC zs) false)).set 1 (.cells (.bool false::.bool (neg&&decide ((d.length:Int)>0))::wC zs) false))):=by
    intro f f4 f5 f6;apply hK;clear hK K;generalize (neg&&decide ((d.length:Int)>0))=ng;have CE:wC zs=wC (bJ 16 (cQ (d.take 0))):=(by rw[Fb];rfl);simp only[↓zP,zJ,Nat.reduceLT,Nat.reduceEqDiff];refine bP [] (fun k vs H'=>H'.get 0=some (.cells (.bool false::.bool false::wC zs) false)/\H'.get 1=some (.cells (.bool false::.bool ng::wC (bJ 16 (cQ (d.take k)))) false)) 0 d.length (Az _) (by omega) (by decide) ?_ ?_ ?_ ?_ ?_
    . simp only[zB];rfl
    . exact⟨by simp only[zI,Nat.reduceEqDiff],by rw[<-CE];simp only[zI,Nat.reduceEqDiff]⟩
    . rintro i f H1 h0 hi hk e1 ⟨g0,g1⟩;have e5:f 5=.bB 0 1 (nE d):=(by rw[hk 5 rfl];simp only[zB,Nat.reduceEqDiff];exact f5);simp only[↓zP,zJ,Nat.reduceLT,Nat.reduceEqDiff,e1,e5,eH];exact Zaf
    . rintro i f H1 h0 hi hk e1 ⟨g0,g1⟩;have e5:f 5=.bB 0 1 (nE d):=(by rw[hk 5 rfl];simp only[zB,Nat.reduceEqDiff];exact f5);have e6:f 6=.ref 1 0:=(by rw[hk 6 rfl];simp only[zB,Nat.reduceEqDiff];exact f6);have hg:=Sx hi;have hdi:=hd.getD i;rw[pD hi] at hdi;have ju:i / 2<16:=by omega
      have w1:IntKind.i64.wrap ((i:Int).tdiv 2)=((i / 2:Nat):Int):=by rw[Fz (by omega),wrap_i64 (by omega) (by omega)];omega
      have hW:W=4294967296:=rfl;have w2:IntKind.u32.wrap ((d[i]:Nat):Int)=(d[i]:Nat):=(by rw[JH (k:=.u32) rfl];simp only[IntKind.bits];omega);have hgl:=vA (l:=bJ 16 (cQ (d.take i))) (i:=i / 2) (by rw[cU];exact ju);rw[kK ju] at hgl;have Np:(AV.bool false::.bool ng::wC (bJ 16 (cQ (d.take i)))).getD (2+i / 2) aC=.int .u32 (bL (cQ (d.take i)) (i / 2):Nat):=(by rw[Kc2];exact hgl);have h2i:2+i / 2<=17:=(by omega);refine aL ?_;by_cases hev:i%2=0
      . have d2:(((i:Int).tmod 2)==0)=true:=(by rw[Es (by omega),Ca];omega);obtain⟨q1,q2⟩:=Xl hd (m:=i / 2) (by omega) h32;rw[show 2*(i / 2)=i by omega] at q1 q2;rw[pD hi] at q2;simp only[↓zP,zJ,Nat.reduceLT,Int.reduceEq,e1,d2];refine Dz ?_;rw[q1] at Np;simp only[↓zP,zJ,Nat.reduceLT,Nat.reduceEqDiff,Nat.reduceAdd,zD,reduceCtorEq,Nat.reduceLeDiff,Int.reduceEq,e1,e5,e6,w1,aB,ju,g1,iL (.bJ _),h2i,Np,eH,hi,hg,w2];have w3:IntKind.u32.wrap (((0:Nat):Int)+((d[i]:Nat):Int))=(d[i]:Nat):=(by rw[JH (k:=.u32) rfl];simp only[IntKind.bits];omega);rw[w3,bDd (by rw[cU];exact ju),q2];exact⟨g0,rfl⟩
      have d2:(((i:Int).tmod 2)==0)=false:=(by rw[Es (by omega),Bl];omega);obtain⟨q1,q2⟩:=ka hd (m:=i / 2) (by omega) h32;rw[show 2*(i / 2)+1=i by omega] at q1 q2;rw[pD hi] at q2;simp only[↓zP,zJ,Nat.reduceLT,Int.reduceEq,e1,d2];refine Dz ?_;simp only[↓zP,zJ,Nat.reduceLT,Nat.reduceEqDiff,Nat.reduceAdd,zD,reduceCtorEq,Nat.reduceLeDiff,Int.reduceEq,e1,e5,e6,w1,aB,ju,g1,iL (.bJ _),h2i,Np,eH,hi,hg,w2]
      have w3:IntKind.u32.wrap (((bL (cQ (d.take i)) (i / 2):Nat):Int)+IntKind.u32.wrap (((d[i]:Nat):Int)*65536))=((bL (cQ (d.take i)) (i / 2)+d[i]*65536:Nat):Int):=by rw[JH (k:=.u32) rfl,JH (k:=.u32) rfl];simp only[IntKind.bits];omega
      rw[w3,bDd (by rw[cU];exact ju),q2];exact⟨g0,rfl⟩
    rintro f H1 hk ⟨g0,g1⟩;rw[Ay] at g1;have e4:f 4=.ref 0 0:=(by rw[hk 4 rfl];simp only[zB,Nat.reduceEqDiff];exact f4);have e6:f 6=.ref 1 0:=(by rw[hk 6 rfl];simp only[zB,Nat.reduceEqDiff];exact f6);simp only[↓zP,zJ,Nat.reduceAdd,e4,e6,g0,g1,iL (.bJ _)];refine⟨rfl,_,by simp only[↓zP,zR,Nat.reduceEqDiff,Nat.reduceAdd,e4,iL (.bJ _)];rfl,?_⟩;rfl
   cases neg with
   |false=>simp only[↓zP,zJ,Nat.reduceLT,Nat.reduceEqDiff,Nat.reduceAdd,Nat.reduceLeDiff];exact key _ (by simp only[zB,Nat.reduceEqDiff]) (by simp only[zB,Nat.reduceEqDiff]) (by simp only[zB])
   |true=>simp only[↓zP,zJ,Nat.reduceLT,Nat.reduceEqDiff,Nat.reduceAdd,Nat.reduceLeDiff,eH];exact key _ (by simp only[zB,Nat.reduceEqDiff]) (by simp only[zB,Nat.reduceEqDiff]) (by simp only[zB])
 have d1:decide (((dg (cQ l)).length:Int)>32)=true:=Aj (by omega)
 have wu:norm (sg neg (cQ l))=none:=by unfold norm;rw[if_neg (by rw[kW];exact hb)]
 rw[wu];simp only[↓zP,zJ,Nat.reduceLT,Nat.reduceEqDiff,Nat.reduceAdd,Nat.reduceLeDiff,eH,d1];refine bZ (aHa _) ?_;have Uk:EK.length=18:=rfl;simp only[↓zP,zJ,Nat.reduceEqDiff,Nat.reduceAdd,oL Uk];refine⟨rfl,_,by simp only[↓zP,zR,Nat.reduceEqDiff,oL Uk];rfl,?_⟩;rfl
theorem yD (neg:Bool) (tag:Nat) {l:List Nat} (hl:DD l) (hlen:l.length<2^30) (H:aA):Sg 309 [.bool neg,.bB tag 1 (nE l)] H (.ret (.agg (cO (norm (sg neg (cQ l)))))) H:=(aAn neg hl hlen H).aHm tag
theorem aTo {a b:List Nat} (ha:DD a) (hb:DD b) (hla:a.length<2^29) (hlb:b.length<2^29) (H:aA):Sg 267 [.bB 0 1 (nE a),.bB 0 1 (nE b)] H (.ret (.bool (decide (cQ a<cQ b)))) H:=by
 have Qv:Nat.blt 0 2=true:=rfl;refine So aZz (by simp only[sf,uP Qv]) ?_ H;unfold aOx;dsimp only
 have hw:IntKind.i64.wrap ((if(b.length:Int)>a.length then(b.length:Int) else a.length) -1)=((max a.length b.length:Nat):Int) -1:=by rw[wrap_i64 (by split<;>omega) (by split<;>omega)];split<;>omega
 simp only[↓zP,zJ,Nat.reduceLT,Nat.reduceEqDiff,eH,hw];refine Yz [] (fun i vs H'=>H'=⟨0,.nil⟩/\cQ (a.drop i)=cQ (b.drop i)) (max a.length b.length) (by omega) (by decide) ?_ ?_ ?_ ?_ ?_
 . simp only[zB]
 . exact⟨rfl,by rw[Cc (by omega),Cc (by omega)]⟩
 . rintro i f H1 hi hk e1 ⟨rfl,hv⟩;simp only[↓zP,zJ,Nat.reduceLT,e1];exact Zaf
 . rintro i f H1 hi hk e1 ⟨rfl,hv⟩;have f0:f 0=.bB 0 1 (nE a):=hk 0 rfl;have f1:f 1=.bB 0 1 (nE b):=hk 1 rfl;have qa:=CM (tag:=0) rfl a (by omega) i (by omega);have qb:=CM (tag:=0) rfl b (by omega) i (by omega);refine aL ?_;refine aJ fun K hK=>?_;simp only[↓zP,zG,Nat.reduceLT,Nat.reduceEqDiff,e1,f0];refine bZ (qa _) ?_;simp only[↓zP,zG,Nat.reduceLT,Nat.reduceEqDiff,e1,f1];refine bZ (qb _) ?_;by_cases he:a.getD i 0=b.getD i 0
   . have fV:(((a.getD i 0:Nat):Int) != ((b.getD i 0:Nat):Int))=false:=(by rw[he];simp);simp only[↓zP,zJ,Nat.reduceLT,Nat.reduceEqDiff,fV];apply hK;clear hK K;simp only[↓zP,zG];exact⟨trivial,TR hv he⟩
   have fV:(((a.getD i 0:Nat):Int) != ((b.getD i 0:Nat):Int))=true:=(by rw[De];omega);simp only[↓zP,zJ,Nat.reduceLT,Nat.reduceEqDiff,fV];apply hK;clear hK K;simp only[↓zP,zG,Nat.reduceLT,Nat.reduceEqDiff,e1,f0];refine bZ (qa _) ?_;simp only[↓zP,zG,Nat.reduceLT,Nat.reduceEqDiff,e1,f1];refine bZ (qb _) ?_;simp only[↓zP,zJ,Nat.reduceLT,Nat.reduceEqDiff];refine Rx ?_
   have :decide (((a.getD i 0:Nat):Int)<((b.getD i 0:Nat):Int))=decide (cQ a<cQ b):=by
    rw[Bs];constructor
    . intro h;exact Vw ha hb hv (by omega)
    intro h;refine Ev fun hc=>?_;have :=Vw hb ha hv.symm (k:=i) (by omega);omega
   rw[this];rfl
 rintro f H1 hk ⟨rfl,hv⟩;rw[El,El] at hv;simp only[↓zP];refine Rx ?_;rw[hv,Ag (Ez _)];rfl
theorem Vi {a b:List Nat} (ha:DD a) (hb:DD b) (hla:a.length<2^29) (hlb:b.length<2^29) (t1 t2:Nat) (H:aA):Sg 267 [.bB t1 1 (nE a),.bB t2 1 (nE b)] H (.ret (.bool (decide (cQ a<cQ b)))) H:=
 ((aTo ha hb hla hlb H).aHm t2).DE t1
theorem aTp {a b:List Nat} (ha:DD a) (hb:DD b) (hla:a.length<2^29) (hlb:b.length<2^29) (H:aA):Sg 310 [.bB 0 1 (nE a),.bB 0 1 (nE b)] H (.ret (.bB 0 1 (nE (dg (cQ a+cQ b))))) H:=by
 have Qv:Nat.blt 0 2=true:=rfl;refine eQ fit fG bBb (Ak rfl) (by simp only[sf,uP Qv]) ?_ H;unfold aPy;dsimp only;simp only[↓zP,zG,Nat.reduceLT];refine bP [5,6] (fun k vs H'=>∃v c ds,vs=[v,.int .i64 (c:Nat)]/\Own H' 1 v (nE ds)/\ds.length=k/\DD ds/\c<=1/\cQ ds+65536^k*c=cQ (a.take k)+cQ (b.take k)) 0 (max a.length b.length+1) (Az _) (by omega) (by decide) ?_ ?_ ?_ ?_ ?_
 . simp only[zB];rfl
 . exact⟨.aR,0,[],by simp only[sm,zB,Nat.reduceEqDiff];rfl,.nil _ _,rfl,(fun d hd=>by cases hd),by decide,by simp[cQ]⟩
 . rintro i f H1 h0 hi hk e1 ⟨v,c,ds,hv,ho,hl,hd,hc,he⟩;have f0:f 0=.bB 0 1 (nE a):=hk 0 rfl;have f1:f 1=.bB 0 1 (nE b):=hk 1 rfl
   have hw:IntKind.i64.wrap ((if(b.length:Int)>a.length then(b.length:Int) else a.length)+1)=((max a.length b.length+1:Nat):Int):=by rw[wrap_i64 (by split<;>omega) (by split<;>omega)];split<;>omega
   simp only[↓zP,zJ,Nat.reduceLT,Nat.reduceEqDiff,e1,f0,f1,eH,hw];exact Zaf
 . rintro i f H1 h0 hi hk e1 ⟨v,c,ds,hv,ho,hl,hd,hc,he⟩;simp only[zM] at hv;have f0:f 0=.bB 0 1 (nE a):=hk 0 rfl;have f1:f 1=.bB 0 1 (nE b):=hk 1 rfl;have qa:=CM (tag:=0) rfl a (by omega) i (by omega);have qb:=CM (tag:=0) rfl b (by omega) i (by omega);have ba:=ha.getD i;have bb:=hb.getD i;have hs:=nv he;generalize a.getD i 0=x at *;generalize b.getD i 0=y at *;have w1:IntKind.i64.wrap ((x:Int)+(y:Int))=((x+y:Nat):Int):=wI (by omega);have w2:IntKind.i64.wrap (((x+y:Nat):Int)+(c:Int))=((x+y+c:Nat):Int):=wI (by omega);have w3:(((x+y+c:Nat):Int).tmod 65536)=(((x+y+c)%65536:Nat):Int):=by rw[Es (by omega)];omega
   have w4:IntKind.i64.wrap (((x+y+c:Nat):Int).tdiv 65536)=(((x+y+c) / 65536:Nat):Int):=(by rw[Fz (by omega),wrap_i64 (by omega) (by omega)];omega);obtain⟨H5,z1,z2,z3,z4,z5⟩:=Has.push (.inr ho) (ys:=nE [(x+y+c)%65536]) (bytes:=8) rfl (by simp only[eH,hl,Aq,Bm];omega);rw[show nE [(x+y+c)%65536]=[[.int .i64 (((x+y+c)%65536:Nat):Int)]] from rfl] at z1;refine aL ?_;refine bQ ?_;simp only[↓zP,zJ,Nat.reduceLT,Nat.reduceEqDiff,e1,f0];refine bZ (qa _) ?_;simp only[↓zP,zG,Nat.reduceLT,Nat.reduceEqDiff,e1,f1];refine bZ (qb _) ?_;simp only[↓zP,zJ,Nat.reduceLT,Nat.reduceEqDiff,hv.2,w1,w2];refine bR ?_;simp only[↓zP,zJ,Nat.reduceLT,Nat.reduceEqDiff,Int.reduceEq,hv.1,w3,w4];rw[eL];simp only[z1,cF];refine⟨_,(x+y+c) / 65536,ds++[(x+y+c)%65536],rfl,?_,by simp[hl],?_,by omega,?_⟩
   . rw[RG];exact .inr ⟨H1.next,rfl,by omega,z3⟩
   . intro d hdm
     rcases Ap.1 hdm with h|h
     . exact hd d h
     rw[Cb] at h;subst h;omega
   rw[uZ,hl];simp only[cQ,Nat.mul_zero,Cy];exact hs
 rintro f H1 hk ⟨v,c,ds,hv,ho,hl,hd,hc,he⟩;simp only[zM] at hv;rw[As (by omega),As (by omega)] at he
 have hc0:c=0:=by
  have h1:=CR ha;have h2:=CR hb;have h3:cQ a<65536^max a.length b.length:=Cj h1 (Ds (by decide) (by omega));have h4:cQ b<65536^max a.length b.length:=Cj h2 (Ds (by decide) (by omega));rw[Ef] at he;generalize 65536^max a.length b.length=X at *
  rcases Hn c with h|h
  . exact h
  have :c=1:=by omega
  subst this;omega
 subst hc0;rw[Nat.mul_zero,Cy] at he
 have cP:nE ds≠[]:=by intro h;have :=Bn List.length h;rw[eH,hl] at this;simp at this
 rcases ho with ⟨_,h⟩|⟨k,hvk,h1,h2⟩
 . exact absurd h cP
 rw[hvk] at hv;simp only[↓zP,hv.1];refine bZ (Oo (k+2) ds (by rw[hl];omega) _) ?_;rw[JF hd,he];simp only[↓zP,zG,Nat.reduceLT];refine Rx ?_;exact⟨_,0,rfl,fun nw=>CQ (uP rfl _)⟩
theorem aAq {a b:List Nat} (ha:DD a) (hb:DD b) (hla:a.length<2^29) (hlb:b.length<2^29) (t1 t2:Nat) (H:aA):Sg 310 [.bB t1 1 (nE a),.bB t2 1 (nE b)] H (.ret (.bB 0 1 (nE (dg (cQ a+cQ b))))) H:=
 ((aTp ha hb hla hlb H).aHm t2).DE t1
end Go.Proofs.YtgggiembljfnhaaGreatDoor
