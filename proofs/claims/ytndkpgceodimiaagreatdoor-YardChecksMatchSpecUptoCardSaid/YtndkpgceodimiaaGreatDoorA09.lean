/-
  Part of the proof of statement 10
-/
import Derived.Test.YtndkpgceodimiaaGreatDoorA08
import Derived.Test.YtndkpgceodimiaaGreatDoorA06
import Derived.Test.YtndkpgceodimiaaGreatDoorA07
set_option linter.unusedVariables false
set_option maxRecDepth 100000
set_option maxHeartbeats 16000000
namespace Go.Proofs.YtndkpgceodimiaaGreatDoor
open Go Go.Av Go.sK
attribute [local congr] aV aO aP aL aX aR aQ aH aY
attribute [local irreducible] FC bY eX
def nE (l:List Nat):List (List AV):=l.map fun(k:Nat)=>[AV.int .i64 (k:Int)]
theorem eH (on:List Nat):(nE on).length=on.length:=by simp[nE]
theorem TN {on:List Nat} {i:Nat} (h:i<on.length):(nE on).getD i []=[AV.int .i64 (on[i]:Int)]:=eR h
theorem Rb (a b:List Nat):nE (a++b)=nE a++nE b:=by simp[nE]
theorem jl (a:List Nat):dM (nE a)=true:=dW (fun _=>by simp only[sf]) a
theorem uX {tag:Nat} (ht:Nat.blt tag 2=true) (l:List Nat):(AV.aU tag 1 (nE l)).free=true:=by simp only[AV.free,ht,jl,Df]
theorem Kc2 {α:Type} (a b d:α) (l:List α) (k:Nat):(a::b::l).getD (2+k) d=l.getD k d:=by rw[Fq];rfl
theorem pD {l:List Nat} {k:Nat} (h:k<l.length):l.getD k 0=l[k]:=by simp[List.getD,h]
theorem aHc (H:aA):Sg 328 [] H (.ret (.agg EI)) H:=by refine So bAe (by simp only[sf]) ?_ H;unfold aPl;dsimp only;simp only[↓zP,zJ,seval];exact⟨rfl,_,by simp only[↓zP,zR,seval];rfl,rfl⟩
theorem CI {tag:Nat} (ht:Nat.blt tag 2=true) (l:List Nat) (hlen:l.length<2^30) (k:Nat) (hk:k<2^30) (H:aA):Sg 287 [.aU tag 1 (nE l),.int .i64 k] H (.ret (.int .i64 (l.getD k 0:Nat))) H:=by
 refine So aZs (by simp only[sf,uX ht]) ?_ H;unfold aOz;dsimp only;simp only[↓zP,zJ,seval,eH];refine⟨fun h=>?_,fun h=>?_⟩
 · have h':k<l.length:=by omega
   have hg:=TN h';simp only[zJ,seval,aB,h',hg,pD h'];exact⟨rfl,_,by simp only[↓zP,zR,seval];rfl,rfl⟩
 have h':¬k<l.length:=by omega
 have :l.getD k 0=0:=by rw[Bw,Bs (by omega)];rfl
 rw[this];exact⟨rfl,_,by simp only[↓zP,zR,seval];rfl,rfl⟩
theorem _root_.Go.Av.Sound.aHp {P:Program} {g:bB} {f:FuncId} {x:AV} {sz:Nat} {els:List (List AV)} {rest:List AV} {H H':aA} {out:Out} (h:Sound P g f (x::.aU 0 sz els::rest) H out H') (tag:Nat):
 Sound P g f (x::.aU tag sz els::rest) H out H':=by
 refine⟨h.1,fun G w vs hw hv=>h.2 G w vs hw ⟨hv.1,fun j hj=>?_⟩⟩;have :=hv.2 j hj
 match j with
 |0=>exact this
 |1=>exact VR.CV this
 |j+2=>exact this
theorem aSw (l:List Nat) (hlen:l.length<2^30) (H:aA):Sg 286 [.aU 0 1 (nE l)] H (.ret (.aU 0 1 (nE (vE l)))) H:=by
 have ht:Nat.blt 0 2=true:=rfl;refine Sp aZr (by simp only[sf,uX ht]) (by simp only[uX ht]) ?_ H;unfold aOy;dsimp only;simp only[↓zP,zJ,seval,eH];refine aF ?_;refine iG [3] (fun n vs H'=>H'=⟨0,.nil⟩/\vs=[.int .i64 n]/\n<=l.length/\∀k,n<=k->k<l.length->l.getD k 0=0) l.length (by rfl) ?_ ?_
 · exact⟨rfl,by simp only[sm,zB,seval],Ak _,fun k h1 h2=>absurd h2 (by omega)⟩
 rintro n f H1 hk ⟨rfl,hv,hn,hz⟩;simp only[zM] at hv;have f0:f 0=.aU 0 1 (nE l):=hk 0 rfl;have nM:(nE l).take n=nE (l.take n):=by simp[nE]
 have IF:rZ 1 (.aU 0 1 (nE l)) none (some n) none=some (.aU 0 1 (nE (l.take n))):=by
  simp only[rZ,Dx,Bi];rw[if_pos ⟨trivial,Az _,by rw[eH];exact hn⟩];split
  · rename_i h;rw[eH] at h;rw[h.1,Ao,Ef]
  rw[Ef,Ic,nM]
 have QD:(n=0\/l.getD (n -1) 0≠0)->l.take n=vE l:=fun h=>yM hn hz h;by_cases h0:n=0
 · have hd:decide ((n:Int)>0)=false:=Ae (by omega);rw[QD (.inl h0)] at IF;simp only[↓zP,zJ,seval,hv,hd,f0,dQ,aB,IF,Cj,Bd];refine⟨rfl,_,by simp only[↓zP,zR,seval];rfl,?_⟩;rfl
 have hd:decide ((n:Int)>0)=true:=Af (by omega);have w1:IntKind.i64.wrap ((n:Int) -1)=((n -1:Nat):Int):=wI (by omega);have Kq:n -1<l.length:=by omega
 have hg:=TN Kq;by_cases QL:l[n -1]=0
 · have hb:(((l[n -1]:Nat):Int)==0)=true:=by rw[QL];rfl
   simp only[↓zP,zJ,seval,hv,hd,f0,w1,aB,eH,Kq,hg,hb];refine aF ?_;simp only[↓zP,zG,seval,hv,w1];refine⟨n -1,by omega,trivial,rfl,by omega,fun k h1 h2=>?_⟩;by_cases e:k=n -1
   · subst e;rw[pD Kq];exact QL
   exact hz k (by omega) h2
 have hb:(((l[n -1]:Nat):Int)==0)=false:=by rw[Ce];omega
 rw[QD (.inr (by rw[pD Kq];exact QL))] at IF;simp only[↓zP,zJ,seval,hv,hd,f0,w1,aB,eH,Kq,hg,hb,dQ,IF,Cj,Bd];refine⟨rfl,_,by simp only[↓zP,zR,seval];rfl,?_⟩;rfl
theorem PH (tag:Nat) (l:List Nat) (hlen:l.length<2^30) (H:aA):Sg 286 [.aU tag 1 (nE l)] H (.ret (.aU 0 1 (nE (vE l)))) H:=(aSw l hlen H).CV tag
def XI (l:List Nat) (i:Nat):Bool:=(List.range i).all fun k=>((l.getD k 0:Nat):Int)==0
theorem gp (l:List Nat) (i:Nat):XI l (i+1)=(XI l i&&(((l.getD i 0:Nat):Int)==0)):=by unfold XI;rw[Ew,List.all_append];simp
theorem aDm {l:List Nat} (hl:SQ l):XI l 16=decide (l=zs):=by
 unfold XI;rw[Cg,Aw,Bg];constructor
 · intro h;refine Gj (by rw[hl.1];rfl) fun k h1 h2=>?_;have :=h k (Ba.2 (by rw[hl.1] at h1;exact h1));rw[Da,pD h1] at this;have h3:zs[k]∈zs:=Ac h2;rw[Hn h3];omega
 rintro rfl k hk;have rF:k<zs.length:=Ba.1 hk;have h3:zs[k]'rF=0:=Hn (Ac rF);rw[Da,pD rF,h3];rfl
theorem mq (b n:Bool) {l:List Nat} (hl:SQ l) (H:aA):Sg 285 [.agg (.bool b::.bool n::wC l)] H (.ret (.bool (if b then decide (l=zs)&& !n else !decide (l=zs)|| !n))) H:=by
 refine So aZq (by simp only[sf]) ?_ H;unfold aOx;dsimp only;simp only[↓zP,zJ,seval];refine bN [3] (fun i vs H'=>H'=((⟨0,.nil⟩:aA).alloc (.cells (.bool b::.bool n::wC l) false))/\vs=[.bool (XI l i)]) 0 16 (by decide) (by decide) (by decide) ?_ ?_ ?_ ?_ ?_
 · simp only[zB,seval]
 · exact⟨rfl,by simp only[sm,zB,seval];rfl⟩
 · rintro i f H1 h0 hi hk e1 ⟨rfl,hv⟩;simp only[↓zP,zG,seval,e1];exact tB (by omega)
 · rintro i f H1 h0 hi hk e1 ⟨rfl,hv⟩;simp only[zM] at hv;have f1:f 1=.ref 0 0:=hk 1 rfl;have hg:=vH (l:=l) (i:=i) (by rw[hl.1];omega);have hlen:(wC l).length=16:=by rw[dA,hl.1]
   have Kn:(AV.bool b::.bool n::wC l).getD (2+i) aD=.int .u32 (l.getD i 0):=(by rw[Kc2];exact hg);have h2i:2+i<=17:=(by omega);refine aF ?_;rw[gp]
   cases hb:XI l i with
   |false=>rw[hb] at hv;simp only[↓zP,zJ,seval,hv,Ke]
   |true=>rw[hb] at hv;simp only[↓zP,zJ,seval,hv,f1,e1,aB,hi,hlen,Kn,h2i,Cr]
 rintro f H1 hk ⟨rfl,hv⟩;simp only[zM] at hv;have f1:f 1=.ref 0 0:=hk 1 rfl;rw[aDm hl] at hv;cases b<;>cases h:decide (l=zs)<;>rw[h] at hv
 · simp only[↓zP,zJ,seval,f1,hv];exact⟨rfl,_,by simp only[↓zP,zR,seval];rfl,rfl⟩
 · simp only[↓zP,zJ,seval,f1,hv];exact⟨rfl,_,by simp only[↓zP,zR,seval];rfl,rfl⟩
 · simp only[↓zP,zJ,seval,f1,hv];exact⟨rfl,_,by simp only[↓zP,zR,seval];rfl,rfl⟩
 simp only[↓zP,zJ,seval,f1,hv];exact⟨rfl,_,by simp only[↓zP,zR,seval];rfl,rfl⟩
theorem mi (b n:Bool) {l:List Nat} (hl:SQ l) (H:aA):Sg 245 [.agg (.bool b::.bool n::wC l)] H (.ret (.bool (DG b n l))) H:=by
 refine So aYv (by simp only[sf]) ?_ H;unfold aOf;dsimp only;have hv:=mq b n hl;unfold DG;simp only[↓zP,zJ,seval,iL hl];cases b<;>cases n<;>cases h:decide (l=zs)<;>rw[h] at hv
 · refine bW (hv _) ?_;simp only[↓zP,zJ,seval];exact⟨rfl,_,by simp only[↓zP,zR,seval];rfl,rfl⟩
 · refine bW (hv _) ?_;simp only[↓zP,zJ,seval];exact⟨rfl,_,by simp only[↓zP,zR,seval];rfl,rfl⟩
 · refine bW (hv _) ?_;simp only[↓zP,zJ,seval];exact⟨rfl,_,by simp only[↓zP,zR,seval];rfl,rfl⟩
 · refine bW (hv _) ?_;simp only[↓zP,zJ,seval];exact⟨rfl,_,by simp only[↓zP,zR,seval];rfl,rfl⟩
 · refine bW (hv _) ?_;simp only[↓zP,zJ,seval];exact⟨rfl,_,by simp only[↓zP,zR,seval];rfl,rfl⟩
 · refine bW (hv _) ?_;simp only[↓zP,zJ,seval];exact⟨rfl,_,by simp only[↓zP,zR,seval];rfl,rfl⟩
 · refine bW (hv _) ?_;simp only[↓zP,zJ,seval];exact⟨rfl,_,by simp only[↓zP,zR,seval];rfl,rfl⟩
 refine bW (hv _) ?_;simp only[↓zP,zJ,seval];exact⟨rfl,_,by simp only[↓zP,zR,seval];rfl,rfl⟩
theorem uC {v:List AV} {x:Option Int} (h:iU v x) (H:aA):Sg 245 [.agg v] H (.ret (.bool x.isSome)) H:=by
 obtain⟨b,n,l,hl,rfl,rfl⟩:=h
 have :(QV b n l).isSome=DG b n l:=by unfold QV;cases DG b n l<;>rfl
 rw[this];exact mi b n hl H
theorem VC {l:List Nat} {i:Nat} (h:i<l.length):mR (l.take (i+1))=mR (l.take i)++[l[i]%65536,l[i] / 65536]:=by unfold mR;rw[Al,Fp,Ab h];simp
theorem EW (l:List Nat):(mR l).length=2*l.length:=by
 induction l with
 |nil=>rfl
 |cons x l ih=>have :mR (x::l)=x%65536::x / 65536::mR l:=rfl;rw[this];simp only[Aq,ih];omega
theorem uE (b n:Bool) {l:List Nat} (hl:SQ l) (H:aA):Sg 246 [.agg (.bool b::.bool n::wC l)] H (.ret (.aU 0 1 (nE (dg (CF l))))) H:=by
 refine dL fit eU aYw (Aj rfl) (by simp only[sf]) ?_ H;unfold aOg;dsimp only;simp only[↓zP,zJ,seval];refine bN [3] (fun i vs H'=>∃v,vs=[v]/\H'.get 0=some (.cells (.bool b::.bool n::wC l) false)/\1<=H'.next/\Own H' 1 v (nE (mR (l.take i)))) 0 16 (by decide) (by decide) (by decide) ?_ ?_ ?_ ?_ ?_
 · simp only[zB,seval]
 · exact⟨.aS,by simp only[sm,zB,seval],by simp only[zI,seval],by simp only[zI,seval],.nil _ _⟩
 · rintro i f H1 h0 hi hk e1 ⟨v,hv,g0,hn,ho⟩;simp only[↓zP,zG,seval,e1];exact tB (by omega)
 · rintro i f H1 h0 hi hk e1 ⟨v,hv,g0,hn,ho⟩;simp only[zM] at hv;have f1:f 1=.ref 0 0:=hk 1 rfl;have MN:i<l.length:=by rw[hl.1];exact hi
   have Kn:(AV.bool b::.bool n::wC l).getD (2+i) aD=.int .u32 (l[i]:Nat):=by rw[Kc2,vH MN,pD MN]
   have h2i:2+i<=17:=(by omega);have eZ:=hl.2 _ (Ac MN);have hht:=VC MN;have hhl:=EW (l.take i);rw[hht,Rb];generalize mR (l.take i)=done at *;generalize l[i]=w at *;have hW:w<4294967296:=eZ
   have w1:IntKind.i64.wrap ((w:Int).tmod 65536)=((w%65536:Nat):Int):=by rw[Et (by omega),wrap_i64 (by omega) (by omega)];omega
   have w2:IntKind.i64.wrap (IntKind.u32.wrap ((w:Int).tdiv 65536))=((w / 65536:Nat):Int):=by rw[Fz (by omega),DW (k:=.u32) rfl,wrap_i64 (by simp only[IntKind.bits];omega) (by simp only[IntKind.bits];omega)];simp only[IntKind.bits];omega
   obtain⟨H5,z1,z2,z3,z4,z5⟩:=Has.push (.inr ho) (ys:=nE [w%65536,w / 65536]) (bytes:=8) rfl (by simp only[eH,hhl,Cq,Aq,Bj];omega);refine aF ?_;refine Dz ?_;simp only[↓zP,zJ,seval,zD,f1,g0,hv,e1,aB,hi,Kn,h2i,iL hl,w1,w2];rw[show ∀(h:aA) (x y:List AV),cQ h 1 (.aU 1 1 [x,y])=some [x,y] from fun _ _ _=>rfl];rw[show nE [w%65536,w / 65536]=[[.int .i64 ((w%65536:Nat):Int)],[.int .i64 ((w / 65536:Nat):Int)]] from rfl] at z1 ⊢;simp only[z1,bZ,seval];exact⟨by omega,_,rfl,(z4 0 (by omega) (by rw[g0];simp)).trans g0,by omega,.inr ⟨H1.next,rfl,by omega,z3⟩⟩
 rintro f H1 hk ⟨v,hv,g0,hn,ho⟩;simp only[zM] at hv;have bDj:l.take 16=l:=by rw[<-hl.1,Ao]
 rw[bDj] at ho
 have cK:nE (mR l)≠[]:=by intro h;have :=Bc List.length h;rw[eH,EW,hl.1] at this;cases this
 rcases ho with ⟨_,h⟩|⟨k,rfl,h1,h2⟩
 · exact absurd h cK
 simp only[↓zP,seval,hv];refine bW (PH (k+2) (mR l) (by rw[EW,hl.1];decide) _) ?_;rw[JS (QZ hl.2),ME];simp only[↓zP,zG,seval];refine⟨rfl,_,by simp only[↓zP,zR,seval];rfl,?_⟩;exact⟨_,0,rfl,fun nw=>xG (uX rfl _)⟩
theorem tO {n:Nat}:(dg n).length<=32↔n<W^16:=by
 have e:(65536:Nat)^32=W^16:=BF 16;constructor
 · intro h;have h1:=CM (GI n);rw[yN] at h1;rw[<-e];exact Ca h1 (Ds (by decide) h)
 intro h;rw[<-e] at h;exact Qk h
theorem YJ {d:List Nat} (hd:DD d) {m:Nat} (h:2*m<d.length) (hm:d.length<=32):bF (cS (d.take (2*m))) m=0/\(bC 16 (cS (d.take (2*m)))).set m (d.getD (2*m) 0)=bC 16 (cS (d.take (2*m+1))):=by have h1:=tA hd (k:=2*m) (by omega);rw[BF] at h1;have h0:bF (cS (d.take (2*m))) m=0:=CD h1;have h2:=hd.getD (2*m);have hW:W=4294967296:=rfl;have h3:=RW (v:=cS (d.take (2*m))) (X:=d.getD (2*m) 0) (m:=m) (by omega) (Ca h1 (Ds (by decide) (by omega))) (by rw[h0];omega);rw[h0,Cv] at h3;refine⟨h0,?_⟩;rw[h3,LR h,BF,Dk (W^m)]
theorem kp {d:List Nat} (hd:DD d) {m:Nat} (h:2*m+1<d.length) (hm:d.length<=32):bF (cS (d.take (2*m+1))) m<65536/\(bC 16 (cS (d.take (2*m+1)))).set m (bF (cS (d.take (2*m+1))) m+d.getD (2*m+1) 0*65536)=bC 16 (cS (d.take (2*m+1+1))):=by
 have h1:=tA hd (k:=2*m+1) (by omega);rw[de] at h1;have h0:=(YI h1).1;have h2:=hd.getD (2*m+1);have hW:W=4294967296:=rfl
 have eZ:cS (d.take (2*m+1))<W^16:=by have :=tA hd (k:=2*m+1) (by omega);have e:(65536:Nat)^32=W^16:=BF 16;rw[<-e];exact Ca this (Ds (by decide) (by omega))
 have h3:=RW (v:=cS (d.take (2*m+1))) (X:=d.getD (2*m+1) 0*65536) (m:=m) (by omega) eZ (by omega);refine⟨h0,?_⟩;rw[h3,LR h,de];congr 1;rw[Gt,Dk (d.getD (2*m+1) 0)]
theorem bBr {a b:AV} {l:List Nat} {i:Nat} (h:i<l.length) (x:Nat):(a::b::wC l).take (2+i)++[AV.int .u32 (x:Int)]++(b::wC l).drop (2+i)=a::b::wC (l.set i x):=by rw[<-CN h,Fq 2 i];simp[fY]
theorem aTh (neg:Bool) {n:Nat} (hn:n<W^16):cI (sg neg n)=.bool false::.bool (neg&& !decide (n=0))::wC (bC 16 n):=by
 cases neg with
 |false=>simp[cI,sg]
 |true=>
  simp only[cI,sg,if_true,Kc,Eo,Cr];congr 2;by_cases h:n=0
  · subst h;simp
  simp[h];omega
theorem aAz (neg:Bool) {l:List Nat} (hl:DD l) (hlen:l.length<2^30) (H:aA):Sg 288 [.bool neg,.aU 0 1 (nE l)] H (.ret (.agg (cO (norm (sg neg (cS l)))))) H:=by
 have RP:Nat.blt 0 2=true:=rfl;refine Sp aZt (by simp only[sf,uX RP]) (by simp only[AV.free,HO]) ?_ H;unfold aPa;dsimp only;refine bQ ?_;simp only[↓zP,zJ,Nat.reduceLT];refine fM ?_;simp only[↓zP,zJ,Nat.reduceLT,Nat.reduceEqDiff];refine bW (PH 0 l hlen _) ?_;rw[JS hl];simp only[↓zP,zG,Nat.reduceLT];refine bR ?_;have hd:=GI (cS l);have hv:=yN (cS l);have hi:=tO (n:=cS l);by_cases hb:cS l<W^16
 · have h32:=hi.2 hb;have d1:decide (((dg (cS l)).length:Int)>32)=false:=Ae (by omega)
   have xw:norm (sg neg (cS l))=some (sg neg (cS l)):=by unfold norm;rw[if_pos (by rw[lB];exact hb)]
   rw[xw];simp only[cO];rw[aTh neg hb]
   have cK:decide (cS l=0)= !decide (((dg (cS l)).length:Int)>0):=by
    rw[<-Im,Bb,<-Si (n:=cS l)];constructor
    · intro h;rw[h];simp
    intro h;exact Cw (by omega)
   rw[cK,Bool.not_not];generalize cS l=n at *;generalize dg n=d at *;clear hl hlen hi;subst hv;refine bQ ?_;simp only[↓zP,zJ,Nat.reduceLT,eH,d1];refine bR ?_;refine aG fun K hK=>?_
   have key:∀f:dD,f 4=.ref 0 0->f 5=.aU 0 1 (nE d)->f 6=.ref 1 0->K f [] (((((⟨0,.nil⟩:aA).alloc (.cells (.bool false::.bool false::wC zs) false)).alloc (.cells (.bool false::.bool false::wC zs) false)).set 1 (.cells (.bool false::.bool (neg&&decide ((d.length:Int)>0))::wC zs) false))):=by
    intro f f4 f5 f6;apply hK;clear hK K;generalize (neg&&decide ((d.length:Int)>0))=ng;have CC:wC zs=wC (bC 16 (cS (d.take 0))):=(by rw[Es];rfl);simp only[↓zP,zJ,Nat.reduceLT,Nat.reduceEqDiff];refine bN [] (fun k vs H'=>H'.get 0=some (.cells (.bool false::.bool false::wC zs) false)/\H'.get 1=some (.cells (.bool false::.bool ng::wC (bC 16 (cS (d.take k)))) false)) 0 d.length (Az _) (by omega) (by decide) ?_ ?_ ?_ ?_ ?_
    · simp only[zB];rfl
    · exact⟨by simp only[zI,Nat.reduceEqDiff],by rw[<-CC];simp only[zI,Nat.reduceEqDiff]⟩
    · rintro i f H1 h0 hi hk e1 ⟨g0,g1⟩;have e5:f 5=.aU 0 1 (nE d):=(by rw[hk 5 rfl];simp only[zB,Nat.reduceEqDiff];exact f5);simp only[↓zP,zJ,Nat.reduceLT,Nat.reduceEqDiff,e1,e5,eH];exact tB (by omega)
    · rintro i f H1 h0 hi hk e1 ⟨g0,g1⟩;have e5:f 5=.aU 0 1 (nE d):=(by rw[hk 5 rfl];simp only[zB,Nat.reduceEqDiff];exact f5);have e6:f 6=.ref 1 0:=(by rw[hk 6 rfl];simp only[zB,Nat.reduceEqDiff];exact f6);have hg:=TN hi;have hdi:=hd.getD i;rw[pD hi] at hdi;have kg:i / 2<16:=by omega
      have w1:IntKind.i64.wrap ((i:Int).tdiv 2)=((i / 2:Nat):Int):=by rw[Fz (by omega),wrap_i64 (by omega) (by omega)];omega
      have hW:W=4294967296:=rfl;have w2:IntKind.u32.wrap ((d[i]:Nat):Int)=(d[i]:Nat):=(by rw[DW (k:=.u32) rfl];simp only[IntKind.bits];omega);have hgl:=vH (l:=bC 16 (cS (d.take i))) (i:=i / 2) (by rw[cM];exact kg);rw[kM kg] at hgl;have Kn:(AV.bool false::.bool ng::wC (bC 16 (cS (d.take i)))).getD (2+i / 2) aD=.int .u32 (bF (cS (d.take i)) (i / 2):Nat):=(by rw[Kc2];exact hgl);have h2i:2+i / 2<=17:=(by omega);refine aF ?_;by_cases hev:i%2=0
      · have d2:(((i:Int).tmod 2)==0)=true:=(by rw[Et (by omega),Da];omega);obtain⟨q1,q2⟩:=YJ hd (m:=i / 2) (by omega) h32;rw[show 2*(i / 2)=i by omega] at q1 q2;rw[pD hi] at q2;simp only[↓zP,zJ,Nat.reduceLT,Int.reduceEq,e1,d2];refine Dz ?_;rw[q1] at Kn;simp only[↓zP,zJ,Nat.reduceLT,Nat.reduceEqDiff,Nat.reduceAdd,zD,reduceCtorEq,Nat.reduceLeDiff,Int.reduceEq,e1,e5,e6,w1,aB,kg,g1,iL (.bC _),h2i,Kn,eH,hi,hg,w2];have w3:IntKind.u32.wrap (((0:Nat):Int)+((d[i]:Nat):Int))=(d[i]:Nat):=(by rw[DW (k:=.u32) rfl];simp only[IntKind.bits];omega);rw[w3,bBr (by rw[cM];exact kg),q2];exact⟨g0,rfl⟩
      have d2:(((i:Int).tmod 2)==0)=false:=(by rw[Et (by omega),Ce];omega);obtain⟨q1,q2⟩:=kp hd (m:=i / 2) (by omega) h32;rw[show 2*(i / 2)+1=i by omega] at q1 q2;rw[pD hi] at q2;simp only[↓zP,zJ,Nat.reduceLT,Int.reduceEq,e1,d2];refine Dz ?_;simp only[↓zP,zJ,Nat.reduceLT,Nat.reduceEqDiff,Nat.reduceAdd,zD,reduceCtorEq,Nat.reduceLeDiff,Int.reduceEq,e1,e5,e6,w1,aB,kg,g1,iL (.bC _),h2i,Kn,eH,hi,hg,w2]
      have w3:IntKind.u32.wrap (((bF (cS (d.take i)) (i / 2):Nat):Int)+IntKind.u32.wrap (((d[i]:Nat):Int)*65536))=((bF (cS (d.take i)) (i / 2)+d[i]*65536:Nat):Int):=by rw[DW (k:=.u32) rfl,DW (k:=.u32) rfl];simp only[IntKind.bits];omega
      rw[w3,bBr (by rw[cM];exact kg),q2];exact⟨g0,rfl⟩
    rintro f H1 hk ⟨g0,g1⟩;rw[Ao] at g1;have e4:f 4=.ref 0 0:=(by rw[hk 4 rfl];simp only[zB,Nat.reduceEqDiff];exact f4);have e6:f 6=.ref 1 0:=(by rw[hk 6 rfl];simp only[zB,Nat.reduceEqDiff];exact f6);simp only[↓zP,zJ,Nat.reduceAdd,e4,e6,g0,g1,iL (.bC _)];refine⟨rfl,_,by simp only[↓zP,zR,Nat.reduceEqDiff,Nat.reduceAdd,e4,iL (.bC _)];rfl,?_⟩;rfl
   cases neg with
   |false=>simp only[↓zP,zJ,Nat.reduceLT,Nat.reduceEqDiff,Nat.reduceAdd,Nat.reduceLeDiff];exact key _ (by simp only[zB,Nat.reduceEqDiff]) (by simp only[zB,Nat.reduceEqDiff]) (by simp only[zB])
   |true=>simp only[↓zP,zJ,Nat.reduceLT,Nat.reduceEqDiff,Nat.reduceAdd,Nat.reduceLeDiff,eH];exact key _ (by simp only[zB,Nat.reduceEqDiff]) (by simp only[zB,Nat.reduceEqDiff]) (by simp only[zB])
 have d1:decide (((dg (cS l)).length:Int)>32)=true:=Af (by omega)
 have xw:norm (sg neg (cS l))=none:=by unfold norm;rw[if_neg (by rw[lB];exact hb)]
 rw[xw];simp only[↓zP,zJ,Nat.reduceLT,Nat.reduceEqDiff,Nat.reduceAdd,Nat.reduceLeDiff,eH,d1];refine bW (aHc _) ?_;have VE:EI.length=18:=rfl;simp only[↓zP,zJ,Nat.reduceEqDiff,Nat.reduceAdd,oL VE];refine⟨rfl,_,by simp only[↓zP,zR,Nat.reduceEqDiff,oL VE];rfl,?_⟩;rfl
theorem yG (neg:Bool) (tag:Nat) {l:List Nat} (hl:DD l) (hlen:l.length<2^30) (H:aA):Sg 288 [.bool neg,.aU tag 1 (nE l)] H (.ret (.agg (cO (norm (sg neg (cS l)))))) H:=(aAz neg hl hlen H).aHp tag
theorem aSt {a b:List Nat} (ha:DD a) (hb:DD b) (hla:a.length<2^29) (hlb:b.length<2^29) (H:aA):Sg 247 [.aU 0 1 (nE a),.aU 0 1 (nE b)] H (.ret (.bool (decide (cS a<cS b)))) H:=by
 have RP:Nat.blt 0 2=true:=rfl;refine So aYx (by simp only[sf,uX RP]) ?_ H;unfold aOh;dsimp only
 have hw:IntKind.i64.wrap ((if(b.length:Int)>a.length then(b.length:Int) else a.length) -1)=((max a.length b.length:Nat):Int) -1:=by rw[wrap_i64 (by split<;>omega) (by split<;>omega)];split<;>omega
 simp only[↓zP,zJ,Nat.reduceLT,Nat.reduceEqDiff,eH,hw];refine ZO [] (fun i vs H'=>H'=⟨0,.nil⟩/\cS (a.drop i)=cS (b.drop i)) (max a.length b.length) (by omega) (by decide) ?_ ?_ ?_ ?_ ?_
 · simp only[zB]
 · exact⟨rfl,by rw[Bt (by omega),Bt (by omega)]⟩
 · rintro i f H1 hi hk e1 ⟨rfl,hv⟩;simp only[↓zP,zJ,Nat.reduceLT,e1];exact tB (by omega)
 · rintro i f H1 hi hk e1 ⟨rfl,hv⟩;have f0:f 0=.aU 0 1 (nE a):=hk 0 rfl;have f1:f 1=.aU 0 1 (nE b):=hk 1 rfl;have qa:=CI (tag:=0) rfl a (by omega) i (by omega);have qb:=CI (tag:=0) rfl b (by omega) i (by omega);refine aF ?_;refine aG fun K hK=>?_;simp only[↓zP,zG,Nat.reduceLT,Nat.reduceEqDiff,e1,f0];refine bW (qa _) ?_;simp only[↓zP,zG,Nat.reduceLT,Nat.reduceEqDiff,e1,f1];refine bW (qb _) ?_;by_cases he:a.getD i 0=b.getD i 0
   · have fH:(((a.getD i 0:Nat):Int) != ((b.getD i 0:Nat):Int))=false:=(by rw[he];simp);simp only[↓zP,zJ,Nat.reduceLT,Nat.reduceEqDiff,fH];apply hK;clear hK K;simp only[↓zP,zG];exact⟨trivial,To hv he⟩
   have fH:(((a.getD i 0:Nat):Int) != ((b.getD i 0:Nat):Int))=true:=(by rw[Dc];omega);simp only[↓zP,zJ,Nat.reduceLT,Nat.reduceEqDiff,fH];apply hK;clear hK K;simp only[↓zP,zG,Nat.reduceLT,Nat.reduceEqDiff,e1,f0];refine bW (qa _) ?_;simp only[↓zP,zG,Nat.reduceLT,Nat.reduceEqDiff,e1,f1];refine bW (qb _) ?_;simp only[↓zP,zJ,Nat.reduceLT,Nat.reduceEqDiff];refine Rx ?_
   have :decide (((a.getD i 0:Nat):Int)<((b.getD i 0:Nat):Int))=decide (cS a<cS b):=by
    rw[Bb];constructor
    · intro h;exact WW ha hb hv (by omega)
    intro h;refine Ey fun hc=>?_;have :=WW hb ha hv.symm (k:=i) (by omega);omega
   rw[this];rfl
 rintro f H1 hk ⟨rfl,hv⟩;rw[Ef,Ef] at hv;simp only[↓zP];refine Rx ?_;rw[hv,Ae (Ff _)];rfl
theorem WD {a b:List Nat} (ha:DD a) (hb:DD b) (hla:a.length<2^29) (hlb:b.length<2^29) (t1 t2:Nat) (H:aA):Sg 247 [.aU t1 1 (nE a),.aU t2 1 (nE b)] H (.ret (.bool (decide (cS a<cS b)))) H:=
 ((aSt ha hb hla hlb H).aHp t2).CV t1
theorem aSu {a b:List Nat} (ha:DD a) (hb:DD b) (hla:a.length<2^29) (hlb:b.length<2^29) (H:aA):Sg 289 [.aU 0 1 (nE a),.aU 0 1 (nE b)] H (.ret (.aU 0 1 (nE (dg (cS a+cS b))))) H:=by
 have RP:Nat.blt 0 2=true:=rfl;refine dL fit eU aZu (Aj rfl) (by simp only[sf,uX RP]) ?_ H;unfold aPb;dsimp only;simp only[↓zP,zG,Nat.reduceLT];refine bN [5,6] (fun k vs H'=>∃v c ds,vs=[v,.int .i64 (c:Nat)]/\Own H' 1 v (nE ds)/\ds.length=k/\DD ds/\c<=1/\cS ds+65536^k*c=cS (a.take k)+cS (b.take k)) 0 (max a.length b.length+1) (Az _) (by omega) (by decide) ?_ ?_ ?_ ?_ ?_
 · simp only[zB];rfl
 · exact⟨.aS,0,[],by simp only[sm,zB,Nat.reduceEqDiff];rfl,.nil _ _,rfl,(fun d hd=>by cases hd),by decide,by simp[cS]⟩
 · rintro i f H1 h0 hi hk e1 ⟨v,c,ds,hv,ho,hl,hd,hc,he⟩;have f0:f 0=.aU 0 1 (nE a):=hk 0 rfl;have f1:f 1=.aU 0 1 (nE b):=hk 1 rfl
   have hw:IntKind.i64.wrap ((if(b.length:Int)>a.length then(b.length:Int) else a.length)+1)=((max a.length b.length+1:Nat):Int):=by rw[wrap_i64 (by split<;>omega) (by split<;>omega)];split<;>omega
   simp only[↓zP,zJ,Nat.reduceLT,Nat.reduceEqDiff,e1,f0,f1,eH,hw];exact tB (by omega)
 · rintro i f H1 h0 hi hk e1 ⟨v,c,ds,hv,ho,hl,hd,hc,he⟩;simp only[zM] at hv;have f0:f 0=.aU 0 1 (nE a):=hk 0 rfl;have f1:f 1=.aU 0 1 (nE b):=hk 1 rfl;have qa:=CI (tag:=0) rfl a (by omega) i (by omega);have qb:=CI (tag:=0) rfl b (by omega) i (by omega);have ba:=ha.getD i;have bb:=hb.getD i;have hs:=o9 he;generalize a.getD i 0=x at *;generalize b.getD i 0=y at *;have w1:IntKind.i64.wrap ((x:Int)+(y:Int))=((x+y:Nat):Int):=wI (by omega);have w2:IntKind.i64.wrap (((x+y:Nat):Int)+(c:Int))=((x+y+c:Nat):Int):=wI (by omega);have w3:(((x+y+c:Nat):Int).tmod 65536)=(((x+y+c)%65536:Nat):Int):=by rw[Et (by omega)];omega
   have w4:IntKind.i64.wrap (((x+y+c:Nat):Int).tdiv 65536)=(((x+y+c) / 65536:Nat):Int):=(by rw[Fz (by omega),wrap_i64 (by omega) (by omega)];omega);obtain⟨H5,z1,z2,z3,z4,z5⟩:=Has.push (.inr ho) (ys:=nE [(x+y+c)%65536]) (bytes:=8) rfl (by simp only[eH,hl,Aq,Bj];omega);rw[show nE [(x+y+c)%65536]=[[.int .i64 (((x+y+c)%65536:Nat):Int)]] from rfl] at z1;refine aF ?_;refine bQ ?_;simp only[↓zP,zJ,Nat.reduceLT,Nat.reduceEqDiff,e1,f0];refine bW (qa _) ?_;simp only[↓zP,zG,Nat.reduceLT,Nat.reduceEqDiff,e1,f1];refine bW (qb _) ?_;simp only[↓zP,zJ,Nat.reduceLT,Nat.reduceEqDiff,hv.2,w1,w2];refine bR ?_;simp only[↓zP,zJ,Nat.reduceLT,Nat.reduceEqDiff,Int.reduceEq,hv.1,w3,w4];rw[eL];simp only[z1,bZ];refine⟨_,(x+y+c) / 65536,ds++[(x+y+c)%65536],rfl,?_,by simp[hl],?_,by omega,?_⟩
   · rw[Rb];exact .inr ⟨H1.next,rfl,by omega,z3⟩
   · intro d hdm
     rcases An.1 hdm with h|h
     · exact hd d h
     rw[Bn] at h;subst h;omega
   rw[vF,hl];simp only[cS,Nat.mul_zero,Cy];exact hs
 rintro f H1 hk ⟨v,c,ds,hv,ho,hl,hd,hc,he⟩;simp only[zM] at hv;rw[Ar (by omega),Ar (by omega)] at he
 have jz:c=0:=by
  have h1:=CM ha;have h2:=CM hb;have h3:cS a<65536^max a.length b.length:=Ca h1 (Ds (by decide) (by omega));have h4:cS b<65536^max a.length b.length:=Ca h2 (Ds (by decide) (by omega));rw[Eh] at he;generalize 65536^max a.length b.length=X at *
  rcases Hr c with h|h
  · exact h
  have :c=1:=by omega
  subst this;omega
 subst jz;rw[Nat.mul_zero,Cy] at he
 have cK:nE ds≠[]:=by intro h;have :=Bc List.length h;rw[eH,hl] at this;simp at this
 rcases ho with ⟨_,h⟩|⟨k,hvk,h1,h2⟩
 · exact absurd h cK
 rw[hvk] at hv;simp only[↓zP,hv.1];refine bW (PH (k+2) ds (by rw[hl];omega) _) ?_;rw[JS hd,he];simp only[↓zP,zG,Nat.reduceLT];refine Rx ?_;exact⟨_,0,rfl,fun nw=>xG (uX rfl _)⟩
theorem aBb {a b:List Nat} (ha:DD a) (hb:DD b) (hla:a.length<2^29) (hlb:b.length<2^29) (t1 t2:Nat) (H:aA):Sg 289 [.aU t1 1 (nE a),.aU t2 1 (nE b)] H (.ret (.aU 0 1 (nE (dg (cS a+cS b))))) H:=
 ((aSu ha hb hla hlb H).aHp t2).CV t1
end Go.Proofs.YtndkpgceodimiaaGreatDoor
