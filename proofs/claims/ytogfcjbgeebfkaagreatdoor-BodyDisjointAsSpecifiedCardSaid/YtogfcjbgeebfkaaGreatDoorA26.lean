/-
  Part of the proof of statement 7
-/
import Derived.Test.YtogfcjbgeebfkaaGreatDoorA25
import Derived.Test.YtogfcjbgeebfkaaGreatDoorA06
import Derived.Test.YtogfcjbgeebfkaaGreatDoorA07
set_option linter.unusedVariables false
set_option linter.unusedSimpArgs false
set_option maxRecDepth 100000
set_option maxHeartbeats 16000000
namespace Go.Proofs.YtogfcjbgeebfkaaGreatDoor
open Go Go.Av Go.lP
attribute [local congr] aY aS aV aQ bD aX aW aH bE
attribute [local irreducible] FC bT eX
def nE(l:List Nat):List (List AV):=l.map fun(k:Nat)=>[AV.int .i64 (k:Int)]
theorem dJ(on:List Nat):(nE on).length=on.length:=by simp[nE]
theorem JO{on:List Nat}{i:Nat}(h:i<on.length):(nE on).getD i []=[AV.int .i64 (on[i]:Int)]:=fB h
theorem Sc(a b:List Nat):nE (a++b)=nE a++nE b:=by simp[nE]
theorem SB(a:List Nat):eI (nE a)=true:=dN (fun _=>by simp only[sf]) a
theorem uR{tag:Nat}(ht:Nat.blt tag 2=true)(l:List Nat):(AV.bC tag 1 (nE l)).free=true:=by simp only[AV.free,ht,SB,Du]
theorem Kc2{α:Type}(a b d:α)(l:List α)(k:Nat):(a::b::l).getD (2+k) d=l.getD k d:=by rw[Hq];rfl
theorem lE{l:List Nat}{k:Nat}(h:k<l.length):l.getD k 0=l[k]:=by simp[List.getD,h]
theorem aKz(H:aA):Sg 143 [] H (.ret (.agg uD)) H:=by refine So bAn Zac ?_ H;unfold aPh;dsimp only;refine Ty ?_;exact⟨rfl,_,by simp only[↓zP,zR,seval];rfl,rfl⟩
theorem DP{tag:Nat}(ht:Nat.blt tag 2=true)(l:List Nat)(hlen:l.length<2^30)(k:Nat)(hk:k<2^30)(H:aA):Sg 208 [.bC tag 1 (nE l),.int .i64 k] H (.ret (.int .i64 (l.getD k 0:Nat))) H:=by
 refine So bBs (by simp only[sf,uR ht]) ?_ H;unfold aQm;dsimp only;simp only[↓zP,zJ,seval,dJ];refine⟨fun h=>?_,fun h=>?_⟩
 . have h':k<l.length:=by omega
   have hg:=JO h';simp only[zJ,seval,aG,h',hg,lE h'];exact Zaa
 have h':¬k<l.length:=by omega
 have :l.getD k 0=0:=by rw[Cl,Bt A0];rfl
 rw[this];exact Zaa
theorem _root_.Go.Av.Sound.aLk{P:Program}{g:bF}{f:FuncId}{x:AV}{sz:Nat}{els:List (List AV)}{rest:List AV}{H H':aA}{out:Out}(h:Sound P g f (x::.bC 0 sz els::rest) H out H')(tag:Nat):
 Sound P g f (x::.bC tag sz els::rest) H out H':=by
 refine⟨h.1,fun G w vs hw hv=>h.2 G w vs hw ⟨hv.1,fun j hj=>?_⟩⟩;have :=hv.2 j hj
 match j with
 |0=>exact this
 |1=>exact VR.HE this
 |j+2=>exact this
theorem aXi(l:List Nat)(hlen:l.length<2^30)(H:aA):Sg 207 [.bC 0 1 (nE l)] H (.ret (.bC 0 1 (nE (nX l)))) H:=by
 have ht:Nat.blt 0 2=true:=rfl;refine Sp aNp (by simp only[sf,uR ht]) (by simp only[uR ht]) ?_ H;unfold aGq;dsimp only;simp only[↓zP,zJ,seval,dJ];refine aP ?_;refine iA [3] (fun n vs H'=>H'=⟨0,.nil⟩/\vs=[.int .i64 n]/\n<=l.length/\∀k,n<=k->k<l.length->l.getD k 0=0) l.length (by rfl) ?_ ?_
 . exact⟨rfl,by simp only[sm,zB,seval],Ag _,fun k h1 h2=>absurd h2 A0⟩
 rintro n f H1 hk ⟨rfl,hv,hn,hz⟩;simp only[zM] at hv;have f0:f 0=.bC 0 1 (nE l):=hk 0 rfl;have uA:(nE l).take n=nE (l.take n):=by simp[nE]
 have Ut:pX 1 (.bC 0 1 (nE l)) none (some n) none=some (.bC 0 1 (nE (l.take n))):=by
  simp only[pX,Eb,Bl];rw[if_pos ⟨trivial,Bp _,by rw[dJ];exact hn⟩];split
  . rename_i h;rw[dJ] at h;rw[h.1,Ay,Ej]
  rw[Ej,Is,uA]
 have GC:(n=0\/l.getD (n -1) 0≠0)->l.take n=nX l:=fun h=>qQ hn hz h;by_cases h0:n=0
 . have hd:decide ((n:Int)>0)=false:=Ad A0;rw[GC (.inl h0)] at Ut;simp only[↓zP,zJ,seval,hv,hd,f0,dV,aG,Ut,Br,An];refine⟨rfl,_,by simp only[↓zP,zR,seval];rfl,?_⟩;rfl
 have hd:decide ((n:Int)>0)=true:=Aj A0;have w1:IntKind.i64.wrap ((n:Int) -1)=((n -1:Nat):Int):=wI A0;have AD:n -1<l.length:=by omega
 have hg:=JO AD;by_cases Lo:l[n -1]=0
 . have hb:(((l[n -1]:Nat):Int)==0)=true:=by rw[Lo];rfl
   simp only[↓zP,zJ,seval,hv,hd,f0,w1,aG,dJ,AD,hg,hb];refine aP ?_;simp only[↓zP,zG,seval,hv,w1];refine⟨n -1,by omega,trivial,rfl,by omega,fun k h1 h2=>?_⟩;by_cases e:k=n -1
   . subst e;rw[lE AD];exact Lo
   exact hz k A0 h2
 have hb:(((l[n -1]:Nat):Int)==0)=false:=by rw[Dr];omega
 rw[GC (.inr (by rw[lE AD];exact Lo))] at Ut;simp only[↓zP,zJ,seval,hv,hd,f0,w1,aG,dJ,AD,hg,hb,dV,Ut,Br,An];refine⟨rfl,_,by simp only[↓zP,zR,seval];rfl,?_⟩;rfl
theorem QH(tag:Nat)(l:List Nat)(hlen:l.length<2^30)(H:aA):Sg 207 [.bC tag 1 (nE l)] H (.ret (.bC 0 1 (nE (nX l)))) H:=(aXi l hlen H).HE tag
def YN(l:List Nat)(i:Nat):Bool:=(List.range i).all fun k=>((l.getD k 0:Nat):Int)==0
theorem kz(l:List Nat)(i:Nat):YN l (i+1)=(YN l i&&(((l.getD i 0:Nat):Int)==0)):=by unfold YN;rw[Ei,List.all_append];simp
theorem aHa{l:List Nat}(hl:TQ l):YN l 16=decide (l=zs):=by
 unfold YN;rw[Di,Bg,Bf];constructor
 . intro h;refine Fo (by rw[hl.1];rfl) fun k h1 h2=>?_;have :=h k (Az.2 (by rw[hl.1] at h1;exact h1));rw[Dh,lE h1] at this;have h3:zs[k]∈zs:=Ah h2;rw[Gy h3];omega
 rintro rfl k hk;have rF:k<zs.length:=Az.1 hk;have h3:zs[k]'rF=0:=Gy (Ah rF);rw[Dh,lE rF,h3];rfl
theorem su(b n:Bool){l:List Nat}(hl:TQ l)(H:aA):Sg 206 [.agg (.bool b::.bool n::wC l)] H (.ret (.bool (if b then decide (l=zs)&& !n else !decide (l=zs)|| !n))) H:=by
 refine So bBr Zac ?_ H;unfold aQl;dsimp only;refine Ty ?_;refine cP [3] (fun i vs H'=>H'=((⟨0,.nil⟩:aA).alloc (.cells (.bool b::.bool n::wC l) false))/\vs=[.bool (YN l i)]) 0 16 A1 A1 A1 ?_ ?_ ?_ ?_ ?_
 . exact zq
 . exact⟨rfl,by simp only[sm,zB,seval];rfl⟩
 . rintro i f H1 h0 hi hk e1 ⟨rfl,hv⟩;exact ZaO
 . rintro i f H1 h0 hi hk e1 ⟨rfl,hv⟩;simp only[zM] at hv;have f1:f 1=.ref 0 0:=hk 1 rfl;have hg:=mZ (l:=l) (i:=i) (by rw[hl.1];omega);have hlen:(wC l).length=16:=by rw[bW,hl.1]
   have GD:(AV.bool b::.bool n::wC l).getD (2+i) aB=.int .u32 (l.getD i 0):=(by rw[Kc2];exact hg);have h2i:2+i<=17:=A0;refine aP ?_;rw[kz]
   cases hb:YN l i with
   |false=>rw[hb] at hv;simp only[↓zP,zJ,seval,hv,Jx]
   |true=>rw[hb] at hv;simp only[↓zP,zJ,seval,hv,f1,e1,aG,hi,hlen,GD,h2i,Ct]
 rintro f H1 hk ⟨rfl,hv⟩;simp only[zM] at hv;have f1:f 1=.ref 0 0:=hk 1 rfl;rw[aHa hl] at hv;cases b<;>cases h:decide (l=zs)<;>rw[h] at hv
 . simp only[↓zP,zJ,seval,f1,hv];exact Zaa
 . simp only[↓zP,zJ,seval,f1,hv];exact Zaa
 . simp only[↓zP,zJ,seval,f1,hv];exact Zaa
 simp only[↓zP,zJ,seval,f1,hv];exact Zaa
theorem sk(b n:Bool){l:List Nat}(hl:TQ l)(H:aA):Sg 122 [.agg (.bool b::.bool n::wC l)] H (.ret (.bool (BG b n l))) H:=by
 refine So bAa Zac ?_ H;unfold aOu;dsimp only;have hv:=su b n hl;unfold BG;simp only[↓zP,zJ,seval,iL hl];cases b<;>cases n<;>cases h:decide (l=zs)<;>rw[h] at hv
 . refine bO (hv _) ?_;refine Ty ?_;exact Zaa
 . refine bO (hv _) ?_;refine Ty ?_;exact Zaa
 . refine bO (hv _) ?_;refine Ty ?_;exact Zaa
 . refine bO (hv _) ?_;refine Ty ?_;exact Zaa
 . refine bO (hv _) ?_;refine Ty ?_;exact Zaa
 . refine bO (hv _) ?_;refine Ty ?_;exact Zaa
 . refine bO (hv _) ?_;refine Ty ?_;exact Zaa
 refine bO (hv _) ?_;refine Ty ?_;exact Zaa
theorem pU{v:List AV}{x:Option Int}(h:dS v x)(H:aA):Sg 122 [.agg v] H (.ret (.bool x.isSome)) H:=by
 obtain⟨b,n,l,hl,rfl,rfl⟩:=h
 have :(RX b n l).isSome=BG b n l:=by unfold RX;cases BG b n l<;>rfl
 rw[this];exact sk b n hl H
theorem Vx{l:List Nat}{i:Nat}(h:i<l.length):nH (l.take (i+1))=nH (l.take i)++[l[i]%65536,l[i] / 65536]:=by unfold nH;rw[Ax,Ha,Ac h];simp
theorem FZ(l:List Nat):(nH l).length=2*l.length:=by
 induction l with
 |nil=>rfl
 |cons x l ih=>have :nH (x::l)=x%65536::x / 65536::nH l:=rfl;rw[this];simp only[As,ih];omega
theorem oK(b n:Bool){l:List Nat}(hl:TQ l)(H:aA):Sg 123 [.agg (.bool b::.bool n::wC l)] H (.ret (.bC 0 1 (nE (dg (tA l))))) H:=by
 refine eS fit eC bAb (Al rfl) Zac ?_ H;unfold aOv;dsimp only;refine Ty ?_;refine cP [3] (fun i vs H'=>∃v,vs=[v]/\H'.get 0=some (.cells (.bool b::.bool n::wC l) false)/\1<=H'.next/\Own H' 1 v (nE (nH (l.take i)))) 0 16 A1 A1 A1 ?_ ?_ ?_ ?_ ?_
 . exact zq
 . exact⟨.bB,by simp only[sm,zB,seval],by simp only[zI,seval],by simp only[zI,seval],.nil _ _⟩
 . rintro i f H1 h0 hi hk e1 ⟨v,hv,g0,hn,ho⟩;exact ZaO
 . rintro i f H1 h0 hi hk e1 ⟨v,hv,g0,hn,ho⟩;simp only[zM] at hv;have f1:f 1=.ref 0 0:=hk 1 rfl;have HH:i<l.length:=by rw[hl.1];exact hi
   have GD:(AV.bool b::.bool n::wC l).getD (2+i) aB=.int .u32 (l[i]:Nat):=by rw[Kc2,mZ HH,lE HH]
   have h2i:2+i<=17:=A0;have dT:=hl.2 _ (Ah HH);have hht:=Vx HH;have hhl:=FZ (l.take i);rw[hht,Sc];generalize nH (l.take i)=done at *;generalize l[i]=w at *;have hW:w<4294967296:=dT
   have w1:IntKind.i64.wrap ((w:Int).tmod 65536)=((w%65536:Nat):Int):=by rw[Fg A0,wrap_i64 A0 A0];omega
   have w2:IntKind.i64.wrap (IntKind.u32.wrap ((w:Int).tdiv 65536))=((w / 65536:Nat):Int):=by rw[Gj A0,Qc (k:=.u32) rfl,wrap_i64 (by simp only[IntKind.bits];omega) (by simp only[IntKind.bits];omega)];simp only[IntKind.bits];omega
   obtain⟨H5,z1,z2,z3,z4,z5⟩:=Has.push (.inr ho) (ys:=nE [w%65536,w / 65536]) (bytes:=8) rfl (by simp only[dJ,hhl,Dp,As,Bw];omega);refine aP ?_;refine Dz ?_;simp only[↓zP,zJ,seval,zD,f1,g0,hv,e1,aG,hi,GD,h2i,iL hl,w1,w2];rw[show ∀(h:aA) (x y:List AV),dI h 1 (.bC 1 1 [x,y])=some [x,y] from fun _ _ _=>rfl];rw[show nE [w%65536,w / 65536]=[[.int .i64 ((w%65536:Nat):Int)],[.int .i64 ((w / 65536:Nat):Int)]] from rfl] at z1 ⊢;simp only[z1,bQ,seval];exact⟨by omega,_,rfl,(z4 0 A0 (by rw[g0];simp)).trans g0,by omega,.inr ⟨H1.next,rfl,by omega,z3⟩⟩
 rintro f H1 hk ⟨v,hv,g0,hn,ho⟩;simp only[zM] at hv;have bHy:l.take 16=l:=by rw[<-hl.1,Ay]
 rw[bHy] at ho
 have cG:nE (nH l)≠[]:=by intro h;have :=Ao List.length h;rw[dJ,FZ,hl.1] at this;cases this
 rcases ho with ⟨_,h⟩|⟨k,rfl,h1,h2⟩
 . exact absurd h cG
 simp only[↓zP,seval,hv];refine bO (QH (k+2) (nH l) (by rw[FZ,hl.1];decide) _) ?_;rw[CN (Rb hl.2),NG];refine Tz ?_;refine⟨rfl,_,by simp only[↓zP,zR,seval];rfl,?_⟩;exact⟨_,0,rfl,fun nw=>xT (uR rfl _)⟩
theorem mF{n:Nat}:(dg n).length<=32↔n<W^16:=by
 have e:(65536:Nat)^32=W^16:=pow_even 16;constructor
 . intro h;have h1:=DS (zL n);rw[qY] at h1;rw[<-e];exact Bj h1 (Ck A1 h)
 intro h;rw[<-e] at h;exact Rl h
theorem ZQ{d:List Nat}(hd:DD d){m:Nat}(h:2*m<d.length)(hm:d.length<=32):aJ (bZ (d.take (2*m))) m=0/\(aL 16 (bZ (d.take (2*m)))).set m (d.getD (2*m) 0)=aL 16 (bZ (d.take (2*m+1))):=by have h1:=mY hd (k:=2*m) A0;rw[pow_even] at h1;have h0:aJ (bZ (d.take (2*m))) m=0:=DI h1;have h2:=hd.getD (2*m);have hW:W=4294967296:=rfl;have h3:=Lq (v:=bZ (d.take (2*m))) (X:=d.getD (2*m) 0) (m:=m) A0 (Bj h1 (Ck A1 A0)) (by rw[h0];omega);rw[h0,Dg] at h3;refine⟨h0,?_⟩;rw[h3,xZ h,pow_even,Bx (W^m)]
theorem pz{d:List Nat}(hd:DD d){m:Nat}(h:2*m+1<d.length)(hm:d.length<=32):aJ (bZ (d.take (2*m+1))) m<65536/\(aL 16 (bZ (d.take (2*m+1)))).set m (aJ (bZ (d.take (2*m+1))) m+d.getD (2*m+1) 0*65536)=aL 16 (bZ (d.take (2*m+1+1))):=by
 have h1:=mY hd (k:=2*m+1) A0;rw[pow_odd] at h1;have h0:=(ZP h1).1;have h2:=hd.getD (2*m+1);have hW:W=4294967296:=rfl
 have dT:bZ (d.take (2*m+1))<W^16:=by have :=mY hd (k:=2*m+1) A0;have e:(65536:Nat)^32=W^16:=pow_even 16;rw[<-e];exact Bj this (Ck A1 A0)
 have h3:=Lq (v:=bZ (d.take (2*m+1))) (X:=d.getD (2*m+1) 0*65536) (m:=m) A0 dT A0;refine⟨h0,?_⟩;rw[h3,xZ h,pow_odd];congr 1;rw[Bv,Bx (d.getD (2*m+1) 0)]
theorem bFy{a b:AV}{l:List Nat}{i:Nat}(h:i<l.length)(x:Nat):(a::b::wC l).take (2+i)++[AV.int .u32 (x:Int)]++(b::wC l).drop (2+i)=a::b::wC (l.set i x):=by rw[<-tD h,Hq 2 i];simp[gK]
theorem aXw(neg:Bool){n:Nat}(hn:n<W^16):cI (sg neg n)=.bool false::.bool (neg&& !decide (n=0))::wC (aL 16 n):=by
 cases neg with
 |false=>simp[cI,sg]
 |true=>
  simp only[cI,sg,if_true,Ld,Cy,Ct];congr 2;by_cases h:n=0
  . subst h;simp
  simp[h];omega
theorem aEf(neg:Bool){l:List Nat}(hl:DD l)(hlen:l.length<2^30)(H:aA):Sg 140 [.bool neg,.bC 0 1 (nE l)] H (.ret (.agg (cO (norm (sg neg (bZ l)))))) H:=by
 have RJ:Nat.blt 0 2=true:=rfl;refine Sp bAk (by simp only[sf,uR RJ]) (by simp only[AV.free,IJ]) ?_ H;unfold aPe;dsimp only;refine bX ?_;simp only[↓zP,zJ,Nat.reduceLT];refine gG ?_;simp only[↓zP,zJ,Nat.reduceLT,Nat.reduceEqDiff];refine bO (QH 0 l hlen _) ?_;rw[CN hl];simp only[↓zP,zG,Nat.reduceLT];refine bY ?_;have hd:=zL (bZ l);have hv:=qY (bZ l);have hi:=mF (n:=bZ l);by_cases hb:bZ l<W^16
 . have h32:=hi.2 hb;have d1:decide (((dg (bZ l)).length:Int)>32)=false:=Ad A0
   have aBo:norm (sg neg (bZ l))=some (sg neg (bZ l)):=by unfold norm;rw[if_pos (by rw[iS];exact hb)]
   rw[aBo];simp only[cO];rw[aXw neg hb]
   have cG:decide (bZ l=0)= !decide (((dg (bZ l)).length:Int)>0):=by
    rw[<-decide_not,Bk,<-Tc (n:=bZ l)];constructor
    . intro h;rw[h];simp
    intro h;exact Cp A0
   rw[cG,Bool.not_not];generalize bZ l=n at *;generalize dg n=d at *;clear hl hlen hi;subst hv;refine bX ?_;simp only[↓zP,zJ,Nat.reduceLT,dJ,d1];refine bY ?_;refine aT fun K hK=>?_
   have key:∀f:cW,f 4=.ref 0 0->f 5=.bC 0 1 (nE d)->f 6=.ref 1 0->K f [] (((((⟨0,.nil⟩:aA).alloc (.cells (.bool false::.bool false::wC zs) false)).alloc (.cells (.bool false::.bool false::wC zs) false)).set 1 (.cells (.bool false::.bool (neg&&decide ((d.length:Int)>0))::wC zs) false))):=by
    intro f f4 f5 f6;apply hK;clear hK K;generalize (neg&&decide ((d.length:Int)>0))=ng;have EB:wC zs=wC (aL 16 (bZ (d.take 0))):=(by rw[Fe];rfl);simp only[↓zP,zJ,Nat.reduceLT,Nat.reduceEqDiff];refine cP [] (fun k vs H'=>H'.get 0=some (.cells (.bool false::.bool false::wC zs) false)/\H'.get 1=some (.cells (.bool false::.bool ng::wC (aL 16 (bZ (d.take k)))) false)) 0 d.length (Bp _) A0 A1 ?_ ?_ ?_ ?_ ?_
    . simp only[zB];rfl
    . exact⟨by simp only[zI,Nat.reduceEqDiff],by rw[<-EB];simp only[zI,Nat.reduceEqDiff]⟩
    . rintro i f H1 h0 hi hk e1 ⟨g0,g1⟩;have e5:f 5=.bC 0 1 (nE d):=(by rw[hk 5 rfl];simp only[zB,Nat.reduceEqDiff];exact f5);simp only[↓zP,zJ,Nat.reduceLT,Nat.reduceEqDiff,e1,e5,dJ];exact tB A0
    . rintro i f H1 h0 hi hk e1 ⟨g0,g1⟩;have e5:f 5=.bC 0 1 (nE d):=(by rw[hk 5 rfl];simp only[zB,Nat.reduceEqDiff];exact f5);have e6:f 6=.ref 1 0:=(by rw[hk 6 rfl];simp only[zB,Nat.reduceEqDiff];exact f6);have hg:=JO hi;have hdi:=hd.getD i;rw[lE hi] at hdi;have o8:i / 2<16:=by omega
      have w1:IntKind.i64.wrap ((i:Int).tdiv 2)=((i / 2:Nat):Int):=by rw[Gj A0,wrap_i64 A0 A0];omega
      have hW:W=4294967296:=rfl;have w2:IntKind.u32.wrap ((d[i]:Nat):Int)=(d[i]:Nat):=(by rw[Qc (k:=.u32) rfl];simp only[IntKind.bits];omega);have hgl:=mZ (l:=aL 16 (bZ (d.take i))) (i:=i / 2) (by rw[bP];exact o8);rw[jD o8] at hgl;have GD:(AV.bool false::.bool ng::wC (aL 16 (bZ (d.take i)))).getD (2+i / 2) aB=.int .u32 (aJ (bZ (d.take i)) (i / 2):Nat):=(by rw[Kc2];exact hgl);have h2i:2+i / 2<=17:=A0;refine aP ?_;by_cases hev:i%2=0
      . have d2:(((i:Int).tmod 2)==0)=true:=(by rw[Fg A0,Dh];omega);obtain⟨q1,q2⟩:=ZQ hd (m:=i / 2) A0 h32;rw[show 2*(i / 2)=i by omega] at q1 q2;rw[lE hi] at q2;simp only[↓zP,zJ,Nat.reduceLT,Int.reduceEq,e1,d2];refine Dz ?_;rw[q1] at GD;simp only[↓zP,zJ,Nat.reduceLT,Nat.reduceEqDiff,Nat.reduceAdd,zD,reduceCtorEq,Nat.reduceLeDiff,Int.reduceEq,e1,e5,e6,w1,aG,o8,g1,iL (.aL _),h2i,GD,dJ,hi,hg,w2];have w3:IntKind.u32.wrap (((0:Nat):Int)+((d[i]:Nat):Int))=(d[i]:Nat):=(by rw[Qc (k:=.u32) rfl];simp only[IntKind.bits];omega);rw[w3,bFy (by rw[bP];exact o8),q2];exact⟨g0,rfl⟩
      have d2:(((i:Int).tmod 2)==0)=false:=(by rw[Fg A0,Dr];omega);obtain⟨q1,q2⟩:=pz hd (m:=i / 2) A0 h32;rw[show 2*(i / 2)+1=i by omega] at q1 q2;rw[lE hi] at q2;simp only[↓zP,zJ,Nat.reduceLT,Int.reduceEq,e1,d2];refine Dz ?_;simp only[↓zP,zJ,Nat.reduceLT,Nat.reduceEqDiff,Nat.reduceAdd,zD,reduceCtorEq,Nat.reduceLeDiff,Int.reduceEq,e1,e5,e6,w1,aG,o8,g1,iL (.aL _),h2i,GD,dJ,hi,hg,w2]
      have w3:IntKind.u32.wrap (((aJ (bZ (d.take i)) (i / 2):Nat):Int)+IntKind.u32.wrap (((d[i]:Nat):Int)*65536))=((aJ (bZ (d.take i)) (i / 2)+d[i]*65536:Nat):Int):=by rw[Qc (k:=.u32) rfl,Qc (k:=.u32) rfl];simp only[IntKind.bits];omega
      rw[w3,bFy (by rw[bP];exact o8),q2];exact⟨g0,rfl⟩
    rintro f H1 hk ⟨g0,g1⟩;rw[Ay] at g1;have e4:f 4=.ref 0 0:=(by rw[hk 4 rfl];simp only[zB,Nat.reduceEqDiff];exact f4);have e6:f 6=.ref 1 0:=(by rw[hk 6 rfl];simp only[zB,Nat.reduceEqDiff];exact f6);simp only[↓zP,zJ,Nat.reduceAdd,e4,e6,g0,g1,iL (.aL _)];refine⟨rfl,_,by simp only[↓zP,zR,Nat.reduceEqDiff,Nat.reduceAdd,e4,iL (.aL _)];rfl,?_⟩;rfl
   cases neg with
   |false=>simp only[↓zP,zJ,Nat.reduceLT,Nat.reduceEqDiff,Nat.reduceAdd,Nat.reduceLeDiff];exact key _ ZaS ZaS (by simp only[zB])
   |true=>simp only[↓zP,zJ,Nat.reduceLT,Nat.reduceEqDiff,Nat.reduceAdd,Nat.reduceLeDiff,dJ];exact key _ ZaS ZaS (by simp only[zB])
 have d1:decide (((dg (bZ l)).length:Int)>32)=true:=Aj A0
 have aBo:norm (sg neg (bZ l))=none:=by unfold norm;rw[if_neg (by rw[iS];exact hb)]
 rw[aBo];simp only[↓zP,zJ,Nat.reduceLT,Nat.reduceEqDiff,Nat.reduceAdd,Nat.reduceLeDiff,dJ,d1];refine bO (aKz _) ?_;have Vy:uD.length=18:=rfl;simp only[↓zP,zJ,Nat.reduceEqDiff,Nat.reduceAdd,oL Vy];refine⟨rfl,_,by simp only[↓zP,zR,Nat.reduceEqDiff,oL Vy];rfl,?_⟩;rfl
theorem tW(neg:Bool)(tag:Nat){l:List Nat}(hl:DD l)(hlen:l.length<2^30)(H:aA):Sg 140 [.bool neg,.bC tag 1 (nE l)] H (.ret (.agg (cO (norm (sg neg (bZ l)))))) H:=(aEf neg hl hlen H).aLk tag
theorem aXf{a b:List Nat}(ha:DD a)(hb:DD b)(wa:a.length<2^29)(o7:b.length<2^29)(H:aA):Sg 144 [.bC 0 1 (nE a),.bC 0 1 (nE b)] H (.ret (.bool (decide (bZ a<bZ b)))) H:=by
 have RJ:Nat.blt 0 2=true:=rfl;refine So bAo (by simp only[sf,uR RJ]) ?_ H;unfold aPi;dsimp only
 have hw:IntKind.i64.wrap ((if(b.length:Int)>a.length then(b.length:Int) else a.length) -1)=((max a.length b.length:Nat):Int) -1:=by rw[wrap_i64 ZaC ZaC];split<;>omega
 simp only[↓zP,zJ,Nat.reduceLT,Nat.reduceEqDiff,dJ,hw];refine TL [] (fun i vs H'=>H'=⟨0,.nil⟩/\bZ (a.drop i)=bZ (b.drop i)) (max a.length b.length) A0 A1 ?_ ?_ ?_ ?_ ?_
 . simp only[zB]
 . exact⟨rfl,by rw[Bo A0,Bo A0]⟩
 . rintro i f H1 hi hk e1 ⟨rfl,hv⟩;simp only[↓zP,zJ,Nat.reduceLT,e1];exact tB A0
 . rintro i f H1 hi hk e1 ⟨rfl,hv⟩;have f0:f 0=.bC 0 1 (nE a):=hk 0 rfl;have f1:f 1=.bC 0 1 (nE b):=hk 1 rfl;have qa:=DP (tag:=0) rfl a A0 i A0;have qb:=DP (tag:=0) rfl b A0 i A0;refine aP ?_;refine aT fun K hK=>?_;simp only[↓zP,zG,Nat.reduceLT,Nat.reduceEqDiff,e1,f0];refine bO (qa _) ?_;simp only[↓zP,zG,Nat.reduceLT,Nat.reduceEqDiff,e1,f1];refine bO (qb _) ?_;by_cases he:a.getD i 0=b.getD i 0
   . have wV:(((a.getD i 0:Nat):Int) != ((b.getD i 0:Nat):Int))=false:=(by rw[he];simp);simp only[↓zP,zJ,Nat.reduceLT,Nat.reduceEqDiff,wV];apply hK;clear hK K;simp only[↓zP,zG];exact⟨trivial,Um hv he⟩
   have wV:(((a.getD i 0:Nat):Int) != ((b.getD i 0:Nat):Int))=true:=(by rw[Gw];omega);simp only[↓zP,zJ,Nat.reduceLT,Nat.reduceEqDiff,wV];apply hK;clear hK K;simp only[↓zP,zG,Nat.reduceLT,Nat.reduceEqDiff,e1,f0];refine bO (qa _) ?_;simp only[↓zP,zG,Nat.reduceLT,Nat.reduceEqDiff,e1,f1];refine bO (qb _) ?_;simp only[↓zP,zJ,Nat.reduceLT,Nat.reduceEqDiff];refine Rx ?_
   have :decide (((a.getD i 0:Nat):Int)<((b.getD i 0:Nat):Int))=decide (bZ a<bZ b):=by
    rw[Bk];constructor
    . intro h;exact XS ha hb hv A0
    intro h;refine Fl fun hc=>?_;have :=XS hb ha hv.symm (k:=i) A0;omega
   rw[this];rfl
 rintro f H1 hk ⟨rfl,hv⟩;rw[Ej,Ej] at hv;simp only[↓zP];refine Rx ?_;rw[hv,Ad (Ew _)];rfl
theorem Wx{a b:List Nat}(ha:DD a)(hb:DD b)(wa:a.length<2^29)(o7:b.length<2^29)(t1 t2:Nat)(H:aA):Sg 144 [.bC t1 1 (nE a),.bC t2 1 (nE b)] H (.ret (.bool (decide (bZ a<bZ b)))) H:=
 ((aXf ha hb wa o7 H).aLk t2).HE t1
theorem aXg{a b:List Nat}(ha:DD a)(hb:DD b)(wa:a.length<2^29)(o7:b.length<2^29)(H:aA):Sg 141 [.bC 0 1 (nE a),.bC 0 1 (nE b)] H (.ret (.bC 0 1 (nE (dg (bZ a+bZ b))))) H:=by
 have RJ:Nat.blt 0 2=true:=rfl;refine eS fit eC bAl (Al rfl) (by simp only[sf,uR RJ]) ?_ H;unfold aPf;dsimp only;simp only[↓zP,zG,Nat.reduceLT];refine cP [5,6] (fun k vs H'=>∃v c ds,vs=[v,.int .i64 (c:Nat)]/\Own H' 1 v (nE ds)/\ds.length=k/\DD ds/\c<=1/\bZ ds+65536^k*c=bZ (a.take k)+bZ (b.take k)) 0 (max a.length b.length+1) (Bp _) A0 A1 ?_ ?_ ?_ ?_ ?_
 . simp only[zB];rfl
 . exact⟨.bB,0,[],by simp only[sm,zB,Nat.reduceEqDiff];rfl,.nil _ _,rfl,(fun d hd=>by cases hd),by decide,by simp[bZ]⟩
 . rintro i f H1 h0 hi hk e1 ⟨v,c,ds,hv,ho,hl,hd,hc,he⟩;have f0:f 0=.bC 0 1 (nE a):=hk 0 rfl;have f1:f 1=.bC 0 1 (nE b):=hk 1 rfl
   have hw:IntKind.i64.wrap ((if(b.length:Int)>a.length then(b.length:Int) else a.length)+1)=((max a.length b.length+1:Nat):Int):=by rw[wrap_i64 ZaC ZaC];split<;>omega
   simp only[↓zP,zJ,Nat.reduceLT,Nat.reduceEqDiff,e1,f0,f1,dJ,hw];exact tB A0
 . rintro i f H1 h0 hi hk e1 ⟨v,c,ds,hv,ho,hl,hd,hc,he⟩;simp only[zM] at hv;have f0:f 0=.bC 0 1 (nE a):=hk 0 rfl;have f1:f 1=.bC 0 1 (nE b):=hk 1 rfl;have qa:=DP (tag:=0) rfl a A0 i A0;have qb:=DP (tag:=0) rfl b A0 i A0;have ba:=ha.getD i;have bb:=hb.getD i;have hs:=ur he;generalize a.getD i 0=x at *;generalize b.getD i 0=y at *;have w1:IntKind.i64.wrap ((x:Int)+(y:Int))=((x+y:Nat):Int):=wI A0;have w2:IntKind.i64.wrap (((x+y:Nat):Int)+(c:Int))=((x+y+c:Nat):Int):=wI A0;have w3:(((x+y+c:Nat):Int).tmod 65536)=(((x+y+c)%65536:Nat):Int):=by rw[Fg A0];omega
   have w4:IntKind.i64.wrap (((x+y+c:Nat):Int).tdiv 65536)=(((x+y+c) / 65536:Nat):Int):=(by rw[Gj A0,wrap_i64 A0 A0];omega);obtain⟨H5,z1,z2,z3,z4,z5⟩:=Has.push (.inr ho) (ys:=nE [(x+y+c)%65536]) (bytes:=8) rfl (by simp only[dJ,hl,As,Bw];omega);rw[show nE [(x+y+c)%65536]=[[.int .i64 (((x+y+c)%65536:Nat):Int)]] from rfl] at z1;refine aP ?_;refine bX ?_;simp only[↓zP,zJ,Nat.reduceLT,Nat.reduceEqDiff,e1,f0];refine bO (qa _) ?_;simp only[↓zP,zG,Nat.reduceLT,Nat.reduceEqDiff,e1,f1];refine bO (qb _) ?_;simp only[↓zP,zJ,Nat.reduceLT,Nat.reduceEqDiff,hv.2,w1,w2];refine bY ?_;simp only[↓zP,zJ,Nat.reduceLT,Nat.reduceEqDiff,Int.reduceEq,hv.1,w3,w4];rw[eL];simp only[z1,bQ];refine⟨_,(x+y+c) / 65536,ds++[(x+y+c)%65536],rfl,?_,by simp[hl],?_,by omega,?_⟩
   . rw[Sc];exact .inr ⟨H1.next,rfl,by omega,z3⟩
   . intro d hdm
     rcases Aq.1 hdm with h|h
     . exact hd d h
     rw[Cc] at h;subst h;omega
   rw[vE,hl];simp only[bZ,Nat.mul_zero,Dd];exact hs
 rintro f H1 hk ⟨v,c,ds,hv,ho,hl,hd,hc,he⟩;simp only[zM] at hv;rw[Bb A0,Bb A0] at he
 have om:c=0:=by
  have h1:=DS ha;have h2:=DS hb;have h3:bZ a<65536^max a.length b.length:=Bj h1 (Ck A1 A0);have h4:bZ b<65536^max a.length b.length:=Bj h2 (Ck A1 A0);rw[Cw] at he;generalize 65536^max a.length b.length=X at *
  rcases Ho c with h|h
  . exact h
  have :c=1:=by omega
  subst this;omega
 subst om;rw[Nat.mul_zero,Dd] at he
 have cG:nE ds≠[]:=by intro h;have :=Ao List.length h;rw[dJ,hl] at this;simp at this
 rcases ho with ⟨_,h⟩|⟨k,hvk,h1,h2⟩
 . exact absurd h cG
 rw[hvk] at hv;simp only[↓zP,hv.1];refine bO (QH (k+2) ds (by rw[hl];omega) _) ?_;rw[CN hd,he];simp only[↓zP,zG,Nat.reduceLT];refine Rx ?_;exact⟨_,0,rfl,fun nw=>xT (uR rfl _)⟩
theorem aEg{a b:List Nat}(ha:DD a)(hb:DD b)(wa:a.length<2^29)(o7:b.length<2^29)(t1 t2:Nat)(H:aA):Sg 141 [.bC t1 1 (nE a),.bC t2 1 (nE b)] H (.ret (.bC 0 1 (nE (dg (bZ a+bZ b))))) H:=
 ((aXg ha hb wa o7 H).aLk t2).HE t1
end Go.Proofs.YtogfcjbgeebfkaaGreatDoor
