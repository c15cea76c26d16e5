/-
  Part of the proof of statement 12
-/
import Derived.Test.YtgggiembljfnhaaGreatDoorB26
import Derived.Test.YtgggiembljfnhaaGreatDoorB07
import Derived.Test.YtgggiembljfnhaaGreatDoorB25
set_option linter.unusedVariables false
set_option linter.unusedSimpArgs false
set_option maxRecDepth 100000
set_option maxHeartbeats 16000000
namespace Go.Proofs.YtgggiembljfnhaaGreatDoor
open Go Go.Av
attribute [local congr] aT aI aL aH aX aQ aM aF aY
attribute [local irreducible] FC bS eF
def sI (l:List Int):List Nat:=l.flatMap fun x=>rK (QD x)
theorem Vl {id off n:Nat} {cs:List AV} {o:Bool} {l:List Int} (hn:l.length=n) (hr:∀x∈l,JF x) (hl:n<2^30) {H:aA} (dC:id<H.next) (hg:H.get id=some (.cells cs o)) (EW:∀i (h:i<l.length),off+i+1<=cs.length/\cs.getD (off+i) aD=.int .i64 l[i]):
 ∃v H',Over H H'/\Own H' 1 v (dI (sI l))/\(∀k,sF v=some k->H.next<=k)/\Sg 49 [.sl id 1 off n n] H (.ret v) H':=by
 subst hn
 suffices h:FC Tryz.prog gv W49.1.ntmps W49.1.body (fN [.sl id 1 off l.length l.length]) [] H (MA W49.1.results fun o H'=>∃v,o=.ret v/\Over H H'/\Own H' 1 v (dI (sI l))/\∀k,sF v=some k->H.next<=k) by obtain⟨o,H',⟨v,rfl,hO,ho,ht⟩,hS⟩:=cZ fit bHu (Ai rfl) h (by rfl);exact⟨v,H',hO,ho,ht,hS⟩
 unfold W49;dsimp only;refine bQ ?_;refine Tz ?_;refine fF ?_;refine Tz ?_;refine bR ?_;refine aN fun K hK=>?_;refine Tz ?_;refine bP [3] (fun i vs H'=>∃w,vs=[w]/\Over H H'/\Own H' 1 w (dI (sI (l.take i)))/\∀k,sF w=some k->H.next<=k) 0 l.length (Az _) (by omega) (by decide) ?_ ?_ ?_ ?_ ?_
 . exact zq
 . exact⟨.aO,by simp only[sm,zB,seval],.refl H,.nil _ _,fun k h=>by cases h⟩
 . rintro i f H1 h0 hi hk e1 _;have f0:f 0=.sl id 1 off l.length l.length:=by rw[hk 0 rfl];rfl
   simp only[↓zP,zG,seval,e1,f0];exact Zae
 . rintro i f H1 h0 hi hk e1 ⟨w,oU,hO,ho,pT⟩;simp only[zM] at oU;have f0:f 0=.sl id 1 off l.length l.length:=by rw[hk 0 rfl];rfl
   obtain⟨hle,sL⟩:=EW i hi;have JI:=(hO.same id dC).trans hg;have hx:=hr _ (Ac hi);have hc:=cj hx;have Sm:=mC (BK hx);have vD:=tM (l:=l.take i) fun x hx=>hr x (By hx);rw[Cz] at vD;have JH:sI (l.take (i+1))=sI (l.take i)++rK (QD l[i]):=KC _ hi;rw[JH,iF];have bJk:(sI (l.take i)).length<=10*i:=(by unfold sI;omega);generalize l[i]=x at *;refine aJ ?_;simp only[↓zP,zJ,seval,e1,f0,oU,aB,hi,JI,hle,sL];refine bY (hc _) ?_;obtain⟨w',H',ha,e2,e3⟩:=(ho.alloc .tok).append (bytes:=1) (ys:=dI (rK (QD x))) (by simp only[fZ];omega);simp only[↓zP,zG,seval,cK,ha];have hO1:=hO.alloc .tok;refine⟨w',rfl,⟨Cd hO1.le e3.next,fun j hj=>?_⟩,e2,fun k hk=>?_⟩
   . rw[e3.get j (fun e=>by have :=pT j e;omega) (Ck hj hO1.le)];exact hO1.same j hj
   rw[UF (sV (JC _)) (ho.alloc .tok) ha] at hk;cases hk;exact hO1.le
 rintro f H1 hk ⟨w,oU,hO,ho,pT⟩;simp only[zM] at oU;rw[Ax] at ho;refine Tx ?_;apply hK;clear hK K;simp only[↓zP,zG,seval,oU];refine⟨rfl,_,by simp only[↓zP,zR,seval];rfl,?_⟩;exact⟨w,rfl,hO,ho,pT⟩
theorem aEu {l:List Int} (h:l≠[]):sI l≠[]:=by
 cases l with
 |nil=>exact absurd rfl h
 |cons x l=>unfold sI;rw[Fe];intro e;exact JC _ (List.append_eq_nil_iff.1 e).1
theorem tt (a b:List Int):sI (a++b)=sI a++sI b:=It
theorem GU {l:List Int} (h:∀x∈l,JF x):(sI l).length<=10*l.length:=tM h
theorem aBg {p:List Int} (h7:p.length=7) (hr:lC p) (H:aA):Sg 92 [.agg (iC p)] H (.ret (.bD (H.next+2) 1 (dI (sI p)))) (H.alloc .tok):=by
 refine mG eZ (by simp only[bO,AV.free,jI];rfl) (sV (aEu (by intro e;rw[e] at h7;cases h7))) (kX _) (cZ fit bIp (Ai rfl) ?_ (by rfl)) H;unfold W92;dsimp only;have hlen:(iC p).length=7:=by rw[cD,h7]
 refine bQ ?_;refine Ty ?_;refine bR ?_;generalize hX:(aA.mk 0 .nil).alloc _=HA;have g0:HA.get 0=some (.cells (iC p) false):=by subst hX;simp only[zI,seval]
 have gn:0<HA.next:=by subst hX;simp only[zI,seval]
 clear hX;have h3:(p.take 3).length=3:=by simp;omega
 have h4:(p.drop 3).length=4:=by simp;omega
 obtain⟨v,H2,hO,ho,pT,hS⟩:=Vl (id:=0) (off:=0) (n:=3) (l:=p.take 3) h3 (fun x hx=>hr x (By hx)) (by decide) gn g0 (fun i h=>by
  refine⟨by omega,?_⟩
  rw[Cq,eJ (by omega)];simp[List.getD,Ad (show i<p.length by omega)])
 have g2:=(hO.same 0 gn).trans g0;have gn2:0<H2.next:=Ck gn hO.le
 obtain⟨w,H3,hO2,pt,bJv,hS2⟩:=Vl (id:=0) (off:=3) (n:=4) (l:=p.drop 3) h4 (fun x hx=>hr x (Dt hx)) (by decide) gn2 g2 (fun i h=>by
  refine⟨by omega,?_⟩
  rw[eJ (by omega)];simp[List.getD,Ad (show 3+i<p.length by omega)])
 have sl1:=Yj (n:=3) (sz:=1) (off:=0) g0 (by decide) (by omega);have sl2:=Yj (n:=4) (sz:=1) (off:=3) g2 (by decide) (by omega);refine bV fun f dQ=>?_;have f1:f 1=.ref 0 0:=by subst dQ;simp only[zB,seval]
 clear dQ;refine bQ ?_;refine Dz ?_;simp only[↓zP,zJ,seval,zD,f1,eB,sl1];apply iQ (hS:=hS)
 . decide
 . exact ZaN
 . exact hO.le
 . intro x hx _;simp only[Am,Bj,Df] at hx;subst hx;exact(hO.same 0 gn).symm
 simp only[↓zP,zJ,seval,zD,f1,eB,sl2];refine⟨(hO.same 0 gn).symm,?_⟩;apply iQ (hS:=hS2)
 . decide
 . exact ZaN
 . exact hO2.le
 . intro x hx _;simp only[Am,Bj,Df] at hx
   rcases hx with rfl|rfl<;>exact(hO2.same 0 gn2).symm
 have e37:sI p=sI (p.take 3)++sI (p.drop 3):=by rw[<-tt,Ie]
 have hvt:∀k,sF v=some k->k<H2.next:=fun k hk=>ho.aCg hk
 have hov:Own H3 1 v (dI (sI (p.take 3))):=by
  rcases ho with h|⟨k,h1,h2,h3⟩
  . exact .inl h
  exact .inr ⟨k,h1,Ck h2 hO2.le,by rw[hO2.same k h2];exact h3⟩
 have l3:=GU (l:=p.take 3) fun x hx=>hr x (By hx);have l4:=GU (l:=p.drop 3) fun x hx=>hr x (Dt hx);rw[h3] at l3;rw[h4] at l4;obtain⟨v',H4,ha,ho4,Qu⟩:=hov.append (bytes:=1) (ys:=dI (sI (p.drop 3))) (by simp only[fZ];omega)
 have WO:cK H3 1 w=some (dI (sI (p.drop 3))):=by
  rcases pt with ⟨rfl,h⟩|⟨k,rfl,_⟩
  . rw[h];rfl
  rfl
 simp only[↓zP,zJ,seval,zD,WO,ha];refine⟨Qu.next,?_⟩;refine bR ?_;refine Tx ?_;refine Rx ?_;exact⟨v',rfl,by rw[e37,iF];exact ho4⟩
def GV (l:List (List Int)):List Nat:=rK (QD l.length)++l.flatMap sI
theorem tu (l:List (List Int)):GV l≠[]:=by unfold GV;intro h;exact JC _ (List.append_eq_nil_iff.1 h).1
theorem KB:∀{l:List (List Int)},(∀p∈l,p.length=7/\lC p)->(l.flatMap sI).length<=70*l.length
 |[],_=>by simp
 |x::l,h=>by have h1:=KB (l:=l) fun y hy=>h y (Au _ hy);obtain⟨h2,h3⟩:=h x Ar;have h4:=GU h3;rw[Fe,Ba,As];omega
theorem my {v:AV} {l:List (List Int)} (hv:fO v 7 (aZ l)) (hr:∀p∈l,p.length=7/\lC p) (hl:l.length<2^30) (H:aA):Sg 50 [v] H (.ret (.bD (H.next+2) 1 (dI (GV l)))) (H.alloc .tok):=by
 refine mG eZ (by simp only[bO,hv.free (bF _)];rfl) (sV (tu _)) (kX _) (cZ fit bHw (Ai rfl) ?_ (by rfl)) H;unfold W50;dsimp only;have lv:=hv.len;simp only[dA] at lv;rw[aS] at lv;have hn:=cj (BN (n:=l.length) (by omega));refine bQ ?_;refine Tz ?_;refine fF ?_;simp only[↓zP,zJ,seval,lv];refine bY (hn _) ?_;refine Ty ?_;refine bR ?_;refine aN fun K hK=>?_;refine Tz ?_;refine bP [3] (fun i vs H'=>∃w,vs=[w]/\Own H' 1 w (dI (rK (QD l.length)++(l.take i).flatMap sI))) 0 l.length (Az _) (by omega) (by decide) ?_ ?_ ?_ ?_ ?_
 . exact zq
 . exact⟨_,by simp only[sm,zB,seval];rfl,by simp only[Fc,List.flatMap_nil,Ch];exact Own.fresh _ _ _⟩
 . rintro i f H1 h0 hi hk e1 _;have f0:f 0=v:=by rw[hk 0 rfl];rfl
   simp only[↓zP,zG,seval,e1,f0,lv];exact Zae
 . rintro i f H1 h0 hi hk e1 ⟨w,oU,ho⟩;simp only[zM] at oU;have f0:f 0=.bD 0 7 (aZ l):=(hk 0 rfl).trans (hv.bD (i:=i) ZaD);have hg:=cN hi;obtain⟨h7,hx⟩:=hr _ (Ac hi);have hc:=aBg h7 hx;have Sm:=GU hx;have vD:=KB (l:=l.take i) fun x hx=>hr x (By hx);rw[Cz] at vD;have hnl:=mC (BK (BN (n:=l.length) (by omega)));rw[KC _ hi,<-Ek,iF];have Tg:(iC l[i]).length=7:=by rw[cD,h7]
   generalize l[i]=x at *;refine aJ ?_;simp only[↓zP,zJ,seval,e1,f0,oU,aB,aS,hi,hg,oL Tg];refine bY (hc _) ?_;obtain⟨w',H',ha,e2,e3⟩:=(ho.alloc .tok).append (bytes:=1) (ys:=dI (sI x)) (by simp only[fZ,Ba];omega);simp only[↓zP,zG,seval,cK,ha];exact⟨w',by simp only[seval],e2⟩
 rintro f H1 hk ⟨w,oU,ho⟩;exact Za6
def Ue (b:Bool):Int:=if b then 1 else 0
def fL (l:List Bool):List Int:=l.map Ue
theorem BS (l:List Bool):∀x∈fL l,JF x:=fun x hx=>by obtain⟨b,_,rfl⟩:=Bf.1 hx;cases b<;>exact⟨by decide,by decide⟩
theorem KZ {v:AV} {l:List Bool} (hv:fO v 1 (bE l)) (hl:l.length<2^30) (H:aA):Sg 52 [v] H (.ret (Oq 1 (iU (fL l)))) H:=by
 refine eC fit eZ bHy (Ai rfl) (by simp only[bO,hv.free (gO _)];rfl) ?_ H;unfold W52;dsimp only;have lv:=hv.len;simp only[dA] at lv;rw[bZ] at lv;refine bQ ?_;refine Tz ?_;refine fF ?_;refine Tz ?_;refine bR ?_;refine aN fun K hK=>?_;refine Tz ?_;refine bP [3] (fun i vs H'=>∃w,vs=[w]/\oZ H' 1 w (iU (fL (l.take i)))) 0 l.length (Az _) (by omega) (by decide) ?_ ?_ ?_ ?_ ?_
 . exact zq
 . exact⟨.aO,by simp only[sm,zB,seval],.nil _ _⟩
 . rintro i f H1 h0 hi hk e1 _;have f0:f 0=v:=by rw[hk 0 rfl];rfl
   simp only[↓zP,zG,seval,e1,f0,lv];exact Zae
 . rintro i f H1 h0 hi hk e1 ⟨w,oU,ho⟩;simp only[zM] at oU;have f0:f 0=.bD 0 1 (bE l):=(hk 0 rfl).trans (hv.bD (i:=i) (by rw[bZ];exact hi));have hg:=xG hi;have pT:fL (l.take (i+1))=fL (l.take i)++[Ue l[i]]:=by unfold fL;rw[An,Ad hi,Ct];rfl
   have hln:(fL (l.take i)).length<=i:=(by simp[fL];omega);rw[pT,HQ];generalize l[i]=b at *;obtain⟨w',H',ha,e2,e3⟩:=ho.append (bytes:=8) (e:=[.int .i64 (Ue b)]) (by rw[iD];omega);refine aJ ?_;cases b
   . rw[show Ue false=0 from rfl] at ha;simp only[↓zP,zJ,seval,e1,f0,oU,aB,bZ,hi,hg,eL,ha];exact⟨w',by simp only[seval],e2⟩
   rw[show Ue true=1 from rfl] at ha;simp only[↓zP,zJ,seval,e1,f0,oU,aB,bZ,hi,hg,eL,ha];exact⟨w',by simp only[seval],e2⟩
 rintro f H1 hk ⟨w,oU,ho⟩;simp only[zM] at oU;rw[Ax] at ho;refine Tx ?_;apply hK;clear hK K;simp only[↓zP,zG,seval,oU];refine⟨rfl,_,by simp only[↓zP,zR,seval];rfl,?_⟩;exact⟨w,0,rfl,fun nw=>ho.shut (jO (Sn _)) nw⟩
def Zz (l:List Int):AV:=if l=[] then .bD 1 1 [] else .bD 0 1 (iU l)
theorem Uf:∀{l:List (List Int)},(∀w∈l,w.length=3)->l.flatten.length=3*l.length
 |[],_=>rfl
 |x::l,h=>by have h1:=Uf (l:=l) fun y hy=>h y (Au _ hy);have h2:=h x Ar;rw[Bl,Ba,As];omega
theorem Vm {v:AV} {l:List (List Int)} (hv:fO v 3 (aZ l)) (h3:∀w∈l,w.length=3) (hl:l.length<2^30) (H:aA):Sg 53 [.aO,v] H (.ret (Zz l.flatten)) H:=by
 refine eC fit eZ bHz (Ai rfl) (by simp only[bO,AV.free,hv.free (bF _)];rfl) ?_ H;unfold W53;dsimp only;have lv:=hv.len;simp only[dA] at lv;rw[aS] at lv;refine bQ ?_;refine Tz ?_;refine bR ?_;have hap:∀H:aA,dR H 1 8 false (.bD 1 1 []) []=some (.bD 1 1 [],H):=fun _=>rfl;refine bQ ?_;simp only[↓zP,zJ,seval,cK,hap];refine bR ?_;refine aN fun K hK=>?_;refine Tz ?_;refine bP [5] (fun i vs H'=>∃w,vs=[w]/\(((l.take i).flatten=[]/\w=.bD 1 1 [])\/((l.take i).flatten≠[]/\Own H' 1 w (iU (l.take i).flatten)))) 0 l.length (Az _) (by omega) (by decide) ?_ ?_ ?_ ?_ ?_
 . exact zq
 . exact⟨.bD 1 1 [],by simp only[sm,zB,seval],.inl ⟨rfl,rfl⟩⟩
 . rintro i f H1 h0 hi hk e1 _;have f1:f 1=v:=by rw[hk 1 rfl];rfl
   simp only[↓zP,zG,seval,e1,f1,lv];exact Zae
 . rintro i f H1 h0 hi hk e1 ⟨w,oU,ho⟩;simp only[zM] at oU;have f1:f 1=.bD 0 3 (aZ l):=(hk 1 rfl).trans (hv.bD (i:=i) ZaD);have hg:=cN hi;have hx3:=h3 _ (Ac hi);have vD:=Uf (l:=l.take i) fun x hx=>h3 x (By hx);rw[Cz] at vD;have pT:(l.take (i+1)).flatten=(l.take i).flatten++l[i]:=by rw[An,Ad hi,Fm];simp
   rw[pT];generalize l[i]=x at *;generalize (l.take i).flatten=o at *
   have KM:∀H:aA,mM H 3 1 (.pl (iC x)) none none none=some (.bD 1 1 (iU x)):=fun H=>by
    match x,hx3 with
    |[a,b,c],_=>rfl
   have cQ:o++x≠[]:=fun e=>by rw[(List.append_eq_nil_iff.1 e).2] at hx3;cases hx3
   have Sm:(iU x).length=3:=by rw[iD,hx3]
   have gV:∃w' H2,dR H1 1 8 false w (iU x)=some (w',H2)/\Own H2 1 w' (iU (o++x)):=by
    rcases ho with ⟨h,rfl⟩|⟨_,ho⟩
    . refine⟨.bD (H1.next+2) 1 (iU x),H1.alloc .tok,?_,by rw[h];exact Own.fresh _ _ _⟩;unfold dR;rw[if_neg (by intro e;rw[List.isEmpty_iff] at e;rw[e] at Sm;cases Sm)];simp only[Bm,Cq,Sm];rw[if_pos ⟨trivial,by decide⟩];rfl
    obtain⟨w',H2,ha,e2,_⟩:=ho.append (bytes:=8) (ys:=iU x) (by rw[Sm,iD];omega);exact⟨w',H2,ha,by rw[HQ];exact e2⟩
   obtain⟨w',H2,ha,e2⟩:=gV;refine aJ ?_;simp only[↓zP,zJ,seval,e1,f1,oU,aB,aS,hi,hg,eB,KM,cK,ha];exact⟨w',by simp only[seval],.inr ⟨cQ,e2⟩⟩
 rintro f H1 hk ⟨w,oU,ho⟩;simp only[zM] at oU;rw[Ax] at ho;refine Tx ?_;apply hK;clear hK K;simp only[↓zP,zG,seval,oU];refine⟨rfl,_,by simp only[↓zP,zR,seval];rfl,?_⟩;refine⟨w,0,rfl,fun nw=>?_⟩;unfold Zz
 rcases ho with ⟨h,rfl⟩|⟨h,ho⟩
 . rw[if_pos h];rfl
 rw[if_neg h];have cQ:iU l.flatten≠[]:=fun e=>h (Ir.1 e);refine Has.shut (.inr ho) cQ (fun e=>?_) (jO (Sn _)) nw
 rcases ho with ⟨h1,h2⟩|⟨k,h1,_⟩
 . exact cQ h2
 rw[h1] at e;cases e
theorem KW {l:List Bool} (hl:l.length<2^30) (H:aA):Sg 51 [Oq 1 (iU (fL l))] H (.ret (.bD (H.next+2) 1 (dI (eU (fL l))))) (H.alloc .tok):=
 YP (wV _ _) (BS l) (by simp[fL];omega) H
theorem Vf {l:List (List Int)} (h3:∀w∈l,w.length=3/\lC w) (hl:l.length<2^30) (H:aA):Sg 51 [Zz l.flatten] H (.ret (.bD (H.next+2) 1 (dI (eU l.flatten)))) (H.alloc .tok):=by
 have SP:∀x∈l.flatten,JF x:=fun x hx=>by obtain⟨w,hw,hx⟩:=Ii.1 hx;exact(h3 w hw).2 x hx
 have hf:=Uf fun w hw=>(h3 w hw).1;unfold Zz;split
 . rename_i h;rw[h];exact(YP (v:=.bD 0 1 []) (l:=[]) (.inr rfl) (fun x hx=>by cases hx) (by decide) H).DB 1
 exact YP (.inr rfl) SP (by omega) H
def Pc (s:Sc):List Nat:=eU (fL s.st)++GV s.ps++eU s.vs.flatten++eU s.ws.flatten++eU (fL s.ta)++eU (fL s.ac)
theorem qW {l:List Int} (h:∀x∈l,JF x) (hl:l.length<2^33):(eU l).length<=10+10*l.length:=by have h1:=tM h;have h2:=mC (BK (BN (n:=l.length) (by omega)));unfold eU;rw[Ba];omega
theorem jb {l:List (List Int)} (h:∀p∈l,p.length=7/\lC p) (hl:l.length<2^30):(GV l).length<=10+70*l.length:=by have h1:=KB h;have h2:=mC (BK (BN (n:=l.length) (by omega)));unfold GV;rw[Ba];omega
theorem ZR {s:Sc} (hs:s.OK) (H:aA):Sg 20 [.agg s.cs] H (.ret (.bD (H.next+2) 1 (dI (Pc s)))) (H.alloc .tok):=by
 refine mG eZ Zby (sV (by unfold Pc;simp[NY])) (kX _) (cZ fit bHf (Ai rfl) ?_ (by rfl)) H;unfold W20;dsimp only;have c1:=KZ hs.st hs.bD;have c2:=KW hs.bD;have c3:=my hs.ps hs.p7 hs.lps;have c4:=Vm hs.vs (fun w hw=>(hs.v3 w hw).1) hs.zc;have c5:=Vf hs.v3 hs.zc;have c6:=Vm hs.ws (fun w hw=>(hs.w3 w hw).1) hs.zd;have c7:=Vf hs.w3 hs.zd;have c8:=KZ hs.ta hs.lta;have c9:=KW hs.lta;have c10:=KZ hs.ac hs.lac;have c11:=KW hs.lac;have e1:(eU (fL s.st)).length<=10+10*2^30:=by have :=qW (BS s.st) (by have :=hs.bD;simp[fL];omega);have :=hs.bD;simp[fL] at *;omega
 have e2:(GV s.ps).length<=10+70*2^30:=by have :=jb hs.p7 hs.lps;have :=hs.lps;omega
 have e3:(eU s.vs.flatten).length<=10+30*2^30:=by
  have hf:=Uf fun w hw=>(hs.v3 w hw).1
  have :=qW (l:=s.vs.flatten) (fun x hx=>by
   obtain⟨w,hw,hx⟩:=Ii.1 hx
   exact(hs.v3 w hw).2 x hx) (by have :=hs.zc;omega)
  have :=hs.zc;omega
 have e4:(eU s.ws.flatten).length<=10+30*2^30:=by
  have hf:=Uf fun w hw=>(hs.w3 w hw).1
  have :=qW (l:=s.ws.flatten) (fun x hx=>by
   obtain⟨w,hw,hx⟩:=Ii.1 hx
   exact(hs.w3 w hw).2 x hx) (by have :=hs.zd;omega)
  have :=hs.zd;omega
 have e5:(eU (fL s.ta)).length<=10+10*2^30:=by have :=qW (BS s.ta) (by have :=hs.lta;simp[fL];omega);have :=hs.lta;simp[fL] at *;omega
 have e6:(eU (fL s.ac)).length<=10+10*2^30:=by have :=qW (BS s.ac) (by have :=hs.lac;simp[fL];omega);have :=hs.lac;simp[fL] at *;omega
 have hE:Pc s=eU (fL s.st)++GV s.ps++eU s.vs.flatten++eU s.ws.flatten++eU (fL s.ta)++eU (fL s.ac):=rfl;generalize eU (fL s.st)=a1 at *;generalize GV s.ps=a2 at *;generalize eU s.vs.flatten=a3 at *;generalize eU s.ws.flatten=a4 at *;generalize eU (fL s.ta)=a5 at *;generalize eU (fL s.ac)=a6 at *;refine bQ ?_;simp only[↓zP,zJ,seval,Sc.cs];refine bR ?_;generalize hX:(aA.mk 0 .nil).alloc _=HA;have g0:HA.get 0=some (.cells [s.sv,s.pv,s.vv,s.wv,s.tv,s.av] false):=by subst hX;simp only[zI,seval]
 have gn:0<HA.next:=by subst hX;simp only[zI,seval]
 clear hX;refine bV fun f dQ=>?_;have f1:f 1=.ref 0 0:=by subst dQ;simp only[zB,seval]
 clear dQ;refine aN fun K hK=>?_;refine Dz ?_;simp only[↓zP,zJ,seval,zD,f1,g0];refine fP (c1 _) ?_;have cQ:¬(0=HA.next):=by omega
 simp only[seval];apply iQ (hS:=c2 _)
 . decide
 . exact ZaN
 . exact Zaf
 . intro x hx _;simp only[Am,Bj,Df] at hx;subst hx;rw[aA.aG,if_neg cQ]
 simp only[↓zP,zJ,seval,zD,f1,g0,cQ];apply iQ (hS:=c3 _)
 . decide
 . exact ZaN
 . exact Zaf
 . intro x hx _;simp only[Am,Bj,Df] at hx
   rcases hx with rfl|rfl<;>(refine Eq.symm ?_;rw[aA.aG,if_neg Zaf])
 have o1:Own ((HA.alloc .tok).alloc .tok) 1 (.bD (HA.next+2) 1 (dI a1)) (dI a1):=(Own.fresh HA 1 _).alloc .tok;have gA:((HA.alloc .tok).alloc .tok).get 0=some (.cells [s.sv,s.pv,s.vv,s.wv,s.tv,s.av] false):=by rw[aA.aG,if_neg Zaf,aA.aG,if_neg cQ];exact g0
 have gB:0<((HA.alloc .tok).alloc .tok).next:=by simp only[aA.aR];omega
 obtain⟨w1,H1,ha1,o2,gr⟩:=o1.append (bytes:=1) (ys:=dI a2) (by simp only[fZ];omega);have m0:=gr.cells o1 gB gA;have mn:=Ck gB gr.next;rw[<-iF] at o2;simp only[↓zP,zJ,seval,zD,cK,ha1];refine⟨gr.next,?_⟩;apply hK;clear hK K o1 gA gB gr ha1 cQ g0 gn
 have gV:∀{H:aA} {w:AV} {pre b:List Nat},0<H.next->H.get 0=some (.cells [s.sv,s.pv,s.vv,s.wv,s.tv,s.av] false)->Own H 1 w (dI pre)->pre.length+b.length<=2^40->
  ∃w' H',dR (H.alloc .tok) 1 1 false w (dI b)=some (w',H')/\Own H' 1 w' (dI (pre++b))/\0<H'.next/\H'.get 0=some (.cells [s.sv,s.pv,s.vv,s.wv,s.tv,s.av] false):=by
  intro H w pre b hn hg ho hl;have SV:(H.alloc .tok).get 0=some (.cells [s.sv,s.pv,s.vv,s.wv,s.tv,s.av] false):=by rw[aA.aG,if_neg (by omega)];exact hg
  have SY:0<(H.alloc .tok).next:=by simp only[aA.aR];omega
  obtain⟨w',H',ha,o,gr⟩:=(ho.alloc .tok).append (bytes:=1) (ys:=dI b) (by simp only[fZ];omega);exact⟨w',H',ha,by rw[iF];exact o,Ck SY gr.next,gr.cells (ho.alloc .tok) SY SV⟩
 have l12:(a1++a2).length<=20+80*2^30:=by rw[Ba];omega
 generalize a1++a2=p1 at *;obtain⟨w2,H2,ha2,o3,n2,m2⟩:=gV (b:=a3) mn m0 o2 (by omega);refine bQ ?_;simp only[↓zP,zJ,seval,f1,m0];refine bY (c4 _) ?_;refine bY (c5 _) ?_;simp only[↓zP,zG,seval,cK,ha2];refine bR ?_;have l2:(p1++a3).length<=30+110*2^30:=by rw[Ba];omega
 generalize p1++a3=p2 at *;obtain⟨w3,H3,ha3,o4,n3,m3⟩:=gV (b:=a4) n2 m2 o3 (by omega);refine bQ ?_;simp only[↓zP,zJ,seval,f1,m2];refine bY (c6 _) ?_;refine bY (c7 _) ?_;simp only[↓zP,zG,seval,cK,ha3];refine bR ?_;have l3:(p2++a4).length<=40+140*2^30:=by rw[Ba];omega
 generalize p2++a4=p3 at *;obtain⟨w4,H4,ha4,o5,n4,m4⟩:=gV (b:=a5) n3 m3 o4 (by omega);refine bQ ?_;simp only[↓zP,zJ,seval,f1,m3];refine bY (c8 _) ?_;refine bY (c9 _) ?_;simp only[↓zP,zG,seval,cK,ha4];refine bR ?_;have l4:(p3++a5).length<=50+170*2^30:=by rw[Ba];omega
 generalize p3++a5=p4 at *;obtain⟨w5,H5,ha5,o6,n5,m5⟩:=gV (b:=a6) n4 m4 o5 (by omega);simp only[↓zP,zJ,seval,f1,m4];refine bY (c10 _) ?_;refine bY (c11 _) ?_;simp only[↓zP,zG,seval,cK,ha5];refine Rx ?_;exact⟨w5,rfl,by rw[hE];exact o6⟩
def vU (l:List Nat):List UInt8:=l.map fun n=>UInt8.ofNat n
theorem QP:∀l:List Nat,bytesOf (dI l)=some (vU l)
 |[]=>rfl
 |n::l=>by have h:=QP l;simp only[dI,vU,Cb,bytesOf] at h ⊢;rw[h];rfl
theorem aBi {a b:Nat} {l m:List Nat} (H:aA):Sg 18 [.bD a 1 (dI l),.bD b 1 (dI m)] H (.ret (.bool (vU l==vU m))) H:=by refine gH bHe (Ai rfl) ?_ (by rfl);unfold W18;dsimp only;simp only[↓zP,zJ,seval,cK,QP,show ∀x y:List UInt8,so .eql x y=some (.bool (x==y)) from fun _ _=>rfl];refine Rx ?_;exact⟨rfl,rfl⟩
theorem aBn {s t:Sc} (hs:s.OK) (ht:t.OK) (H:aA):Sg 10 [.agg s.cs,.agg t.cs] H (.ret (.bool (vU (Pc s)==vU (Pc t)))) H:=by
 refine So bGz (by simp only[bO,AV.free,Sc.free hs,Sc.free ht];rfl) ?_ H;unfold W10;dsimp only;have h1:=ZR hs;have h2:=ZR ht;have l1:s.cs.length=6:=rfl;have l2:t.cs.length=6:=rfl;refine bQ ?_;refine Ty ?_;refine bR ?_;generalize hX:((aA.mk 0 .nil).alloc _).alloc _=HA;have g0:HA.get 0=some (.cells s.cs false):=by subst hX;simp only[zI,seval]
 have g1:HA.get 1=some (.cells t.cs false):=by subst hX;simp only[zI,seval]
 have gn:1<HA.next:=by subst hX;simp only[zI,seval]
 clear hX;have bFv:¬(0=HA.next):=by omega
 have bFw:¬(1=HA.next):=by omega
 refine bV fun f dQ=>?_;have f2:f 2=.ref 0 0:=by subst dQ;simp only[zB,seval]
 have f3:f 3=.ref 1 0:=by subst dQ;simp only[zB,seval]
 clear dQ;refine bQ ?_;refine Dz ?_;simp only[↓zP,zJ,seval,zD,f2,g0,oL l1];apply iQ (hS:=h1 _)
 . decide
 . exact ZaN
 . exact Zaf
 . intro x hx _;simp only[Am,Bj,Df] at hx;subst hx;rw[aA.aG,if_neg bFv]
 simp only[↓zP,zJ,seval,zD,f3,g1,oL l2,bFw];apply iQ (hS:=h2 _)
 . decide
 . exact ZaN
 . exact Zaf
 . intro x hx _;simp only[Am,Bj,Df] at hx
   rcases hx with rfl|rfl<;>(refine Eq.symm ?_;rw[aA.aG,if_neg Zaf])
 refine fP (aBi (a:=HA.next+2) (b:=(HA.alloc fB.tok).next+2) (l:=Pc s) (m:=Pc t) _) ?_;simp only[↓zP,zJ,seval,zD];refine bR ?_;refine Tx ?_;exact ZaQ
def jR (ts:List Th) (rs us:List (List Int)) (k n:Int) (qs:List (List Int)) (s:Sc):Int:=
 if(k==1&&yS s.st n)||(k==2&& !yS s.st n) then 4
 else if k=2/\((ts.map (·.kind)).getD (n -1).toNat 0 != 2)=true then 7
 else if k=2/\¬qs.getD 0 []=s.ps.getD (n -1).toNat [] then 1
 else if k=2/\mP s rs us n=true then 4
 else if(k==3&&(s.ta.getD n.toNat false||(!yS s.st ((rs.getD n.toNat []).getD 0 0)|| !yS s.st ((rs.getD n.toNat []).getD 1 0))))||(k==4&& !s.ta.getD n.toNat false) then 4
 else if(k==5&&(s.ac.getD n.toNat false|| !yS s.st ((us.getD n.toNat []).getD 0 0)))||(k==6&& !s.ac.getD n.toNat false) then 4
 else 0
def AX (ts:List Th) (k n:Int) (qs:List (List Int)) (s:Sc):Sc:=
 if k=1 then {s with st:=s.st.set (n -1).toNat true,ps:=s.ps.set (n -1).toNat (qs.getD (qs.length -1) [])}
 else if k=2 then {s with st:=s.st.set (n -1).toNat false,ps:=s.ps.set (n -1).toNat ((ts.map (·.store)).getD (n -1).toNat [])}
 else if k=3\/k=4 then {s with ta:=s.ta.set n.toNat (k==3)}
 else {s with ac:=s.ac.set n.toNat (k==5)}
theorem cu {l:List Bool} {n:Int} (h:1<=n):yS l n=l.getD (n -1).toNat false:=by unfold yS;rw[Bq.2 (by omega),Km]
theorem toNat_sub {n:Int}:n.toNat -1=(n -1).toNat:=by omega
theorem Rj {ts:List Th} {rs us:List (List Int)} {k n:Int} {qs:List (List Int)} {s:Sc} (hc:lR ts.length rs.length us.length k n qs=0) (h7:k≠7) (h8:k≠8):jR ts rs us k n qs s=(CY ts rs us k n qs s).1:=by
 unfold jR CY;have two:=fun b:Bool=>Bool.eq_false_or_eq_true b
 rcases uZ hc with ⟨hk,n1,n2,_,_⟩|⟨hk,n1,n2⟩|⟨hk,n1,n2⟩|hk|hk
 . obtain⟨m,rfl⟩:∃m:Nat,n=((m+1:Nat):Int):=⟨(n -1).toNat,by omega⟩;have e1:((((m+1:Nat):Int)) -1).toNat=m:=by omega
   have e2:((m+1:Nat):Int).toNat -1=m:=by omega
   rcases hk with rfl|rfl
   . rw[cu n1,e1,e2]
     rcases two (s.st.getD m false) with a|a<;>simp[a,-List.getD_eq_getElem?_getD]
   rw[cu n1,e1,e2];simp only[Px,ma]
   rcases two (s.st.getD m false) with a1|a1<;>rcases two ((ts.map (·.kind)).getD m 0 != 2) with a2|a2<;>by_cases a3:qs.getD 0 []=s.ps.getD m []<;>rcases two (mP s rs us ((m+1:Nat):Int)) with a4|a4<;>
    simp only[a1,a2,a3,a4,Gm,Iv,Gw,Gb,Bb,Fb,Bool.and_false,Kl,Km,not_true,not_false_iff,Kb,and_false,if_true,Bp,show((2:Int)==1)=false from rfl,show((2:Int)==2)=true from rfl,show((2:Int)==3)=false from rfl,show((2:Int)==4)=false from rfl,show((2:Int)==5)=false from rfl,show((2:Int)==6)=false from rfl,show ¬(2:Int)=1 from by decide,Je]
 . rcases hk with rfl|rfl
   . simp only[PE]
     rcases two (s.ta.getD n.toNat false) with a1|a1<;>rcases two (yS s.st ((rs.getD n.toNat []).getD 0 0)) with a2|a2<;>rcases two (yS s.st ((rs.getD n.toNat []).getD 1 0)) with a3|a3<;>simp[a1,a2,a3,-List.getD_eq_getElem?_getD]
   rcases two (s.ta.getD n.toNat false) with a1|a1<;>simp[a1,-List.getD_eq_getElem?_getD]
 . rcases hk with rfl|rfl
   . simp only[Mx]
     rcases two (s.ac.getD n.toNat false) with a1|a1<;>rcases two (yS s.st ((us.getD n.toNat []).getD 0 0)) with a2|a2<;>simp[a1,a2,-List.getD_eq_getElem?_getD]
   rcases two (s.ac.getD n.toNat false) with a1|a1<;>simp[a1,-List.getD_eq_getElem?_getD]
 . exact absurd hk h7
 exact absurd hk h8
theorem bt {ts:List Th} {rs us:List (List Int)} {k n:Int} {qs:List (List Int)} {s:Sc} (hc:lR ts.length rs.length us.length k n qs=0) (h7:k≠7) (h8:k≠8) (hr:lZ s=true) (he:(CY ts rs us k n qs s).1=0):GM (AX ts k n qs s) (CY ts rs us k n qs s).2:=by
 revert he;unfold AX CY
 rcases uZ hc with ⟨hk,n1,n2,_,_⟩|⟨hk,n1,n2⟩|⟨hk,n1,n2⟩|hk|hk
 . rcases hk with rfl|rfl
   . rw[toNat_sub];simp only[if_true];cases s.st.getD (n -1).toNat false
     . intro _;simp only[Bb,Bp,Lb hr];exact Zbz
     intro h;cases h
   rw[toNat_sub];simp only[show ¬(2:Int)=1 from by decide,Bp,if_true];intro he;rw[if_pos he];exact Zbz
 . rcases hk with rfl|rfl
   . simp only[show ¬(3:Int)=1 from by decide,show ¬(3:Int)=2 from by decide,Bp,if_true,true_or];cases PE s (rs.getD n.toNat []) n.toNat
     . intro _;exact Zbz
     intro h;cases h
   simp only[show ¬(4:Int)=1 from by decide,show ¬(4:Int)=2 from by decide,show ¬(4:Int)=3 from by decide,Bp,if_true,or_true];cases s.ta.getD n.toNat false
   . intro h;cases h
   intro _;exact Zbz
 . rcases hk with rfl|rfl
   . simp only[show ¬(5:Int)=1 from by decide,show ¬(5:Int)=2 from by decide,show ¬(5:Int)=3 from by decide,show ¬(5:Int)=4 from by decide,Bp,if_true,or_self];cases Mx s (us.getD n.toNat []) n.toNat
     . intro _;exact Zbz
     intro h;cases h
   simp only[show ¬(6:Int)=1 from by decide,show ¬(6:Int)=2 from by decide,show ¬(6:Int)=3 from by decide,show ¬(6:Int)=4 from by decide,show ¬(6:Int)=5 from by decide,Bp,or_self];cases s.ac.getD n.toNat false
   . intro h;cases h
   intro _;exact Zbz
 . exact absurd hk h7
 exact absurd hk h8
theorem GM.trans {s t u:Sc} (h:GM s t) (g:GM t u):GM s u:=⟨h.st.trans g.st,h.ps.trans g.ps,h.vs.trans g.vs,h.ws.trans g.ws,h.ta.trans g.ta,h.ac.trans g.ac⟩
theorem GM.symm {s t:Sc} (h:GM s t):GM t s:=⟨h.st.symm,h.ps.symm,h.vs.symm,h.ws.symm,h.ta.symm,h.ac.symm⟩
theorem GM.fits {s t:Sc} (h:GM s t) {ts:List Th} {r u:Nat}:nJ ts r u s=nJ ts r u t:=by unfold nJ FH CP;rw[h.st,h.ps,h.vs,h.ws,h.ta,h.ac]
theorem GM.enc {s t:Sc} (h:GM s t):Pc s=Pc t:=by unfold Pc;rw[h.st,h.ps,h.vs,h.ws,h.ta,h.ac]
def W24:CW Tryz.f24:=⟨_,cX⟩
theorem bHg:Fi 24 W24:=cM Tryz.func24 W24
def W85:CW Tryz.f85:=⟨_,cX⟩
theorem bIm:Fi 85 W85:=cM Tryz.func85 W85
def W37:CW Tryz.f37:=⟨_,vF⟩
theorem bHn:Fi 37 W37:=cM Tryz.func37 W37
def W38:{x // KS Tryz.prog gv true Tryz.f38=some x}:=⟨_,vF⟩
theorem bHo:kM Tryz.prog gv true 38 W38.1:=jF Tryz.func38 (by kernel_rfl) W38.2
def W9:CW Tryz.f9:=⟨_,vF⟩
theorem is9:Fi 9 W9:=cM Tryz.func9 W9
theorem xZ {s:Sc} {n:Int} (hs:s.OK) (h0:0<=n) (hn:n<=s.st.length) (H:aA):Sg 24 [.agg s.cs,.int .i64 n] H (.ret (.bool (yS s.st n))) H:=by
 refine So bHg Zby ?_ H;unfold W24;dsimp only;by_cases hz:n=0
 . subst hz;simp only[↓zP,zJ,seval,Sc.cs];exact ZaQ
 have hl:=hs.bD;obtain⟨k,hk⟩:∃k:Nat,n -1=k:=⟨(n -1).toNat,by omega⟩;have tQ:k<s.st.length:=by omega
 have KM:s.sv=.bD 0 1 (bE s.st):=hs.st.bD (i:=k) (by rw[bZ];exact tQ);have hb:(n==0)=false:=Bq.2 hz;have hw:IntKind.i64.wrap (n -1)=(k:Int):=by rw[wrap_i64 (by omega) (by omega),hk]
 have hv:yS s.st n=s.st[k]:=by unfold yS;rw[hb,hk];simp[tQ]
 have hg:=xG tQ;simp only[↓zP,zJ,seval,Sc.cs,hb,hw,KM,aB,bZ,tQ,hg];refine Rx ?_;rw[hv];rfl
theorem fO.bB {v:AV} {sz:Nat} {bB:List (List AV)} (h:fO v sz bB) (H:aA):cK H sz v=some bB:=by rcases h with ⟨rfl,rfl⟩|rfl<;>simp[cK]
def ApP (H:aA) (sz bytes:Nat) (bB:List (List AV)) (v':AV) (H':aA):Prop:=dR H sz bytes true (.bD 1 sz []) bB=some (v',H')/\Lq H' H.next H'.next v' sz bB/\H.next<=H'.next/\∀j,j<H.next->H'.get j=H.get j
theorem QM {sz bytes:Nat} {bB:List (List AV)} (h:bB.length*bytes<=2^40) (H:aA):∃v' H',ApP H sz bytes bB v' H':=
 ⟨_,_,MH (tag:=0) h,aIt (.inr rfl),UJ _ _,fun j hj=>ZH _ _ hj⟩
theorem aAr {s:Sc} (hs:s.OK) (H:aA):
 ∃a b c d e f H',Sg 38 [.agg s.cs] H (.ret (.agg [a,b,c,d,e,f])) H'/\fU H' H.next H'.next a b c d e f s/\H.next<=H'.next/\∀j,j<H.next->H'.get j=H.get j:=by
 obtain⟨H0,uz⟩:∃H0:aA,H0=(H.alloc (.cells s.cs false)).alloc (.cells [.aO,.aO,.aO,.aO,.aO,.aO] false):=⟨_,rfl⟩;have n0:H0.next=H.next+2:=by subst uz;simp only[aA.aR]
 have g0:H0.get H.next=some (.cells s.cs false):=by subst uz;rw[aA.aG,if_neg Zaf,aA.aG,if_pos rfl]
 have t0:H0.get (H.next+1)=some (.cells [.aO,.aO,.aO,.aO,.aO,.aO] false):=by subst uz;rw[aA.aG,if_pos Zbo]
 have k0:∀j,j<H.next->H0.get j=H.get j:=fun j hj=>by subst uz;rw[aA.aG,if_neg Zaf,aA.aG,if_neg (by omega)]
 have bl:∀l:List Bool,l.length<2^30->(bE l).length*1<=2^40:=fun l h=>by rw[bZ];omega
 have rl:∀(l:List (List Int)) (b:Nat),b<=64->l.length<2^30->(aZ l).length*b<=2^40:=fun l b hb h=>by rw[aS];exact Cd (Bt (Nat.le_of_lt h) hb) (by decide)
 obtain⟨a,H1,c1,r1,n1,k1⟩:=QM (sz:=1) (bytes:=1) (bl _ hs.bD) H0;obtain⟨b,H2,c2,r2,n2,k2⟩:=QM (sz:=7) (bytes:=56) (rl _ _ (by decide) hs.lps) H1;obtain⟨c,H3,c3,r3,n3,k3⟩:=QM (sz:=3) (bytes:=24) (rl _ _ (by decide) hs.zc) H2;obtain⟨d,H4,c4,r4,n4,k4⟩:=QM (sz:=3) (bytes:=24) (rl _ _ (by decide) hs.zd) H3;obtain⟨e,H5,c5,r5,n5,k5⟩:=QM (sz:=1) (bytes:=1) (bl _ hs.lta) H4;obtain⟨f,H6,c6,r6,n6,k6⟩:=QM (sz:=1) (bytes:=1) (bl _ hs.lac) H5;have q1:H1.get H.next=some (.cells s.cs false):=(k1 _ (by omega)).trans g0;have q2:H2.get H.next=some (.cells s.cs false):=(k2 _ (by omega)).trans q1;have q3:H3.get H.next=some (.cells s.cs false):=(k3 _ (by omega)).trans q2;have q4:H4.get H.next=some (.cells s.cs false):=(k4 _ (by omega)).trans q3;have q5:H5.get H.next=some (.cells s.cs false):=(k5 _ (by omega)).trans q4
 have t6:H6.get (H.next+1)=some (.cells [.aO,.aO,.aO,.aO,.aO,.aO] false):=by rw[k6 _ (by omega),k5 _ (by omega),k4 _ (by omega),k3 _ (by omega),k2 _ (by omega),k1 _ (by omega)];exact t0
 refine⟨a,b,c,d,e,f,H6.set (H.next+1) (.cells [a,b,c,d,e,f] false),gH bHo (Ai rfl) ?_ (by rfl),?_,?_,?_⟩
 . unfold W38;dsimp only;refine bQ ?_;refine Ty ?_;refine bR ?_;rw[<-uz];refine bQ ?_;refine Dz ?_;obtain⟨a1,a2⟩:=r1.one;obtain⟨b1,b2⟩:=r2.one;obtain⟨d1,d2⟩:=r3.one;obtain⟨e1,e2⟩:=r4.one;obtain⟨i1,i2⟩:=r5.one;obtain⟨j1,j2⟩:=r6.one;simp only[↓zP,zJ,seval,zD,g0,q1,q2,q3,q4,q5,Sc.cs,hs.st.bB,hs.ps.bB,hs.vs.bB,hs.ws.bB,hs.ta.bB,hs.ac.bB,c1,c2,c3,c4,c5,c6,n1,n2,n3,n4,n5,n6,a1,a2,b1,b2,d1,d2,e1,e2,i1,i2,j1,j2,t6];refine bR ?_;refine Tx ?_;refine Rx ?_;exact ZaR
 . have st:∀j,H0.next<=j->(H6.set (H.next+1) (.cells [a,b,c,d,e,f] false)).get j=H6.get j:=fun j hj=>by rw[aA.aC,if_neg (by omega)]
   exact Zad
 . exact Za7
 intro j hj;rw[aA.aC,if_neg (by omega),k6 _ (by omega),k5 _ (by omega),k4 _ (by omega),k3 _ (by omega),k2 _ (by omega),k1 _ (by omega),k0 _ hj]
theorem NX (l:List AV):(List.drop 1 l).getD 0 aD=l.getD 1 aD:=by rcases l with _|⟨_,_|⟨_,_⟩⟩<;>rfl
theorem aBm {g r0 r1:Int} {ts:List Th} {rs us:List (List Int)} {tv rv uv:AV} {s:Sc} {n:Int} (mK:fO tv 14 (nD ts)) (mF:fO rv 8 (aZ rs)) (nF:fO uv 10 (aZ us)) (ht:∀t∈ts,t.OK) (hr:∀r∈rs,r.length=8) (hu:∀p∈us,p.length=10) (hs:s.OK)
 (hta:s.ta.length=rs.length) (hac:s.ac.length=us.length) (CV:rs.length<2^30) (Zs:us.length<2^30) (H:aA):
 Sg 85 [.agg (yC g r0 r1 tv rv uv),.agg s.cs,.int .i64 n] H (.ret (.bool (mP s rs us n))) H:=by
 refine So bIm (by simp only[yC,bO,AV.free,Sc.free hs,mK.free (fX ht),mF.free (bF _),nF.free (bF _)];rfl) ?_ H;unfold W85;dsimp only;have lr:=mF.len;have lu:=nF.len;simp only[dA] at lr lu;rw[aS] at lr lu;refine bQ ?_;simp only[↓zP,zJ,seval,yC,Sc.cs];refine bR ?_;generalize hX:((aA.mk 0 .nil).alloc _).alloc _=HA;have g0:HA.get 0=some (.cells [.int .i64 g,.int .i64 r0,.int .i64 r1,tv,rv,uv] false):=by subst hX;simp only[zI,seval]
 have g1:HA.get 1=some (.cells [s.sv,s.pv,s.vv,s.wv,s.tv,s.av] false):=by subst hX;simp only[zI,seval]
 clear hX;refine bV fun f dQ=>?_;have f2:f 2=.int .i64 n:=by subst dQ;exact rfl
 have f3:f 3=.ref 0 0:=by subst dQ;simp only[zB,seval]
 have f4:f 4=.ref 1 0:=by subst dQ;simp only[zB,seval]
 clear dQ;refine bQ ?_;refine Tz ?_;refine bP [] (fun i vs H'=>H'=HA/\∀k,k<i->wU s.ta rs n k=false) 0 rs.length (Az _) (by omega) (by decide) ?_ ?_ ?_ ?_ ?_
 . exact zq
 . exact⟨rfl,fun k hk=>absurd hk (Ap _)⟩
 . rintro i SL H1 h0 hi hk x1 ⟨rfl,_⟩;have u3:SL 3=.ref 0 0:=by rw[hk 3 rfl];simp only[zB,seval];exact f3
   simp only[↓zP,zJ,seval,x1,u3,g0,lr];exact Zae
 . rintro i fi H1 h0 hi hk x1 ⟨rfl,bU⟩;have u2:fi 2=.int .i64 n:=by rw[hk 2 rfl];simp only[zB,seval];exact f2
   have u3:fi 3=.ref 0 0:=(by rw[hk 3 rfl];simp only[zB,seval];exact f3);have u4:fi 4=.ref 1 0:=(by rw[hk 4 rfl];simp only[zB,seval];exact f4);have jQ:i<s.ta.length:=(by omega);have Pn:rv=.bD 0 8 (aZ rs):=mF.bD (i:=i) ZaD;have xQ:s.tv=.bD 0 1 (bE s.ta):=hs.ta.bD (i:=i) (by rw[bZ];exact jQ);have hg:=cN hi;have DN:=xG jQ;have h8:=hr _ (Ac hi);have KI:wU s.ta rs n i=(s.ta[i]&&(rs[i].getD 0 0==n||rs[i].getD 1 0==n)):=by unfold wU;simp[jQ,hi]
   have gV:wU s.ta rs n i=false->∀k,k<i+1->wU s.ta rs n k=false:=fun h k hk=>by
    exact ZaW
   have xR:wU s.ta rs n i=true->mP s rs us n=true:=fun h=>by unfold mP;rw[Bz.2 ⟨i,Ay.2 hi,h⟩];rfl
   rw[KI] at gV xR;generalize s.ta[i]=tb at *;generalize rs[i]=r at *;have sE:(iC r).length=8:=(by rw[cD,h8]);have a0:=eJ (l:=r) (i:=0) (by omega);have a1:=(NX (iC r)).trans (eJ (l:=r) (i:=1) (by omega));have d1:(List.drop 1 (iC r)).length=7:=(by rw[Fq,sE]);generalize hx:r.getD 0 0=x at *;generalize hz:r.getD 1 0=z at *;generalize eQ:(x==n)=b1 at *;generalize gJ:(z==n)=b2 at *;refine aJ ?_;cases tb
   . simp only[↓zP,zJ,seval,x1,u4,g1,xQ,aB,bZ,jQ,DN,gU];exact⟨trivial,gV rfl⟩
   cases b1;rotate_left
   . simp only[↓zP,zJ,seval,x1,u2,u3,u4,g0,g1,xQ,Pn,aB,bZ,aS,jQ,hi,DN,hg,sE,a0,eQ];refine Rx ?_;rw[xR rfl];rfl
   cases b2
   . simp only[↓zP,zJ,seval,x1,u2,u3,u4,g0,g1,xQ,Pn,aB,bZ,aS,jQ,hi,DN,hg,sE,d1,a0,a1,eQ,gJ];exact⟨trivial,gV rfl⟩
   simp only[↓zP,zJ,seval,x1,u2,u3,u4,g0,g1,xQ,Pn,aB,bZ,aS,jQ,hi,DN,hg,sE,d1,a0,a1,eQ,gJ];refine Rx ?_;rw[xR rfl];rfl
 rintro fi H1 hk ⟨rfl,ve⟩;have v2:fi 2=.int .i64 n:=by rw[hk 2 rfl];simp only[zB,seval];exact f2
 have v3:fi 3=.ref 0 0:=by rw[hk 3 rfl];simp only[zB,seval];exact f3
 have v4:fi 4=.ref 1 0:=by rw[hk 4 rfl];simp only[zB,seval];exact f4
 clear hk;refine Tx ?_;refine fF ?_;refine Tz ?_;refine bP [] (fun i vs H'=>H'=H1/\∀k,k<i->wS s.ac us n k=false) 0 us.length (Az _) (by omega) (by decide) ?_ ?_ ?_ ?_ ?_
 . exact zq
 . exact⟨rfl,fun k hk=>absurd hk (Ap _)⟩
 . rintro i SL H1 h0 hi hk x1 ⟨rfl,_⟩;have u3:SL 3=.ref 0 0:=by rw[hk 3 rfl];simp only[zB,seval];exact v3
   simp only[↓zP,zJ,seval,x1,u3,g0,lu];exact Zae
 . rintro i fi H1 h0 hi hk x1 ⟨rfl,bU⟩;have u2:fi 2=.int .i64 n:=by rw[hk 2 rfl];simp only[zB,seval];exact v2
   have u3:fi 3=.ref 0 0:=(by rw[hk 3 rfl];simp only[zB,seval];exact v3);have u4:fi 4=.ref 1 0:=(by rw[hk 4 rfl];simp only[zB,seval];exact v4);have jQ:i<s.ac.length:=(by omega);have Pn:uv=.bD 0 10 (aZ us):=nF.bD (i:=i) ZaD;have xQ:s.av=.bD 0 1 (bE s.ac):=hs.ac.bD (i:=i) (by rw[bZ];exact jQ);have hg:=cN hi;have DN:=xG jQ;have h8:=hu _ (Ac hi);have KI:wS s.ac us n i=(s.ac[i]&&us[i].getD 0 0==n):=by unfold wS;simp[jQ,hi]
   have gV:wS s.ac us n i=false->∀k,k<i+1->wS s.ac us n k=false:=fun h k hk=>by
    exact ZaW
   have xR:wS s.ac us n i=true->mP s rs us n=true:=fun h=>by unfold mP;rw[Bz.2 ⟨i,Ay.2 hi,h⟩,Gf]
   rw[KI] at gV xR;generalize s.ac[i]=tb at *;generalize us[i]=r at *;have sE:(iC r).length=10:=(by rw[cD,h8]);have a0:=eJ (l:=r) (i:=0) (by omega);generalize hx:r.getD 0 0=x at *;generalize eQ:(x==n)=b1 at *;refine aJ ?_;cases tb
   . simp only[↓zP,zJ,seval,x1,u4,g1,xQ,aB,bZ,jQ,DN];exact⟨trivial,gV rfl⟩
   cases b1
   . simp only[↓zP,zJ,seval,x1,u2,u3,u4,g0,g1,xQ,Pn,aB,bZ,aS,jQ,hi,DN,hg,sE,a0,eQ];exact⟨trivial,gV rfl⟩
   simp only[↓zP,zJ,seval,x1,u2,u3,u4,g0,g1,xQ,Pn,aB,bZ,aS,jQ,hi,DN,hg,sE,a0,eQ];refine Rx ?_;rw[xR rfl];rfl
 rintro fi H1 hk ⟨rfl,bU⟩
 have fS:mP s rs us n=false:=by unfold mP;rw[Cy,Da,Da];exact⟨fun k hk=>by rw[ve k (Ay.1 hk)];decide,fun k hk=>by rw[bU k (Ay.1 hk)];decide⟩
 refine Tx ?_;refine bR ?_;refine Tz ?_;refine Rx ?_;rw[fS];rfl
theorem nf {g r0 r1:Int} {ts:List Th} {rs us:List (List Int)} {tv rv uv pv:AV} {k n:Int} {qs:List (List Int)} {s:Sc} (hs:s.OK) (hy:YS ts rs us s) (mK:fO tv 14 (nD ts)) (mF:fO rv 8 (aZ rs)) (nF:fO uv 10 (aZ us))
 (wE:fO pv 7 (aZ qs)) (hq:∀q∈qs,q.length=7) (hc:lR ts.length rs.length us.length k n qs=0) (h7:k≠7) (h8:k≠8) (H:aA):
 Sg 37 [.agg (yC g r0 r1 tv rv uv),.agg s.cs,.agg (oC k n pv)] H (.ret (.int .i64 (jR ts rs us k n qs s))) H:=by
 refine So bHn (by simp only[yC,oC,bO,AV.free,Sc.free hs,mK.free (fX hy.ht),mF.free (bF _),nF.free (bF _),wE.free (bF _)];rfl) ?_ H;unfold W37;dsimp only;have ls:s.cs.length=6:=rfl;have l6:(yC g r0 r1 tv rv uv).length=6:=rfl;have e1:=hy.st;have e2:=hy.ps;have e5:=hy.ta;have e6:=hy.ac;have b1:=hy.xQ;have b2:=hy.CV;have b3:=hy.Zs;refine bQ ?_;refine Ty ?_;refine bR ?_;generalize hX:(((aA.mk 0 .nil).alloc _).alloc _).alloc _=HA;have g0:HA.get 0=some (.cells (yC g r0 r1 tv rv uv) false):=by subst hX;simp only[zI,seval]
 have g1:HA.get 1=some (.cells s.cs false):=by subst hX;simp only[zI,seval]
 have g2:HA.get 2=some (.cells (oC k n pv) false):=by subst hX;simp only[zI,seval]
 clear hX;refine bV fun f dQ=>?_;have f3:f 3=.ref 0 0:=by subst dQ;simp only[zB,seval]
 have f4:f 4=.ref 1 0:=by subst dQ;simp only[zB,seval]
 have f5:f 5=.ref 2 0:=by subst dQ;simp only[zB,seval]
 clear dQ;have o0:(oC k n pv).getD 0 aD=.int .i64 k:=rfl;have o1:(oC k n pv).getD 1 aD=.int .i64 n:=rfl;have o2:(oC k n pv).getD 2 aD=pv:=rfl;have lo:(oC k n pv).length=3:=rfl;have y3:(yC g r0 r1 tv rv uv).getD 3 aD=tv:=rfl;have y4:(yC g r0 r1 tv rv uv).getD 4 aD=rv:=rfl;have y5:(yC g r0 r1 tv rv uv).getD 5 aD=uv:=rfl;have s0:s.cs.getD 0 aD=s.sv:=rfl;have s1:s.cs.getD 1 aD=s.pv:=rfl;have s4:s.cs.getD 4 aD=s.tv:=rfl;have s5:s.cs.getD 5 aD=s.av:=rfl;refine bQ ?_;simp only[↓zP,zJ,seval,f5,g2,lo,o1];refine bR ?_;refine bV fun f' dQ=>?_;have w3:=Ks dQ f3;have w4:=Ks dQ f4;have w5:=Ks dQ f5;have w7:f' 7=.int .i64 n:=by subst dQ;simp only[zB,seval]
 clear dQ f3 f4 f5 f;have z0:asNat (.int .i64 0)=some 0:=rfl;have fin:∀{x:Int},jR ts rs us k n qs s=x->Out.ret (.int .i64 x)=Out.ret (.int .i64 (jR ts rs us k n qs s)):=fun h=>by rw[h]
 rcases uZ hc with ⟨hk,n1,n2,q1,q2⟩|⟨hk,n1,n2⟩|⟨hk,n1,n2⟩|hk|hk
 . have S1:=xZ hs (n:=n) (by omega) (by omega);obtain⟨m,hm⟩:∃m:Nat,n -1=m:=⟨(n -1).toNat,by omega⟩;have Zv:IntKind.i64.wrap (n -1)=(m:Int):=by rw[wrap_i64 (by omega) (by omega),hm]
   have hmt:(n -1).toNat=m:=by omega
   rcases hk with rfl|rfl
   . refine aN fun K hK=>?_;cases hb:yS s.st n
     . rw[hb] at S1;simp only[↓zP,zJ,seval,w4,w5,w7,g1,g2,lo,o0,oL ls];refine bY (S1 _) ?_;simp only[↓zP,zJ,seval,w5,g2,lo,o0];apply hK;clear hK K;refine bQ ?_;simp only[↓zP,zJ,seval,w5,g2,lo,o0];refine fF ?_;refine bQ ?_;refine Dz ?_;simp only[↓zP,zJ,seval,zD,w5,g2,lo,o0,gU];refine bR ?_;refine Tz ?_;refine fF ?_;refine bQ ?_;refine Dz ?_;simp only[↓zP,zJ,seval,zD,w5,g2,lo,o0,gU];refine bR ?_;refine Tz ?_;refine bR ?_;refine Tz ?_;refine Rx ?_;exact fin (by simp[jR,hb])
     rw[hb] at S1;simp only[↓zP,zJ,seval,w4,w5,w7,g1,g2,lo,o0,oL ls];refine bY (S1 _) ?_;simp only[↓zP,zG,seval,gU];refine Rx ?_;exact fin (by simp[jR,hb])
   refine bQ ?_;cases hb:yS s.st n
   . rw[hb] at S1;simp only[↓zP,zJ,seval,w4,w5,w7,g1,g2,lo,o0,oL ls];refine bY (S1 _) ?_;refine Ty ?_;refine Rx ?_;exact fin (by simp[jR,hb])
   rw[hb] at S1;simp only[↓zP,zJ,seval,w4,w5,w7,g1,g2,lo,o0,oL ls];refine bY (S1 _) ?_;refine Ty ?_;refine bR ?_;have jQ:m<ts.length:=(by omega);have EY:m<s.ps.length:=(by omega);have MM:0<qs.length:=(by omega);have t3:=y3.trans (mK.bD (i:=m) (by rw[dJ];exact jQ));have t1:=s1.trans (hs.ps.bD (i:=m) (by rw[aS];exact EY));have t2:=o2.trans (wE.bD (i:=0) (by rw[aS];exact MM));have DN:=mN jQ;have jv:=cN EY;have Zl:=cN MM;have MQ:=Th.len (hy.ht _ (Ac jQ));have hk0:ts[m].cs.getD 0 aD=.int .i64 ts[m].kind:=rfl;have xo:=(hs.p7 _ (Ac EY)).1;have xu:=hq _ (Ac MM);have hlp:(iC s.ps[m]).length=7:=(by rw[cD,xo]);have hlq:(iC qs[0]).length=7:=(by rw[cD,xu]);have Xh:cL [.i,.i,.i,.i,.i,.i,.i] (iC qs[0]) (iC s.ps[m])=some (decide (qs[0]=s.ps[m])):=sJ (n:=7) xu xo;have S3:=aBm (g:=g) (r0:=r0) (r1:=r1) (n:=n) mK mF nF hy.ht hy.hr hy.hu hs e5 e6 b2 b3
   have E:jR ts rs us 2 n qs s=if(ts[m].kind != 2)=true then 7 else if ¬qs[0]=s.ps[m] then 1 else if mP s rs us n=true then 4 else 0:=by unfold jR;rw[hb,hmt,show(ts.map (·.kind)).getD m 0=ts[m].kind by simp[jQ],show qs.getD 0 []=qs[0] by simp[MM],show s.ps.getD m []=s.ps[m] by simp[EY]];simp
   refine bQ ?_;generalize gJ:(ts[m].kind != 2)=b2' at *;cases b2';rotate_left
   . simp only[↓zP,zJ,seval,w3,w5,w7,g0,g2,lo,o0,l6,t3,Zv,aB,dJ,jQ,DN,MQ,hk0,gJ];refine Rx ?_;exact fin (by rw[E];rfl)
   simp only[↓zP,zJ,seval,w3,w5,w7,g0,g2,lo,o0,l6,t3,Zv,aB,dJ,jQ,DN,MQ,hk0,gJ];refine Dz ?_;by_cases hqp:qs[0]=s.ps[m];rotate_left
   . rw[Ag hqp] at Xh;simp only[↓zP,zJ,seval,zD,w4,w5,w7,g1,g2,lo,ls,t1,t2,z0,Zv,aB,aS,EY,MM,jv,Zl,oL hlp,oL hlq,Xh];refine Rx ?_;exact fin (by rw[E,if_neg (by decide),if_pos hqp])
   rw[Aj hqp] at Xh;simp only[↓zP,zJ,seval,zD,w4,w5,w7,g1,g2,lo,ls,t1,t2,z0,Zv,aB,aS,EY,MM,jv,Zl,oL hlp,oL hlq,Xh];simp only[zJ,seval,w3,g0,g1,oL l6,oL ls];refine bY (S3 _) ?_;cases hu:mP s rs us n;rotate_left
   . refine Tz ?_;refine Rx ?_;exact fin (by rw[E,if_neg (by decide),if_neg (not_not_intro hqp),hu];rfl)
   refine Tz ?_;refine fF ?_;refine bQ ?_;refine Dz ?_;simp only[↓zP,zJ,seval,zD,w5,g2,lo,o0,gU];refine bR ?_;refine Tz ?_;refine fF ?_;refine bQ ?_;refine Dz ?_;simp only[↓zP,zJ,seval,zD,w5,g2,lo,o0,gU];refine bR ?_;refine Tz ?_;refine bR ?_;refine Tz ?_;refine Rx ?_;exact fin (by rw[E,if_neg (by decide),if_neg (not_not_intro hqp),hu];rfl)
 . obtain⟨m,hm⟩:∃m:Nat,n=m:=⟨n.toNat,by omega⟩;subst hm;have hi:m<rs.length:=by omega
   have jQ:m<s.ta.length:=(by omega);have t4:=s4.trans (hs.ta.bD (i:=m) (by rw[bZ];exact jQ));have DN:=xG jQ
   rcases hk with rfl|rfl
   . have t5:=y4.trans (mF.bD (i:=m) ZaD);have hg:=cN hi;have sE:(iC rs[m]).length=8:=(by rw[cD,hy.hr _ (Ac hi)]);have a0:=eJ (l:=rs[m]) (i:=0) (by rw[hy.hr _ (Ac hi)];decide);have a1:=(NX (iC rs[m])).trans (eJ (l:=rs[m]) (i:=1) (by rw[hy.hr _ (Ac hi)];decide));have d1:(List.drop 1 (iC rs[m])).length=7:=(by rw[Fq,sE]);obtain⟨hA,hB⟩:=hy.aBc _ (Ac hi);have S1:=xZ hs (n:=rs[m].getD 0 0) hA.1 (by omega);have S2:=xZ hs (n:=rs[m].getD 1 0) hB.1 (by omega)
     have E:jR ts rs us 3 m qs s=if(s.ta[m]||(!yS s.st (rs[m].getD 0 0)|| !yS s.st (rs[m].getD 1 0)))=true then 4 else 0:=by unfold jR;rw[Dr,show s.ta.getD m false=s.ta[m] by simp[jQ],show rs.getD m []=rs[m] by simp[hi]];simp
     refine bQ ?_;simp only[↓zP,zJ,seval,w5,g2,lo,o0];refine fF ?_;simp only[↓zP,zJ,seval,w5,g2,lo,o0];refine fF ?_;refine aN fun K2 bW=>?_;refine Dz ?_;generalize rs[m].getD 0 0=x at *;generalize rs[m].getD 1 0=z at *;generalize yS s.st x=b1 at *;generalize yS s.st z=b2 at *;generalize s.ta[m]=tb at *;cases tb;rotate_left
     . exact Zao
     cases b1
     . simp only[↓zP,zJ,seval,zD,w3,w4,w5,w7,g0,g1,g2,lo,o0,ls,oL ls,l6,t4,t5,aB,bZ,aS,jQ,hi,DN,hg,sE,a0];refine fP (S1 _) ?_;simp only[↓zP,zJ,seval,zD,gU];apply bW;clear bW K2;exact Zay
     simp only[↓zP,zJ,seval,zD,w3,w4,w5,w7,g0,g1,g2,lo,o0,ls,oL ls,l6,t4,t5,aB,bZ,aS,jQ,hi,DN,hg,sE,a0];refine fP (S1 _) ?_;simp only[↓zP,zJ,seval,zD,w3,w4,w7,g0,g1,ls,oL ls,l6,t5,aB,aS,hi,hg,d1,a1];refine fP (S2 _) ?_;cases b2
     . simp only[↓zP,zJ,seval,zD,gU];apply bW;clear bW K2;exact Zay
     simp only[↓zP,zJ,seval,zD,w5,g2,lo,o0];apply bW;clear bW K2;refine Tz ?_;refine fF ?_;refine bQ ?_;refine Dz ?_;simp only[↓zP,zJ,seval,zD,w5,g2,lo,o0,gU];refine bR ?_;refine Tz ?_;refine bR ?_;exact Zay
   have E:jR ts rs us 4 m qs s=if s.ta[m]=true then 0 else 4:=by unfold jR;rw[Dr,show s.ta.getD m false=s.ta[m] by simp[jQ]];cases s.ta[m]<;>simp
   refine bQ ?_;simp only[↓zP,zJ,seval,w5,g2,lo,o0];refine fF ?_;simp only[↓zP,zJ,seval,w5,g2,lo,o0];refine fF ?_;refine aN fun K2 bW=>?_;refine Dz ?_;generalize s.ta[m]=tb at *;cases tb
   . exact Zao
   simp only[↓zP,zJ,seval,zD,w4,w5,w7,g1,g2,lo,o0,ls,t4,aB,bZ,jQ,DN,gU];apply bW;clear bW K2;refine Tz ?_;refine fF ?_;refine bQ ?_;refine Dz ?_;simp only[↓zP,zJ,seval,zD,w5,g2,lo,o0,gU];refine bR ?_;refine Tz ?_;refine bR ?_;exact Zay
 . obtain⟨m,hm⟩:∃m:Nat,n=m:=⟨n.toNat,by omega⟩;subst hm;have hi:m<us.length:=by omega
   have jQ:m<s.ac.length:=(by omega);have t4:=s5.trans (hs.ac.bD (i:=m) (by rw[bZ];exact jQ));have DN:=xG jQ
   rcases hk with rfl|rfl
   . have t5:=y5.trans (nF.bD (i:=m) ZaD);have hg:=cN hi;have sE:(iC us[m]).length=10:=(by rw[cD,hy.hu _ (Ac hi)]);have a0:=eJ (l:=us[m]) (i:=0) (by rw[hy.hu _ (Ac hi)];decide);have hA:=hy.push _ (Ac hi);have S1:=xZ hs (n:=us[m].getD 0 0) hA.1 (by omega)
     have E:jR ts rs us 5 m qs s=if(s.ac[m]|| !yS s.st (us[m].getD 0 0))=true then 4 else 0:=by unfold jR;rw[Dr,show s.ac.getD m false=s.ac[m] by simp[jQ],show us.getD m []=us[m] by simp[hi]];simp
     refine bQ ?_;simp only[↓zP,zJ,seval,w5,g2,lo,o0];refine fF ?_;simp only[↓zP,zJ,seval,w5,g2,lo,o0];refine fF ?_;refine bQ ?_;refine Dz ?_;simp only[↓zP,zJ,seval,zD,w5,g2,lo,o0,gU];refine bR ?_;refine Tz ?_;refine fF ?_;refine aN fun K2 bW=>?_;refine Dz ?_;generalize us[m].getD 0 0=x at *;generalize yS s.st x=b1 at *;generalize s.ac[m]=tb at *;cases tb;rotate_left
     . exact Zao
     simp only[↓zP,zJ,seval,zD,w3,w4,w5,w7,g0,g1,g2,lo,o0,ls,oL ls,l6,t4,t5,aB,bZ,aS,jQ,hi,DN,hg,sE,a0];refine fP (S1 _) ?_;cases b1
     . simp only[↓zP,zJ,seval,zD,gU];apply bW;clear bW K2;exact Zay
     simp only[↓zP,zJ,seval,zD,w5,g2,lo,o0];apply bW;clear bW K2;refine Tz ?_;refine bR ?_;exact Zay
   have E:jR ts rs us 6 m qs s=if s.ac[m]=true then 0 else 4:=by unfold jR;rw[Dr,show s.ac.getD m false=s.ac[m] by simp[jQ]];cases s.ac[m]<;>simp
   refine bQ ?_;simp only[↓zP,zJ,seval,w5,g2,lo,o0];refine fF ?_;simp only[↓zP,zJ,seval,w5,g2,lo,o0];refine fF ?_;refine bQ ?_;refine Dz ?_;simp only[↓zP,zJ,seval,zD,w5,g2,lo,o0,gU];refine bR ?_;refine Tz ?_;refine fF ?_;refine aN fun K2 bW=>?_;refine Dz ?_;generalize s.ac[m]=tb at *;cases tb
   . exact Zao
   simp only[↓zP,zJ,seval,zD,w4,w5,w7,g1,g2,lo,o0,ls,t4,aB,bZ,jQ,DN,gU];apply bW;clear bW K2;refine Tz ?_;refine bR ?_;exact Zay
 . exact absurd hk h7
 exact absurd hk h8
theorem kl {ts:List Th} {rs us:List (List Int)} {k n:Int} {qs:List (List Int)} {s t:Sc} (h:GM s t):(CY ts rs us k n qs s).1=(CY ts rs us k n qs t).1/\GM (CY ts rs us k n qs s).2 (CY ts rs us k n qs t).2:=by
 obtain⟨a1,a2,a3,a4,a5,a6,st,ps,vs,ws,ta,ac⟩:=s;obtain⟨b1,b2,b3,b4,b5,b6,st',ps',WZ,ws',ta',ac'⟩:=t;obtain⟨h1,h2,h3,h4,h5,h6⟩:=h;dsimp only at h1 h2 h3 h4 h5 h6;subst h1 h2 h3 h4 h5 h6;have rf:∀{c1 c2 c3 c4 c5 c6 e1 e2 e3 e4 e5 e6:AV} {x1 x5 x6:List Bool} {x2 x3 x4:List (List Int)},GM ⟨c1,c2,c3,c4,c5,c6,x1,x2,x3,x4,x5,x6⟩ ⟨e1,e2,e3,e4,e5,e6,x1,x2,x3,x4,x5,x6⟩:=⟨rfl,rfl,rfl,rfl,rfl,rfl⟩;unfold CY;by_cases k1:k=1
 . simp only[k1,if_true];cases st.getD (n.toNat -1) false<;>exact⟨rfl,rf⟩
 simp only[k1,Bp];by_cases k2:k=2
 . simp only[k2,if_true];refine⟨rfl,?_⟩;by_cases hr:Px ⟨a1,a2,a3,a4,a5,a6,st,ps,vs,ws,ta,ac⟩ ts rs us (qs.getD 0 []) (n.toNat -1)=0
   . rw[if_pos hr,if_pos (show Px ⟨b1,b2,b3,b4,b5,b6,st,ps,vs,ws,ta,ac⟩ ts rs us (qs.getD 0 []) (n.toNat -1)=0 from hr)];exact rf
   rw[if_neg hr,if_neg (show ¬Px ⟨b1,b2,b3,b4,b5,b6,st,ps,vs,ws,ta,ac⟩ ts rs us (qs.getD 0 []) (n.toNat -1)=0 from hr)];exact rf
 simp only[k2,Bp];by_cases k3:k=3
 . simp only[k3,if_true];rw[show PE ⟨b1,b2,b3,b4,b5,b6,st,ps,vs,ws,ta,ac⟩ (rs.getD n.toNat []) n.toNat=PE ⟨a1,a2,a3,a4,a5,a6,st,ps,vs,ws,ta,ac⟩ (rs.getD n.toNat []) n.toNat from rfl];cases PE ⟨a1,a2,a3,a4,a5,a6,st,ps,vs,ws,ta,ac⟩ (rs.getD n.toNat []) n.toNat<;>exact⟨rfl,rf⟩
 simp only[k3,Bp];by_cases k4:k=4
 . simp only[k4,if_true];cases ta.getD n.toNat false<;>exact⟨rfl,rf⟩
 simp only[k4,Bp];by_cases k5:k=5
 . simp only[k5,if_true];rw[show Mx ⟨b1,b2,b3,b4,b5,b6,st,ps,vs,ws,ta,ac⟩ (us.getD n.toNat []) n.toNat=Mx ⟨a1,a2,a3,a4,a5,a6,st,ps,vs,ws,ta,ac⟩ (us.getD n.toNat []) n.toNat from rfl];cases Mx ⟨a1,a2,a3,a4,a5,a6,st,ps,vs,ws,ta,ac⟩ (us.getD n.toNat []) n.toNat<;>exact⟨rfl,rf⟩
 simp only[k5,Bp];cases ac.getD n.toNat false<;>exact⟨rfl,rf⟩
theorem GM.rest {s t:Sc} (h:GM s t):lZ s=lZ t:=by unfold lZ;rw[h.vs,h.ws]
theorem Wq {ts:List Th} {rs us:List (List Int)} {k n:Int} {qs:List (List Int)} {s t:Sc} (h:GM s t):(vT ts rs us k n qs s).1=(vT ts rs us k n qs t).1/\GM (vT ts rs us k n qs s).2 (vT ts rs us k n qs t).2:=by
 have h1:=kl (ts:=ts) (rs:=rs) (us:=us) (k:=k) (n:=n) (qs:=qs) h;unfold vT;rw[<-h.rest,<-h1.1];by_cases c1:lR ts.length rs.length us.length k n qs≠0
 . rw[if_pos c1,if_pos c1];exact⟨rfl,h⟩
 rw[if_neg c1,if_neg c1];by_cases c2:k=7\/k=8
 . rw[if_pos c2,if_pos c2];exact⟨rfl,h⟩
 rw[if_neg c2,if_neg c2];by_cases c3:lZ s=false
 . rw[if_pos c3,if_pos c3];exact⟨rfl,h⟩
 rw[if_neg c3,if_neg c3];by_cases c4:(CY ts rs us k n qs s).1≠0
 . rw[if_pos c4,if_pos c4];exact⟨rfl,h⟩
 rw[if_neg c4,if_neg c4];exact h1
theorem GM.mh (s:Sc):GM s s:=⟨rfl,rfl,rfl,rfl,rfl,rfl⟩
theorem ru {ts:List Th} {rs us:List (List Int)} {k n:Int} {qs:List (List Int)} {s:Sc} (h:(vT ts rs us k n qs s).1≠0):(vT ts rs us k n qs s).2=s:=by
 revert h;unfold vT;split
 . exact fun _=>rfl
 split
 . exact fun _=>rfl
 split
 . exact fun _=>rfl
 split
 . exact fun _=>rfl
 rename_i h;intro h2;exact absurd h2 h
theorem RV (k n:Int) {pv:AV} (hpf:pv.free=true) (H:aA):Sg 84 [.agg (oC k n pv)] H (.ret (.bool (TD k))) H:=by
 refine So bIl (by simp only[oC,sf,hpf]) ?_ H;unfold W84;dsimp only;have Zo:TD k=(k==1||k==2):=rfl;rw[Zo];generalize JK:(k==1)=q1 at *;generalize Sb:(k==2)=q2 at *;cases q1
 . simp only[↓zP,zJ,seval,oC,JK,Sb];exact ZaQ
 simp only[↓zP,zJ,seval,oC,JK];exact ZaQ
def wQ (nT nR nP k n:Int):Bool:=match yU k nT nR nP with
 |some (lo,hi)=>decide (lo<=n/\n<=hi)
 |none=>false
theorem aBa {g r0 r1:Int} {ts:List Th} {rs us:List (List Int)} {tv rv uv pv:AV} {k n:Int} (mK:fO tv 14 (nD ts)) (mF:fO rv 8 (aZ rs)) (nF:fO uv 10 (aZ us)) (hpf:pv.free=true) (ht:∀t∈ts,t.OK)
 (hk:1<=k/\k<=8) (H:aA):
 Sg 83 [.agg (yC g r0 r1 tv rv uv),.agg (oC k n pv)] H (.ret (.bool (wQ ts.length rs.length us.length k n))) H:=by
 refine So bIk (by simp only[yC,oC,sf,mK.free (fX ht),mF.free (bF _),nF.free (bF _),hpf]) ?_ H;unfold W83;dsimp only;have lt:=mK.len;have lr:=mF.len;have lu:=nF.len;simp only[dA] at lt lr lu;rw[dJ] at lt;rw[aS] at lr lu;have FZ:=RV k n hpf;unfold oC at FZ;generalize hnT:(ts.length:Int)=nT at *;generalize hnR:(rs.length:Int)=nR at *;generalize hnU:(us.length:Int)=nU at *;refine bQ ?_;simp only[↓zP,zJ,seval,yC,oC];refine bR ?_;generalize hX:((aA.mk 0 .nil).alloc _).alloc _=HA;have g0:HA.get 0=some (.cells [.int .i64 g,.int .i64 r0,.int .i64 r1,tv,rv,uv] false):=by subst hX;simp only[zI,seval]
 have g1:HA.get 1=some (.cells [.int .i64 k,.int .i64 n,pv] false):=by subst hX;simp only[zI,seval]
 clear hX;refine bV fun f dQ=>?_;have f2:f 2=.ref 0 0:=by subst dQ;simp only[zB,seval]
 have f3:f 3=.ref 1 0:=by subst dQ;simp only[zB,seval]
 clear dQ;have hk8:k=1\/k=2\/k=3\/k=4\/k=5\/k=6\/k=7\/k=8:=by omega
 have l3:∀a b c:AV,3<=[a,b,c].length:=fun _ _ _=>by simp
 rcases hk8 with rfl|rfl|rfl|rfl|rfl|rfl|rfl|rfl
 . have hN:wQ nT nR nU 1 n=(decide (n≥1)&&decide (n<=nT)):=by rw[Ci];simp[wQ,yU]
   rw[show TD 1=true from rfl] at FZ;exact ZaG
 . have hN:wQ nT nR nU 2 n=(decide (n≥1)&&decide (n<=nT)):=by rw[Ci];simp[wQ,yU]
   rw[show TD 2=true from rfl] at FZ;exact ZaG
 . have hN:wQ nT nR nU 3 n=(decide (n≥0)&&decide (n<nR)):=by rw[Ci];simp[wQ,yU];omega
   rw[show TD 3=false from rfl] at FZ;exact ZaA
 . have hN:wQ nT nR nU 4 n=(decide (n≥0)&&decide (n<nR)):=by rw[Ci];simp[wQ,yU];omega
   rw[show TD 4=false from rfl] at FZ;exact ZaA
 . have hN:wQ nT nR nU 5 n=(decide (n≥0)&&decide (n<nU)):=by rw[Ci];simp[wQ,yU];omega
   rw[show TD 5=false from rfl] at FZ;exact Zau
 . have hN:wQ nT nR nU 6 n=(decide (n≥0)&&decide (n<nU)):=by rw[Ci];simp[wQ,yU];omega
   rw[show TD 6=false from rfl] at FZ;exact Zau
 . have hN:wQ nT nR nU 7 n=(n==0):=by rw[Ci];simp[wQ,yU];omega
   rw[show TD 7=false from rfl] at FZ;refine bQ ?_;simp only[↓zP,zJ,seval,f3,g1];refine bY (FZ _) ?_;refine Tz ?_;refine fF ?_;simp only[↓zP,zJ,seval,f3,g1];refine fF ?_;simp only[↓zP,zJ,seval,f3,g1];refine bR ?_;refine aN fun K hK=>?_;simp only[↓zP,zJ,seval,f3,g1];refine Rx ?_;rw[hN];rfl
 have hN:wQ nT nR nU 8 n=(decide (n≥1)&&decide (n<=10000)):=by rw[Ci];simp[wQ,yU]
 rw[show TD 8=false from rfl] at FZ;refine bQ ?_;simp only[↓zP,zJ,seval,f3,g1];refine bY (FZ _) ?_;refine Tz ?_;refine fF ?_;simp only[↓zP,zJ,seval,f3,g1];refine fF ?_;simp only[↓zP,zJ,seval,f3,g1];refine fF ?_;simp only[↓zP,zJ,seval,f3,g1];refine bR ?_;generalize eQ:decide (n≥1)=b1 at *;generalize gJ:decide (n<=10000)=b2 at *;cases b1<;>
 . simp only[↓zP,zJ,seval,f3,g1,eQ,gJ];refine Rx ?_;rw[hN];rfl
theorem aAq {g r0 r1:Int} {ts:List Th} {rs us ps:List (List Int)} {tv rv uv pv:AV} {k n:Int} (mK:fO tv 14 (nD ts)) (mF:fO rv 8 (aZ rs)) (nF:fO uv 10 (aZ us)) (wE:fO pv 7 (aZ ps)) (ht:∀t∈ts,t.OK)
 (hp:∀p∈ps,p.length=7) (nS:ps.length<2^63) (H:aA):
 Sg 35 [.agg (yC g r0 r1 tv rv uv),.agg (oC k n pv)] H (.ret (.int .i64 (lR ts.length rs.length us.length k n ps))) H:=by
 have hpf:=wE.free (bF _);refine So bHl (by simp only[yC,oC,sf,mK.free (fX ht),mF.free (bF _),nF.free (bF _),hpf]) ?_ H;unfold W35;dsimp only;have fS:=fun h=>aBa (g:=g) (r0:=r0) (r1:=r1) (k:=k) (n:=n) mK mF nF hpf ht h;have FZ:=RV k n hpf;have lp:=wE.len;simp only[dA] at lp;rw[aS] at lp
 have qG:¬(1<=k/\k<=8)->lR ts.length rs.length us.length k n ps=1:=fun h=>by
  have :yU k ts.length rs.length us.length=none:=by unfold yU;rw[if_neg (by omega),if_neg (by omega),if_neg (by omega),if_neg (by omega),if_neg (by omega)]
  unfold lR;rw[this]
 have gT:(1<=k/\k<=8)->lR ts.length rs.length us.length k n ps=if wQ ts.length rs.length us.length k n=false then 1 else if(List.range ps.length).any (mO ps) then 1 else if Sz k ps.length then 2 else 0:=fun h=>by
  unfold lR wQ
  cases hl:yU k ts.length rs.length us.length with
  |none=>
   unfold yU at hl;exfalso
   repeat' split at hl
   all_goals first|omega|cases hl
  |some p=>
   obtain⟨lo,hi⟩:=p;simp only[Dm,Bd,Bh];by_cases hh:n<lo\/n>hi
   . rw[if_pos hh,if_pos (by omega)]
   simp only[if_neg hh,if_neg (show ¬¬(lo<=n/\n<=hi) from fun h=>h (by omega))]
 unfold yC oC at fS;unfold oC at FZ;generalize wQ ts.length rs.length us.length k n=nb at *;generalize hR:lR ts.length rs.length us.length k n ps=R at *;refine bQ ?_;simp only[↓zP,zJ,seval,yC,oC];refine bR ?_;generalize hX:((aA.mk 0 .nil).alloc _).alloc _=HA;have g0:HA.get 0=some (.cells [.int .i64 g,.int .i64 r0,.int .i64 r1,tv,rv,uv] false):=by subst hX;simp only[zI,seval]
 have g1:HA.get 1=some (.cells [.int .i64 k,.int .i64 n,pv] false):=by subst hX;simp only[zI,seval]
 clear hX;refine bV fun f dQ=>?_;have f2:f 2=.ref 0 0:=by subst dQ;simp only[zB,seval]
 have f3:f 3=.ref 1 0:=by subst dQ;simp only[zB,seval]
 clear dQ;refine aN fun K hK=>?_;generalize eQ:decide (k<1)=b1 at *;generalize gJ:decide (k>8)=b2 at *;cases b1;rotate_left
 . simp only[↓zP,zJ,seval,f3,g1,eQ];refine Rx ?_;have :=Cu eQ;rw[qG (by omega)];rfl
 cases b2;rotate_left
 . simp only[↓zP,zJ,seval,f3,g1,eQ,gJ];refine Rx ?_;have :=Cu gJ;rw[qG (by omega)];rfl
 have hk8:1<=k/\k<=8:=by have :=Dn eQ;have :=Dn gJ;omega
 have gT:=gT hk8;have fS:=fS hk8;clear qG;have l6:∀a b c d e f:AV,6<=[a,b,c,d,e,f].length:=fun _ _ _ _ _ _=>by simp
 have l3:∀a b c:AV,3<=[a,b,c].length:=fun _ _ _=>by simp
 simp only[↓zP,zJ,seval,f2,f3,g0,g1,eQ,gJ];refine bY (fS _) ?_;cases nb
 . refine Ty ?_;refine Rx ?_;rw[gT];rfl
 rw[if_neg (by decide)] at gT;refine Ty ?_;apply hK;clear hK K eQ gJ;refine aN fun K hK=>?_;refine Tz ?_;refine bP [] (fun i vs H'=>H'=HA/\∀j,j<i->mO ps j=false) 0 ps.length (Az _) (by omega) (by decide) ?_ ?_ ?_ ?_ ?_
 . exact zq
 . exact⟨rfl,fun j hj=>absurd hj (Ap _)⟩
 . rintro i f4 H1 h0 hi hk e1 ⟨rfl,_⟩;have u3:f4 3=.ref 1 0:=by rw[hk 3 rfl];simp only[zB,seval];exact f3
   simp only[↓zP,zJ,seval,e1,u3,g1,lp];exact Zae
 . rintro i f4 H1 h0 hi hk e1 ⟨rfl,bU⟩;have u3:f4 3=.ref 1 0:=by rw[hk 3 rfl];simp only[zB,seval];exact f3
   have aWc:pv=.bD 0 7 (aZ ps):=wE.bD (i:=i) ZaD;have hg:=cN hi;have hg':0<i->(aZ ps).getD (i -1) []=iC ps[i -1]:=fun _=>cN (by omega);have h7:=hp _ (Ac hi);have xp:=Ra h7
   have gV:mO ps i=false->∀j,j<i+1->mO ps j=false:=fun h j hj=>by
    by_cases e:j=i
    . subst e;exact h
    exact bU j (by omega)
   have fS:mO ps i=true->R=1:=fun h=>by rw[gT,if_pos (ND hi h)]
   have KI:mO ps i=(hU ps[i] != 0||(decide (0<i)&&decide (ps[i]=ps.getD (i -1) []))):=(by unfold mO;rw[show ps.getD i []=ps[i] from by simp[hi]]);have HP:0<i->ps.getD (i -1) []=ps[i -1]:=fun h0=>by simp[show i -1<ps.length from by omega]
   have h7':0<i->ps[i -1].length=7:=fun _=>hp _ (Ac (by omega));have Tg:(iC ps[i]).length=7:=(by rw[cD,h7]);rw[KI] at gV fS;refine aJ ?_;refine aN fun K2 bW=>?_;refine Dz ?_;simp only[↓zP,zJ,seval,zD,e1,u3,g1,aWc,aB,aS,hi,hg,oL Tg];refine fP (xp _) ?_
   cases eQ:(hU ps[i] != 0) with
   |true=>rw[eQ] at fS;simp only[↓zP,zJ,seval,zD,eQ,gU];apply bW;clear bW K2;refine Tz ?_;refine Rx ?_;rw[fS rfl];rfl
   |false=>
    rw[eQ] at fS gV;by_cases h0:0<i
    . have d0:=Aj (show(i:Int)>0 by omega);have hwi:IntKind.i64.wrap ((i:Int) -1)=((i -1:Nat):Int):=wI (by omega);have DO:i -1<ps.length:=(by omega);have Zh:cL [.i,.i,.i,.i,.i,.i,.i] (iC ps[i]) (iC ps[i -1])=some (decide (ps[i]=ps[i -1])):=sJ (n:=7) h7 (h7' h0);have aSm:(iC ps[i -1]).length=7:=(by rw[cD,h7' h0]);rw[Aj h0,HP h0] at fS gV;simp only[↓zP,zJ,seval,zD,eQ,d0,e1,u3,g1,aWc,hwi,aB,aS,hi,DO,hg,hg' h0,oL Tg,oL aSm,Zh];apply bW;clear bW K2
      cases gJ:decide (ps[i]=ps[i -1]) with
      |true=>rw[gJ] at fS;refine Tz ?_;refine Rx ?_;rw[fS rfl];rfl
      |false=>rw[gJ] at gV;refine Tz ?_;exact⟨trivial,gV rfl⟩
    have d0:=Ag (show ¬(i:Int)>0 by omega);rw[Ag h0] at gV;simp only[↓zP,zJ,seval,zD,e1,eQ,d0];apply bW;clear bW K2;refine Tz ?_;exact⟨trivial,gV rfl⟩
 rintro f4 H1 hk ⟨rfl,bU⟩;have u3:f4 3=.ref 1 0:=by rw[hk 3 rfl];simp only[zB,seval];exact f3
 rw[QN bU,if_neg (by decide)] at gT
 have hB:Sz k ps.length=if TD k then decide ((ps.length:Int)<2)||decide ((ps.length:Int)>32) else decide ((ps.length:Int)>0):=rfl
 rw[hB] at gT;clear hB hk bU;refine Tx ?_;apply hK;clear hK K;generalize TD k=mv at *;generalize SU:decide ((ps.length:Int)<2)=c1 at *;generalize CT:decide ((ps.length:Int)>32)=c2 at *;generalize vj:decide ((ps.length:Int)>0)=c3 at *;refine bQ ?_;simp only[↓zP,zJ,seval,u3,g1,lp];refine bR ?_;refine aN fun K hK=>?_;simp only[↓zP,zJ,seval,u3,g1];refine bY (FZ _) ?_;cases mv
 . simp only[↓zP,zJ,seval,u3,g1,gU];refine bY (FZ _) ?_;cases c3
   . simp only[↓zP,zJ,seval,vj];apply hK;clear hK K;refine Tz ?_;refine Rx ?_;rw[gT];rfl
   simp only[↓zP,zJ,seval,vj];refine Rx ?_;rw[gT];rfl
 cases c1
 . cases c2
   . simp only[↓zP,zJ,seval,u3,g1,SU,CT];refine bY (FZ _) ?_;refine Ty ?_;apply hK;clear hK K;refine Tz ?_;refine Rx ?_;rw[gT];rfl
   simp only[↓zP,zG,seval,SU,CT,gU];refine Rx ?_;rw[gT];rfl
 simp only[↓zP,zG,seval,SU,gU];refine Rx ?_;rw[gT];rfl
theorem _root_.Go.Av.Sound.wk1 {P:Program} {g:bG} {f:FuncId} {args:List AV} {H H':aA} {v v':AV} (h:Sound P g f args H (.ret v) H') (hw:Wk v v'):Sound P g f args H (.ret v') H':=
 ⟨h.1,fun G w us hG hv=>(h.2 G w us hG hv).mono fun e w' he=>by
   obtain⟨G',h1,h2,h3⟩:=he;refine⟨G',h1,h2,?_⟩
   cases e with
   |returned u=>change VR G' w' v u at h3;exact VR.wk hw h3
   |_=>exact h3.elim⟩
theorem fU.bEb {H:aA} {lo hi:Nat} {a b c d e f:AV} {s:Sc} (h:fU H lo hi a b c d e f s) (p7:∀r∈s.ps,r.length=7) (v3:∀r∈s.vs,r.length=3) (w3:∀r∈s.ws,r.length=3) (x:Int) (nw:Nat):
 fG H none nw 1 (.agg [a,b,c,d,e,f,.int .i64 x])=some (.agg [xD a 1 (bE s.st),xD b 7 (aZ s.ps),xD c 3 (aZ s.vs),xD d 3 (aZ s.ws),xD e 1 (bE s.ta),xD f 1 (bE s.ac),.int .i64 x]):=by
 obtain⟨n1,n2,n3,n4,n5,r1,r2,r3,r4,r5,r6,_⟩:=h;simp only[fG,CX,r1.shut (jZ _) (gO _),r2.shut (lJ p7) (bF _),r3.shut (lJ v3) (bF _),r4.shut (lJ w3) (bF _),r5.shut (jZ _) (gO _),r6.shut (jZ _) (gO _)];rfl
theorem Lq.wkL {H:aA} {lo hi:Nat} {v:AV} {sz:Nat} {bB els':List (List AV)} (h:Lq H lo hi v sz bB) (hl:els'.length=bB.length):Wk (xD v sz els') (opV v sz els')/\fO (opV v sz els') sz els':=by
 rcases h with ⟨rfl,rfl|rfl⟩|⟨id,rfl,_,_,hg⟩
 . obtain rfl:els'=[]:=Cm hl;exact⟨.refl _,.inl ⟨rfl,rfl⟩⟩
 . obtain rfl:els'=[]:=Cm hl;exact⟨.bD 1 sz [] [] rfl (fun h=>h) rfl fun j hj=>absurd hj (Ap _),.inr rfl⟩
 exact⟨.refl _,.inr rfl⟩
theorem fU.wk7 {P:Program} {g:bG} {fid:FuncId} {args:List AV} {H0 H0' H:aA} {lo hi:Nat} {a b c d e f:AV} {s t:Sc} {x:Int} (h:fU H lo hi a b c d e f s) (hk:Kept s t) (hs:s.OK):
 (VK a b c d e f t).OK/\(Sound P g fid args H0 (.ret (.agg [xD a 1 (bE t.st),xD b 7 (aZ t.ps),xD c 3 (aZ t.vs),xD d 3 (aZ t.ws),xD e 1 (bE t.ta),xD f 1 (bE t.ac),.int .i64 x])) H0'->Sound P g fid args H0 (.ret (.agg ((VK a b c d e f t).cs++[.int .i64 x]))) H0'):=by
 obtain⟨n1,n2,n3,n4,n5,r1,r2,r3,r4,r5,r6,_⟩:=h;have q1:=r1.wkL (els':=bE t.st) (by rw[bZ,bZ,hk.st]);have q2:=r2.wkL (els':=aZ t.ps) (by rw[aS,aS,hk.ps]);have q3:=r3.wkL (els':=aZ t.vs) (by rw[aS,aS,hk.vs]);have q4:=r4.wkL (els':=aZ t.ws) (by rw[aS,aS,hk.ws]);have q5:=r5.wkL (els':=bE t.ta) (by rw[bZ,bZ,hk.ta]);have q6:=r6.wkL (els':=bE t.ac) (by rw[bZ,bZ,hk.ac]);refine⟨⟨q1.2,q2.2,q3.2,q4.2,q5.2,q6.2,hk.p7,hk.v3,hk.w3,by show t.st.length<_;rw[hk.st];exact hs.bD,by show t.ps.length<_;rw[hk.ps];exact hs.lps,by show t.vs.length<_;rw[hk.vs];exact hs.zc,by show t.ws.length<_;rw[hk.ws];exact hs.zd,by show t.ta.length<_;rw[hk.ta];exact hs.lta,by show t.ac.length<_;rw[hk.ac];exact hs.lac⟩,fun hS=>hS.wk1 (.agg _ _ rfl fun j hj=>?_)⟩
 match j,hj with
 |0,_=>exact q1.1
 |1,_=>exact q2.1
 |2,_=>exact q3.1
 |3,_=>exact q4.1
 |4,_=>exact q5.1
 |5,_=>exact q6.1
 |6,_=>exact .refl _
theorem RN {ts:List Th} {rs us:List (List Int)} {k n:Int} {qs:List (List Int)} {s:Sc} (hs:s.OK) (hy:YS ts rs us s) (hq:∀q∈qs,q.length=7/\lC q) (hc:lR ts.length rs.length us.length k n qs=0) (h7:k≠7) (h8:k≠8) (hr:lZ s=true) (he:(CY ts rs us k n qs s).1=0):Kept s (AX ts k n qs s):=by have h:=bt (qs:=qs) hc h7 h8 hr he;have K:=IL (k:=k) (n:=n) hs hy hq hc;exact⟨by rw[h.ps];exact K.p7,by rw[h.vs];exact K.v3,by rw[h.ws];exact K.w3,by rw[h.st];exact K.st,by rw[h.ps];exact K.ps,by rw[h.vs];exact K.vs,by rw[h.ws];exact K.ws,by rw[h.ta];exact K.ta,by rw[h.ac];exact K.ac⟩
theorem Sv {α:Type} {P Q:Prop} [Decidable P] [Decidable Q] (h:P↔Q) {x y:α}:(if P then x else y)=if Q then x else y:=by
 by_cases hp:P
 . rw[if_pos hp,if_pos (h.1 hp)]
 rw[if_neg hp,if_neg (fun hq=>hp (h.2 hq))]
structure ApS (y o:List AV) (r:Nat) (x:List AV) (f:dE) (H:aA):Prop where
 w3:f 3=.ref 0 0
 w5:f 5=.ref 2 0
 w6:f 6=.ref 3 0
 w9:f 9=.ref r 0
 g0:H.get 0=some (.cells y false)
 g2:H.get 2=some (.cells o false)
 g3:H.get 3=some (.cells [.aO,.aO,.aO,.aO,.aO,.aO,.int .i64 0] false)
 g9:H.get r=some (.cells x false)
theorem ApS.dH {y o x:List AV} {r:Nat} {f f':dE} {H H':aA} (h:ApS y o r x f H) (h3:f' 3=f 3) (h5:f' 5=f 5) (h6:f' 6=f 6) (h9:f' 9=f 9) (hr:4<=r) (hk:∀j,j<4\/j=r->H'.get j=H.get j):ApS y o r x f' H':=
 ⟨h3.trans h.w3,h5.trans h.w5,h6.trans h.w6,h9.trans h.w9,(hk 0 (by omega)).trans h.g0,(hk 2 (by omega)).trans h.g2,(hk 3 (by omega)).trans h.g3,(hk r (by omega)).trans h.g9⟩
theorem l7 {g r0 r1:Int} {ts:List Th} {rs us:List (List Int)} {tv rv uv pv:AV} {k n:Int} {qs:List (List Int)} {s:Sc} (hs:s.OK) (hy:YS ts rs us s) (mK:fO tv 14 (nD ts)) (mF:fO rv 8 (aZ rs)) (nF:fO uv 10 (aZ us))
 (wE:fO pv 7 (aZ qs)) (hq:∀q∈qs,q.length=7/\lC q) (Nt:qs.length<2^63):
 ∃t:Sc,t.OK/\GM t (vT ts rs us k n qs s).2/\∀H,Sg 9 [.agg (yC g r0 r1 tv rv uv),.agg s.cs,.agg (oC k n pv)] H (.ret (.agg (t.cs++[.int .i64 (vT ts rs us k n qs s).1]))) H:=by
 obtain⟨HA,WM⟩:∃HA:aA,HA=((((aA.mk 0 .nil).alloc (.cells (yC g r0 r1 tv rv uv) false)).alloc (.cells s.cs false)).alloc (.cells (oC k n pv) false)).alloc (.cells [.aO,.aO,.aO,.aO,.aO,.aO,.int .i64 0] false):=⟨_,rfl⟩;have a0:HA.get 0=some (.cells (yC g r0 r1 tv rv uv) false):=by subst WM;simp only[zI,seval]
 have a1:HA.get 1=some (.cells s.cs false):=by subst WM;simp only[zI,seval]
 have a2:HA.get 2=some (.cells (oC k n pv) false):=by subst WM;simp only[zI,seval]
 have a3:HA.get 3=some (.cells [.aO,.aO,.aO,.aO,.aO,.aO,.int .i64 0] false):=by subst WM;simp only[zI,seval]
 have an:HA.next=4:=by subst WM;simp only[zI,seval]
 have vw:bO [.agg (yC g r0 r1 tv rv uv),.agg s.cs,.agg (oC k n pv)]=true:=by
  have h1:=Sc.free hs;have h2:bO (yC g r0 r1 tv rv uv)=true:=by simp only[yC,sf,mK.free (fX hy.ht),mF.free (bF _),nF.free (bF _)]
  have h3:bO (oC k n pv)=true:=by simp only[oC,sf,wE.free (bF _)]
  simp only[sf,h1,h2,h3]
 have S1:=aAq (g:=g) (r0:=r0) (r1:=r1) (k:=k) (n:=n) mK mF nF wE hy.ht (fun q h=>(hq q h).1) (by omega) HA;have S2:=aBh hs HA;obtain⟨a,b,c,d,e,f,H1,S4,M1,n1,k1⟩:=aAr hs HA;have b0:=(k1 0 (by omega)).trans a0;have b1:=(k1 1 (by omega)).trans a1;have b2:=(k1 2 (by omega)).trans a2;have b3:=(k1 3 (by omega)).trans a3;obtain⟨HB,vd⟩:∃HB:aA,HB=(H1.alloc (.cells [.aO,.aO,.aO,.aO,.aO,.aO] false)).set H1.next (.cells [a,b,c,d,e,f] false):=⟨_,rfl⟩;have cn:HB.next=H1.next+1:=by subst vd;simp only[aA.aW,aA.aR]
 have ck:∀j,j<H1.next->HB.get j=H1.get j:=fun j hj=>by subst vd;rw[aA.aC,if_neg (by omega),aA.aG,if_neg (by omega)]
 have c0:=(ck 0 (by omega)).trans b0;have c1:=(ck 1 (by omega)).trans b1;have c2:=(ck 2 (by omega)).trans b2;have c3:=(ck 3 (by omega)).trans b3;have c9:HB.get H1.next=some (.cells [a,b,c,d,e,f] false):=by subst vd;rw[aA.aC,if_pos rfl]
 have M2:fU HB HA.next H1.next a b c d e f s:=M1.dH fun j hj=>ck j (by omega);have l6:(yC g r0 r1 tv rv uv).length=6:=rfl;have l3:(oC k n pv).length=3:=rfl;have ls:s.cs.length=6:=rfl;have k0:(oC k n pv).getD 0 aD=.int .i64 k:=rfl;have p7:∀x:AV,(s.cs++[x]).length=7:=fun _=>rfl;have p6:∀x:AV,List.take 6 (s.cs++[x])=s.cs:=fun _=>rfl;have pd:∀x:AV,List.drop 6 (s.cs++[x])=[x]:=fun _=>rfl;have pe:∀x:AV,List.drop 7 (s.cs++[x])=[]:=fun _=>rfl;have o1:(oC k n pv).getD 1 aD=.int .i64 n:=rfl;have o2:(oC k n pv).getD 2 aD=pv:=rfl;obtain⟨mV,hmV⟩:∃mV:Sc->AV,∀t,mV t=.agg [xD a 1 (bE t.st),xD b 7 (aZ t.ps),xD c 3 (aZ t.vs),xD d 3 (aZ t.ws),xD e 1 (bE t.ta),xD f 1 (bE t.ac),.int .i64 0]:=⟨_,fun _=>rfl⟩
 obtain⟨V,hV⟩:∃V:AV,V=if lR ts.length rs.length us.length k n qs≠0 then(.agg (s.cs++[.int .i64 (lR ts.length rs.length us.length k n qs)])) else if k=7\/k=8 then .agg (s.cs++[.int .i64 0]) else if lZ s=false then(.agg (s.cs++[.int .i64 4])) else if jR ts rs us k n qs s≠0 then(.agg (s.cs++[.int .i64 (jR ts rs us k n qs s)])) else mV (AX ts k n qs s):=⟨_,rfl⟩
 have sS:∀(H:aA) (x:Int) (nw:Nat),fG H none nw 1 (.agg (s.cs++[.int .i64 x]))=some (.agg (s.cs++[.int .i64 x])):=fun H x nw=>by
  have g1:∀{v:AV} {sz:Nat} {bB:List (List AV)},fO v sz bB->(∀e∈bB,bO e=true)->fA H none nw v=some v:=fun h hf=>by
   rcases h with ⟨rfl,_⟩|rfl
   . rfl
   simp only[fA,jO hf];rfl
  simp only[fG,CX,Sc.cs,Er,Db,g1 hs.st (gO _),g1 hs.ps (bF _),g1 hs.vs (bF _),g1 hs.ws (bF _),g1 hs.ta (gO _),g1 hs.ac (gO _)];rfl
 have hW:∀H,Sg 9 [.agg (yC g r0 r1 tv rv uv),.agg s.cs,.agg (oC k n pv)] H (.ret V) H:=fun H=>by
  refine eC fit eZ is9 (Ai rfl) vw ?_ H;unfold W9;dsimp only;refine bQ ?_;refine Ty ?_;refine bR ?_;rw[<-WM];refine bV fun f0 dQ=>?_;have v3:f0 3=.ref 0 0:=by subst dQ;simp only[zB,seval]
  have v4:f0 4=.ref 1 0:=by subst dQ;simp only[zB,seval]
  have v5:f0 5=.ref 2 0:=by subst dQ;simp only[zB,seval]
  have v6:f0 6=.ref 3 0:=by subst dQ;simp only[zB,seval]
  clear dQ WM;refine bQ ?_;simp only[↓zP,zJ,seval,v3,v5,a0,a2,oL l6,oL l3];refine bY (S1) ?_;refine Tz ?_;refine fF ?_;by_cases hc:lR ts.length rs.length us.length k n qs=0;rotate_left
  . rw[if_pos hc] at hV;have hb:(lR ts.length rs.length us.length k n qs != 0)=true:=Dd.2 hc;simp only[↓zP,zJ,seval,hb,v4,v6,a1,a3,oL ls,p7,p6,pe];exact ZaT
  have hb:(lR ts.length rs.length us.length k n qs != 0)=false:=bne_eq_false_iff_eq.2 hc;rw[if_neg (not_not_intro hc)] at hV;simp only[↓zP,zG,seval,hb];refine fF ?_;by_cases h7:k=7
  . have d7:(k==7)=true:=Cf.2 h7;rw[if_pos (.inl h7)] at hV;simp only[↓zP,zJ,seval,v4,v5,v6,a1,a2,a3,l3,k0,oL ls,d7,p7];exact ZaT
  have d7:(k==7)=false:=Bq.2 h7;by_cases h8:k=8
  . have d8:(k==8)=true:=Cf.2 h8;rw[if_pos (.inr h8)] at hV;simp only[↓zP,zJ,seval,v4,v5,v6,a1,a2,a3,l3,k0,oL ls,d7,d8,p7];exact ZaT
  have d8:(k==8)=false:=Bq.2 h8;rw[if_neg (fun h=>h.elim h7 h8)] at hV;simp only[↓zP,zJ,seval,v5,a2,l3,k0,d7,d8];refine bR ?_;refine bV fun f1 mT=>?_;have w3:=Ks mT v3;have w4:=Ks mT v4;have w5:=Ks mT v5;have w6:=Ks mT v6;clear mT v3 v4 v5 v6;refine bQ ?_;simp only[↓zP,zJ,seval,w4,a1,oL ls];refine bY (S2) ?_;refine Tz ?_;refine bR ?_;have Zr:=fun h h'=>RN (k:=k) (n:=n) hs hy hq hc h7 h8 h h';have S3:=fun h=>nf (g:=g) (r0:=r0) (r1:=r1) hs hy mK mF nF wE (fun q h=>(hq q h).1) hc h7 h8 h;have hse:=Rj (qs:=qs) (s:=s) hc h7 h8;refine bQ ?_;generalize lZ s=rb at *;cases rb
  . rw[if_pos rfl] at hV;simp only[↓zP,zJ,seval,w4,w6,a1,a3,oL ls,p7,p6,pe];refine⟨rfl,_,by simp only[↓zP,zR,seval,w6];rfl,?_⟩;subst hV;exact⟨_,1,rfl,fun nw=>sS _ _ nw⟩
  rw[if_neg (by decide)] at hV;refine Ty ?_;refine bR ?_;have S3:=S3 HA;generalize jR ts rs us k n qs s=E at *;refine bQ ?_;simp only[↓zP,zJ,seval,w3,w4,w5,a0,a1,a2,oL l6,oL ls,oL l3];refine bY (S3) ?_;refine Tz ?_;refine fF ?_;by_cases hx:E=0;rotate_left
  . have hb:(E != 0)=true:=Dd.2 hx;rw[if_pos hx] at hV;simp only[↓zP,zJ,seval,hb,w4,w6,a1,a3,oL ls,p7,p6,pe];refine⟨rfl,_,by simp only[↓zP,zR,seval,w6];rfl,?_⟩;subst hV;exact⟨_,1,rfl,fun nw=>sS _ _ nw⟩
  have hb:(E != 0)=false:=bne_eq_false_iff_eq.2 hx;rw[if_neg (not_not_intro hx)] at hV;simp only[↓zP,zG,seval,hb];refine bR ?_;have hKp:=Zr rfl (hse.symm.trans hx);refine bV fun f2 mT=>?_;have v3:=Ks mT w3;have v4:=Ks mT w4;have v5:=Ks mT w5;have v6:=Ks mT w6;clear mT w3 w4 w5 w6;refine bQ ?_;simp only[↓zP,zJ,seval,v4,a1,oL ls];refine bY (S4) ?_;refine Ty ?_;refine bR ?_;rw[<-vd];refine bV fun f1 mT=>?_;have w3:=Ks mT v3;have w5:=Ks mT v5;have w6:=Ks mT v6;have w9:f1 9=.ref H1.next 0:=by subst mT;simp only[zB,seval]
  clear mT v3 v4 v5 v6 vd;generalize H1.next=r9 at *;have A0:ApS (yC g r0 r1 tv rv uv) (oC k n pv) r9 [a,b,c,d,e,f] f1 HB:=⟨w3,w5,w6,w9,c0,c2,c3,c9⟩;clear w3 w5 w6 w9;have xw:4<=r9:=by omega
  have fS:∀{k':Int},¬k=k'->(k==k')=false:=fun h=>Bq.2 h
  have hrg:(k=1\/k=2)->1<=n/\n<=ts.length/\2<=qs.length/\qs.length<=32:=fun h=>by
   rcases uZ hc with ⟨_,h⟩|⟨h,_⟩|⟨h,_⟩|h|h
   . exact h
   all_goals (exfalso;omega)
  have bGk:(k=3\/k=4)->0<=n/\n<rs.length:=fun h=>by
   rcases uZ hc with ⟨h',_⟩|⟨_,h⟩|⟨h',_⟩|h'|h'
   . exfalso;omega
   . exact h
   all_goals (exfalso;omega)
  have bGl:(k=5\/k=6)->0<=n/\n<us.length:=fun h=>by
   rcases uZ hc with ⟨h',_⟩|⟨h',_⟩|⟨_,h⟩|h'|h'
   . exfalso;omega
   . exfalso;omega
   . exact h
   all_goals (exfalso;omega)
  have e1:=hy.st;have e2:=hy.ps;have e5:=hy.ta;have e6:=hy.ac;have b1':=hy.xQ;have b2':=hy.CV;have b3':=hy.Zs;have y3:(yC g r0 r1 tv rv uv).getD 3 aD=tv:=rfl;refine aN fun K hK=>?_
  have key:∀(f':dE) (H':aA),ApS (yC g r0 r1 tv rv uv) (oC k n pv) r9 [a,b,c,d,e,f] f' H'->fU H' HA.next r9 a b c d e f (if k=1 then AX ts k n qs s else s)->K f' [] H':=by
   intro f' H' hA hM;apply hK;clear hK K;clear A0 M2;revert f' H';intro f1 HB A0 M2;refine aN fun K hK=>?_
   have key:∀(f':dE) (H':aA),ApS (yC g r0 r1 tv rv uv) (oC k n pv) r9 [a,b,c,d,e,f] f' H'->fU H' HA.next r9 a b c d e f (if k=1\/k=2 then AX ts k n qs s else s)->K f' [] H':=by
    intro f' H' hA hM;apply hK;clear hK K;clear A0 M2;revert f' H';intro f1 HB A0 M2;refine aN fun K hK=>?_
    have key:∀(f':dE) (H':aA),ApS (yC g r0 r1 tv rv uv) (oC k n pv) r9 [a,b,c,d,e,f] f' H'->fU H' HA.next r9 a b c d e f (if(k=1\/k=2)\/(k=3\/k=4) then AX ts k n qs s else s)->K f' [] H':=by
     intro f' H' hA hM;apply hK;clear hK K;clear A0 M2;revert f' H';intro f1 HB A0 M2;refine aN fun K hK=>?_
     have key:∀(f':dE) (H':aA),ApS (yC g r0 r1 tv rv uv) (oC k n pv) r9 [a,b,c,d,e,f] f' H'->fU H' HA.next r9 a b c d e f (if((k=1\/k=2)\/(k=3\/k=4))\/(k=5\/k=6) then AX ts k n qs s else s)->K f' [] H':=by
      intro f' H' hA hM;apply hK;clear hK K
      have h16:((k=1\/k=2)\/(k=3\/k=4))\/(k=5\/k=6):=by
       rcases uZ hc with ⟨h',_⟩|⟨h',_⟩|⟨h',_⟩|h'|h'
       . exact .inl (.inl h')
       . exact .inl (.inr h')
       . exact .inr h'
       . exact absurd h' h7
       exact absurd h' h8
      rw[if_pos h16] at hM;simp only[↓zP,zJ,seval,hA.w6,hA.w9,hA.g3,hA.g9];refine⟨rfl,_,by simp only[↓zP,zR,seval,hA.w6];rfl,?_⟩;subst hV;rw[hmV];exact⟨_,1,rfl,fun nw=>(hM.aKs fun j h1 h2=>by rw[aA.aC,if_neg (by omega)]).bEb (fun r h=>(hKp.p7 r h).1) (fun r h=>(hKp.v3 r h).1) (fun r h=>(hKp.w3 r h).1) 0 nw⟩
     clear hK;by_cases h1:k=5\/k=6;rotate_left
     . have h2:=not_or.1 h1;simp only[↓zP,zJ,seval,A0.w5,A0.g2,l3,k0,fS h2.1,fS h2.2];exact key _ _ (A0.dH zq zq zq zq xw fun _ _=>rfl) (by rw[Sv (show(((k=1\/k=2)\/(k=3\/k=4))\/(k=5\/k=6))↔((k=1\/k=2)\/(k=3\/k=4)) from ⟨fun h=>by omega,fun h=>by omega⟩)];exact M2)
     obtain⟨x1,x2⟩:=bGl h1;obtain⟨m,hm⟩:∃m:Nat,n=m:=⟨n.toNat,by omega⟩;have hn:m<s.ac.length:=by omega
     have hO:AX ts k n qs s={s with ac:=s.ac.set m (k==5)}:=by unfold AX;rw[if_neg (by omega),if_neg (by omega),if_neg (by omega),hm,Dr]
     rw[if_neg (show ¬((k=1\/k=2)\/(k=3\/k=4)) by omega)] at M2;obtain⟨id,rfl,i1,i2,hg,oF⟩:=M2.ac hn;have y1:m+1<=(bE s.ac).flatten.length:=(by rw[gP (jZ _),bZ];omega);have o1:(oC k n pv).getD 1 aD=.int .i64 (m:Int):=o1.trans (by rw[hm])
     have fin:∀{f':dE} (bk:Bool),(k==5)=bk->f' 3=f1 3->f' 5=f1 5->f' 6=f1 6->f' 9=f1 9->K f' [] (HB.set id (.cells ((bE s.ac).flatten.take m++[.bool bk]++(bE s.ac).flatten.drop (m+1)) true)):=fun bk hbk g3 g5 g6 g9=>by
      rw[sU hn]
      exact key _ _ (A0.dH g3 g5 g6 g9 xw fun j hj=>by rw[aA.aC,if_neg (by omega)]) (by
       rw[if_pos (by omega),hO,hbk]
       exact oF _ _ Zbt fun j _ _ h=>by rw[aA.aC,if_neg h])
     by_cases h3:k=5
     . have d1:(k==5)=true:=Cf.2 h3;simp only[↓zP,zJ,seval,A0.w5,A0.w9,A0.g2,A0.g9,l3,k0,o1,d1,aB,hn,hg,y1];exact fin true d1 zq zq zq zq
     have d1:=fS h3;have d2:(k==6)=true:=Cf.2 (by omega);simp only[↓zP,zJ,seval,A0.w5,A0.w9,A0.g2,A0.g9,l3,k0,o1,d1,d2,aB,hn,hg,y1];exact fin false d1 zq zq zq zq
    clear hK;by_cases h1:k=3\/k=4;rotate_left
    . have h2:=not_or.1 h1;simp only[↓zP,zJ,seval,A0.w5,A0.g2,l3,k0,fS h2.1,fS h2.2];exact key _ _ (A0.dH zq zq zq zq xw fun _ _=>rfl) (by rw[Sv (show((k=1\/k=2)\/(k=3\/k=4))↔(k=1\/k=2) from ⟨fun h=>by omega,fun h=>by omega⟩)];exact M2)
    obtain⟨x1,x2⟩:=bGk h1;obtain⟨m,hm⟩:∃m:Nat,n=m:=⟨n.toNat,by omega⟩;have hn:m<s.ta.length:=by omega
    have hO:AX ts k n qs s={s with ta:=s.ta.set m (k==3)}:=by unfold AX;rw[if_neg (by omega),if_neg (by omega),if_pos h1,hm,Dr]
    rw[if_neg (show ¬(k=1\/k=2) by omega)] at M2;obtain⟨id,rfl,i1,i2,hg,oF⟩:=M2.ta hn;have y1:m+1<=(bE s.ta).flatten.length:=(by rw[gP (jZ _),bZ];omega);have o1:(oC k n pv).getD 1 aD=.int .i64 (m:Int):=o1.trans (by rw[hm])
    have fin:∀{f':dE} (bk:Bool),(k==3)=bk->f' 3=f1 3->f' 5=f1 5->f' 6=f1 6->f' 9=f1 9->K f' [] (HB.set id (.cells ((bE s.ta).flatten.take m++[.bool bk]++(bE s.ta).flatten.drop (m+1)) true)):=fun bk hbk g3 g5 g6 g9=>by
     rw[sU hn]
     exact key _ _ (A0.dH g3 g5 g6 g9 xw fun j hj=>by rw[aA.aC,if_neg (by omega)]) (by
      rw[if_pos (by omega),hO,hbk]
      exact oF _ _ Zbt fun j _ _ h=>by rw[aA.aC,if_neg h])
    by_cases h3:k=3
    . have d1:(k==3)=true:=Cf.2 h3;simp only[↓zP,zJ,seval,A0.w5,A0.w9,A0.g2,A0.g9,l3,k0,o1,d1,aB,hn,hg,y1];exact fin true d1 zq zq zq zq
    have d1:=fS h3;have d2:(k==4)=true:=Cf.2 (by omega);simp only[↓zP,zJ,seval,A0.w5,A0.w9,A0.g2,A0.g9,l3,k0,o1,d1,d2,aB,hn,hg,y1];exact fin false d1 zq zq zq zq
   clear hK;by_cases h1:k=2;rotate_left
   . simp only[↓zP,zJ,seval,A0.w5,A0.g2,l3,k0,fS h1];exact key _ _ (A0.dH zq zq zq zq xw fun _ _=>rfl) (by rw[Sv (show(k=1\/k=2)↔k=1 from ⟨fun h=>h.elim id fun h=>absurd h h1,.inl⟩)];exact M2)
   obtain⟨x1,x2,q1,q2⟩:=hrg (.inr h1);obtain⟨m,hm⟩:∃m:Nat,n -1=m:=⟨(n -1).toNat,by omega⟩;have hmt:(n -1).toNat=m:=(by omega);have Zv:IntKind.i64.wrap (n -1)=(m:Int):=(by rw[wrap_i64 (by omega) (by omega),hm]);have hn:m<s.st.length:=(by omega);have hp:m<s.ps.length:=(by omega);have jQ:m<ts.length:=(by omega);have t2:=y3.trans (mK.bD (i:=m) (by rw[dJ];exact jQ));have DN:=mN jQ;have qP:=hy.ht _ (Ac jQ);have MQ:=Th.len qP;have k7':ts[m].cs.drop 7=iC ts[m].store:=rfl;have hlq:(iC ts[m].store).length=7:=by rw[cD,qP.store]
   have hO:AX ts k n qs s={s with st:=s.st.set m false,ps:=s.ps.set m ts[m].store}:=by unfold AX;rw[if_neg (by omega),if_pos h1,hmt,show(ts.map (·.store)).getD m []=ts[m].store by simp[jQ]]
   rw[if_neg (show ¬k=1 by omega)] at M2;obtain⟨id,rfl,i1,i2,hg,oF⟩:=M2.st hn;have y1:m+1<=(bE s.st).flatten.length:=(by rw[gP (jZ _),bZ];omega);have y2:m*7+7<=(aZ s.ps).flatten.length:=(by rw[gP (lJ fun r h=>(hs.p7 r h).1),aS];omega);have d1:(k==2)=true:=Cf.2 h1;simp only[↓zP,zJ,seval,A0.w5,A0.w9,A0.g2,A0.g9,l3,k0,o1,Zv,d1,aB,hn,hg,y1];rw[sU hn];generalize hX:HB.set id _=HC;have k2:∀j,j≠id->HC.get j=HB.get j:=fun j hj=>by subst hX;rw[aA.aC,if_neg hj]
   have M3:=oF HC _ Zai fun j _ _ h=>k2 j h;clear hX;refine bV fun f2 mT=>?_;have A1:=A0.dH (f':=f2) (H':=HC) ZaH ZaH ZaH ZaH xw fun j hj=>k2 j (by omega);clear mT;obtain⟨id2,rfl,j1,j2,SV,xr⟩:=M3.ps hp;refine Dz ?_;simp only[↓zP,zJ,seval,zD,A1.w3,A1.w5,A1.w9,A1.g0,A1.g2,A1.g9,l3,l6,o1,t2,Zv,aB,dJ,jQ,DN,k7',oL hlq,hp,SV,y2]
   exact key _ _ (A1.dH zq zq zq zq xw fun j hj=>by rw[aA.aC,if_neg (by omega)]) (by
    rw[if_pos (.inr h1),hO]
    exact xr _ _ (by rw[aA.aC,if_pos rfl,wW (fun r h=>(hs.p7 r h).1) hp qP.store]) fun j _ _ h=>by rw[aA.aC,if_neg h])
  clear hK;by_cases h1:k=1;rotate_left
  . simp only[↓zP,zJ,seval,A0.w5,A0.g2,l3,k0,fS h1];exact key _ _ (A0.dH zq zq zq zq xw fun _ _=>rfl) (by rw[if_neg h1];exact M2)
  obtain⟨x1,x2,q1,q2⟩:=hrg (.inl h1);obtain⟨m,hm⟩:∃m:Nat,n -1=m:=⟨(n -1).toNat,by omega⟩;have hmt:(n -1).toNat=m:=by omega
  have Zv:IntKind.i64.wrap (n -1)=(m:Int):=by rw[wrap_i64 (by omega) (by omega),hm]
  have hn:m<s.st.length:=by omega
  have hp:m<s.ps.length:=by omega
  have hqi:qs.length -1<qs.length:=by omega
  have t2:=o2.trans (wE.bD (i:=qs.length -1) (by rw[aS];exact hqi));have Zl:=cN hqi;have xu:=(hq _ (Ac hqi)).1;have hlq:(iC qs[qs.length -1]).length=7:=by rw[cD,xu]
  have hwq:IntKind.i64.wrap ((qs.length:Int) -1)=((qs.length -1:Nat):Int):=wI (by omega)
  have hO:AX ts k n qs s={s with st:=s.st.set m true,ps:=s.ps.set m qs[qs.length -1]}:=by unfold AX;rw[if_pos h1,hmt,show qs.getD (qs.length -1) []=qs[qs.length -1] by simp[hqi]]
  obtain⟨id,rfl,i1,i2,hg,oF⟩:=M2.st hn;have y1:m+1<=(bE s.st).flatten.length:=by rw[gP (jZ _),bZ];omega
  have y2:m*7+7<=(aZ s.ps).flatten.length:=by rw[gP (lJ fun r h=>(hs.p7 r h).1),aS];omega
  have d1:(k==1)=true:=Cf.2 h1;simp only[↓zP,zJ,seval,A0.w5,A0.w9,A0.g2,A0.g9,l3,k0,o1,Zv,d1,aB,hn,hg,y1];rw[sU hn];generalize hX:HB.set id _=HC;have k2:∀j,j≠id->HC.get j=HB.get j:=fun j hj=>by subst hX;rw[aA.aC,if_neg hj]
  have M3:=oF HC _ Zai fun j _ _ h=>k2 j h;clear hX;refine bV fun f2 mT=>?_;have A1:=A0.dH (f':=f2) (H':=HC) ZaH ZaH ZaH ZaH xw fun j hj=>k2 j (by omega);clear mT;obtain⟨id2,rfl,j1,j2,SV,xr⟩:=M3.ps hp;refine Dz ?_;simp only[↓zP,zJ,seval,zD,A1.w5,A1.w9,A1.g2,A1.g9,l3,o1,t2,Zv,hwq,aB,aS,hqi,Zl,oL hlq,hp,SV,y2]
  exact key _ _ (A1.dH zq zq zq zq xw fun j hj=>by rw[aA.aC,if_neg (by omega)]) (by
   rw[if_pos (h1),hO]
   exact xr _ _ (by rw[aA.aC,if_pos rfl,wW (fun r h=>(hs.p7 r h).1) hp xu]) fun j _ _ h=>by rw[aA.aC,if_neg h])
 unfold vT;by_cases hc:lR ts.length rs.length us.length k n qs=0;rotate_left
 . rw[if_pos hc] at hV ⊢;exact Zax
 rw[if_neg (not_not_intro hc)] at hV ⊢;by_cases h78:k=7\/k=8
 . rw[if_pos h78] at hV ⊢;exact Zax
 rw[if_neg h78] at hV ⊢;by_cases hr:lZ s=false
 . rw[if_pos hr] at hV ⊢;exact Zax
 rw[if_neg hr] at hV ⊢;have h7:k≠7:=fun h=>h78 (.inl h);have h8:k≠8:=fun h=>h78 (.inr h);have hse:=Rj (qs:=qs) (s:=s) hc h7 h8;rw[hse] at hV;by_cases hx:(CY ts rs us k n qs s).1=0;rotate_left
 . rw[if_pos hx] at hV ⊢;exact Zax
 rw[if_neg (not_not_intro hx)] at hV ⊢;subst hV;rw[hmV] at hW;have hr':lZ s=true:=by simpa using hr
 have hk:=RN (k:=k) (n:=n) hs hy hq hc h7 h8 hr' hx;have hE:=bt (qs:=qs) hc h7 h8 hr' hx;exact⟨VK a b c d e f (AX ts k n qs s),(M2.wk7 (P:=Tryz.prog) (g:=gv) (fid:=0) (args:=[]) (H0:=HA) (H0':=HA) (x:=0) hk hs).1,⟨hE.st,hE.ps,hE.vs,hE.ws,hE.ta,hE.ac⟩,fun H=>by rw[hx];exact(M2.wk7 hk hs).2 (hW H)⟩
end Go.Proofs.YtgggiembljfnhaaGreatDoor
