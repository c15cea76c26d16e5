/-
  Part of the proof of statement 14
-/
import Derived.Test.YtgggiembljfnhaaGreatDoorC26
import Derived.Test.YtgggiembljfnhaaGreatDoorC07
import Derived.Test.YtgggiembljfnhaaGreatDoorC25
set_option linter.unusedVariables false
set_option linter.unusedSimpArgs false
set_option maxRecDepth 100000
set_option maxHeartbeats 16000000
namespace Go.Proofs.YtgggiembljfnhaaGreatDoor
open Go Go.Av
attribute [local congr] aP aJ aK aH aU aM aL aD
attribute [local irreducible] FC bM dX
def ub (b:List Nat) (o:Out) (_:aA):Prop:=match qO b with
 |some d=>∃v1 v2 v3 v4 v5 v6,GZ d.1 v1/\Ks d.2.1 v2/\FA d.2.2.1 v3/\FA d.2.2.2.1 v4/\GZ d.2.2.2.2.1 v5/\GZ d.2.2.2.2.2 v6/\o=.ret (.eZ [.agg [v1,v2,v3,v4,v5,v6],.int .i64 0])
 |none=>o=.ret (.eZ [.agg [.aF,.aF,.aF,.aF,.aF,.aF],.int .i64 11])
theorem aAb {v:AV} {b:List Nat} (hv:mG v 1 (aO b)) (hb:Bytes b) (hl:b.length<2^30):∃o H',ub b o H'/\Sound Tryz.prog gv 22 [v] ⟨0,.nil⟩ o H':=by
 refine bL fit aLx (Ae rfl) ?_;unfold W22;dsimp only
 have o1:v.cells=[v]/\v.oK=false:=by rcases hv with ⟨rfl,_⟩|rfl<;>exact⟨rfl,rfl⟩
 refine aB fun K hK=>?_;simp only[↓zP,zG,seval,zI,o1.1,o1.2];apply hK;clear hK K;refine aB fun K hK=>?_;simp only[↓zP,zG,seval,zI,o1.1,o1.2];apply hK;clear hK K;refine aB fun K hK=>?_;simp only[↓zP,zG,seval,zI];apply hK;clear hK K;obtain⟨HA,ED⟩:∃HA:aA,HA=((((((aA.mk 0 .nil).alloc (.cells [v] false)).alloc (.cells [.aF,.aF,.aF,.aF,.aF,.aF] false)).alloc (.cells [v,.int .i64 0] false)).alloc (.cells [.zX] false)).set 3 (.cells [.ref 2 0] false)).alloc (.cells [.aF,.aF,.aF,.aF,.aF,.aF] false):=⟨_,rfl⟩;have gn:HA.next=5:=by subst ED;rfl
 have g0:HA.get 0=some (.cells [v] false):=by subst ED;simp only[zI,seval]
 have g1:HA.get 1=some (.cells [.aF,.aF,.aF,.aF,.aF,.aF] false):=by subst ED;simp only[zI,seval]
 have g2:HA.get 2=some (.cells [v,.int .i64 0] false):=by subst ED;simp only[zI,seval]
 have g3:HA.get 3=some (.cells [.ref 2 0] false):=by subst ED;simp only[zI,seval]
 have g4:HA.get 4=some (.cells [.aF,.aF,.aF,.aF,.aF,.aF] false):=by subst ED;simp only[zI,seval]
 rw[<-ED];clear ED;have hB:∀j,j<5->(HA.alloc (.cells [.int .i64 0] false)).get j=HA.get j:=fun j hj=>by rw[aA.aG,if_neg (by omega)]
 have bn:(HA.alloc (.cells [.int .i64 0] false)).next=6:=by simp only[aA.aR];omega
 obtain⟨o,H1,⟨s1,oW⟩,hS⟩:=fc (H:=HA.alloc (.cells [.int .i64 0] false)) (r:=3) (c:=4) (e:=0) (p:=2) (v:=v) (b:=b)
  ⟨⟨(hB 2 (by decide)).trans g2,hv,Cs _,by omega⟩,⟨Ai _,fun _ _ _ _=>rfl⟩,(hB 3 (by decide)).trans g3,(hB 4 (by decide)).trans g4,(hB 0 (by decide)).trans g0,by omega,by omega,by omega⟩ hb hl (by decide) (by decide) (by decide) (by decide) (by decide)
 have k4:H1.get HA.next=some (.cells [.int .i64 0] false):=by rw[s1.2 _ (by omega) (by omega) (by omega),aA.aG,if_pos rfl]
 have k1:H1.get 1=some (.cells [.aF,.aF,.aF,.aF,.aF,.aF] false):=(s1.2 1 (by omega) (by decide) (by decide)).trans ((hB 1 (by decide)).trans g1);have qH:HA.next<H1.next:=by have :=s1.1;omega
 have oV:(∃v,o=.ret v)\/o=.pA gH:=by
  cases h:qO b with
  |none=>rw[h] at oW;exact .inr oW
  |some q=>rw[h] at oW;exact .inl ⟨_,oW.1⟩
 obtain⟨_,H2,⟨rfl,q1,q2⟩,YF⟩:=Lp hS oV k4 qH;have m1:H2.get 1=some (.cells [.aF,.aF,.aF,.aF,.aF,.aF] false):=(q2 1 (by omega) (by omega)).trans k1;unfold ub
 cases h:qO b with
 |none=>rw[h] at oW;obtain rfl:o=.pA gH:=oW;have e0:Xj (.pA gH)=11:=rfl;rw[e0] at YF;refine aB fun K hK=>?_;simp only[↓zP,zG,seval,zI];refine cT (YF) ?_;simp only[↓zP,zG,seval];apply hK;clear hK K;have z1:((11:Int) != 0)=true:=rfl;refine aB fun K hK=>?_;refine aB fun K2 bO=>?_;simp only[↓zP,zG,seval];apply bO;clear bO K2;simp only[↓zP,zG,seval,zI,m1];refine Rx ?_;rfl
 |some d=>rw[h] at oW;obtain⟨rfl,v1,v2,v3,v4,v5,v6,c3,c4⟩:=oW;have e0:Xj (.ret (iW []))=0:=rfl;rw[e0] at YF;have m4:H2.get 4=some (.cells [v1,v2,v3,v4,v5,v6] false):=(q2 4 (by omega) (by omega)).trans c3;refine aB fun K hK=>?_;simp only[↓zP,zG,seval,zI];refine cT (YF) ?_;simp only[↓zP,zG,seval];apply hK;clear hK K;have z1:((0:Int) != 0)=false:=rfl;refine aB fun K hK=>?_;refine aB fun K2 bO=>?_;simp only[↓zP,zG,seval];apply bO;clear bO K2;simp only[↓zP,zG,seval];apply hK;clear hK K;simp only[↓zP,zG,seval,zI,m1,m4];refine Rx ?_;obtain⟨d1,d2,d3,d4,d5,d6⟩:=c4;exact⟨v1,v2,v3,v4,v5,v6,d1,d2,d3,d4,d5,d6,rfl⟩
theorem GZ.shut {l:List Bool} {w:AV} (h:GZ l w):mG (WT w) 1 (bE l)/\∀H nw,hY H none nw w=some (WT w):=by
 rcases h with ⟨rfl,rfl⟩|⟨k,rfl⟩
 . exact⟨.inl ⟨rfl,rfl⟩,fun _ _=>rfl⟩
 refine⟨.inr rfl,fun H nw=>?_⟩;simp only[hY,jQ (pJ l)];rfl
theorem FA.shut {l:List (List Int)} {w:AV} (h:FA l w):mG (WT w) 3 (dQ l)/\∀H nw,hY H none nw w=some (WT w):=by
 rcases h with ⟨rfl,rfl⟩|⟨k,rfl⟩
 . exact⟨.inl ⟨rfl,rfl⟩,fun _ _=>rfl⟩
 refine⟨.inr rfl,fun H nw=>?_⟩;simp only[hY,jQ (dO l)];rfl
structure XK (s:Sc) (d:XL):Prop where
 sv:mG s.sv 1 (bE s.st)
 pv:mG s.pv 7 (dQ s.ps)
 vv:mG s.vv 3 (dQ s.vs)
 wv:mG s.wv 3 (dQ s.ws)
 tv:mG s.tv 1 (bE s.ta)
 av:mG s.av 1 (bE s.ac)
 st:s.st=d.1
 ps:s.ps=d.2.1
 vs:s.vs=d.2.2.1
 ws:s.ws=d.2.2.2.1
 ta:s.ta=d.2.2.2.2.1
 ac:s.ac=d.2.2.2.2.2
theorem PI {v:AV} {b:List Nat} (hv:mG v 1 (aO b)) (hb:Bytes b) (hl:b.length<2^30):match qO b with
 |some d=>∃s:Sc,XK s d/\∀H,Sound Tryz.prog gv 22 [v] H (.ret (.eZ [.agg s.cs,.int .i64 0])) H
 |none=>∀H,Sound Tryz.prog gv 22 [v] H (.ret (.eZ [.agg [.aF,.aF,.aF,.aF,.aF,.aF],.int .i64 11])) H:=by
 obtain⟨o,H',hR,hS⟩:=aAb hv hb hl
 have hf:bN [v]=true:=by simp only[sf,hv.free fun e he=>by
  obtain⟨x,_,rfl⟩:=Bq.1 he
  rfl]
 unfold ub at hR
 cases h:qO b with
 |none=>rw[h] at hR;obtain rfl:o=_:=hR;exact fun H=>hS.frame dZ hf (tk:=none) (fun k hk=>by cases hk) (n:=2) H rfl
 |some d=>rw[h] at hR;obtain⟨v1,v2,v3,v4,v5,v6,d1,d2,d3,d4,d5,d6,rfl⟩:=hR;obtain⟨x1,y1⟩:=d1.shut;obtain⟨x2,y2⟩:=d2.shut;obtain⟨x3,y3⟩:=d3.shut;obtain⟨x4,y4⟩:=d4.shut;obtain⟨x5,y5⟩:=d5.shut;obtain⟨x6,y6⟩:=d6.shut;refine⟨⟨WT v1,WT v2,WT v3,WT v4,WT v5,WT v6,d.1,d.2.1,d.2.2.1,d.2.2.2.1,d.2.2.2.2.1,d.2.2.2.2.2⟩,⟨x1,x2,x3,x4,x5,x6,rfl,rfl,rfl,rfl,rfl,rfl⟩,fun H=>hS.frame dZ hf (tk:=none) (fun k hk=>by cases hk) (n:=2) H ?_⟩;have hz:∀y,hY H' none H.next (.int .i64 y)=some (.int .i64 y):=fun y=>rfl;simp only[Out.av,Sc.cs,fG,uQ,hz,y1,y2,y3,y4,y5,y6,Bi]
def W47:CW Tryz.f47:=⟨_,cX⟩
theorem aMj:Fi 47 W47:=cN Tryz.func47 W47
def W48:CW Tryz.f48:=⟨_,cX⟩
theorem aMk:Fi 48 W48:=cN Tryz.func48 W48
def W46:CW Tryz.f46:=⟨_,cX⟩
theorem aMi:Fi 46 W46:=cN Tryz.func46 W46
def W17:CW Tryz.f17:=⟨_,cX⟩
theorem aLs:Fi 17 W17:=cN Tryz.func17 W17
def W19:CW Tryz.f19:=⟨_,cX⟩
theorem aLu:Fi 19 W19:=cN Tryz.func19 W19
theorem SJ (l:List Int):∀e∈bU l,bN e=true:=fun e he=>by obtain⟨x,_,rfl⟩:=Bq.1 he;rfl
theorem Zy {v:AV} {l:List Int} (hv:mG v 1 (bU l)) (hr:∀x∈l,pF x) (hl:l.length<2^30) (H:aA):Sound Tryz.prog gv 118 [v,.func (.func 88) [] []] H (.ret (.bH (H.next+2) 1 (aO (bC l)))) (H.alloc .tok):=by
 refine fW dZ (by simp only[bN,hv.free (SJ l)];rfl) (fL (tI _)) (bW _) (bL fit aEv (Ae rfl) ?_ (by rfl)) H;unfold uy;dsimp only;have lv:=hv.len;simp only[cD] at lv;rw[bQ] at lv;have hn:=Zv (mJ (n:=l.length) (by omega));refine aB fun K hK=>?_;simp only[↓zP,zG,seval];apply hK;clear hK K;refine aB fun K hK=>?_;simp only[↓zP,zG,seval,zI,lv];refine cT (hn _) ?_;simp only[↓zP,zG,seval,zI];apply hK;clear hK K;refine aB fun K hK=>?_;simp only[↓zP,zG,seval,zI,lv];refine bV [5] (fun i vs H'=>∃w,vs=[w]/\Own H' 1 w (aO (dJ (mF l.length)++eG (l.take i)))) l.length (by omega) (by decide) ?_ ?_ ?_ ?_ ?_
 . simp only[zB,seval]
 . simp only[zB,seval]
 . exact⟨_,by simp only[sm,zB,seval];rfl,by simp only[Ew,eG,List.flatMap_nil,Cf];exact Own.fresh _ _ _⟩
 . rintro i f H1 hi hk e1 ⟨w,gV,ho⟩;have f5:f 5=w:=by simpa only[sm,Am,Bs] using gV
   have f11:f 11=.bH 0 1 (bU l):=(hk 11 rfl).trans (by simp only[zB,seval];exact hv.bH (i:=i) (by rw[bQ];exact hi));have f1:f 1=.func (.func 88) [] []:=(by rw[hk 1 rfl];rfl);have YM:=bQ l;have xB:(bU l).getD i []=[.int .i64 l[i]]:=(by simp[bU,hi]);have hx:=hr _ (Ap hi);have EI:=jO (l:=l.take i) fun x hx=>hr x (Bf hx);rw[Cb] at EI;have hnl:=eI (lQ (mJ (n:=l.length) (by omega)));rw[DV hi,<-Bg,cK];generalize l[i]=x at *;have h10:=eI (lQ hx);obtain⟨w',H4,ha,e2,e3⟩:=(ho.alloc .tok).append (bytes:=1) (ys:=aO (dJ (mF x))) (by simp only[bB,Ag];omega);refine aS ?_;simp only[↓zP,zG,seval,zI,e1,f5,f11,f1,aQ,YM,hi,xB];refine lF (by decide) (fs:=[]) (cs:=[]) (fid:=88) (by simp only[zB,seval]) (by simp only[Be,Ci,zB,seval,Cg,Cf]) (Zv hx H1) ?_;simp only[↓zP,zG,seval,bJ,ha];exact⟨w',rfl,e2⟩
 rintro f2 H2 hk ⟨w,gV,ho⟩;have f5:f2 5=w:=by simpa only[sm,Am,Bs] using gV
 rw[Bm] at ho;simp only[↓zP,seval];apply hK;clear hK K;simp only[↓zP,zG,seval,f5];refine⟨rfl,_,by simp only[↓zP,zR,seval];rfl,?_⟩;exact⟨w,rfl,ho⟩
theorem Zw {v:AV} {l:List Int} (hv:mG v 1 (bU l)) (hr:∀x∈l,pF x) (hl:l.length<2^30) (H:aA):Sound Tryz.prog gv 90 [v] H (.ret (.bH (H.next+2) 1 (aO (bC l)))) (H.alloc .tok):=by refine dY aNo (Ae rfl) ?_ (by rfl);unfold W90;dsimp only;refine aB fun K hK=>?_;simp only[↓zP,zG,seval];apply hK;clear hK K;simp only[↓zP,zG,seval,zI];refine cT (Zy hv hr hl H) ?_;simp only[↓zP,zG,seval];refine Rx ?_;exact⟨rfl,rfl⟩
theorem Ky {H:aA} {p:Nat} {v:AV} {l:List Int} {pre:List Nat} (hw:NI H p pre) (hv:mG v 1 (bU l)) (hr:∀x∈l,pF x) (hl:l.length<2^30) (hp:pre.length<2^38):
 ∃H',Sound Tryz.prog gv 46 [.ref p 0,v] H (.ret (iW [])) H'/\NI H' p (pre++bC l)/\rR H H' p:=by
 obtain⟨w,hg,BS,ho⟩:=hw;have hgA:(H.alloc .tok).get p=some (.cells [w] false):=by rw[aA.aG,if_neg (by omega)];exact hg
 have Nb:=dG hr (by omega);obtain⟨w',H4,ha,e2,e3⟩:=(ho.alloc .tok).append (bytes:=1) (ys:=aO (bC l)) (by simp only[bB];omega);have z7:=e3.cells (ho.alloc .tok) (by simp only[aA.aR];omega) hgA;obtain⟨o1,o2⟩:=e2.one
 obtain⟨_,H',⟨rfl,hq⟩,hS⟩:=bL (R:=fun o H'=>o=.ret (iW [])/\NI H' p (pre++bC l)/\rR H H' p) fit aMi (args:=[.ref p 0,v]) (H:=H) (Ae rfl) (by
  unfold W46;dsimp only;refine bK (by decide) ?_;simp only[↓zP,zG,seval,zD,reduceCtorEq,zI,hg];refine cL (hS:=Zw hv hr hl H) (by decide) (by simp only[sm,zB,seval]) (by simp only[aA.aR];omega) ?_ ?_
  . intro y hy _;simp only[Ah,Al,Bx] at hy;subst hy;exact hg.trans hgA.symm
  simp only[↓zP,zG,seval,zD,reduceCtorEq,zI,bJ,ha,z7,o1,o2];refine⟨e3.next,rfl,[],rfl,rfl,⟨w',BL _ _ _,?_,?_⟩,?_,fun j cs o h1 h2 h3=>?_⟩
  . have :=e3.next;simp only[aA.aR,aA.bD] at this ⊢;omega
  . have :=e2.set p (.cells [w'] false) (e2.Sa z7);rw[<-cK] at this;exact this
  . have :=e3.next;simp only[aA.aR,aA.bD] at this ⊢;omega
  rw[aA.aI,if_neg h2]
  exact e3.cells (ho.alloc .tok) (by simp only[aA.aR];omega) (by rw[aA.aG,if_neg (by omega)];exact h3))
 exact⟨H',hS,hq⟩
theorem EN {v:AV} {l:List Bool} (hv:mG v 1 (bE l)) (hl:l.length<2^30) (H:aA):Sound Tryz.prog gv 47 [v] H (.ret (OA 1 (bU (bS l)))) H:=by
 refine fV fit dZ aMj (Ae rfl) (by simp only[bN,hv.free (pJ _)];rfl) ?_ H;unfold W47;dsimp only;have lv:=hv.len;simp only[cD] at lv;rw[qZ] at lv;refine aB fun K hK=>?_;simp only[↓zP,zG,seval];apply hK;clear hK K;refine aB fun K hK=>?_;simp only[↓zP,zG,seval];apply hK;clear hK K;refine aB fun K hK=>?_;simp only[↓zP,zG,seval,zI,lv];refine bV [3] (fun i vs H'=>∃w,vs=[w]/\jW H' 1 w (bU (bS (l.take i)))) l.length (by omega) (by decide) ?_ ?_ ?_ ?_ ?_
 . simp only[zB,seval]
 . simp only[zB,seval]
 . exact⟨.aF,by simp only[sm,zB,seval],.nil _ _⟩
 . rintro i f H1 hi hk e1 ⟨w,gV,ho⟩;have f3:f 3=w:=by simpa only[sm,Am,Bs] using gV
   have f7:f 7=.bH 0 1 (bE l):=(hk 7 rfl).trans (by simp only[zB,seval];exact hv.bH (i:=i) (by rw[qZ];exact hi));have hg:=TU hi;have zS:bS (l.take (i+1))=bS (l.take i)++[BF l[i]]:=(by unfold bS;rw[Bv,Ac hi,Dx];rfl);have hln:(bS (l.take i)).length<=i:=(by simp[bS];omega);rw[zS,mW];generalize l[i]=b at *;obtain⟨w',H',ha,e2,e3⟩:=ho.append (bytes:=8) (e:=[.int .i64 (BF b)]) (by rw[bQ];omega);refine aS ?_;cases b
   . rw[show BF false=0 from rfl] at ha;simp only[↓zP,zG,seval,zI,e1,f3,f7,aQ,qZ,hi,hg,show ∀(h:aA) (x:AV),bJ h 1 (.bH 1 1 [[x]])=some [[x]] from fun _ _=>rfl,ha];exact⟨w',rfl,e2⟩
   rw[show BF true=1 from rfl] at ha;simp only[↓zP,zG,seval,zI,e1,f3,f7,aQ,qZ,hi,hg,show ∀(h:aA) (x:AV),bJ h 1 (.bH 1 1 [[x]])=some [[x]] from fun _ _=>rfl,ha];exact⟨w',rfl,e2⟩
 rintro f H1 hk ⟨w,gV,ho⟩;have f3:f 3=w:=by simpa only[sm,Am,Bs] using gV
 rw[Bm] at ho;simp only[↓zP,seval];apply hK;clear hK K;simp only[↓zP,zG,seval,f3];refine⟨rfl,_,by simp only[↓zP,zR,seval];rfl,?_⟩;exact⟨w,0,rfl,fun nw=>ho.shut (jQ (BU _)) nw⟩
theorem QN {v:AV} {l:List (List Int)} (hv:mG v 3 (dQ l)) (h3:∀w∈l,w.length=3) (hl:l.length<2^30) (H:aA):Sound Tryz.prog gv 48 [v] H (.ret (OA 1 (bU l.flatten))) H:=by
 refine fV fit dZ aMk (Ae rfl) (by simp only[bN,hv.free (dO _)];rfl) ?_ H;unfold W48;dsimp only;have lv:=hv.len;simp only[cD] at lv;rw[eL] at lv;refine aB fun K hK=>?_;simp only[↓zP,zG,seval];apply hK;clear hK K;refine aB fun K hK=>?_;simp only[↓zP,zG,seval];apply hK;clear hK K;refine aB fun K hK=>?_;simp only[↓zP,zG,seval,zI,lv];refine bV [3] (fun i vs H'=>∃w,vs=[w]/\jW H' 1 w (bU (l.take i).flatten)) l.length (by omega) (by decide) ?_ ?_ ?_ ?_ ?_
 . simp only[zB,seval]
 . simp only[zB,seval]
 . exact⟨.aF,by simp only[sm,zB,seval],.nil _ _⟩
 . rintro i f H1 hi hk e1 ⟨w,gV,ho⟩;have f3:f 3=w:=by simpa only[sm,Am,Bs] using gV
   have f6:f 6=.bH 0 3 (dQ l):=(hk 6 rfl).trans (by simp only[zB,seval];exact hv.bH (i:=i) (by rw[eL];exact hi));have hg:=uA hi;have qp:=h3 _ (Ap hi);have pI:=uG (l:=l.take i) fun x hx=>h3 x (Bf hx);rw[Cb] at pI;have zS:(l.take (i+1)).flatten=(l.take i).flatten++l[i]:=(by rw[Bv,Ac hi,Dw];simp);have hlx:(iC l[i]).length=3:=(by rw[tR];exact qp);rw[zS,mW];generalize l[i]=x at *;obtain⟨HX,hHX⟩:∃HX,(H1.alloc (.cells [.int .i64 0,.int .i64 0,.int .i64 0] false)).set H1.next (.cells (iC x) false)=HX:=⟨_,rfl⟩;have gX:HX.get H1.next=some (.cells (iC x) false):=by rw[<-hHX,aA.aI,if_pos rfl]
   have hoX:Own HX 1 w (bU (l.take i).flatten):=by rw[<-hHX];exact(ho.1.alloc _).set _ _ fun h=>by have :=ho.1.TG h;omega
   have FX:=Kl (n:=3) (sz:=1) (off:=0) gX (by decide) (by omega)
   have Nb:bJ HX 1 (.sl H1.next 1 0 3 3)=some (bU x):=by
    match x,qp with
    |[a,b,c],_=>simp[bJ,aA.eB,gX,iC,bU,eQ]
   have EI:(bU x).length=3:=(by rw[bQ,qp]);obtain⟨w',H2,ha,e2,_⟩:=hoX.append (bytes:=8) (ys:=bU x) (by rw[EI,bQ];omega);refine aS ?_;simp only[↓zP,zG,seval,zI,e1,f3,f6,aQ,eL,hi,hg,oL hlx,cP,hHX,FX,Nb,ha];exact⟨w',rfl,e2,fun e=>by rw[(List.append_eq_nil_iff.1 e).2] at EI;cases EI⟩
 rintro f H1 hk ⟨w,gV,ho⟩;have f3:f 3=w:=by simpa only[sm,Am,Bs] using gV
 rw[Bm] at ho;simp only[↓zP,seval];apply hK;clear hK K;simp only[↓zP,zG,seval,f3];refine⟨rfl,_,by simp only[↓zP,zR,seval];rfl,?_⟩;exact⟨w,0,rfl,fun nw=>ho.shut (jQ (BU _)) nw⟩
theorem Pu {l:List (List Int)} (h3:∀w∈l,w.length=3) (hl:l.length<2^28):l.flatten.length<2^30:=by have :=uG h3;omega
theorem sQ {l:List (List Int)} (h3:∀w∈l,w.length=3/\nI w):∀x∈l.flatten,pF x:=fun x hx=>by obtain⟨w,hw,hx⟩:=Fg.1 hx;exact(h3 w hw).2 x hx
theorem ZC {s:Sc} (hs:s.OK) (h1:s.st.length<2^28) (h2:s.ps.length<2^28) (h3:s.vs.length<2^28) (h4:s.ws.length<2^28) (h5:s.ta.length<2^28) (h6:s.ac.length<2^28) (H:aA):
 Sound Tryz.prog gv 17 [.agg s.cs] H (.ret (.bH (H.next+2) 1 (aO (qM s)))) (H.alloc .tok):=by
 refine fW dZ (by simp only[bN,AV.free,Sc.free hs];rfl) (fL (by unfold qM;simp[tI])) (bW _) (bL fit aLs (Ae rfl) ?_ (by rfl)) H;unfold W17;dsimp only;have fl:∀l:List Bool,(bS l).length=l.length:=fun l=>by simp[bS]
 have e1:=dG (fN s.st) (by rw[fl];omega);have e2:=rW hs.p7 hs.tc;have f3:=uG fun w hw=>(hs.v3 w hw).1;have f4:=uG fun w hw=>(hs.w3 w hw).1;have e3:=dG (sQ hs.v3) (by omega);have e4:=dG (sQ hs.w3) (by omega);have e5:=dG (fN s.ta) (by rw[fl];omega);rw[fl] at e1 e5;obtain⟨HA,ED⟩:∃HA:aA,HA=((aA.mk 0 .nil).alloc (.cells s.cs false)).alloc (.cells [.aF] false):=⟨_,rfl⟩;have g0:HA.get 0=some (.cells s.cs false):=by subst ED;simp only[zI,seval]
 have gn:HA.next=2:=by subst ED;simp only[zI,seval]
 have w0:NI HA 1 []:=⟨.aF,by subst ED;simp only[zI,seval],by omega,.nil _ _⟩;obtain⟨H1,S1,w1,t1⟩:=Ky w0 (sW 1 _) (fN s.st) (by rw[fl];omega) (by simp);have g1:=t1.CL 0 _ _ (by omega) (by decide) g0;have n1:=t1.next;obtain⟨H2,S2,w2,t2⟩:=Mq w1 hs.ps hs.p7 hs.tc (by simp only[Ag,Ar];omega);have g2:=t2.CL 0 _ _ (by omega) (by decide) g1;have n2:=t2.next;obtain⟨H3,S3,w3,t3⟩:=Ky w2 (sW 1 _) (sQ hs.v3) (Pu (fun w hw=>(hs.v3 w hw).1) h3) (by simp only[Ag,Ar];omega);have g3:=t3.CL 0 _ _ (by omega) (by decide) g2;have n3:=t3.next;obtain⟨H4,S4,w4,t4⟩:=Ky w3 (sW 1 _) (sQ hs.w3) (Pu (fun w hw=>(hs.w3 w hw).1) h4) (by simp only[Ag,Ar];omega);have g4:=t4.CL 0 _ _ (by omega) (by decide) g3;have n4:=t4.next;obtain⟨H5,S5,w5,t5⟩:=Ky w4 (sW 1 _) (fN s.ta) (by rw[fl];omega) (by simp only[Ag,Ar];omega);have g5:=t5.CL 0 _ _ (by omega) (by decide) g4;have n5:=t5.next;obtain⟨H6,S6,w6,t6⟩:=Ky w5 (sW 1 _) (fN s.ac) (by rw[fl];omega) (by simp only[Ag,Ar];omega);obtain⟨w,g6,_,ho⟩:=w6;have c1:=EN hs.st hs.bH;have c3:=QN hs.vs (fun w hw=>(hs.v3 w hw).1) hs.lvs;have c4:=QN hs.ws (fun w hw=>(hs.w3 w hw).1) hs.lws;have c5:=EN hs.ta hs.lta;have c6:=EN hs.ac hs.lac;simp only[Sc.cs] at g0 g1 g2 g3 g4 g5 ED ⊢;refine aB fun K hK=>?_;simp only[↓zP,zG,seval,zI];apply hK;clear hK K;refine aB fun K hK=>?_;simp only[↓zP,zG,seval,zI];rw[<-ED];apply hK;clear hK K;refine aB fun K hK=>?_;simp only[↓zP,zG,seval,zI,g0];refine cT (c1 _) ?_;refine cT (S1) ?_;simp only[↓zP,seval];apply hK;clear hK K;refine aB fun K hK=>?_;simp only[↓zP,zG,seval,zI,g1];refine cT (S2) ?_;simp only[↓zP,seval];apply hK;clear hK K;refine aB fun K hK=>?_;simp only[↓zP,zG,seval,zI,g2];refine cT (c3 _) ?_;refine cT (S3) ?_;simp only[↓zP,seval];apply hK;clear hK K;refine aB fun K hK=>?_;simp only[↓zP,zG,seval,zI,g3];refine cT (c4 _) ?_;refine cT (S4) ?_;simp only[↓zP,seval];apply hK;clear hK K;refine aB fun K hK=>?_;simp only[↓zP,zG,seval,zI,g4];refine cT (c5 _) ?_;refine cT (S5) ?_;simp only[↓zP,seval];apply hK;clear hK K;refine aB fun K hK=>?_;simp only[↓zP,zG,seval,zI,g5];refine cT (c6 _) ?_;refine cT (S6) ?_;simp only[↓zP,seval];apply hK;clear hK K;simp only[↓zP,zG,seval,zI,g6];refine Rx ?_;exact⟨w,rfl,by simpa [qM] using ho⟩
theorem ZN {l:List Int} (cF:l≠[]) (hr:∀x∈l,pF x) (hl:l.length<2^30) (H:aA):Sound Tryz.prog gv 49 [.bH 0 1 (bU l)] H (.ret (.bH (H.next+2) 1 (aO (eG l)))) (H.alloc .tok):=by
 refine fW dZ (by simp only[bN,AV.free,pM];rfl) (fL (Td cF)) (bW _) (bL fit aIk (Ae rfl) ?_ (by rfl)) H;unfold zm;dsimp only;refine aB fun K hK=>?_;simp only[↓zP,zG,seval];apply hK;clear hK K;refine aB fun K hK=>?_;simp only[↓zP,zG,seval];apply hK;clear hK K;refine aB fun K hK=>?_;simp only[↓zP,zG,seval];refine wS [3] (fun i vs H'=>∃w,vs=[w]/\Own H' 1 w (aO (eG (l.take i)))) 0 l.length (Cs _) (by omega) (by decide) ?_ ?_ ?_ ?_ ?_
 . simp only[zB,seval]
 . exact⟨.aF,by simp only[sm,zB,seval],.nil _ _⟩
 . rintro i f H1 h0 hi hk e1 _;have f0:f 0=.bH 0 1 (bU l):=by rw[hk 0 rfl];rfl
   simp only[↓zP,zG,seval,e1,f0,bQ];exact tB (by omega)
 . rintro i f H1 h0 hi hk e1 ⟨w,gV,ho⟩;have f3:f 3=w:=by simpa only[sm,Am,Bs] using gV
   have f0:f 0=.bH 0 1 (bU l):=(by rw[hk 0 rfl];rfl);have YM:=bQ l;have xB:(bU l).getD i []=[.int .i64 l[i]]:=(by simp[bU,hi]);have hx:=hr _ (Ap hi);have EI:=eI (lQ hx);have pI:=jO (l:=l.take i) fun x hx=>hr x (Bf hx);rw[Cb] at pI;rw[DV hi,cK];generalize l[i]=x at *;obtain⟨w',H',ha,e2,e3⟩:=(ho.alloc .tok).append (bytes:=1) (ys:=aO (dJ (mF x))) (by simp only[bB];omega);refine aS ?_;simp only[↓zP,zG,seval,zI,e1,f0,f3,aQ,YM,hi,xB];refine cT (QT hx _) ?_;simp only[↓zP,zG,seval,bJ,ha];exact⟨w',rfl,e2⟩
 rintro f H1 hk ⟨w,gV,ho⟩;have f3:f 3=w:=by simpa only[sm,Am,Bs] using gV
 rw[Bm] at ho;simp only[↓zP,seval];apply hK;clear hK K;simp only[↓zP,zG,seval,f3];refine⟨rfl,_,by simp only[↓zP,zR,seval];rfl,?_⟩;exact⟨w,rfl,ho⟩
theorem EP {k n:Int} {pv:AV} {ps:List (List Int)} (hk:pF k) (hn:pF n) (hv:mG pv 7 (dQ ps)) (hr:∀q∈ps,q.length=7/\nI q) (hl:ps.length<2^30) (H:aA):
 Sound Tryz.prog gv 19 [.agg (oC k n pv)] H (.ret (.bH (H.next+2) 1 (aO (gF k n ps)))) (H.alloc .tok):=by
 refine fW dZ (by simp only[oC,sf,hv.free (dO _)]) (fL (by unfold gF eG;intro e;exact lD _ (List.append_eq_nil_iff.1 (List.append_eq_nil_iff.1 e).1).1)) (bW _) (bL fit aLu (Ae rfl) ?_ (by rfl)) H;unfold W19;dsimp only
 have YO:∀x∈[k,n],pF x:=fun x hx=>by
  simp only[Ah,Al,Bx] at hx
  rcases hx with rfl|rfl<;>assumption
 have e1:=jO YO;have e2:=rW hr hl;refine aB fun K hK=>?_;simp only[↓zP,zG,seval,zI,oC];apply hK;clear hK K;generalize hX:(aA.mk 0 .nil).alloc _=HA;have g0:HA.get 0=some (.cells [.int .i64 k,.int .i64 n,pv] false):=by subst hX;simp only[zI,seval]
 have gn:0<HA.next:=by subst hX;simp only[zI,seval]
 clear hX;have cF:¬(0=HA.next):=by omega
 have c1:Sound Tryz.prog gv 49 [.bH 1 1 [[.int .i64 k],[.int .i64 n]]] HA (.ret (.bH (HA.next+2) 1 (aO (eG [k,n])))) (HA.alloc .tok):=(ZN (by simp) YO (by simp) HA).Wb 1;have gT:(HA.alloc .tok).get 0=some (.cells [.int .i64 k,.int .i64 n,pv] false):=by rw[aA.aG,if_neg cF];exact g0
 refine aB fun K hK=>?_;refine bK (by decide) ?_;simp only[↓zP,zG,seval,zD,reduceCtorEq,zI,g0];apply cL (hS:=c1)
 . decide
 . simp only[sm,zB,seval]
 . simp only[aA.aR];omega
 . intro x hx _;simp only[Ah,Al,Bx] at hx
   rcases hx with rfl|rfl<;>exact g0.trans gT.symm
 simp only[↓zP,zG,seval,zD,reduceCtorEq,zI,gT];refine⟨by rw[if_neg cF],?_⟩;have o1:Own ((HA.alloc .tok).alloc .tok) 1 (.bH (HA.next+2) 1 (aO (eG [k,n]))) (aO (eG [k,n])):=(Own.fresh HA 1 _).alloc .tok;have gA:((HA.alloc .tok).alloc .tok).get 0=some (.cells [.int .i64 k,.int .i64 n,pv] false):=by rw[aA.aG,if_neg (by simp only[aA.aR];omega)];exact gT
 apply cL (hS:=Mh hv hr hl (HA.alloc .tok))
 . decide
 . simp only[sm,zB,seval]
 . simp only[aA.aR];omega
 . intro x hx _;simp only[Ah,Al,Bx] at hx
   rcases hx with rfl|rfl|rfl<;>exact gT.trans gA.symm
 simp only[Ak,Ar] at e1;obtain⟨w1,H1,ha1,o2,gr⟩:=o1.append (bytes:=1) (ys:=aO (lV ps)) (by simp only[bB];omega);rw[<-cK] at o2;simp only[↓zP,zG,seval,zD,reduceCtorEq,zI,bJ,ha1]
 refine⟨gr.next,?_⟩;apply hK;clear hK K;simp only[↓zP,seval];refine Rx ?_;exact⟨w1,rfl,o2⟩
def W5T:{x // GB Tryz.prog uH false Tryz.f5=some x}:=⟨_,xV⟩
theorem aMv:iM Tryz.prog uH false 5 W5T.1:=gJ Tryz.func5 (by kernel_rfl) W5T.2
theorem toF {f:FuncId} {args:List AV} {l:List Nat} (ha:bN args=true) (h:∀H,Sound Tryz.prog gv f args H (.ret (.bH (H.next+2) 1 (aO l))) (H.alloc .tok)):∀H,Sound Tryz.prog uH f args H (.ret (.bH 0 1 (aO l))) H:=by refine bj ha (by simp only[AV.free,bW];rfl) fun H=>?_;refine(h ⟨0,.nil⟩).frame dZ ha (tk:=none) (fun k hk=>by cases hk) (n:=0) H ?_;simp only[Out.av,fG,hY,bW];rfl
theorem Bytes.app {a b:List Nat} (ha:Bytes a) (hb:Bytes b):Bytes (a++b):=fun x hx=>(Az.1 hx).elim (ha x) (hb x)
theorem AJ (n:Nat):Bytes (dJ n):=by
 induction n using Nat.strongRecOn with
 |_ n ih=>
  unfold dJ;split
  . intro x hx;simp at hx;omega
  intro x hx
  rcases Ah.1 hx with rfl|hx
  . omega
  exact ih _ (by omega) x hx
theorem yW (l:List Int):Bytes (eG l):=fun x hx=>by obtain⟨y,_,hx⟩:=Fh.1 hx;exact AJ _ x hx
theorem kS (l:List Int):Bytes (bC l):=(AJ _).app (yW l)
theorem FJ (l:List (List Int)):Bytes (lV l):=(AJ _).app fun x hx=>by obtain⟨y,_,hx⟩:=Fh.1 hx;exact yW _ x hx
theorem PO (k n:Int) (ps:List (List Int)):Bytes (gF k n ps):=(yW _).app (FJ _)
theorem Rn (d:XL):Bytes (GP d):=(((((kS _).app (FJ _)).app (kS _)).app (kS _)).app (kS _)).app (kS _)
theorem VV {k n:Int} {ps:List (List Int)} (hk:pF k) (hn:pF n) (hr:∀q∈ps,q.length=7/\nI q) (hl:ps.length<2^30):(gF k n ps).length<=30+70*ps.length:=by
 have h1:=jO (l:=[k,n]) fun x hx=>by
  simp only[Ah,Al,Bx] at hx
  rcases hx with rfl|rfl<;>assumption
 have h2:=rW hr hl;unfold gF;simp only[Ag,Ak,Ar] at h1 ⊢;omega
def jz (s:Sc):XL:=(s.st,s.ps,s.vs,s.ws,s.ta,s.ac)
theorem fg (s:Sc):GP (jz s)=qM s:=rfl
theorem Xm {s:Sc} (hs:s.OK) (h1:s.st.length<=100) (h2:s.ps.length<=100) (h3:s.vs.length<=100) (h4:s.ws.length<=100) (h5:s.ta.length<=100) (h6:s.ac.length<=100):(qM s).length<2^30:=by
 have fl:∀l:List Bool,(bS l).length=l.length:=fun l=>by simp[bS]
 have e1:=dG (fN s.st) (by rw[fl];omega);have e2:=rW hs.p7 hs.tc;have f3:=uG fun w hw=>(hs.v3 w hw).1;have f4:=uG fun w hw=>(hs.w3 w hw).1;have e3:=dG (sQ hs.v3) (by omega);have e4:=dG (sQ hs.w3) (by omega);have e5:=dG (fN s.ta) (by rw[fl];omega);have e6:=dG (fN s.ac) (by rw[fl];omega);rw[fl] at e1 e5 e6;unfold qM;simp only[Ag];omega
theorem XK.OK {s:Sc} {d:XL} (h:XK s d) (ho:okT d):s.OK:=by
 obtain⟨o1,⟨o2,o3⟩,⟨o4,o5⟩,⟨o6,o7⟩,o8,o9⟩:=ho;refine⟨h.sv,h.pv,h.vv,h.wv,h.tv,h.av,?_,?_,?_,?_,?_,?_,?_,?_,?_⟩
 . rw[h.ps];exact o3
 . rw[h.vs];exact o5
 . rw[h.ws];exact o7
 . rw[h.st];exact o1
 . rw[h.ps];exact o2
 . rw[h.vs];omega
 . rw[h.ws];omega
 . rw[h.ta];exact o8
 rw[h.ac];exact o9
theorem XK.enc {s:Sc} {d:XL} (h:XK s d):qM s=GP d:=by unfold qM GP;rw[h.st,h.ps,h.vs,h.ws,h.ta,h.ac]
theorem OE (l m:List Nat):∀H,Sound Tryz.prog uH 18 [.bH 0 1 (aO l),.bH 0 1 (aO m)] H (.ret (.bool (oH l==oH m))) H:=
 bj (by simp only[sf,bW]) rfl fun H=>Qb H
theorem WU {b:List Nat} {z:Nat} (h:z<=b.length):lN 1 (.bH 0 1 (aO b)) none (some z) none=some (.bH 0 1 (aO (b.take z))):=by
 have hl:(aO b).length=b.length:=bB _;simp only[lN,Dd,Bb];rw[hl,if_pos ⟨trivial,Cs _,h⟩];split
 . rename_i h3;rw[Ex,h3.1,Bl (Ai _)]
 rw[Ex,Gq];simp[aO]
theorem Yb (aBc:∀H,Sound Tryz.prog uH 7 [] H (.ret (.bool true)) H) {k n:Int} {qs:List (List Int)} {pv bv:AV} {s:Sc} {b:List Nat} (hk:pF k) (hn:pF n)
 (hpv:mG pv 7 (dQ qs)) (hq:∀q∈qs,q.length=7/\nI q) (hql:qs.length<2^28) (hs:s.OK) (h1:s.st.length<2^28) (h2:s.ps.length<2^28) (h3:s.vs.length<2^28) (h4:s.ws.length<2^28) (h5:s.ta.length<2^28) (h6:s.ac.length<2^28)
 (hb:Bytes b) (OS:mG bv 1 (aO b)) (To:b.length<2^28) (H:aA):
 Sound Tryz.prog uH 5 [.agg (oC k n pv),.agg s.cs,bv] H (.ret (.bool true)) H:=by
 have fo:bN (oC k n pv)=true:=by simp only[oC,sf,hpv.free (dO _)]
 have fs:=Sc.free hs
 have fb:bv.free=true:=by
  have :=OS.free fun e he=>by obtain⟨x,_,rfl⟩:=Bq.1 he;rfl
  exact this
 refine yP aDg Rz aMv (Ae rfl) (by simp only[sf,fs,fo,fb]) (by simp only[sf]) ?_ H;unfold W5T;dsimp only;have l6:s.cs.length=6:=rfl;have l3:(oC k n pv).length=3:=rfl;refine aB fun K hK=>?_;simp only[↓zP,zG,seval,zI];apply hK;clear hK K;generalize hX:((aA.mk 0 .nil).alloc _).alloc _=HA;have g0:HA.get 0=some (.cells [.int .i64 k,.int .i64 n,pv] false):=by subst hX;simp only[zI,seval];rfl
 have g1:HA.get 1=some (.cells [s.sv,s.pv,s.vv,s.wv,s.tv,s.av] false):=by subst hX;simp only[zI,seval];rfl
 have gn:HA.next=2:=by subst hX;simp only[zI,seval]
 clear hX;refine eS fun f pH=>?_;have f3:f 3=.ref 0 0:=by subst pH;simp only[zB,seval]
 have f4:f 4=.ref 1 0:=by subst pH;simp only[zB,seval]
 have f2:f 2=bv:=by subst pH;simp only[zB,seval];exact rfl
 clear pH;have q0:=hpv.len HA;have q1:=hs.st.len HA;have q2:=hs.ps.len HA;have q3:=hs.vs.len HA;have q4:=hs.ws.len HA;have q5:=hs.ta.len HA;have q6:=hs.ac.len HA;have q7:=OS.len HA;simp only[cD] at q0 q1 q2 q3 q4 q5 q6 q7;rw[eL] at q0 q2 q3 q4;rw[qZ] at q1 q5 q6;rw[bB] at q7;have w1:IntKind.i64.wrap ((s.st.length:Int)+(s.ps.length:Int))=((s.st.length+s.ps.length:Nat):Int):=by rw[wrap_i64 (by omega) (by omega)];omega
 have w2:IntKind.i64.wrap (((s.st.length+s.ps.length:Nat):Int)+(s.vs.length:Int))=((s.st.length+s.ps.length+s.vs.length:Nat):Int):=by rw[wrap_i64 (by omega) (by omega)];omega
 have w3:IntKind.i64.wrap (((s.st.length+s.ps.length+s.vs.length:Nat):Int)+(s.ws.length:Int))=((s.st.length+s.ps.length+s.vs.length+s.ws.length:Nat):Int):=by rw[wrap_i64 (by omega) (by omega)];omega
 have w4:IntKind.i64.wrap (((s.st.length+s.ps.length+s.vs.length+s.ws.length:Nat):Int)+(s.ta.length:Int))=((s.st.length+s.ps.length+s.vs.length+s.ws.length+s.ta.length:Nat):Int):=by rw[wrap_i64 (by omega) (by omega)];omega
 have w5:IntKind.i64.wrap (((s.st.length+s.ps.length+s.vs.length+s.ws.length+s.ta.length:Nat):Int)+(s.ac.length:Int))=((s.st.length+s.ps.length+s.vs.length+s.ws.length+s.ta.length+s.ac.length:Nat):Int):=by rw[wrap_i64 (by omega) (by omega)];omega
 refine aB fun K hK=>?_;refine aB fun K2 bO=>?_
 have bad:∀f':cQ,f' 57=.bool true->K2 f' [] HA:=fun f' h57=>by apply bO;simp only[↓zP,zG,seval,h57];refine cT (aBc _) ?_;simp only[↓zP,zG,seval];refine Rx ?_;rfl
 by_cases y1:(qs.length:Int)>100
 . have z1:decide ((qs.length:Int)>100)=true:=Bk y1;simp only[↓zP,zG,seval,zI,f3,g0,q0,z1];exact bad _ (by simp only[zB,seval])
 have z1:decide ((qs.length:Int)>100)=false:=As y1;by_cases y2:((s.st.length+s.ps.length+s.vs.length+s.ws.length+s.ta.length+s.ac.length:Nat):Int)>100
 . have z2:decide (((s.st.length+s.ps.length+s.vs.length+s.ws.length+s.ta.length+s.ac.length:Nat):Int)>100)=true:=Bk y2;simp only[↓zP,zG,seval,zI,f3,f4,g0,g1,q0,q1,q2,q3,q4,q5,q6,w1,w2,w3,w4,w5,z1,z2];exact bad _ (by simp only[zB,seval])
 have z2:decide (((s.st.length+s.ps.length+s.vs.length+s.ws.length+s.ta.length+s.ac.length:Nat):Int)>100)=false:=As y2;by_cases y3:s.vs.length=s.ws.length;rotate_left
 . have z3:((s.vs.length:Int) != (s.ws.length:Int))=true:=by rw[El];omega
   simp only[↓zP,zG,seval,zI,f3,f4,g0,g1,q0,q1,q2,q3,q4,q5,q6,w1,w2,w3,w4,w5,z1,z2,z3];exact bad _ (by simp only[zB,seval])
 have z3:((s.vs.length:Int) != (s.ws.length:Int))=false:=by rw[y3];simp
 by_cases y4:(b.length:Int)>5000
 . have z4:decide ((b.length:Int)>5000)=true:=Bk y4;simp only[↓zP,zG,seval,zI,f2,f3,f4,g0,g1,q0,q1,q2,q3,q4,q5,q6,q7,w1,w2,w3,w4,w5,z1,z2,z3,z4];exact bad _ (by simp only[zB,seval])
 have z4:decide ((b.length:Int)>5000)=false:=As y4;simp only[↓zP,zG,seval,zI,f2,f3,f4,g0,g1,q0,q1,q2,q3,q4,q5,q6,q7,w1,w2,w3,w4,w5,z1,z2,z3,z4];apply bO;clear bO K2 bad;simp only[↓zP,zG,seval];apply hK;clear hK K;have r1:qs.length<=100:=by omega
 have Pb:=VV hk hn hq (ps:=qs) (by omega);have hdl:=Xm hs (by omega) (by omega) (by omega) (by omega) (by omega) (by omega);have fr1:bN [.agg (oC k n pv)]=true:=by simp only[sf,fo]
 have fr2:bN [.agg s.cs]=true:=by simp only[sf,fs]
 have E1:=toF fr1 fun H=>Xk hk hn hpv hq (by omega) H;have E2:=toF fr2 fun H=>ZC hs h1 h2 h3 h4 h5 h6 H;have E3:=toF fr1 fun H=>EP hk hn hpv hq (by omega) H;have E4:=toF fr2 fun H=>HL hs H;have S1:=OE (gF k n qs) (gF k n qs);have S2:=OE (qM s) (qM s);rw[Eu] at S1 S2;simp only[oC] at E1 E3;simp only[Sc.cs] at E2 E4;refine eS fun g xS=>?_;have p3:g 3=.ref 0 0:=by subst xS;simp only[zB,seval];exact f3
 have p4:g 4=.ref 1 0:=by subst xS;simp only[zB,seval];exact f4
 have p2:g 2=bv:=by subst xS;simp only[zB,seval];exact f2
 clear xS f2 f3 f4 f;have lk:[AV.int .i64 k,.int .i64 n,pv].length=3:=rfl;have l6':[s.sv,s.pv,s.vv,s.wv,s.tv,s.av].length=6:=rfl;refine aB fun K hK=>?_;simp only[↓zP,zG,seval,zI,p3,g0];refine cT (E1 _) ?_;simp only[↓zP,zG,seval];apply hK;clear hK K;refine aB fun K hK=>?_;simp only[↓zP,zG,seval,zI,p4,g1];refine cT (E2 _) ?_;simp only[↓zP,zG,seval];apply hK;clear hK K;refine aB fun K hK=>?_;refine aB fun K2 bO=>?_;simp only[↓zP,zG,seval,zI,p3,g0];refine cT (E3 _) ?_;refine cT (S1 _) ?_;simp only[↓zP,zG,seval,zI,p4,g1];refine cT (E4 _) ?_;simp only[↓zP,zG,seval];refine cT (S2 _) ?_;simp only[↓zP,zG,seval,zI];apply bO;clear bO K2;simp only[↓zP,zG,seval];apply hK;clear hK K;refine eS fun f pH=>?_;have f3:f 3=.ref 0 0:=by subst pH;simp only[zB,seval];exact p3
 have f4:f 4=.ref 1 0:=by subst pH;simp only[zB,seval];exact p4
 have f2:f 2=bv:=by subst pH;simp only[zB,seval];exact p2
 have f7:f 7=.bH 0 1 (aO (gF k n qs)):=by subst pH;simp only[zB,seval]
 have f8:f 8=.bH 0 1 (aO (qM s)):=by subst pH;simp only[zB,seval]
 clear pH p2 p3 p4 g;have hc0:gF k n qs≠[]:=by unfold gF eG;intro e;exact lD _ (List.append_eq_nil_iff.1 (List.append_eq_nil_iff.1 e).1).1
 have a1:cV HA 1 1 false (.bH 1 1 []) (aO (gF k n qs))=some (.bH (HA.next+2) 1 (aO (gF k n qs)),HA.alloc .tok):=by unfold cV;rw[if_neg (by intro e;rw[List.isEmpty_iff] at e;exact fL hc0 e)];simp only[Ar,Cc,bB];rw[if_pos ⟨trivial,by omega⟩];rfl
 obtain⟨w,HB,a2,ow,gr⟩:=(Own.fresh HA 1 (aO (gF k n qs))).append (bytes:=1) (ys:=aO b) (by simp only[bB];omega);rw[<-cK] at ow;have m0:=gr.cells (Own.fresh HA 1 _) (id:=0) (by simp only[aA.aR];omega) (by rw[aA.aG,if_neg (by omega)];exact g0);have m1:=gr.cells (Own.fresh HA 1 _) (id:=1) (by simp only[aA.aR];omega) (by rw[aA.aG,if_neg (by omega)];exact g1)
 obtain⟨tg,rfl⟩:∃tg,w=.bH tg 1 (aO (gF k n qs++b)):=by
  rcases ow with ⟨_,e⟩|⟨k',e,_⟩
  . exact absurd (List.append_eq_nil_iff.1 (by simpa [aO] using e)).1 hc0
  exact⟨_,e⟩
 have hN:=gr.next;simp only[aA.aR,gn] at hN;clear ow gr;have D1:=PH (v:=.bH 0 1 (aO (gF k n qs++b))) (.inr rfl) ((PO k n qs).app hb) (by rw[Ag];omega);rw[ZI hk hn ⟨by omega,hq⟩ b] at D1;obtain⟨k1,n1,pv1,e1,hp1,D1⟩:=D1;simp only[Am,Bs] at e1;obtain⟨rfl,rfl⟩:=e1
 have hbe:∀H,bJ H 1 bv=some (aO b):=fun H=>by
  rcases OS with ⟨rfl,h⟩|rfl
  . rw[h];rfl
  rfl
 have fp1:pv1.free=true:=hp1.free (dO _);have T1:=fun H=>(bj (args:=[.bH 0 1 (aO (gF k n qs++b))]) (by simp only[sf,bW]) (by simp only[oC,sf,fp1]) D1 H).Wb tg;simp only[oC] at T1;have lk1:[AV.int .i64 k,.int .i64 n,pv1].length=3:=rfl;have l30:[AV.int .i64 0,.int .i64 0,AV.aF].length=3:=rfl;refine aB fun K hK=>?_;simp only[↓zP,zG,seval,zI,f2,f7,show ∀(H:aA) (els:List (List AV)),bJ H 1 (.bH 0 1 els)=some els from fun _ _=>rfl,a1,hbe,a2];refine cT (T1 _) ?_;simp only[↓zP,zG,seval,zI,lk1,l30];apply hK;clear hK K;obtain⟨p,hp⟩:∃p,HB.next=p:=⟨_,rfl⟩;obtain⟨HC,hHC⟩:∃HC,(HB.alloc (.cells [.int .i64 0,.int .i64 0,.aF] false)).set HB.next (.cells [.int .i64 k,.int .i64 n,pv1] false)=HC:=⟨_,rfl⟩;have x0:HC.get 0=some (.cells [.int .i64 k,.int .i64 n,pv] false):=by rw[<-hHC,aA.aI,if_neg (by omega),aA.aG,if_neg (by omega)];exact m0
 have x1:HC.get 1=some (.cells [s.sv,s.pv,s.vv,s.wv,s.tv,s.av] false):=by rw[<-hHC,aA.aI,if_neg (by omega),aA.aG,if_neg (by omega)];exact m1
 have x9:HC.get p=some (.cells [.int .i64 k,.int .i64 n,pv1] false):=by rw[<-hHC,aA.aI,if_pos hp.symm]
 have xn:HC.next=p+1:=by rw[<-hHC];simp only[aA.bD,aA.aR,hp]
 rw[hHC,hp];clear hHC m0 m1;refine eS fun g xS=>?_;have p2:g 2=bv:=by subst xS;simp only[zB,seval];exact f2
 have p4:g 4=.ref 1 0:=by subst xS;simp only[zB,seval];exact f4
 have p7:g 7=.bH 0 1 (aO (gF k n qs)):=by subst xS;simp only[zB,seval];exact f7
 have p8:g 8=.bH 0 1 (aO (qM s)):=by subst xS;simp only[zB,seval];exact f8
 have p9:g 9=.ref p 0:=by subst xS;simp only[zB,seval]
 have p10:g 10=.int .i64 (gF k n qs).length:=by subst xS;simp only[zB,seval]
 have p11:g 11=.int .i64 0:=by subst xS;simp only[zB,seval]
 clear xS f2 f3 f4 f7 f8 f;have D2:=PI (v:=.bH 0 1 (aO (qM s))) (.inr rfl) (Rn (jz s)) hdl;have qk:qO (qM s)=some (jz s):=ZJ (d:=jz s) ⟨hs.bH,⟨hs.tc,hs.p7⟩,⟨by show 3*s.vs.length<_;omega,hs.v3⟩,⟨by show 3*s.ws.length<_;omega,hs.w3⟩,hs.lta,hs.lac⟩ y3;rw[qk] at D2;obtain⟨s1,i1,D2⟩:=D2;have ok1:s1.OK:=i1.OK ⟨hs.bH,⟨hs.tc,hs.p7⟩,⟨by show 3*s.vs.length<_;omega,hs.v3⟩,⟨by show 3*s.ws.length<_;omega,hs.w3⟩,hs.lta,hs.lac⟩;have fs1:=Sc.free ok1;have T2:=fun H=>bj (args:=[.bH 0 1 (aO (qM s))]) (by simp only[sf,bW]) (by simp only[sf,fs1]) D2 H;have T3:=bj (f:=10) (args:=[.agg s1.cs,.agg s.cs]) (by simp only[sf,fs1,fs]) rfl fun H=>ZR ok1 hs H;rw[i1.enc,fg,Eu] at T3;simp only[Sc.cs] at T2 T3;have l61:[s1.sv,s1.pv,s1.vv,s1.wv,s1.tv,s1.av].length=6:=rfl;have l60:[AV.aF,.aF,.aF,.aF,.aF,.aF].length=6:=rfl;refine aB fun K hK=>?_;simp only[↓zP,zG,seval,p8];refine cT (T2 _) ?_;simp only[↓zP,zG,seval,zI,l61,l60,xn];apply hK;clear hK K;obtain⟨HD,hHD⟩:∃HD,(HC.alloc (.cells [.aF,.aF,.aF,.aF,.aF,.aF] false)).set (p+1) (.cells [s1.sv,s1.pv,s1.vv,s1.wv,s1.tv,s1.av] false)=HD:=⟨_,rfl⟩;have u0:HD.get 0=some (.cells [.int .i64 k,.int .i64 n,pv] false):=by rw[<-hHD,aA.aI,if_neg (by omega),aA.aG,if_neg (by omega)];exact x0
 have u1:HD.get 1=some (.cells [s.sv,s.pv,s.vv,s.wv,s.tv,s.av] false):=by rw[<-hHD,aA.aI,if_neg (by omega),aA.aG,if_neg (by omega)];exact x1
 have u9:HD.get p=some (.cells [.int .i64 k,.int .i64 n,pv1] false):=by rw[<-hHD,aA.aI,if_neg (by omega),aA.aG,if_neg (by omega)];exact x9
 have u12:HD.get (p+1)=some (.cells [s1.sv,s1.pv,s1.vv,s1.wv,s1.tv,s1.av] false):=by rw[<-hHD,aA.aI,if_pos rfl]
 rw[hHD];clear hHD x0 x1 x9;refine eS fun f pH=>?_;have f2:f 2=bv:=by subst pH;simp only[zB,seval];exact p2
 have f4:f 4=.ref 1 0:=by subst pH;simp only[zB,seval];exact p4
 have f7:f 7=.bH 0 1 (aO (gF k n qs)):=by subst pH;simp only[zB,seval];exact p7
 have f9:f 9=.ref p 0:=by subst pH;simp only[zB,seval];exact p9
 have f10:f 10=.int .i64 (gF k n qs).length:=by subst pH;simp only[zB,seval];exact p10
 have f11:f 11=.int .i64 0:=by subst pH;simp only[zB,seval];exact p11
 have f12:f 12=.ref (p+1) 0:=by subst pH;simp only[zB,seval]
 have f13:f 13=.int .i64 0:=by subst pH;simp only[zB,seval]
 clear pH p2 p4 p7 p8 p9 p10 p11 g;have E5:=toF (args:=[.agg (oC k n pv1)]) (by simp only[oC,sf,fp1]) fun H=>EP hk hn hp1 hq (by omega) H;simp only[oC] at E5;have z0:((0:Int) != 0)=false:=rfl;refine aB fun K hK=>?_;refine aB fun K2 bO=>?_;simp only[↓zP,zG,seval,zI,f7,f9,f10,f11,bB,Eg,u9];refine cT (E5 _) ?_;simp only[↓zP,zG,seval,f7];refine cT (S1 _) ?_;simp only[↓zP,zG,seval,zI,f12,f13,f4,Eg,u12,u1];refine cT (T3 _) ?_;simp only[↓zP,zG,seval,zI];apply bO;clear bO K2;simp only[↓zP,zG,seval];apply hK;clear hK K;refine eS fun g xS=>?_;have p2:g 2=bv:=by subst xS;simp only[zB,seval];exact f2
 have p9:g 9=.ref p 0:=by subst xS;simp only[zB,seval];exact f9
 have p12:g 12=.ref (p+1) 0:=by subst xS;simp only[zB,seval];exact f12
 clear xS f2 f4 f7 f9 f10 f11 f12 f13 f;have lbv:∀H,cD (fun _=>bv) H (.GU (.tmp 0))=some (.int .i64 b.length,H):=fun H=>by rw[OS.len H,bB]
 simp only[cD] at lbv;have D3:=PH OS hb (by omega);have fbL:bN [bv]=true:=by simp only[sf,fb]
 obtain⟨kx,nx,px,zx,ex,T5,hx⟩:∃(kx nx:Int) (px:AV) (zx:Nat) (ex:Int),(∀H,Sound Tryz.prog uH 21 [bv] H (.ret (.eZ [.agg [.int .i64 kx,.int .i64 nx,px],.int .i64 zx,.int .i64 ex])) H)/\
  (ex=11\/(ex=0/\zx<=b.length/\b.take zx≠[]/\∀H,Sound Tryz.prog uH 19 [.agg [.int .i64 kx,.int .i64 nx,px]] H (.ret (.bH 0 1 (aO (b.take zx)))) H)):=by
  cases hr:Kf b with
  |none=>rw[hr] at D3;have T5:=bj fbL (by simp only[oC,sf]) D3;exact⟨0,0,.aF,0,11,T5,.inl rfl⟩
  |some q=>
   obtain⟨⟨l,ps⟩,z⟩:=q;rw[hr] at D3;obtain⟨k2,n2,pv2,rfl,hp2,D3⟩:=D3;obtain⟨k3,n3,e3,i1,i2,⟨i3,i4⟩,i5,i6⟩:=WG hb (by omega) hr;simp only[Am,Bs] at e3;obtain⟨rfl,rfl⟩:=e3;have fp2:pv2.free=true:=hp2.free (dO _);refine⟨k2,n2,pv2,z,0,bj fbL (by simp only[sf,fp2]) D3,.inr ⟨rfl,i5,?_,?_⟩⟩
   . rw[i6];unfold gF eG;intro e;exact lD _ (List.append_eq_nil_iff.1 (List.append_eq_nil_iff.1 e).1).1
   rw[i6];exact toF (args:=[.agg (oC k2 n2 pv2)]) (by simp only[oC,sf,fp2]) fun H=>EP i1 i2 hp2 i4 i3 H
 have l0:[AV.int .i64 kx,.int .i64 nx,px].length=3:=rfl;refine aB fun K hK=>?_;simp only[↓zP,zG,seval,p2];refine cT (T5 _) ?_;simp only[↓zP,zG,seval,zI,p9,u9,l0];apply hK;clear hK K;obtain⟨HE,hHE⟩:∃HE,HD.set p (.cells [.int .i64 kx,.int .i64 nx,px] false)=HE:=⟨_,rfl⟩;have v9:HE.get p=some (.cells [.int .i64 kx,.int .i64 nx,px] false):=by rw[<-hHE,aA.aI,if_pos rfl]
 have v12:HE.get (p+1)=some (.cells [s1.sv,s1.pv,s1.vv,s1.wv,s1.tv,s1.av] false):=by rw[<-hHE,aA.aI,if_neg (by omega)];exact u12
 rw[hHE];clear hHE u0 u1 u9 u12;refine eS fun f pH=>?_;have f2:f 2=bv:=by subst pH;simp only[zB,seval];exact p2
 have f9:f 9=.ref p 0:=by subst pH;simp only[zB,seval];exact p9
 have f10:f 10=.int .i64 zx:=by subst pH;simp only[zB,seval]
 have f11:f 11=.int .i64 ex:=by subst pH;simp only[zB,seval]
 have f12:f 12=.ref (p+1) 0:=by subst pH;simp only[zB,seval];exact p12
 clear pH p2 p9 p12 g;refine aB fun K hK=>?_
 have tail:∀g:cQ,g 2=bv->g 12=.ref (p+1) 0->K g [] HE:=fun g p2 p12=>by
  apply hK;clear hK K;have D4:=PI OS hb (by omega);have aNv:[AV.aF,.aF,.aF,.aF,.aF,.aF].length=6:=rfl
  cases hr:qO b with
  |none=>rw[hr] at D4;have T7:=bj fbL (by simp only[sf]) D4;have z1:((11:Int)==0)=false:=rfl;have z2:((11:Int)==11)=true:=rfl;refine aB fun K hK=>?_;simp only[↓zP,zG,seval,p2];refine cT (T7 _) ?_;simp only[↓zP,zG,seval,zI,p12,v12,aNv];apply hK;clear hK K;refine aB fun K hK=>?_;simp only[↓zP,seval];refine cT (aBc _) ?_;have z3:(IntKind.i64.wrap (0+0)==0)=true:=(by decide);simp only[↓zP,zG,seval,zI,z1,z2,p12];apply hK;clear hK K;simp only[↓zP,seval];refine Rx ?_;rfl
  |some d=>
   rw[hr] at D4;obtain⟨s2,i2,D4⟩:=D4;obtain⟨kT,kE⟩:=WI hb (by omega) hr;have ok2:=i2.OK kT;have fs2:=Sc.free ok2;have T7:=bj fbL (by simp only[sf,fs2]) D4;have T8:=toF (args:=[.agg s2.cs]) (by simp only[sf,fs2]) fun H=>HL ok2 H;rw[i2.enc,kE] at T8;have S7:=OE b b;rw[Eu] at S7
   have cF:b≠[]:=by rw[<-kE];unfold GP bC;intro e;simp[lD] at e
   obtain rfl:bv=.bH 0 1 (aO b):=by
    rcases OS with ⟨_,e⟩|e
    . exact absurd (by simpa [aO] using e) cF
    exact e
   simp only[Sc.cs] at T7 T8;have l62:[s2.sv,s2.pv,s2.vv,s2.wv,s2.tv,s2.av].length=6:=rfl;have z1:((0:Int)==0)=true:=rfl;refine aB fun K hK=>?_;simp only[↓zP,zG,seval,p2];refine cT (T7 _) ?_;simp only[↓zP,zG,seval,zI,p12,v12,l62];apply hK;clear hK K;refine aB fun K hK=>?_;simp only[↓zP,seval];refine cT (aBc _) ?_;simp only[↓zP,zG,seval,zI,z1,p12];refine cT (T8 _) ?_;simp only[↓zP,zG,seval,p2];refine cT (S7 _) ?_;simp only[↓zP,zG,seval,BO];apply hK;clear hK K;simp only[↓zP,seval];refine Rx ?_;rfl
 clear hK;refine aB fun K2 bO=>?_
 rcases hx with rfl|⟨rfl,c1,c2,T6⟩
 . have z1:((11:Int)==0)=false:=rfl;have z2:((11:Int) != 0)=true:=rfl;refine bK (by decide) ?_;simp only[↓zP,zG,seval,zD,reduceCtorEq,zI,f11,z1,z2,Eg,BO];apply bO;simp only[↓zP,zG,seval];exact tail _ (by simp only[zB,seval];exact f2) (by simp only[zB,seval];exact f12)
 have z1:((0:Int)==0)=true:=rfl;have z2:decide ((zx:Int)>(b.length:Int))=false:=As (by omega);have S6:=OE (b.take zx) (b.take zx);rw[Eu] at S6;have cF:b≠[]:=fun e=>c2 (by rw[e];simp)
 obtain rfl:bv=.bH 0 1 (aO b):=by
  rcases OS with ⟨_,e⟩|e
  . exact absurd (by simpa [aO] using e) cF
  exact e
 have FX:=WU c1;refine bK (by decide) ?_;simp only[↓zP,zG,seval,zD,reduceCtorEq,zI,f2,f9,f10,f11,z1,z2,lbv,v9];refine rM (T6 _) ?_;have z3:((0:Int) != 0)=false:=rfl;simp only[↓zP,zG,seval,zD,reduceCtorEq,zI,f2,f10,cP,aQ,FX,Ca,Br];refine rM (S6 _) ?_;simp only[↓zP,zG,seval,zD,reduceCtorEq,zI,f11,z3];apply bO;simp only[↓zP,zG,seval];exact tail _ (by simp only[zB,seval];exact f2) (by simp only[zB,seval];exact f12)
end Go.Proofs.YtgggiembljfnhaaGreatDoor
