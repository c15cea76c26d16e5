/-
  Part of the proof of statement 10
-/
import Derived.Test.YtndkpgceodimiaaGreatDoorA17
import Derived.Test.YtndkpgceodimiaaGreatDoorA22
import Derived.Test.YtndkpgceodimiaaGreatDoorA21
import Derived.Test.YtndkpgceodimiaaGreatDoorA06
import Derived.Test.YtndkpgceodimiaaGreatDoorA07
set_option linter.unusedVariables false
set_option maxRecDepth 100000
set_option maxHeartbeats 16000000
namespace Go.Proofs.YtndkpgceodimiaaGreatDoor
open Go Go.Av Go.aI
attribute [local congr] aV aO aP aL aX aR aQ aH aY
attribute [local irreducible] FC bY eX
theorem WY {tag:Nat} {l:List aI.V} (hlen:l.length<2^30) {id r:Nat} {o:Bool} (I:Nat->aA->Prop) (iE:∀i H H',Over H H'->I i H->I i H')
 (fL:∀i (hi:i<l.length) H,I i H->∃H',rR Tryz.prog gv id [.agg (cG l[i])] H (.ret (.bool true)) H'/\I (i+1) H') {H:aA} (hr:H.get r=some (.cells [.aU tag 3 (bS l)] o)) (h0:I 0 H):
 ∃H',I l.length H'/\Sg 226 [.yield id,.ref r 0] H (.ret (.jR [])) H':=by
 suffices h:∃out H',(out=.ret (.jR [])/\I l.length H')/\Sg 226 [.yield id,.ref r 0] H out H' by obtain⟨_,H',⟨rfl,hm⟩,hS⟩:=h;exact⟨H',hm,hS⟩
 refine eD fit aJx (Aj rfl) ?_;unfold aDk;dsimp only;refine bQ ?_;simp only[↓zP,zJ,seval,hr];refine bR ?_;refine bO [] (fun i vs H'=>I i H') l.length (by omega) (by decide) ?_ ?_ ?_ ?_ ?_
 · simp only[zB,seval]
 · simp only[zB,seval,aN]
 · exact h0
 · rintro i f H1 hi hk e1 hI;have hg:=cF hi;have hs:=fL i hi;generalize l[i]=x at *;refine aF ?_;simp only[↓zP,zJ,seval,e1,hk 5 rfl,hk 0 rfl,aB,aN,hi,hg,oL (aM x)];obtain⟨H',hy,hI'⟩:=hs _ (iE i _ _ (((Over.refl H1).alloc (.cells [.int .i64 0,.int .i64 0,.int .i64 0] false)).set (Ak _) (.cells (cG x) false)) hI);refine EC (by decide) (by rfl) (by rfl) hy ?_;simp only[↓zP,zJ,seval];exact hI'
 rintro f H1 hk hI;refine⟨rfl,_,by simp only[zR,seval];rfl,?_⟩;exact⟨rfl,hI⟩
def KM (H:aA) (lo:Nat) (v:AV) (l:List aI.V):Prop:=
 (l=[]/\v=.aS)\/∃uS,l≠[]/\v=.sl uS 3 0 l.length l.length/\H.get uS=some (.cells (bS l).flatten true)/\lo<=uS/\uS<H.next
theorem KM.push {H:aA} {lo:Nat} {v:AV} {l:List aI.V} (h:KM H lo v l) (RM:lo<=H.next) (hlen:l.length<2^20) (x:aI.V):
 ∃v' H',eF H 3 24 true v [cG x]=some (v',H')/\KM H' lo v' (l++[x])/\H'.next=H.next+1/\∀j,j<lo->H'.get j=H.get j:=by
 rcases h with ⟨rfl,rfl⟩|⟨uS,cK,rfl,hg,h1,h2⟩
 · refine⟨_,_,zS rfl (by simp),.inr ⟨H.next,by simp,rfl,by rw[aA.aJ,if_pos rfl];rfl,RM,by simp⟩,by simp,fun j hj=>by rw[aA.aJ,if_neg (by omega)]⟩
 have aa:(bS l).flatten.length=l.length*3:=by rw[oN (sz:=3) (fun e he=>?_),aN];obtain⟨x,_,rfl⟩:=Bf.1 he;rfl
 refine⟨_,_,zT hg aa rfl (by simp only[Aq,Bj];omega) (by decide),.inr ⟨H.next,by simp,by simp,?_,RM,by simp⟩,by simp,fun j hj=>by rw[aA.aJ,aA.aW,if_neg (by omega),aA.aC,if_neg (by omega)]⟩;rw[aA.aJ,aA.aW,if_pos rfl];simp[bS]
theorem KM.over {H H':aA} {lo:Nat} {v:AV} {l:List aI.V} (h:KM H lo v l) (ho:Over H H'):KM H' lo v l:=by
 rcases h with h|⟨uS,h0,h1,h2,h3,h4⟩
 · exact .inl h
 exact .inr ⟨uS,h0,h1,(ho.same _ h4).trans h2,h3,Ca h4 ho.le⟩
theorem SJ {tag:Nat} {l:List aI.V} (hlen:l.length<=64) {r:Nat} {o:Bool} {H:aA} (qt:r<H.next) (hr:H.get r=some (.cells [.aU tag 3 (bS l)] o)):
 ∃H' v,Over H H'/\KM H' H.next v l/\Sg 269 [.aS,.func (.func 226) [] [.ref r 0]] H (.ret v) H':=by
 suffices h:∃out H',(∃v,out=.ret v/\Over H H'/\KM H' H.next v l)/\Sg 269 [.aS,.func (.func 226) [] [.ref r 0]] H out H' by obtain⟨_,H',⟨v,rfl,h1,h2⟩,hS⟩:=h;exact⟨H',v,h1,h2,hS⟩
 refine xN fit aJy (Aj rfl) ?_;unfold aDl;dsimp only;refine bQ ?_;simp only[↓zP,zJ,seval];refine bR ?_;refine aG fun K hK=>?_;refine bQ ?_;simp only[↓zP,zJ,seval];refine bR ?_
 have hbd:nQ 13 (jM (jM (jM (fG [.aS,.func (.func 226) [] [.ref r 0]]) 2 (.ref H.next 0)) 4 .aS) 6 (.func (.func 226) [] [.ref r 0])):=
  ((((CL (Aj rfl)).1.jM (by decide) _).jM (by decide) _).jM (by decide) _)
 have hf2:(jM (jM (jM (fG [.aS,.func (.func 226) [] [.ref r 0]]) 2 (.ref H.next 0)) 4 .aS) 6 (.func (.func 226) [] [.ref r 0])) 2=.ref H.next 0:=rfl;have hf6:(jM (jM (jM (fG [.aS,.func (.func 226) [] [.ref r 0]]) 2 (.ref H.next 0)) 4 .aS) 6 (.func (.func 226) [] [.ref r 0])) 6=.func (.func 226) [] [.ref r 0]:=rfl;generalize jM (jM (jM (fG [.aS,.func (.func 226) [] [.ref r 0]]) 2 (.ref H.next 0)) 4 .aS) 6 (.func (.func 226) [] [.ref r 0])=f at *;refine aF ?_;refine EA (by rw[dV];exact hf6) ?_;simp only[aA.aZ];generalize Nz:KI.mk [7] _ _=key
 let I:Nat->aA->Prop:=fun i H'=>Over H H'/\H.next+3<=H'.next/\H'.get (H.next+1)=some .LZ/\H'.get (H.next+2)=some (.loop key (LF 13 f) .ready)/\∃v,H'.get H.next=some (.cells [v] false)/\KM H' (H.next+3) v (l.take i)
 have iE:∀i H1 H2,Over H1 H2->I i H1->I i H2:=fun i H1 H2 ho ⟨w1,w2,w3,w4,v,w5,w6⟩=>⟨⟨Cb w1.le ho.le,fun j hj=>(ho.same j (by omega)).trans (w1.same j hj)⟩,Cb w2 ho.le,(ho.same _ (by omega)).trans w3,(ho.same _ (by omega)).trans w4,v,(ho.same _ (by omega)).trans w5,w6.over ho⟩
 have h0:I 0 (((H.alloc (.cells [.aS] false)).alloc .LZ).alloc (.loop key (LF 13 f) .ready)):=
  ⟨(((Over.refl H).alloc _).alloc _).alloc _,by simp,by simp[aA.aJ],by simp[aA.aJ],.aS,by simp[aA.aJ];omega,.inl ⟨by simp,rfl⟩⟩
 have fL:∀i (hi:i<l.length) H1,I i H1->∃H',rR Tryz.prog gv (H.next+1+1) [.agg (cG l[i])] H1 (.ret (.bool true)) H'/\I (i+1) H':=by
  rintro i hi H1 ⟨w1,w2,w3,w4,v,w5,w6⟩;have nM:l.take (i+1)=l.take i++[l[i]]:=by rw[Al];simp[hi]
  have MR:(l.take i).length=i:=by simp;omega
  generalize l[i]=x at *
  suffices h:∃H',SP Tryz.prog gv 13 key f (H.next+1+1) [.agg (cG x)] H1 (.ret (.bool true)) H'/\I (i+1) H' by obtain⟨H',hr,hI⟩:=h;exact⟨H',XF fit hbd w4 (by rw[<-Nz];rfl) hr,hI⟩
  have ov:Over H1 ((H1.alloc (.cells [.int .i64 0,.int .i64 0,.int .i64 0] false)).set H1.next (.cells (cG x) false)):=((Over.refl H1).alloc _).set (Ak _) _;have gx:((H1.alloc (.cells [.int .i64 0,.int .i64 0,.int .i64 0] false)).set H1.next (.cells (cG x) false)).get H1.next=some (.cells (cG x) false):=by rw[aA.aC,if_pos rfl]
  have gn:((H1.alloc (.cells [.int .i64 0,.int .i64 0,.int .i64 0] false)).set H1.next (.cells (cG x) false)).next=H1.next+1:=by simp
  have bDe:∀(HA:aA) (ob:fE),Over H1 HA->HA.get H1.next=some (.cells (cG x) false)->HA.next=H1.next+1->∃v' Hp,eF (HA.set (H.next+1+1) ob) 3 24 true v [cG x]=some (v',Hp)/\KM Hp (H.next+3) v' (l.take (i+1))/\Hp.next=HA.next+1/\∀j,j<H.next+3->Hp.get j=(HA.set (H.next+1+1) ob).get j:=fun HA ob o1 o2 o3=>by
   have :KM (HA.set (H.next+1+1) ob) (H.next+3) v (l.take i):=by
    rcases w6 with h|⟨uS,q0,q1,q2,q3,q4⟩
    · exact .inl h
    exact .inr ⟨uS,q0,q1,by rw[aA.aC,if_neg (by omega),o1.same _ q4];exact q2,q3,by rw[aA.aW];omega⟩
   obtain⟨v',Hp,h1,h2,h3,h4⟩:=this.push (by rw[aA.aW];omega) (by omega) x;exact⟨v',Hp,h1,by rw[nM];exact h2,h3,h4⟩
  have w4':=(ov.same (H.next+2) (by omega)).trans w4;have w5':=(ov.same H.next (by omega)).trans w5;have w3':=(ov.same (H.next+1) (by omega)).trans w3;have w1':Over H ((H1.alloc (.cells [.int .i64 0,.int .i64 0,.int .i64 0] false)).set H1.next (.cells (cG x) false)):=⟨Cb w1.le ov.le,fun j hj=>(ov.same j (by omega)).trans (w1.same j hj)⟩;obtain⟨v',Hp,p1,p2,p3,p4⟩:=bDe _ (.loop key (LF 13 f) .busy) ov gx gn
  obtain⟨sa,sb,sc,sd,se,rfl⟩:∃a b c d e,v'=.sl a b c d e:=by
   rcases p2 with ⟨h,_⟩|⟨uS,_,h,_⟩
   · rw[nM] at h;simp at h
   exact⟨_,_,_,_,_,h⟩
  refine⟨(Hp.set H.next (.cells [.sl sa sb sc sd se] false)).set (H.next+1+1) (.loop key (LF 13 f) .ready),?_,?_⟩
  · subst Nz;unfold SP;dsimp only[List.zip,List.zipWith,sY,fN]
    have aEs:FC Tryz.prog gv 13 (.ops [⟨some 5,.alloc [.int .i64 0,.int .i64 0,.int .i64 0],none⟩,⟨none,.store 3 (.tmp 5) (.tmp 7),none⟩]) (jM f 7 (.agg (cG x))) [] H1 (fun e f1 pA H1'=>e=.normal/\f1=jM (jM f 7 (.agg (cG x))) 5 (.ref H1.next 0)/\pA=[]/\H1'=(H1.alloc (.cells [.int .i64 0,.int .i64 0,.int .i64 0] false)).set H1.next (.cells (cG x) false)):=by simp only[↓zP,zJ,seval,oL (aM x)]
    refine iY (fun e f1 pA H1' h=>?_) aEs;obtain⟨rfl,rfl,rfl,rfl⟩:=h;refine⟨rfl,_,_,w4',?_⟩;generalize (H1.alloc (.cells [.int .i64 0,.int .i64 0,.int .i64 0] false)).set H1.next (.cells (cG x) false)=HA at *;refine aF ?_;have n1:¬(H.next=H.next+1+1):=(by omega);have n2:¬(H1.next=H.next+1+1):=(by omega);have pb:=(p4 H.next (by omega)).trans ((by rw[aA.aC,if_neg (by omega)]:_=HA.get H.next).trans w5');have pl:=(p4 (H.next+1+1) (by omega)).trans (by rw[aA.aC,if_pos rfl]);simp only[↓zP,zJ,seval,hf2,w5',gx,n1,n2,oL (aM x)];rw[eL];simp only[p1,bZ,zJ,seval,pb];exact⟨rfl,rfl,_,_,by rw[aA.aC,if_neg (by omega)];exact pl,rfl⟩
  have pn:H1.next<=Hp.next:=by omega
  refine⟨⟨by simp only[aA.aW];have :=w1.le;omega,fun j hj=>?_⟩,by simp only[aA.aW];omega,?_,?_,.sl sa sb sc sd se,?_,?_⟩
  · rw[aA.aC,if_neg (by omega),aA.aC,if_neg (by omega),p4 j (by omega),aA.aC,if_neg (by omega)];exact w1'.same j hj
  · rw[aA.aC,if_neg (by omega),aA.aC,if_neg (by omega),p4 _ (by omega),aA.aC,if_neg (by omega)];exact w3'
  · rw[aA.aC,if_pos rfl]
  · rw[aA.aC,if_neg (by omega),aA.aC,if_pos rfl]
  rcases p2 with h|⟨uS,q0,q1,q2,q3,q4⟩
  · exact .inl h
  exact .inr ⟨uS,q0,q1,by rw[aA.aC,if_neg (by omega),aA.aC,if_neg (by omega)];exact q2,q3,by simp only[aA.aW];omega⟩
 obtain⟨He,⟨w1,w2,w3,w4,v,w5,w6⟩,hS⟩:=WY (tag:=tag) (o:=o) (by omega) I iE fL (r:=r) (by rw[aA.aJ,if_neg (by simp;omega),aA.aJ,if_neg (by simp;omega),aA.aJ,if_neg (by omega)];exact hr) h0
 refine⟨_,He,_,_,_,hS,w4,fun Hf hf=>?_⟩;obtain⟨f1,f2⟩:=hf;show K f [.mark (H.next+1)] Hf;apply hK;clear hK K;have b0:Hf.get H.next=some (.cells [v] false):=by rw[f2,if_neg (by omega)];exact w5
 have b1:Hf.get (H.next+1)=some .LZ:=by rw[f2,if_neg (by omega)];exact w3
 simp only[↓zP,zJ,seval,hf2,b0];rw[Ao] at w6;refine⟨b1,[v],rfl,v,rfl,⟨by rw[aA.aW,f1];exact w1.le,fun j hj=>by rw[aA.aC,if_neg (by omega),f2,if_neg (by omega)];exact w1.same j hj⟩,?_⟩
 rcases w6 with h|⟨uS,q0,q1,q2,q3,q4⟩
 · exact .inl h
 exact .inr ⟨uS,q0,q1,by rw[aA.aC,if_neg (by omega),f2,if_neg (by omega)];exact q2,by omega,by rw[aA.aW,f1];exact q4⟩
def aHv (p q:aI.V):Int:=orZ [uO p.x q.x,uO p.y q.y,uO p.z q.z]
theorem Mz (p q:aI.V):aHv p q<0↔iI p q:=BE (p,0) (q,0)
theorem eg (p q:aI.V) (H:aA):Sg 160 [.agg (cG p),.agg (cG q)] H (.ret (.int .i64 (aHv p q))) H:=by
 refine So aWl (by simp only[sf,cE]) ?_ H;unfold aLw;dsimp only;refine bQ ?_;simp only[↓zP,zJ,seval];refine fM ?_;refine Dz ?_;simp only[↓zP,zJ,seval,zD,cG,nC];refine eE (jF p.x q.x _) ?_;simp only[↓zP,zJ,seval,zD,nC];refine eE (jF p.y q.y _) ?_;simp only[↓zP,zJ,seval,zD,nC];refine eE (jF p.z q.z _) ?_;simp only[↓zP,zJ,seval,zD];have Ty:=sx [uO p.x q.x,uO p.y q.y,uO p.z q.z] (by simp);simp only[eY,sm] at Ty;refine eE (Ty _) ?_;simp only[↓zP,zJ,seval,zD];refine bR ?_;simp only[↓zP,seval]
 (refine Rx ?_;rfl)
def vV (q:aI.V):BU 3:=⟨[q.x,q.y,q.z],rfl⟩
def FY (x:BU 3):aI.V:=⟨x.1.getD 0 0,x.1.getD 1 0,x.1.getD 2 0⟩
theorem Tn (x:BU 3):vV (FY x)=x:=by
 obtain⟨l,hl⟩:=x
 match l,hl with
 |[a,b,c],_=>rfl
theorem Zf (q:aI.V):Uj (vV q)=cG q:=rfl
theorem Te:∀S:List aI.V,(mD (S.map vV)).map (AV.int .i64)=(bS S).flatten
 |[]=>rfl
 |q::S=>by have :=Te S;simp only[mD,Bv,Dr,Cf,Bx,bS] at this ⊢;rw[this];rfl
theorem bHp:Go.Sort.SWO (Go.Proofs.ltOf fun x y:BU 3=>aHv (FY x) (FY y)) where
 irrefl x:=by simp only[Go.Proofs.ltOf,Mz,Bk];exact iI.km _
 trans x y z h1 h2:=by simp only[Go.Proofs.ltOf,Mz,Bg] at *;exact iI.trans h1 h2
 ntrans x y z h1 h2:=by simp only[Go.Proofs.ltOf,Mz,Bk] at *;unfold iI at *;omega
theorem TS:MG Tryz.prog 225:=⟨_,Tryz.func225,by kernel_rfl,by kernel_rfl⟩
theorem aBu (d:List (BU 3)) (hd:d.length<4611686018427387904):
 ∃d':List (BU 3),d'.Perm d/\(d'.Pairwise fun a b=>¬aHv (FY b) (FY a)<0)/\∀(H:aA) (id:Nat) (eI:Bool),H.get id=some (.cells ((mD d).map (AV.int .i64)) eI)->
  Sg 225 [.sl id 3 0 d.length d.length,.func (.func 160) [] []] H (.ret (.jR [])) (H.set id (.cells ((mD d').map (AV.int .i64)) eI)):=
 EG (fun _=>rfl) Tryz.aBt (by decide) Tryz.isAgg52 Tryz.sizeOf52 rfl TS (eg V0 V0 ⟨0,.nil⟩).1 bHp (fun x y=>by
  have :=eg (FY x) (FY y) ⟨0,.nil⟩
  rwa [<-Zf,<-Zf,Tn,Tn] at this) d hd
theorem gg {tag:Nat} (l:List aI.V) (H:aA):Sg 159 [.aU tag 3 (bS l)] H (.ret (.func (.func 226) [] [.ref H.next 0])) (H.alloc (.cells [.aU tag 3 (bS l)] false)):=by refine kQ aJn (Aj rfl) ?_;unfold aDa;dsimp only;simp only[↓zP,zJ,seval];refine Rx ?_;exact⟨rfl,rfl⟩
theorem Wx {tag:Nat} {l:List aI.V} (hlen:l.length<=64) {r:Nat} {o:Bool} {H:aA} (qt:r<H.next) (hr:H.get r=some (.cells [.aU tag 3 (bS l)] o)):
 ∃H' v,Over H H'/\KM H' H.next v l/\Sg 224 [.func (.func 226) [] [.ref r 0]] H (.ret v) H':=by
 obtain⟨H',v,h1,h2,hS⟩:=SJ hlen qt hr;refine⟨H',v,h1,h2,?_⟩;refine kQ aJw (Aj rfl) ?_;unfold aDj;dsimp only;simp only[↓zP,zJ,seval];refine bW (hS) ?_;simp only[↓zP,zG,seval];refine Rx ?_;exact⟨rfl,rfl⟩
theorem Pm {tag:Nat} {l:List aI.V} (hlen:l.length<=64) {r:Nat} {o:Bool} {H:aA} (qt:r<H.next) (hr:H.get r=some (.cells [.aU tag 3 (bS l)] o)):
 ∃H' v S,S.Perm l/\(S.Pairwise fun a b=>¬iI b a)/\Over H H'/\KM H' H.next v S/\Sg 158 [.func (.func 226) [] [.ref r 0],.func (.func 160) [] []] H (.ret v) H':=by
 obtain⟨H1,v,h1,h2,hS⟩:=Wx hlen qt hr
 rcases h2 with ⟨rfl,rfl⟩|⟨uS,cK,rfl,hg,RM,hn⟩
 · refine⟨H1,.aS,[],.refl _,.nil,h1,.inl ⟨rfl,rfl⟩,?_⟩;refine kQ yl (Aj rfl) ?_;unfold te;dsimp only;simp only[↓zP,zJ,seval];refine bW (hS) ?_;simp only[↓zP,zJ,seval];refine bW (lP Tryz.aBt rfl TS 160 _) ?_;simp only[↓zP,zG,seval];refine Rx ?_;exact⟨rfl,rfl⟩
 obtain⟨d',q1,q2,q3⟩:=aBu (l.map vV) (by simp only[Ai];omega);have VI:H1.get uS=some (.cells ((mD (l.map vV)).map (AV.int .i64)) true):=by rw[hg,Te]
 have hc:=q3 H1 uS true VI;rw[Ai] at hc;have rV:d'=(d'.map FY).map vV:=by rw[En];exact(Ej (g:=id) (fun x _=>Tn x)).trans (Hx d') |>.symm
 rw[rV,Te] at hc
 have hp:(d'.map FY).Perm l:=by
  have h1:=q1.map FY
  rwa [En,show(FY∘vV)=id from rfl,Hx] at h1
 have hl:=hp.length_eq;refine⟨H1.set uS (.cells (bS (d'.map FY)).flatten true),.sl uS 3 0 (d'.map FY).length (d'.map FY).length,d'.map FY,hp,?_,⟨by rw[aA.aW];exact h1.le,fun j hj=>?_⟩,.inr ⟨uS,fun h=>cK (Cw (by rw[<-hl,h];rfl)),rfl,?_,RM,by rw[aA.aW];exact hn⟩,?_⟩
 · rw[Ih];exact q2.imp fun h h2=>h ((Mz _ _).2 h2)
 · rw[aA.aC,if_neg (by omega)];exact h1.same j hj
 · rw[aA.aC,if_pos rfl]
 rw[hl];refine kQ yl (Aj rfl) ?_;unfold te;dsimp only;simp only[↓zP,zJ,seval];refine bW (hS) ?_;simp only[↓zP,zJ,seval];refine bW (hc) ?_;simp only[↓zP,zG,seval];refine Rx ?_;exact⟨rfl,rfl⟩
def dd (l:List aI.V):Nat->List aI.V
 |0=>[]
 |j+1=>dd l j++(if 0<j/\l.getD j V0=l.getD (j -1) V0 then [] else [l.getD j V0])
theorem aIi (l:List aI.V):∀j,(dd l j).length<=j
 |0=>Ak _
 |j+1=>by have :=aIi l j;simp only[dd,Au];split<;>simp <;>omega
theorem IK (R:List aI.V):(bS R).flatten.length=R.length*3:=by rw[oN (sz:=3) (fun e he=>?_),aN];obtain⟨x,_,rfl⟩:=Bf.1 he;rfl
theorem OM:∀{R:List aI.V} {p:Nat} (h:p<R.length),((bS R).flatten.drop (p*3)).take 3=cG R[p]
 |x::R,0,_=>rfl
 |x::R,p+1,h=>by have :=OM (R:=R) (p:=p) (by simpa using h);simp only[List.getElem_cons_succ,<-this,Cn,Gp];rw[Fq (p*3) 3,<-Jf];rfl
theorem ON:∀{R:List aI.V} {p:Nat} (h:p<R.length) (x:aI.V),fY (bS R).flatten (p*3) (cG x)=(bS (R.set p x)).flatten
 |y::R,0,_,x=>rfl
 |y::R,p+1,h,x=>by
  have :=ON (R:=R) (p:=p) (by simpa using h) x;simp only[List.set_cons_succ];simp only[fY,bS,Bv,Bx,aM] at this ⊢;rw[<-this];have e:(p+1)*3=(p*3)+1+1+1:=by omega
  rw[e];simp only[cG,Fc,Dw,Dl,Iz]
theorem VY:∀(R:List aI.V) (p:Nat),(bS R).flatten.take (p*3)=(bS (R.take p)).flatten
 |[],p=>by simp[bS]
 |x::R,0=>by simp[bS]
 |x::R,p+1=>by have :=VY R p;simp only[bS,Bv,Bx,Dl] at this ⊢;rw[<-this,show(p+1)*3=p*3+1+1+1 by omega];simp only[cG,Fc,Dw,Dl]
theorem Li:∀m:Nat,bL (List.replicate m [AV.int .i64 0,.int .i64 0,.int .i64 0]).flatten=true
 |0=>rfl
 |m+1=>by simp only[Dy,Bx,Fc,Dw,bL,AV.free,Cr];exact Li m
theorem p9 (m:Nat):(List.replicate m [AV.int .i64 0,.int .i64 0,.int .i64 0]).flatten.length=m*3:=by simp
theorem nF (v w:aI.V):cJ [.i,.i,.i] (cG v) (cG w)=some (decide (v=w)):=by obtain⟨a,b,c⟩:=v;obtain⟨a',b',c'⟩:=w;simp only[cG,cJ,if_true,Bz,V.mk.injEq,Fs];congr 1;rw[Cg];simp
theorem Wy {l:List aI.V} (hlen:l.length<=64) {id:Nat} {H:aA} (cZ:id<H.next) (hg:H.get id=some (.cells (bS l).flatten true)):
 ∃H' rest,H'.get id=some (.cells ((bS (dd l l.length)).flatten++rest) true)/\bL rest=true/\H'.next=H.next/\(∀j,j≠id->H'.get j=H.get j)/\
  Sg 163 [.sl id 3 0 l.length l.length] H (.ret (.sl id 3 0 (dd l l.length).length l.length)) H':=by
 suffices h:∃out H',(out=.ret (.sl id 3 0 (dd l l.length).length l.length)/\∃rest,H'.get id=some (.cells ((bS (dd l l.length)).flatten++rest) true)/\bL rest=true/\H'.next=H.next/\(∀j,j≠id->H'.get j=H.get j))/\
  Sg 163 [.sl id 3 0 l.length l.length] H out H' by
  obtain⟨_,H',⟨rfl,rest,h1,h2,h3,h4⟩,hS⟩:=h;exact⟨H',rest,h1,h2,h3,h4,hS⟩
 refine eD fit aJo (Aj rfl) ?_;unfold aDb;dsimp only;have cT:∀k (h:k<l.length),l.getD k V0=l[k]:=fun k h=>by simp[List.getD,h]
 have same:dd l l.length=l->(∃rest,H.get id=some (.cells ((bS (dd l l.length)).flatten++rest) true)/\bL rest=true/\H.next=H.next/\(∀j,j≠id->H.get j=H.get j)):=fun h=>⟨[],by rw[h,Cd];exact hg,rfl,rfl,fun _ _=>rfl⟩
 refine bQ ?_;simp only[↓zP,zG,Nat.reduceLT];refine bR ?_;refine aG fun K hK=>?_;simp only[↓zP,zJ,Nat.reduceLT,Nat.reduceEqDiff];refine⟨fun h2=>?_,fun h2=>?_⟩
 · refine Rx ?_
   have hd:dd l l.length=l:=by
    match l,h2 with
    |[],_=>rfl
    |[a],_=>simp[dd]
    |a::b::r,h=>simp at h;omega
   exact⟨by rw[hd];rfl,same hd⟩
 apply hK;clear hK K;have qj:2<=l.length:=by omega
 refine aG fun K hK=>?_;simp only[↓zP,zG,Nat.reduceLT];refine aF ?_;refine iG [3] (fun M vs H'=>∃k,1<=k/\k<=l.length/\M=l.length -k/\vs=[.int .i64 (k:Nat)]/\H'=H/\dd l k=l.take k) (l.length -1) (by rfl) ?_ ?_
 · refine⟨1,Ak _,by omega,rfl,rfl,rfl,?_⟩
   match l,qj with
   |a::r,_=>simp[dd]
 rintro M' f H1 hk ⟨k,k1,k2,rfl,hv,rfl,Zu⟩;simp only[zM] at hv;refine aG fun K2 bK=>?_;simp only[↓zP,zJ,Nat.reduceLT,Nat.reduceEqDiff,hv,hk 0 rfl];refine⟨fun eZ=>?_,fun Lm=>?_⟩
 · apply bK;clear bK K2;have xW:k<l.length:=by omega
   have aQx:k -1<l.length:=(by omega);have w1:IntKind.i64.wrap ((k:Int) -1)=((k -1:Nat):Int):=(wrap_i64 (by omega) (by omega)).trans (by omega);have fl:=IK l;have ak:=OM xW;have ak1:=OM aQx
   have fL:dd l (k+1)=l.take k++(if l[k]=l[k -1] then [] else [l[k]]):=by simp only[dd,Zu,cT k xW,cT (k -1) aQx];simp[show 0<k by omega]
   refine aG fun K2 bK=>?_;refine aF ?_;refine bQ ?_;refine Dz ?_;have ck:k*3+3<=l.length*3:=(by omega);have ck1:(k -1)*3+3<=l.length*3:=(by omega);simp only[↓zP,zJ,Nat.reduceLT,Nat.reduceEqDiff,Nat.reduceAdd,zD,reduceCtorEq,hv,hk 0 rfl,aB,xW,hg,w1,aQx,ak,ak1,nF,fl,ck,ck1];refine bR ?_;by_cases he:l[k]=l[k -1]
   · have hb:=Af he
     have IF:rZ 3 (.sl id 3 0 l.length l.length) (some k) none none=some (.sl id 3 (0+k*3) (l.length -k) (l.length -k)):=by simp only[rZ,Bi,Dx,Jz];rw[if_pos (by omega),if_pos (by omega),if_neg (by omega)]
     simp only[↓zP,zJ,Nat.reduceLT,Nat.reduceEqDiff,Nat.reduceAdd,hb,hv,hk 0 rfl,dQ,aB,IF,Cj];refine aF ?_;rw[if_pos he,Cd] at fL
     refine iG [3,5] (fun M vs H'=>∃kk k2 R,1<=k2/\k+k2<=l.length/\M=l.length -(k+k2)/\vs=[.int .i64 (kk:Nat),.int .i64 (k2:Nat)]/\kk<=k+k2 -1/\R.length=l.length/\R.take kk=dd l (k+k2)/\kk=(dd l (k+k2)).length/\(∀p,k+k2 -1<=p->p<l.length->R[p]?=l[p]?)/\
      H'.get id=some (.cells (bS R).flatten true)/\H'.next=H1.next/\∀j,j≠id->H'.get j=H1.get j) (l.length -(k+1)) (by rfl) ?_ ?_
     · refine⟨k,1,l,Ak _,by omega,rfl,?_,by omega,rfl,fL.symm,by rw[fL];simp;omega,fun p _ _=>rfl,hg,rfl,fun _ _=>rfl⟩;simp only[sm,zB,Nat.reduceEqDiff,hv];rfl
     rintro M' f2 H2 dP ⟨kk,k2,R,r1,r2,rfl,pU,r3,r4,r5,r6,r7,r8,r9,r10⟩;simp only[zM] at pU;obtain⟨v3,v5⟩:=pU;refine aG fun K3 FZ=>?_
     have w0:decide (((k2:Nat):Int)<((l.length -k:Nat):Int))=decide (k+k2<l.length):=by rw[Bb];omega
     have Wh:=aIi l (k+k2);simp only[↓zP,zJ,Nat.reduceLT,Nat.reduceEqDiff,v5,dP 4 rfl];refine⟨fun eZ=>?_,fun Lm=>?_⟩
     · apply FZ;clear FZ K3;have hj:k+k2<l.length:=(by omega);have hjR:k+k2<R.length:=(by omega);have aUf:k+k2 -1<R.length:=(by omega);have aj:=OM hjR;have aj1:=OM aUf
       have ej:R[k+k2]=l[k+k2]:=by have :=r7 (k+k2) (by omega) hj;rw[Ab hjR,Ab hj] at this;exact Aa this
       have ej1:R[k+k2 -1]=l[k+k2 -1]:=by have :=r7 (k+k2 -1) (Ak _) (by omega);rw[Ab aUf,Ab (show k+k2 -1<l.length by omega)] at this;exact Aa this
       rw[ej] at aj;rw[ej1] at aj1
       have Ku:dd l (k+k2+1)=dd l (k+k2)++(if l[k+k2]=l[k+k2 -1] then [] else [l[k+k2]]):=by simp only[dd,cT (k+k2) hj,cT (k+k2 -1) (by omega)];simp[show 0<k+k2 by omega]
       have w1:IntKind.i64.wrap ((k2:Int) -1)=((k2 -1:Nat):Int):=(wrap_i64 (by omega) (by omega)).trans (by omega);have w2:IntKind.i64.wrap ((k2:Int)+1)=((k2+1:Nat):Int):=(wrap_i64 (by omega) (by omega)).trans (by omega);have w3:IntKind.i64.wrap ((kk:Int)+1)=((kk+1:Nat):Int):=(wrap_i64 (by omega) (by omega)).trans (by omega);have x1:k*3+k2*3=(k+k2)*3:=(by omega);have x2:k*3+(k2 -1)*3=(k+k2 -1)*3:=(by omega);have fR:=IK R;have y1:(k+k2)*3+3<=R.length*3:=(by omega);have y2:(k+k2 -1)*3+3<=R.length*3:=(by omega);have y3:kk*3+3<=R.length*3:=(by omega);have z1:k2<l.length -k:=(by omega);have z2:k2 -1<l.length -k:=(by omega);have z3:kk<l.length:=(by omega);refine aG fun K3 FZ=>?_;refine aF ?_;refine bQ ?_;refine Dz ?_;simp only[↓zP,zJ,Nat.reduceLT,Nat.reduceEqDiff,Nat.reduceAdd,zD,reduceCtorEq,v5,dP 4 rfl,aB,z1,z2,r8,w1,x1,x2,fR,y1,y2,aj,aj1,nF];refine bR ?_;by_cases Xr:l[k+k2]=l[k+k2 -1]
       · have fH:(!decide (l[k+k2]=l[k+k2 -1]))=false:=(by simp[Xr]);simp only[↓zP,zG,fH];apply FZ;clear FZ K3;simp only[↓zP,zJ,Nat.reduceLT,Nat.reduceEqDiff,v5,v3,w2];rw[if_pos Xr,Cd] at Ku;refine⟨_,by omega,kk,k2+1,R,by omega,by omega,rfl,rfl,by omega,r4,by rw[<-Bm,Ku];exact r5,by rw[<-Bm,Ku];exact r6,fun p p1 p2=>r7 p (by omega) p2,r8,r9,r10⟩
       have fH:(!decide (l[k+k2]=l[k+k2 -1]))=true:=(by simp[Xr]);have asp:=ON (R:=R) (p:=kk) (by omega) l[k+k2];simp only[fY] at asp;simp only[↓zP,zJ,Nat.reduceLT,Nat.reduceEqDiff,fH,v5,v3,dP 4 rfl,dP 0 rfl,hk 0 rfl,aB,z1,z3,r8,x1,fR,y1,y3,aj,w3,oL (aM l[k+k2])];apply FZ;clear FZ K3;simp only[↓zP,zJ,Nat.reduceLT,Nat.reduceEqDiff,v5,w2];rw[if_neg Xr] at Ku;refine⟨_,by omega,kk+1,k2+1,R.set kk l[k+k2],by omega,by omega,rfl,rfl,by omega,by rw[Jt];exact r4,?_,?_,fun p p1 p2=>?_,by rw[<-asp];rfl,r9,fun j hj=>?_⟩
       · rw[<-Bm,Ku,<-r5,Al,List.take_set_of_le (Ak _)];simp[show kk<R.length by omega]
       · rw[<-Bm,Ku,Au,<-r6];rfl
       · rw[List.getElem?_set_ne (by omega)];exact r7 p (by omega) p2
       rw[if_neg hj];exact r10 j hj
     have xm:k+k2=l.length:=(by omega);obtain⟨m,hm⟩:∃m,l.length -kk=m+1:=⟨l.length -kk -1,by omega⟩
     have hs2:rZ 3 (.sl id 3 0 l.length l.length) (some kk) none none=some (.sl id 3 (kk*3) (m+1) (m+1)):=by simp only[rZ,Bi,Dx,Jz];rw[if_pos (by omega),if_pos (by omega),if_neg (by omega),hm,Cv]
     have hs3:rZ 3 (.sl id 3 0 l.length l.length) none (some kk) none=some (.sl id 3 0 kk l.length):=by simp only[rZ,Bi,Dx,Jz];rw[if_pos (by omega),if_pos (by omega),if_neg (by omega)];simp
     have fR:=IK R;have xg:kk*3+(m+1)*3<=R.length*3:=(by omega);simp only[↓zP,zJ,Nat.reduceEqDiff,v3,dP 0 rfl,hk 0 rfl,aB,hs2,hs3,r8,fR,xg,Cj,Bd];rw[xm] at r5 r6;rw[VY,r5,Di];refine Rx ?_;refine⟨by rw[<-r6];rfl,_,by rw[aA.aC,if_pos rfl],?_,by rw[aA.aW];exact r9,fun j hj=>by rw[aA.aC,if_neg hj];exact r10 j hj⟩
     rw[gS,Li,Bt (by rw[p9,fR];omega)]
     rfl
   have hb:=Ae he;simp only[↓zP,zG,hb];apply bK;clear bK K2;have w2:IntKind.i64.wrap ((k:Int)+1)=((k+1:Nat):Int):=(wrap_i64 (by omega) (by omega)).trans (by omega);simp only[↓zP,zJ,Nat.reduceLT,Nat.reduceEqDiff,hv,w2];refine⟨_,by omega,k+1,by omega,by omega,rfl,rfl,trivial,?_⟩;rw[fL,if_neg he,Al];simp[xW]
 apply hK;clear hK K bK K2;have xm:k=l.length:=by omega
 subst xm;rw[Ao] at Zu;simp only[↓zP,zJ,Nat.reduceLT,Nat.reduceEqDiff,hk 0 rfl];refine Rx ?_;exact⟨by rw[Zu];rfl,same Zu⟩
theorem Nb (l:List aI.V) (v:aI.V):∀j,j<=l.length->(v∈dd l j↔v∈l.take j)
 |0,_=>by simp[dd]
 |j+1,h=>by
  have ih:=Nb l v j (by omega);have hj:j<l.length:=h;have hg:l.getD j V0=l[j]:=by simp[List.getD,hj]
  rw[Al,Ab hj];simp only[dd,An,ih,hg,Fv,Ap,Br,Dq];split
  · rename_i hc;obtain⟨h0,he⟩:=hc;have Ko:j -1<l.length:=by omega
    have CT:l.getD (j -1) V0=l[j -1]:=(by simp[List.getD,Ko]);simp only[Br,Dq];refine⟨.inl,fun h=>h.elim id fun e=>?_⟩;rw[e,he,CT];exact Hj.2 ⟨j -1,by omega,rfl⟩
  simp
theorem XX {l:List aI.V} (hs:l.Pairwise fun a b=>¬iI b a):∀j,j<=l.length->(dd l j).Pairwise iI
 |0,_=>.nil
 |j+1,h=>by
  have ih:=XX hs j (by omega);have hj:j<l.length:=h;have hg:l.getD j V0=l[j]:=by simp[List.getD,hj]
  simp only[dd,hg];split
  · rw[Cd];exact ih
  rename_i hc;rw[List.pairwise_append];refine⟨ih,List.pairwise_singleton _ _,fun v hv x hx=>?_⟩;simp only[Ap,Br,Dq] at hx;subst hx;rw[Nb l v j (by omega)] at hv;obtain⟨i,hi,rfl⟩:=Hj.1 hv;have yS:i<j:=by omega
  have Ko:j -1<l.length:=by omega
  have CT:l.getD (j -1) V0=l[j -1]:=by simp[List.getD,Ko]
  rw[CT] at hc;have cK:l[j]≠l[j -1]:=fun e=>hc ⟨by omega,e⟩;have hp:=Gc.1 hs;have p1:=hp (j -1) j Ko hj (by omega);have p2:iI l[j -1] l[j]:=(iI.total cK).elim (fun h=>absurd h p1) id;by_cases zA:i=j -1
  · subst zA;exact p2
  have p3:=hp i (j -1) (by omega) Ko (by omega);generalize l[i]=a at *;generalize l[j -1]=b at *;generalize l[j]=c at *;unfold iI at *;omega
structure Ord (l C:List aI.V):Prop where
 Rw:C.Pairwise iI
 mem:∀v,v∈C↔v∈l
theorem Ord.uniq {l C C':List aI.V} (h:Ord l C) (h':Ord l C'):C=C':=
 BJ (R:=iI) iI.km (fun h h'=>iI.trans h h') h.Rw h'.Rw fun v=>(h.mem v).trans (h'.mem v).symm
theorem Ord.of {l S C:List aI.V} (hp:S.Perm l) (hs:S.Pairwise fun a b=>¬iI b a) (h:Ord l C):dd S S.length=C:=
 Ord.uniq (l:=l) ⟨XX hs _ (Ak _),fun v=>by rw[Nb S v _ (Ak _),Ao];exact hp.mem_iff⟩ h
theorem LS (H:aA):Sg 163 [.aS] H (.ret .aS) H:=by refine kQ aJo (Aj rfl) ?_;unfold aDb;dsimp only;refine bQ ?_;simp only[↓zP,zG,seval];refine bR ?_;refine aG fun K hK=>?_;simp only[↓zP,zJ,seval];refine⟨fun h2=>?_,fun h2=>absurd (show((0:Int)<2) by decide) (by simp at h2)⟩;refine Rx ?_;exact⟨rfl,rfl⟩
theorem Qh {sz:Nat}:∀{els:List (List AV)} (rest:List AV),(∀e∈els,e.length=sz)->fS sz els.length (els.flatten++rest)=els
 |[],_,_=>rfl
 |e::els,rest,h=>by have he:=h e Ax;simp only[Aq,fS,Bx,Di];rw[Co (by omega),Ar (by omega),It (by omega),Bt (by omega),Dw,Qh rest fun x hx=>h x (Ay _ hx)]
theorem ot {tag:Nat} (ht:Nat.blt tag 2=true) {l C:List aI.V} (hlen:l.length<=64) (hC:Ord l C) (H:aA):
 Sg 110 [.aU tag 3 (bS l)] H (.ret (kC 3 (bS C))) H:=by
 refine dL fit eU aJc (Aj rfl) (by simp only[sf,cV ht]) ?_ H;unfold aCp;dsimp only;obtain⟨H1,v,S,hp,hs,ho,hr,hS⟩:=Pm (tag:=tag) hlen (r:=0) (o:=false) (H:=(aA.mk 0 .nil).alloc (.cells [.aU tag 3 (bS l)] false)) (by simp) rfl;have Zu:=Ord.of hp hs hC;have Zq:=hp.length_eq;simp only[↓zP,zJ,seval];refine bW (gg (tag:=tag) l _) ?_;simp only[seval];refine bW (hS) ?_
 rcases hr with ⟨rfl,rfl⟩|⟨uS,cK,rfl,hg,RM,hn⟩
 · simp only[↓zP,zG,seval];refine bW (LS _) ?_;simp only[↓zP,zG,seval];refine Rx ?_;rw[<-Zu];exact⟨_,0,rfl,fun nw=>rfl⟩
 obtain⟨H2,rest,c1,c2,c3,c4,hcS⟩:=Wy (by omega) hn hg;simp only[↓zP,zG,seval];refine bW (hcS) ?_;simp only[↓zP,zG,seval];refine Rx ?_;rw[Zu] at c1 ⊢
 have hCn:¬bS C=[]:=by
  intro h;have :C=[]:=by simpa [bS] using h
  rw[this] at Zu
  match S,cK with
  |x::r,_=>have :=(Nb (x::r) x _ (Ak _)).2 (by simp);rw[Zu] at this;cases this
 refine⟨.sl uS 3 0 C.length S.length,0,rfl,fun nw=>?_⟩;have hc:H2.eW uS=some ((bS C).flatten++rest):=by simp[aA.eW,c1]
 have hu:∀e∈bS C,e.length=3:=fun e he=>by obtain⟨x,_,rfl⟩:=Bf.1 he;rfl
 have hle:Nat.ble (0+C.length*3) ((bS C).flatten++rest).length=true:=by rw[Au,IK];exact Nat.ble_eq_true_of_le (by omega)
 have JX:bL ((bS C).flatten++rest)=true:=by rw[gS,mA (show dM (bS C)=true from dW cE C),c2];rfl
 rw[kC,if_neg hCn];simp only[gK,fU,hc,Ef,hle,JX,Df];rw[show C.length=(bS C).length from (aN C).symm,Qh rest hu]
end Go.Proofs.YtndkpgceodimiaaGreatDoor
