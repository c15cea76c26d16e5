/-
  Part of the proof of statement 14
-/
import Derived.Test.YtgggiembljfnhaaGreatDoorC17
import Derived.Test.YtgggiembljfnhaaGreatDoorC22
import Derived.Test.YtgggiembljfnhaaGreatDoorC21
import Derived.Test.YtgggiembljfnhaaGreatDoorC07
set_option linter.unusedVariables false
set_option linter.unusedSimpArgs false
set_option maxRecDepth 100000
set_option maxHeartbeats 16000000
namespace Go.Proofs.YtgggiembljfnhaaGreatDoor
open Go Go.Av Go.aY
attribute [local congr] aP aJ aK aH aU aM aL aD
attribute [local irreducible] FC bM dX
theorem Qm {tag:Nat} {l:List aY.V} (hlen:l.length<2^30) {id r:Nat} {o:Bool} (I:Nat->aA->Prop) (xU:∀i H H',Over H H'->I i H->I i H')
 (eP:∀i (hi:i<l.length) H,I i H->∃H',yQ Tryz.prog gv id [.agg (iB l[i])] H (.ret (.bool true)) H'/\I (i+1) H') {H:aA} (hr:H.get r=some (.cells [.bH tag 3 (gL l)] o)) (h0:I 0 H):
 ∃H',I l.length H'/\Sound Tryz.prog gv 272 [.yield id,.ref r 0] H (.ret (.eZ [])) H':=by
 suffices h:∃out H',(out=.ret (.eZ [])/\I l.length H')/\Sound Tryz.prog gv 272 [.yield id,.ref r 0] H out H' by obtain⟨_,H',⟨rfl,hm⟩,hS⟩:=h;exact⟨H',hm,hS⟩
 refine bL fit su (Ae rfl) ?_;unfold de;dsimp only;refine aB fun K hK=>?_;simp only[↓zP,zG,seval,zI,hr];apply hK;clear hK K;refine bV [] (fun i vs H'=>I i H') l.length (by omega) (by decide) ?_ ?_ ?_ ?_ ?_
 . simp only[zB,seval]
 . simp only[zB,seval,bY]
 . exact h0
 . rintro i f H1 hi hk e1 hI;have hg:=hU hi;have hs:=eP i hi;generalize l[i]=x at *;refine aS ?_;simp only[↓zP,zG,seval,zI,e1,hk 5 rfl,hk 0 rfl,aQ,bY,hi,hg,oL (bR x)];obtain⟨H',hy,hI'⟩:=hs _ (xU i _ _ (((Over.refl H1).alloc (.cells [.int .i64 0,.int .i64 0,.int .i64 0] false)).set (Ai _) (.cells (iB x) false)) hI);refine RL (by decide) (by rfl) (by rfl) hy ?_;simp only[↓zP,zG,seval,zI];exact hI'
 rintro f H1 hk hI;refine⟨rfl,_,by simp only[zR,seval];rfl,?_⟩;exact⟨rfl,hI⟩
def DO (H:aA) (lo:Nat) (v:AV) (l:List aY.V):Prop:=
 (l=[]/\v=.aF)\/∃tC,l≠[]/\v=.sl tC 3 0 l.length l.length/\H.get tC=some (.cells (gL l).flatten true)/\lo<=tC/\tC<H.next
theorem DO.push {H:aA} {lo:Nat} {v:AV} {l:List aY.V} (h:DO H lo v l) (RB:lo<=H.next) (hlen:l.length<2^20) (x:aY.V):
 ∃v' H',cV H 3 24 true v [iB x]=some (v',H')/\DO H' lo v' (l++[x])/\H'.next=H.next+1/\∀j,j<lo->H'.get j=H.get j:=by
 rcases h with ⟨rfl,rfl⟩|⟨tC,cF,rfl,hg,h1,h2⟩
 . refine⟨_,_,vA rfl (by simp),.inr ⟨H.next,by simp,rfl,by rw[aA.aG,if_pos rfl];rfl,RB,by simp⟩,by simp,fun j hj=>by rw[aA.aG,if_neg (by omega)]⟩
 have pz:(gL l).flatten.length=l.length*3:=by rw[lW (sz:=3) (fun e he=>?_),bY];obtain⟨x,_,rfl⟩:=Bq.1 he;rfl
 refine⟨_,_,vB hg pz rfl (by simp only[Ak,Ar];omega) (by decide),.inr ⟨H.next,by simp,by simp,?_,RB,by simp⟩,by simp,fun j hj=>by rw[aA.aG,aA.bD,if_neg (by omega),aA.aI,if_neg (by omega)]⟩;rw[aA.aG,aA.bD,if_pos rfl];simp[gL]
theorem DO.over {H H':aA} {lo:Nat} {v:AV} {l:List aY.V} (h:DO H lo v l) (ho:Over H H'):DO H' lo v l:=by
 rcases h with h|⟨tC,h0,h1,h2,h3,h4⟩
 . exact .inl h
 exact .inr ⟨tC,h0,h1,(ho.same _ h4).trans h2,h3,Aw h4 ho.le⟩
theorem Mv {tag:Nat} {l:List aY.V} (hlen:l.length<=64) {r:Nat} {o:Bool} {H:aA} (YS:r<H.next) (hr:H.get r=some (.cells [.bH tag 3 (gL l)] o)):
 ∃H' v,Over H H'/\DO H' H.next v l/\Sound Tryz.prog gv 313 [.aF,.func (.func 272) [] [.ref r 0]] H (.ret v) H':=by
 suffices h:∃out H',(∃v,out=.ret v/\Over H H'/\DO H' H.next v l)/\Sound Tryz.prog gv 313 [.aF,.func (.func 272) [] [.ref r 0]] H out H' by obtain⟨_,H',⟨v,rfl,h1,h2⟩,hS⟩:=h;exact⟨H',v,h1,h2,hS⟩
 refine tD fit sw (Ae rfl) ?_;unfold dg;dsimp only;refine aB fun K hK=>?_;simp only[↓zP,zG,seval,zI];apply hK;clear hK K;refine aB fun K hK=>?_;refine aB fun K2 bO=>?_;simp only[↓zP,zG,seval,zI];apply bO;clear bO K2
 have Tn:mI 13 (iA (iA (iA (dW [.aF,.func (.func 272) [] [.ref r 0]]) 2 (.ref H.next 0)) 4 .aF) 6 (.func (.func 272) [] [.ref r 0])):=
  ((((xN (Ae rfl)).1.iA (by decide) _).iA (by decide) _).iA (by decide) _)
 have hf2:(iA (iA (iA (dW [.aF,.func (.func 272) [] [.ref r 0]]) 2 (.ref H.next 0)) 4 .aF) 6 (.func (.func 272) [] [.ref r 0])) 2=.ref H.next 0:=rfl;have hf6:(iA (iA (iA (dW [.aF,.func (.func 272) [] [.ref r 0]]) 2 (.ref H.next 0)) 4 .aF) 6 (.func (.func 272) [] [.ref r 0])) 6=.func (.func 272) [] [.ref r 0]:=rfl;generalize iA (iA (iA (dW [.aF,.func (.func 272) [] [.ref r 0]]) 2 (.ref H.next 0)) 4 .aF) 6 (.func (.func 272) [] [.ref r 0])=f at *;refine aS ?_;refine IK (by rw[fA];exact hf6) ?_;simp only[aA.aR];generalize YN:IP.mk [7] _ _=key
 let I:Nat->aA->Prop:=fun i H'=>Over H H'/\H.next+3<=H'.next/\H'.get (H.next+1)=some .NQ/\H'.get (H.next+2)=some (.loop key (LF 13 f) .ready)/\∃v,H'.get H.next=some (.cells [v] false)/\DO H' (H.next+3) v (l.take i)
 have xU:∀i H1 H2,Over H1 H2->I i H1->I i H2:=fun i H1 H2 ho ⟨w1,w2,w3,w4,v,w5,w6⟩=>⟨⟨By w1.le ho.le,fun j hj=>(ho.same j (by omega)).trans (w1.same j hj)⟩,By w2 ho.le,(ho.same _ (by omega)).trans w3,(ho.same _ (by omega)).trans w4,v,(ho.same _ (by omega)).trans w5,w6.over ho⟩
 have h0:I 0 (((H.alloc (.cells [.aF] false)).alloc .NQ).alloc (.loop key (LF 13 f) .ready)):=
  ⟨(((Over.refl H).alloc _).alloc _).alloc _,by simp,by simp[aA.aG],by simp[aA.aG],.aF,by simp[aA.aG];omega,.inl ⟨by simp,rfl⟩⟩
 have eP:∀i (hi:i<l.length) H1,I i H1->∃H',yQ Tryz.prog gv (H.next+1+1) [.agg (iB l[i])] H1 (.ret (.bool true)) H'/\I (i+1) H':=by
  rintro i hi H1 ⟨w1,w2,w3,w4,v,w5,w6⟩;have zS:l.take (i+1)=l.take i++[l[i]]:=by rw[Bv];simp[hi]
  have htl:(l.take i).length=i:=by simp;omega
  generalize l[i]=x at *
  suffices h:∃H',NF Tryz.prog gv 13 key f (H.next+1+1) [.agg (iB x)] H1 (.ret (.bool true)) H'/\I (i+1) H' by obtain⟨H',hr,hI⟩:=h;exact⟨H',RS fit Tn w4 (by rw[<-YN];rfl) hr,hI⟩
  have ov:Over H1 ((H1.alloc (.cells [.int .i64 0,.int .i64 0,.int .i64 0] false)).set H1.next (.cells (iB x) false)):=((Over.refl H1).alloc _).set (Ai _) _;have gx:((H1.alloc (.cells [.int .i64 0,.int .i64 0,.int .i64 0] false)).set H1.next (.cells (iB x) false)).get H1.next=some (.cells (iB x) false):=by rw[aA.aI,if_pos rfl]
  have gn:((H1.alloc (.cells [.int .i64 0,.int .i64 0,.int .i64 0] false)).set H1.next (.cells (iB x) false)).next=H1.next+1:=by simp
  have aKq:∀(HA:aA) (ob:dU),Over H1 HA->HA.get H1.next=some (.cells (iB x) false)->HA.next=H1.next+1->∃v' Hp,cV (HA.set (H.next+1+1) ob) 3 24 true v [iB x]=some (v',Hp)/\DO Hp (H.next+3) v' (l.take (i+1))/\Hp.next=HA.next+1/\∀j,j<H.next+3->Hp.get j=(HA.set (H.next+1+1) ob).get j:=fun HA ob o1 o2 o3=>by
   have :DO (HA.set (H.next+1+1) ob) (H.next+3) v (l.take i):=by
    rcases w6 with h|⟨tC,q0,q1,q2,q3,q4⟩
    . exact .inl h
    exact .inr ⟨tC,q0,q1,by rw[aA.aI,if_neg (by omega),o1.same _ q4];exact q2,q3,by rw[aA.bD];omega⟩
   obtain⟨v',Hp,h1,h2,h3,h4⟩:=this.push (by rw[aA.bD];omega) (by omega) x;exact⟨v',Hp,h1,by rw[zS];exact h2,h3,h4⟩
  have w4':=(ov.same (H.next+2) (by omega)).trans w4;have w5':=(ov.same H.next (by omega)).trans w5;have w3':=(ov.same (H.next+1) (by omega)).trans w3;have w1':Over H ((H1.alloc (.cells [.int .i64 0,.int .i64 0,.int .i64 0] false)).set H1.next (.cells (iB x) false)):=⟨By w1.le ov.le,fun j hj=>(ov.same j (by omega)).trans (w1.same j hj)⟩;obtain⟨v',Hp,p1,p2,p3,p4⟩:=aKq _ (.loop key (LF 13 f) .busy) ov gx gn
  obtain⟨sa,sb,sc,sd,se,rfl⟩:∃a b c d e,v'=.sl a b c d e:=by
   rcases p2 with ⟨h,_⟩|⟨tC,_,h,_⟩
   . rw[zS] at h;simp at h
   exact⟨_,_,_,_,_,h⟩
  refine⟨(Hp.set H.next (.cells [.sl sa sb sc sd se] false)).set (H.next+1+1) (.loop key (LF 13 f) .ready),?_,?_⟩
  . subst YN;unfold NF;dsimp only[List.zip,List.zipWith,xI,eF]
    have aKc:FC Tryz.prog gv 13 (.ops [⟨some 5,.alloc [.int .i64 0,.int .i64 0,.int .i64 0],none⟩,⟨none,.store 3 (.tmp 5) (.tmp 7),none⟩]) (iA f 7 (.agg (iB x))) [] H1 (fun e f1 oR H1'=>e=.normal/\f1=iA (iA f 7 (.agg (iB x))) 5 (.ref H1.next 0)/\oR=[]/\H1'=(H1.alloc (.cells [.int .i64 0,.int .i64 0,.int .i64 0] false)).set H1.next (.cells (iB x) false)):=by simp only[↓zP,zG,seval,zI,oL (bR x)]
    refine iX (fun e f1 oR H1' h=>?_) aKc;obtain⟨rfl,rfl,rfl,rfl⟩:=h;refine⟨rfl,_,_,w4',?_⟩;generalize (H1.alloc (.cells [.int .i64 0,.int .i64 0,.int .i64 0] false)).set H1.next (.cells (iB x) false)=HA at *;refine aS ?_;have n1:¬(H.next=H.next+1+1):=(by omega);have n2:¬(H1.next=H.next+1+1):=(by omega);have pb:=(p4 H.next (by omega)).trans ((by rw[aA.aI,if_neg (by omega)]:_=HA.get H.next).trans w5');have pl:=(p4 (H.next+1+1) (by omega)).trans (by rw[aA.aI,if_pos rfl]);simp only[↓zP,zG,seval,zI,hf2,w5',gx,n1,n2,oL (bR x)];rw[show ∀(h:aA) (x:List AV),bJ h 3 (.bH 1 3 [x])=some [x] from fun _ _=>rfl];simp only[p1,dI,zG,seval,zI,pb];exact⟨rfl,rfl,_,_,by rw[aA.aI,if_neg (by omega)];exact pl,rfl⟩
  have pn:H1.next<=Hp.next:=by omega
  refine⟨⟨by simp only[aA.bD];have :=w1.le;omega,fun j hj=>?_⟩,by simp only[aA.bD];omega,?_,?_,.sl sa sb sc sd se,?_,?_⟩
  . rw[aA.aI,if_neg (by omega),aA.aI,if_neg (by omega),p4 j (by omega),aA.aI,if_neg (by omega)];exact w1'.same j hj
  . rw[aA.aI,if_neg (by omega),aA.aI,if_neg (by omega),p4 _ (by omega),aA.aI,if_neg (by omega)];exact w3'
  . rw[aA.aI,if_pos rfl]
  . rw[aA.aI,if_neg (by omega),aA.aI,if_pos rfl]
  rcases p2 with h|⟨tC,q0,q1,q2,q3,q4⟩
  . exact .inl h
  exact .inr ⟨tC,q0,q1,by rw[aA.aI,if_neg (by omega),aA.aI,if_neg (by omega)];exact q2,q3,by simp only[aA.bD];omega⟩
 obtain⟨He,⟨w1,w2,w3,w4,v,w5,w6⟩,hS⟩:=Qm (tag:=tag) (o:=o) (by omega) I xU eP (r:=r) (by rw[aA.aG,if_neg (by simp;omega),aA.aG,if_neg (by simp;omega),aA.aG,if_neg (by omega)];exact hr) h0
 refine⟨_,He,_,_,_,hS,w4,fun Hf hf=>?_⟩;obtain⟨f1,f2⟩:=hf;show K f [.mark (H.next+1)] Hf;apply hK;clear hK K;have b0:Hf.get H.next=some (.cells [v] false):=by rw[f2,if_neg (by omega)];exact w5
 have b1:Hf.get (H.next+1)=some .NQ:=by rw[f2,if_neg (by omega)];exact w3
 simp only[↓zP,zG,seval,zI,hf2,b0];rw[Bm] at w6;refine⟨b1,[v],rfl,v,rfl,⟨by rw[aA.bD,f1];exact w1.le,fun j hj=>by rw[aA.aI,if_neg (by omega),f2,if_neg (by omega)];exact w1.same j hj⟩,?_⟩
 rcases w6 with h|⟨tC,q0,q1,q2,q3,q4⟩
 . exact .inl h
 exact .inr ⟨tC,q0,q1,by rw[aA.aI,if_neg (by omega),f2,if_neg (by omega)];exact q2,by omega,by rw[aA.bD,f1];exact q4⟩
def ml (p q:aY.V):Int:=orZ [vF p.x q.x,vF p.y q.y,vF p.z q.z]
theorem IB (p q:aY.V):ml p q<0↔kO p q:=wH (p,0) (q,0)
theorem UY (p q:aY.V) (H:aA):Sound Tryz.prog gv 202 [.agg (iB p),.agg (iB q)] H (.ret (.int .i64 (ml p q))) H:=by
 refine So aGf (by simp only[sf,gZ]) ?_ H;unfold xd;dsimp only;refine aB fun K hK=>?_;simp only[↓zP,zG,seval,zI];apply hK;clear hK K;refine aB fun K hK=>?_;refine bK (by decide) ?_;simp only[↓zP,zG,seval,zD,reduceCtorEq,zI,iB,TT];refine rM (jH p.x q.x _) ?_;simp only[↓zP,zG,seval,zD,reduceCtorEq,zI,TT];refine rM (jH p.y q.y _) ?_;simp only[↓zP,zG,seval,zD,reduceCtorEq,zI,TT];refine rM (jH p.z q.z _) ?_;simp only[↓zP,zG,seval,zD,reduceCtorEq,zI];have Pg:=nn [vF p.x q.x,vF p.y q.y,vF p.z q.z] (by simp);simp only[bU,sm] at Pg;refine rM (Pg _) ?_;simp only[↓zP,zG,seval,zD,reduceCtorEq,zI];apply hK;clear hK K;simp only[↓zP,seval]
 (refine Rx ?_;rfl)
def vV (q:aY.V):DE 3:=⟨[q.x,q.y,q.z],rfl⟩
def AI (x:DE 3):aY.V:=⟨x.1.getD 0 0,x.1.getD 1 0,x.1.getD 2 0⟩
theorem OL (x:DE 3):vV (AI x)=x:=by
 obtain⟨l,hl⟩:=x
 match l,hl with
 |[a,b,c],_=>rfl
theorem Tc (q:aY.V):Rm (vV q)=iB q:=rfl
theorem OC:∀S:List aY.V,(nA (S.map vV)).map (AV.int .i64)=(gL S).flatten
 |[]=>rfl
 |q::S=>by have :=OC S;simp only[nA,Be,Cq,Dx,Bo,gL] at this ⊢;rw[this];rfl
theorem aOi:Go.Sort.SWO (Go.Proofs.ltOf fun x y:DE 3=>ml (AI x) (AI y)) where
 irrefl x:=by simp only[Go.Proofs.ltOf,IB,Co];exact kO.irr _
 trans x y z h1 h2:=by simp only[Go.Proofs.ltOf,IB,Bj] at *;exact kO.trans h1 h2
 ntrans x y z h1 h2:=by simp only[Go.Proofs.ltOf,IB,Co] at *;unfold kO at *;omega
theorem Nt:IN Tryz.prog 271:=⟨_,Tryz.func271,by kernel_rfl,by kernel_rfl⟩
theorem Zc (d:List (DE 3)) (hd:d.length<4611686018427387904):
 ∃d':List (DE 3),d'.Perm d/\(d'.Pairwise fun a b=>¬ml (AI b) (AI a)<0)/\∀(H:aA) (id:Nat) (dH:Bool),H.get id=some (.cells ((nA d).map (AV.int .i64)) dH)->
  Sound Tryz.prog gv 271 [.sl id 3 0 d.length d.length,.func (.func 202) [] []] H (.ret (.eZ [])) (H.set id (.cells ((nA d').map (AV.int .i64)) dH)):=
 IV (fun _=>rfl) Tryz.Zb (by decide) Tryz.isAgg60 Tryz.sizeOf60 rfl Nt (UY V0 V0 ⟨0,.nil⟩).1 aOi (fun x y=>by
  have :=UY (AI x) (AI y) ⟨0,.nil⟩
  rwa [<-Tc,<-Tc,OL,OL] at this) d hd
theorem Uv {tag:Nat} (l:List aY.V) (H:aA):Sound Tryz.prog gv 201 [.bH tag 3 (gL l)] H (.ret (.func (.func 272) [] [.ref H.next 0])) (H.alloc (.cells [.bH tag 3 (gL l)] false)):=by refine dY si (Ae rfl) ?_;unfold cw;dsimp only;simp only[↓zP,zG,seval,zI];refine Rx ?_;exact⟨rfl,rfl⟩
theorem RH {tag:Nat} {l:List aY.V} (hlen:l.length<=64) {r:Nat} {o:Bool} {H:aA} (YS:r<H.next) (hr:H.get r=some (.cells [.bH tag 3 (gL l)] o)):
 ∃H' v,Over H H'/\DO H' H.next v l/\Sound Tryz.prog gv 270 [.func (.func 272) [] [.ref r 0]] H (.ret v) H':=by
 obtain⟨H',v,h1,h2,hS⟩:=Mv hlen YS hr;refine⟨H',v,h1,h2,?_⟩;refine dY sr (Ae rfl) ?_;unfold db;dsimp only;simp only[↓zP,zG,seval,zI];refine cT (hS) ?_;simp only[↓zP,zG,seval];refine Rx ?_;exact⟨rfl,rfl⟩
theorem LK {tag:Nat} {l:List aY.V} (hlen:l.length<=64) {r:Nat} {o:Bool} {H:aA} (YS:r<H.next) (hr:H.get r=some (.cells [.bH tag 3 (gL l)] o)):
 ∃H' v S,S.Perm l/\(S.Pairwise fun a b=>¬kO b a)/\Over H H'/\DO H' H.next v S/\Sound Tryz.prog gv 200 [.func (.func 272) [] [.ref r 0],.func (.func 202) [] []] H (.ret v) H':=by
 obtain⟨H1,v,h1,h2,hS⟩:=RH hlen YS hr
 rcases h2 with ⟨rfl,rfl⟩|⟨tC,cF,rfl,hg,RB,hn⟩
 . refine⟨H1,.aF,[],.refl _,.nil,h1,.inl ⟨rfl,rfl⟩,?_⟩;refine dY YX (Ae rfl) ?_;unfold XP;dsimp only;simp only[↓zP,zG,seval,zI];refine cT (hS) ?_;simp only[↓zP,zG,seval,zI];refine cT (mM Tryz.Zb rfl Nt 202 _) ?_;simp only[↓zP,zG,seval];refine Rx ?_;exact⟨rfl,rfl⟩
 obtain⟨d',q1,q2,q3⟩:=Zc (l.map vV) (by simp only[Ax];omega);have pg:H1.get tC=some (.cells ((nA (l.map vV)).map (AV.int .i64)) true):=by rw[hg,OC]
 have hc:=q3 H1 tC true pg;rw[Ax] at hc;have oU:d'=(d'.map AI).map vV:=by rw[Ht];exact(Er (g:=id) (fun x _=>OL x)).trans (List.map_id d') |>.symm
 rw[oU,OC] at hc
 have hp:(d'.map AI).Perm l:=by
  have h1:=q1.map AI
  rwa [Ht,show(AI∘vV)=id from rfl,List.map_id] at h1
 have hl:=hp.length_eq;refine⟨H1.set tC (.cells (gL (d'.map AI)).flatten true),.sl tC 3 0 (d'.map AI).length (d'.map AI).length,d'.map AI,hp,?_,⟨by rw[aA.bD];exact h1.le,fun j hj=>?_⟩,.inr ⟨tC,fun h=>cF (Da (by rw[<-hl,h];rfl)),rfl,?_,RB,by rw[aA.bD];exact hn⟩,?_⟩
 . rw[Ie];exact q2.imp fun h h2=>h ((IB _ _).2 h2)
 . rw[aA.aI,if_neg (by omega)];exact h1.same j hj
 . rw[aA.aI,if_pos rfl]
 rw[hl];refine dY YX (Ae rfl) ?_;unfold XP;dsimp only;simp only[↓zP,zG,seval,zI];refine cT (hS) ?_;simp only[↓zP,zG,seval,zI];refine cT (hc) ?_;simp only[↓zP,zG,seval];refine Rx ?_;exact⟨rfl,rfl⟩
def dd (l:List aY.V):Nat->List aY.V
 |0=>[]
 |j+1=>dd l j++(if 0<j/\l.getD j V0=l.getD (j -1) V0 then [] else [l.getD j V0])
theorem nv (l:List aY.V):∀j,(dd l j).length<=j
 |0=>Ai _
 |j+1=>by have :=nv l j;simp only[dd,Ag];split<;>simp <;>omega
theorem BW (R:List aY.V):(gL R).flatten.length=R.length*3:=by rw[lW (sz:=3) (fun e he=>?_),bY];obtain⟨x,_,rfl⟩:=Bq.1 he;rfl
theorem Jv:∀{R:List aY.V} {p:Nat} (h:p<R.length),((gL R).flatten.drop (p*3)).take 3=iB R[p]
 |x::R,0,_=>rfl
 |x::R,p+1,h=>by have :=Jv (R:=R) (p:=p) (by simpa using h);simp only[List.getElem_cons_succ,<-this,Ce,Fv];rw[Gc (p*3) 3,<-Gt];rfl
theorem Jw:∀{R:List aY.V} {p:Nat} (h:p<R.length) (x:aY.V),eR (gL R).flatten (p*3) (iB x)=(gL (R.set p x)).flatten
 |y::R,0,_,x=>rfl
 |y::R,p+1,h,x=>by
  have :=Jw (R:=R) (p:=p) (by simpa using h) x;simp only[List.set_cons_succ];simp only[eR,gL,Be,Bo,bR] at this ⊢;rw[<-this];have e:(p+1)*3=(p*3)+1+1+1:=by omega
  rw[e];simp only[iB,Ev,Cg,Cw,List.drop_succ_cons]
theorem Ps:∀(R:List aY.V) (p:Nat),(gL R).flatten.take (p*3)=(gL (R.take p)).flatten
 |[],p=>by simp[gL]
 |x::R,0=>by simp[gL]
 |x::R,p+1=>by have :=Ps R p;simp only[gL,Be,Bo,Cw] at this ⊢;rw[<-this,show(p+1)*3=p*3+1+1+1 by omega];simp only[iB,Ev,Cg,Cw]
theorem FR:∀m:Nat,bN (List.replicate m [AV.int .i64 0,.int .i64 0,.int .i64 0]).flatten=true
 |0=>rfl
 |m+1=>by simp only[Ep,Bo,Ev,Cg,bN,AV.free,Cu];exact FR m
theorem Wl (m:Nat):(List.replicate m [AV.int .i64 0,.int .i64 0,.int .i64 0]).flatten.length=m*3:=by simp
theorem JP (v w:aY.V):cE [.i,.i,.i] (iB v) (iB w)=some (decide (v=w)):=by obtain⟨a,b,c⟩:=v;obtain⟨a',b',c'⟩:=w;simp only[iB,cE,if_true,Bi,V.mk.injEq,Gj];congr 1;rw[Gk];simp
theorem RI {l:List aY.V} (hlen:l.length<=64) {id:Nat} {H:aA} (bZ:id<H.next) (hg:H.get id=some (.cells (gL l).flatten true)):
 ∃H' rest,H'.get id=some (.cells ((gL (dd l l.length)).flatten++rest) true)/\bN rest=true/\H'.next=H.next/\(∀j,j≠id->H'.get j=H.get j)/\
  Sound Tryz.prog gv 205 [.sl id 3 0 l.length l.length] H (.ret (.sl id 3 0 (dd l l.length).length l.length)) H':=by
 suffices h:∃out H',(out=.ret (.sl id 3 0 (dd l l.length).length l.length)/\∃rest,H'.get id=some (.cells ((gL (dd l l.length)).flatten++rest) true)/\bN rest=true/\H'.next=H.next/\(∀j,j≠id->H'.get j=H.get j))/\
  Sound Tryz.prog gv 205 [.sl id 3 0 l.length l.length] H out H' by
  obtain⟨_,H',⟨rfl,rest,h1,h2,h3,h4⟩,hS⟩:=h;exact⟨H',rest,h1,h2,h3,h4,hS⟩
 refine bL fit sj (Ae rfl) ?_;unfold cx;dsimp only;have cJ:∀k (h:k<l.length),l.getD k V0=l[k]:=fun k h=>by simp[List.getD,h]
 have same:dd l l.length=l->(∃rest,H.get id=some (.cells ((gL (dd l l.length)).flatten++rest) true)/\bN rest=true/\H.next=H.next/\(∀j,j≠id->H.get j=H.get j)):=fun h=>⟨[],by rw[h,Cf];exact hg,rfl,rfl,fun _ _=>rfl⟩
 refine aB fun K hK=>?_;simp only[↓zP,zG,Nat.reduceLT];apply hK;clear hK K;refine aB fun K hK=>?_;simp only[↓zP,zG,Nat.reduceLT,Nat.reduceEqDiff,zI];refine⟨fun h2=>?_,fun h2=>?_⟩
 . refine Rx ?_
   have hd:dd l l.length=l:=by
    match l,h2 with
    |[],_=>rfl
    |[a],_=>simp[dd]
    |a::b::r,h=>simp at h;omega
   exact⟨by rw[hd];rfl,same hd⟩
 apply hK;clear hK K;have pt:2<=l.length:=by omega
 refine aB fun K hK=>?_;simp only[↓zP,zG,Nat.reduceLT];refine aS ?_;refine jI [3] (fun M vs H'=>∃k,1<=k/\k<=l.length/\M=l.length -k/\vs=[.int .i64 (k:Nat)]/\H'=H/\dd l k=l.take k) (l.length -1) (by rfl) ?_ ?_
 . refine⟨1,Ai _,by omega,rfl,rfl,rfl,?_⟩
   match l,pt with
   |a::r,_=>simp[dd]
 rintro M' f H1 hk ⟨k,k1,k2,rfl,hv,rfl,fy⟩;simp only[sm,Am,Bs] at hv;refine aB fun K2 bO=>?_;simp only[↓zP,zG,Nat.reduceLT,Nat.reduceEqDiff,zI,hv,hk 0 rfl];refine⟨fun eW=>?_,fun xB=>?_⟩
 . apply bO;clear bO K2;have Pc:k<l.length:=by omega
   have aAx:k -1<l.length:=(by omega);have w1:IntKind.i64.wrap ((k:Int) -1)=((k -1:Nat):Int):=(wrap_i64 (by omega) (by omega)).trans (by omega);have fl:=BW l;have ak:=Jv Pc;have ak1:=Jv aAx
   have eP:dd l (k+1)=l.take k++(if l[k]=l[k -1] then [] else [l[k]]):=by simp only[dd,fy,cJ k Pc,cJ (k -1) aAx];simp[show 0<k by omega]
   refine aB fun K2 bO=>?_;refine aS ?_;refine aB fun K3 HP=>?_;refine bK (by decide) ?_;have ck:k*3+3<=l.length*3:=(by omega);have ck1:(k -1)*3+3<=l.length*3:=(by omega);simp only[↓zP,zG,Nat.reduceLT,Nat.reduceEqDiff,Nat.reduceAdd,zD,reduceCtorEq,zI,hv,hk 0 rfl,aQ,Pc,hg,w1,aAx,ak,ak1,JP,fl,ck,ck1];apply HP;clear HP K3;by_cases he:l[k]=l[k -1]
   . have hb:=Bk he
     have FX:lN 3 (.sl id 3 0 l.length l.length) (some k) none none=some (.sl id 3 (0+k*3) (l.length -k) (l.length -k)):=by simp only[lN,Bb,Dd,Ii];rw[if_pos (by omega),if_pos (by omega),if_neg (by omega)]
     simp only[↓zP,zG,Nat.reduceLT,Nat.reduceEqDiff,Nat.reduceAdd,zI,hb,hv,hk 0 rfl,cP,aQ,FX,Ca];refine aS ?_;rw[if_pos he,Cf] at eP
     refine jI [3,5] (fun M vs H'=>∃kk k2 R,1<=k2/\k+k2<=l.length/\M=l.length -(k+k2)/\vs=[.int .i64 (kk:Nat),.int .i64 (k2:Nat)]/\kk<=k+k2 -1/\R.length=l.length/\R.take kk=dd l (k+k2)/\kk=(dd l (k+k2)).length/\(∀p,k+k2 -1<=p->p<l.length->R[p]?=l[p]?)/\
      H'.get id=some (.cells (gL R).flatten true)/\H'.next=H1.next/\∀j,j≠id->H'.get j=H1.get j) (l.length -(k+1)) (by rfl) ?_ ?_
     . refine⟨k,1,l,Ai _,by omega,rfl,?_,by omega,rfl,eP.symm,by rw[eP];simp;omega,fun p _ _=>rfl,hg,rfl,fun _ _=>rfl⟩;simp only[sm,zB,Nat.reduceEqDiff,hv];rfl
     rintro M' f2 H2 kP ⟨kk,k2,R,r1,r2,rfl,DH,r3,r4,r5,r6,r7,r8,r9,r10⟩;simp only[sm,Am,Bs] at DH;obtain⟨v3,v5⟩:=DH;refine aB fun K3 HP=>?_
     have w0:decide (((k2:Nat):Int)<((l.length -k:Nat):Int))=decide (k+k2<l.length):=by rw[Gy];omega
     have hdl:=nv l (k+k2);simp only[↓zP,zG,Nat.reduceLT,Nat.reduceEqDiff,zI,v5,kP 4 rfl];refine⟨fun eW=>?_,fun xB=>?_⟩
     . apply HP;clear HP K3;have hj:k+k2<l.length:=(by omega);have hjR:k+k2<R.length:=(by omega);have aDt:k+k2 -1<R.length:=(by omega);have aj:=Jv hjR;have aj1:=Jv aDt
       have ej:R[k+k2]=l[k+k2]:=by have :=r7 (k+k2) (by omega) hj;rw[Ac hjR,Ac hj] at this;exact Aa this
       have ej1:R[k+k2 -1]=l[k+k2 -1]:=by have :=r7 (k+k2 -1) (Ai _) (by omega);rw[Ac aDt,Ac (show k+k2 -1<l.length by omega)] at this;exact Aa this
       rw[ej] at aj;rw[ej1] at aj1
       have EH:dd l (k+k2+1)=dd l (k+k2)++(if l[k+k2]=l[k+k2 -1] then [] else [l[k+k2]]):=by simp only[dd,cJ (k+k2) hj,cJ (k+k2 -1) (by omega)];simp[show 0<k+k2 by omega]
       have w1:IntKind.i64.wrap ((k2:Int) -1)=((k2 -1:Nat):Int):=(wrap_i64 (by omega) (by omega)).trans (by omega);have w2:IntKind.i64.wrap ((k2:Int)+1)=((k2+1:Nat):Int):=(wrap_i64 (by omega) (by omega)).trans (by omega);have w3:IntKind.i64.wrap ((kk:Int)+1)=((kk+1:Nat):Int):=(wrap_i64 (by omega) (by omega)).trans (by omega);have x1:k*3+k2*3=(k+k2)*3:=(by omega);have x2:k*3+(k2 -1)*3=(k+k2 -1)*3:=(by omega);have fR:=BW R;have y1:(k+k2)*3+3<=R.length*3:=(by omega);have y2:(k+k2 -1)*3+3<=R.length*3:=(by omega);have y3:kk*3+3<=R.length*3:=(by omega);have z1:k2<l.length -k:=(by omega);have z2:k2 -1<l.length -k:=(by omega);have z3:kk<l.length:=(by omega);refine aB fun K3 HP=>?_;refine aS ?_;refine aB fun K4 hK4=>?_;refine bK (by decide) ?_;simp only[↓zP,zG,Nat.reduceLT,Nat.reduceEqDiff,Nat.reduceAdd,zD,reduceCtorEq,zI,v5,kP 4 rfl,aQ,z1,z2,r8,w1,x1,x2,fR,y1,y2,aj,aj1,JP];apply hK4;clear hK4 K4;by_cases OU:l[k+k2]=l[k+k2 -1]
       . have SC:(!decide (l[k+k2]=l[k+k2 -1]))=false:=(by simp[OU]);simp only[↓zP,zG,SC];apply HP;clear HP K3;simp only[↓zP,zG,Nat.reduceLT,Nat.reduceEqDiff,zI,v5,v3,w2];rw[if_pos OU,Cf] at EH;refine⟨_,by omega,kk,k2+1,R,by omega,by omega,rfl,rfl,by omega,r4,by rw[<-Bd,EH];exact r5,by rw[<-Bd,EH];exact r6,fun p p1 p2=>r7 p (by omega) p2,r8,r9,r10⟩
       have SC:(!decide (l[k+k2]=l[k+k2 -1]))=true:=(by simp[OU]);have asp:=Jw (R:=R) (p:=kk) (by omega) l[k+k2];simp only[eR] at asp;simp only[↓zP,zG,Nat.reduceLT,Nat.reduceEqDiff,zI,SC,v5,v3,kP 4 rfl,kP 0 rfl,hk 0 rfl,aQ,z1,z3,r8,x1,fR,y1,y3,aj,w3,oL (bR l[k+k2])];apply HP;clear HP K3;simp only[↓zP,zG,Nat.reduceLT,Nat.reduceEqDiff,zI,v5,w2];rw[if_neg OU] at EH;refine⟨_,by omega,kk+1,k2+1,R.set kk l[k+k2],by omega,by omega,rfl,rfl,by omega,by rw[Ho];exact r4,?_,?_,fun p p1 p2=>?_,by rw[<-asp];rfl,r9,fun j hj=>?_⟩
       . rw[<-Bd,EH,<-r5,Bv,List.take_set_of_le (Ai _)];simp[show kk<R.length by omega]
       . rw[<-Bd,EH,Ag,<-r6];rfl
       . rw[Iy (by omega)];exact r7 p (by omega) p2
       rw[if_neg hj];exact r10 j hj
     have YO:k+k2=l.length:=(by omega);obtain⟨m,hm⟩:∃m,l.length -kk=m+1:=⟨l.length -kk -1,by omega⟩
     have hs2:lN 3 (.sl id 3 0 l.length l.length) (some kk) none none=some (.sl id 3 (kk*3) (m+1) (m+1)):=by simp only[lN,Bb,Dd,Ii];rw[if_pos (by omega),if_pos (by omega),if_neg (by omega),hm,Cc]
     have hs3:lN 3 (.sl id 3 0 l.length l.length) none (some kk) none=some (.sl id 3 0 kk l.length):=by simp only[lN,Bb,Dd,Ii];rw[if_pos (by omega),if_pos (by omega),if_neg (by omega)];simp
     have fR:=BW R;have YK:kk*3+(m+1)*3<=R.length*3:=(by omega);simp only[↓zP,zG,Nat.reduceEqDiff,zI,v3,kP 0 rfl,hk 0 rfl,aQ,hs2,hs3,r8,fR,YK,Ca,Br];rw[YO] at r5 r6;rw[Ps,r5,Bg];refine Rx ?_;refine⟨by rw[<-r6];rfl,_,by rw[aA.aI,if_pos rfl],?_,by rw[aA.bD];exact r9,fun j hj=>by rw[aA.aI,if_neg hj];exact r10 j hj⟩
     rw[pN,FR,Et (by rw[Wl,fR];omega)]
     rfl
   have hb:=As he;simp only[↓zP,zG,hb];apply bO;clear bO K2;have w2:IntKind.i64.wrap ((k:Int)+1)=((k+1:Nat):Int):=(wrap_i64 (by omega) (by omega)).trans (by omega);simp only[↓zP,zG,Nat.reduceLT,Nat.reduceEqDiff,zI,hv,w2];refine⟨_,by omega,k+1,by omega,by omega,rfl,rfl,trivial,?_⟩;rw[eP,if_neg he,Bv];simp[Pc]
 apply hK;clear hK K bO K2;have YO:k=l.length:=by omega
 subst YO;rw[Bm] at fy;simp only[↓zP,zG,Nat.reduceLT,Nat.reduceEqDiff,zI,hk 0 rfl];refine Rx ?_;exact⟨by rw[fy];rfl,same fy⟩
theorem JM (l:List aY.V) (v:aY.V):∀j,j<=l.length->(v∈dd l j↔v∈l.take j)
 |0,_=>by simp[dd]
 |j+1,h=>by
  have ih:=JM l v j (by omega);have hj:j<l.length:=h;have hg:l.getD j V0=l[j]:=by simp[List.getD,hj]
  rw[Bv,Ac hj];simp only[dd,Az,ih,hg,Option.toList_some,Ah,Al,Bx];split
  . rename_i hc;obtain⟨h0,he⟩:=hc;have EE:j -1<l.length:=by omega
    have rO:l.getD (j -1) V0=l[j -1]:=(by simp[List.getD,EE]);simp only[Al,Bx];refine⟨.inl,fun h=>h.elim id fun e=>?_⟩;rw[e,he,rO];exact List.mem_take_iff_getElem.2 ⟨j -1,by omega,rfl⟩
  simp
theorem Rj {l:List aY.V} (hs:l.Pairwise fun a b=>¬kO b a):∀j,j<=l.length->(dd l j).Pairwise kO
 |0,_=>.nil
 |j+1,h=>by
  have ih:=Rj hs j (by omega);have hj:j<l.length:=h;have hg:l.getD j V0=l[j]:=by simp[List.getD,hj]
  simp only[dd,hg];split
  . rw[Cf];exact ih
  rename_i hc;rw[List.pairwise_append];refine⟨ih,List.pairwise_singleton _ _,fun v hv x hx=>?_⟩;simp only[Ah,Al,Bx] at hx;subst hx;rw[JM l v j (by omega)] at hv;obtain⟨i,hi,rfl⟩:=List.mem_take_iff_getElem.1 hv;have rP:i<j:=by omega
  have EE:j -1<l.length:=by omega
  have rO:l.getD (j -1) V0=l[j -1]:=by simp[List.getD,EE]
  rw[rO] at hc;have cF:l[j]≠l[j -1]:=fun e=>hc ⟨by omega,e⟩;have hp:=Ez.1 hs;have p1:=hp (j -1) j EE hj (by omega);have p2:kO l[j -1] l[j]:=(kO.total cF).elim (fun h=>absurd h p1) id;by_cases Qz:i=j -1
  . subst Qz;exact p2
  have p3:=hp i (j -1) (by omega) EE (by omega);generalize l[i]=a at *;generalize l[j -1]=b at *;generalize l[j]=c at *;unfold kO at *;omega
structure Ord (l C:List aY.V):Prop where
 Zd:C.Pairwise kO
 mem:∀v,v∈C↔v∈l
theorem Ord.uniq {l C C':List aY.V} (h:Ord l C) (h':Ord l C'):C=C':=
 wL (R:=kO) kO.irr (fun h h'=>kO.trans h h') h.Zd h'.Zd fun v=>(h.mem v).trans (h'.mem v).symm
theorem Ord.of {l S C:List aY.V} (hp:S.Perm l) (hs:S.Pairwise fun a b=>¬kO b a) (h:Ord l C):dd S S.length=C:=
 Ord.uniq (l:=l) ⟨Rj hs _ (Ai _),fun v=>by rw[JM S v _ (Ai _),Bm];exact hp.mem_iff⟩ h
theorem FD (H:aA):Sound Tryz.prog gv 205 [.aF] H (.ret .aF) H:=by refine dY sj (Ae rfl) ?_;unfold cx;dsimp only;refine aB fun K hK=>?_;simp only[↓zP,zG,seval];apply hK;clear hK K;refine aB fun K hK=>?_;simp only[↓zP,zG,seval,zI];refine⟨fun h2=>?_,fun h2=>absurd (show((0:Int)<2) by decide) (by simp at h2)⟩;refine Rx ?_;exact⟨rfl,rfl⟩
theorem Lq {sz:Nat}:∀{els:List (List AV)} (rest:List AV),(∀e∈els,e.length=sz)->eQ sz els.length (els.flatten++rest)=els
 |[],_,_=>rfl
 |e::els,rest,h=>by have he:=h e Aq;simp only[Ak,eQ,Bo,Bg];rw[Ef (by omega),Bl (by omega),Hi (by omega),Et (by omega),Cg,Lq rest fun x hx=>h x (Ao _ hx)]
theorem WX {tag:Nat} (ht:Nat.blt tag 2=true) {l C:List aY.V} (hlen:l.length<=64) (hC:Ord l C) (H:aA):
 Sound Tryz.prog gv 154 [.bH tag 3 (gL l)] H (.ret (uR 3 (gL C))) H:=by
 refine fV fit dZ rh (Ae rfl) (by simp only[sf,kU ht]) ?_ H;unfold cg;dsimp only;obtain⟨H1,v,S,hp,hs,ho,hr,hS⟩:=LK (tag:=tag) hlen (r:=0) (o:=false) (H:=(aA.mk 0 .nil).alloc (.cells [.bH tag 3 (gL l)] false)) (by simp) rfl;have fy:=Ord.of hp hs hC;have hSl:=hp.length_eq;simp only[↓zP,zG,seval,zI];refine cT (Uv (tag:=tag) l _) ?_;simp only[seval];refine cT (hS) ?_
 rcases hr with ⟨rfl,rfl⟩|⟨tC,cF,rfl,hg,RB,hn⟩
 . simp only[↓zP,zG,seval];refine cT (FD _) ?_;simp only[↓zP,zG,seval];refine Rx ?_;rw[<-fy];exact⟨_,0,rfl,fun nw=>rfl⟩
 obtain⟨H2,rest,c1,c2,c3,c4,hcS⟩:=RI (by omega) hn hg;simp only[↓zP,zG,seval];refine cT (hcS) ?_;simp only[↓zP,zG,seval];refine Rx ?_;rw[fy] at c1 ⊢
 have hCn:¬gL C=[]:=by
  intro h;have :C=[]:=by simpa [gL] using h
  rw[this] at fy
  match S,cF with
  |x::r,_=>have :=(JM (x::r) x _ (Ai _)).2 (by simp);rw[fy] at this;cases this
 refine⟨.sl tC 3 0 C.length S.length,0,rfl,fun nw=>?_⟩;have hc:H2.eB tC=some ((gL C).flatten++rest):=by simp[aA.eB,c1]
 have hu:∀e∈gL C,e.length=3:=fun e he=>by obtain⟨x,_,rfl⟩:=Bq.1 he;rfl
 have hle:Nat.ble (0+C.length*3) ((gL C).flatten++rest).length=true:=by rw[Ag,BW];exact Nat.ble_eq_true_of_le (by omega)
 have al:bN ((gL C).flatten++rest)=true:=by rw[pN,jR (show dS (gL C)=true from jS gZ C),c2];rfl
 rw[uR,if_neg hCn];simp only[fG,hY,hc,Ex,hle,al,Cx];rw[show C.length=(gL C).length from (bY C).symm,Lq rest hu]
end Go.Proofs.YtgggiembljfnhaaGreatDoor
