/-
  Part of the proof of statement 12
-/
import Derived.Test.YtgggiembljfnhaaGreatDoorB17
import Derived.Test.YtgggiembljfnhaaGreatDoorB22
import Derived.Test.YtgggiembljfnhaaGreatDoorB21
import Derived.Test.YtgggiembljfnhaaGreatDoorB06
set_option linter.unusedVariables false
set_option linter.unusedSimpArgs false
set_option maxRecDepth 100000
set_option maxHeartbeats 16000000
namespace Go.Proofs.YtgggiembljfnhaaGreatDoor
open Go Go.Av Go.aP
attribute [local congr] aT aI aL aH aX aQ aM aF aY
attribute [local irreducible] FC bS eF
theorem WC {tag:Nat} {l:List aP.V} (hlen:l.length<2^30) {id r:Nat} {o:Bool} (I:Nat->aA->Prop) (gV:∀i H H',Over H H'->I i H->I i H')
 (gR:∀i (hi:i<l.length) H,I i H->∃H',EG Tryz.prog gv id [.agg (cU l[i])] H (.ret (.bool true)) H'/\I (i+1) H') {H:aA} (hr:H.get r=some (.cells [.bD tag 3 (cH l)] o)) (h0:I 0 H):
 ∃H',I l.length H'/\Sg 272 [.yield id,.ref r 0] H (.ret (.iA [])) H':=by
 suffices h:∃out H',(out=.ret (.iA [])/\I l.length H')/\Sg 272 [.yield id,.ref r 0] H out H' by obtain⟨_,H',⟨rfl,hm⟩,hS⟩:=h;exact⟨H',hm,hS⟩
 refine cZ fit aKq (Ai rfl) ?_;unfold aDs;dsimp only;refine bQ ?_;simp only[↓zP,zJ,seval,hr];refine bR ?_;refine cV [] (fun i vs H'=>I i H') l.length (by omega) (by decide) ?_ ?_ ?_ ?_ ?_
 . exact zq
 . simp only[zB,seval,aU]
 . exact h0
 . rintro i f H1 hi hk e1 hI;have hg:=dD hi;have hs:=gR i hi;generalize l[i]=x at *;refine aJ ?_;simp only[↓zP,zJ,seval,e1,hk 5 rfl,hk 0 rfl,aB,aU,hi,hg,oL (aV x)];obtain⟨H',hy,hI'⟩:=hs _ (gV i _ _ (((Over.refl H1).alloc (.cells [.int .i64 0,.int .i64 0,.int .i64 0] false)).set (Ab _) (.cells (cU x) false)) hI);refine Wg (by decide) (by rfl) (by rfl) hy ?_;refine Ty ?_;exact hI'
 rintro f H1 hk hI;refine⟨rfl,_,by simp only[zR,seval];rfl,?_⟩;exact⟨rfl,hI⟩
def JQ (H:aA) (lo:Nat) (v:AV) (l:List aP.V):Prop:=
 (l=[]/\v=.aO)\/∃xC,l≠[]/\v=.sl xC 3 0 l.length l.length/\H.get xC=some (.cells (cH l).flatten true)/\lo<=xC/\xC<H.next
theorem JQ.push {H:aA} {lo:Nat} {v:AV} {l:List aP.V} (h:JQ H lo v l) (Ti:lo<=H.next) (hlen:l.length<2^20) (x:aP.V):
 ∃v' H',dR H 3 24 true v [cU x]=some (v',H')/\JQ H' lo v' (l++[x])/\H'.next=H.next+1/\∀j,j<lo->H'.get j=H.get j:=by
 rcases h with ⟨rfl,rfl⟩|⟨xC,cQ,rfl,hg,h1,h2⟩
 . refine⟨_,_,zH rfl (by simp),.inr ⟨H.next,by simp,rfl,by rw[aA.aG,if_pos rfl];rfl,Ti,by simp⟩,by simp,fun j hj=>by rw[aA.aG,if_neg (by omega)]⟩
 have xd:(cH l).flatten.length=l.length*3:=by rw[oQ (sz:=3) (fun e he=>?_),aU];obtain⟨x,_,rfl⟩:=Bf.1 he;rfl
 refine⟨_,_,zK hg xd rfl (by simp only[As,Bm];omega) (by decide),.inr ⟨H.next,by simp,by simp,?_,Ti,by simp⟩,by simp,fun j hj=>by rw[aA.aG,aA.aW,if_neg (by omega),aA.aC,if_neg (by omega)]⟩;rw[aA.aG,aA.aW,if_pos rfl];simp[cH]
theorem JQ.over {H H':aA} {lo:Nat} {v:AV} {l:List aP.V} (h:JQ H lo v l) (ho:Over H H'):JQ H' lo v l:=by
 rcases h with h|⟨xC,h0,h1,h2,h3,h4⟩
 . exact .inl h
 exact .inr ⟨xC,h0,h1,(ho.same _ h4).trans h2,h3,Ck h4 ho.le⟩
theorem Rq {tag:Nat} {l:List aP.V} (hlen:l.length<=64) {r:Nat} {o:Bool} {H:aA} (j6:r<H.next) (hr:H.get r=some (.cells [.bD tag 3 (cH l)] o)):
 ∃H' v,Over H H'/\JQ H' H.next v l/\Sg 313 [.aO,.func (.func 272) [] [.ref r 0]] H (.ret v) H':=by
 suffices h:∃out H',(∃v,out=.ret v/\Over H H'/\JQ H' H.next v l)/\Sg 313 [.aO,.func (.func 272) [] [.ref r 0]] H out H' by obtain⟨_,H',⟨v,rfl,h1,h2⟩,hS⟩:=h;exact⟨H',v,h1,h2,hS⟩
 refine GO fit aKr (Ai rfl) ?_;unfold aDt;dsimp only;refine bQ ?_;refine Ty ?_;refine bR ?_;refine aN fun K hK=>?_;refine bQ ?_;refine Ty ?_;refine bR ?_
 have hbd:pU 13 (kH (kH (kH (fN [.aO,.func (.func 272) [] [.ref r 0]]) 2 (.ref H.next 0)) 4 .aO) 6 (.func (.func 272) [] [.ref r 0])):=
  ((((Ku (Ai rfl)).1.kH (by decide) _).kH (by decide) _).kH (by decide) _)
 have FY:(kH (kH (kH (fN [.aO,.func (.func 272) [] [.ref r 0]]) 2 (.ref H.next 0)) 4 .aO) 6 (.func (.func 272) [] [.ref r 0])) 2=.ref H.next 0:=rfl;have hf6:(kH (kH (kH (fN [.aO,.func (.func 272) [] [.ref r 0]]) 2 (.ref H.next 0)) 4 .aO) 6 (.func (.func 272) [] [.ref r 0])) 6=.func (.func 272) [] [.ref r 0]:=rfl;generalize kH (kH (kH (fN [.aO,.func (.func 272) [] [.ref r 0]]) 2 (.ref H.next 0)) 4 .aO) 6 (.func (.func 272) [] [.ref r 0])=f at *;refine aJ ?_;refine Mn (by rw[dS];exact hf6) ?_;simp only[aA.aR];generalize wu:Mq.mk [7] _ _=key
 let I:Nat->aA->Prop:=fun i H'=>Over H H'/\H.next+3<=H'.next/\H'.get (H.next+1)=some .SH/\H'.get (H.next+2)=some (.loop key (LF 13 f) .ready)/\∃v,H'.get H.next=some (.cells [v] false)/\JQ H' (H.next+3) v (l.take i)
 have gV:∀i H1 H2,Over H1 H2->I i H1->I i H2:=fun i H1 H2 ho ⟨w1,w2,w3,w4,v,w5,w6⟩=>⟨⟨Cd w1.le ho.le,fun j hj=>(ho.same j (by omega)).trans (w1.same j hj)⟩,Cd w2 ho.le,(ho.same _ (by omega)).trans w3,(ho.same _ (by omega)).trans w4,v,(ho.same _ (by omega)).trans w5,w6.over ho⟩
 have h0:I 0 (((H.alloc (.cells [.aO] false)).alloc .SH).alloc (.loop key (LF 13 f) .ready)):=
  ⟨(((Over.refl H).alloc _).alloc _).alloc _,by simp,by simp[aA.aG],by simp[aA.aG],.aO,by simp[aA.aG];omega,.inl ⟨by simp,rfl⟩⟩
 have gR:∀i (hi:i<l.length) H1,I i H1->∃H',EG Tryz.prog gv (H.next+1+1) [.agg (cU l[i])] H1 (.ret (.bool true)) H'/\I (i+1) H':=by
  rintro i hi H1 ⟨w1,w2,w3,w4,v,w5,w6⟩;have pT:l.take (i+1)=l.take i++[l[i]]:=by rw[An];simp[hi]
  have xQ:(l.take i).length=i:=by simp;omega
  generalize l[i]=x at *
  suffices h:∃H',Ry Tryz.prog gv 13 key f (H.next+1+1) [.agg (cU x)] H1 (.ret (.bool true)) H'/\I (i+1) H' by obtain⟨H',hr,hI⟩:=h;exact⟨H',Wm fit hbd w4 (by rw[<-wu];rfl) hr,hI⟩
  have ov:Over H1 ((H1.alloc (.cells [.int .i64 0,.int .i64 0,.int .i64 0] false)).set H1.next (.cells (cU x) false)):=((Over.refl H1).alloc _).set (Ab _) _;have gx:((H1.alloc (.cells [.int .i64 0,.int .i64 0,.int .i64 0] false)).set H1.next (.cells (cU x) false)).get H1.next=some (.cells (cU x) false):=by rw[aA.aC,if_pos rfl]
  have gn:((H1.alloc (.cells [.int .i64 0,.int .i64 0,.int .i64 0] false)).set H1.next (.cells (cU x) false)).next=H1.next+1:=by simp
  have bFi:∀(HA:aA) (ob:fB),Over H1 HA->HA.get H1.next=some (.cells (cU x) false)->HA.next=H1.next+1->∃v' Hp,dR (HA.set (H.next+1+1) ob) 3 24 true v [cU x]=some (v',Hp)/\JQ Hp (H.next+3) v' (l.take (i+1))/\Hp.next=HA.next+1/\∀j,j<H.next+3->Hp.get j=(HA.set (H.next+1+1) ob).get j:=fun HA ob o1 o2 o3=>by
   have :JQ (HA.set (H.next+1+1) ob) (H.next+3) v (l.take i):=by
    rcases w6 with h|⟨xC,q0,q1,q2,q3,q4⟩
    . exact .inl h
    exact .inr ⟨xC,q0,q1,by rw[aA.aC,if_neg (by omega),o1.same _ q4];exact q2,q3,by rw[aA.aW];omega⟩
   obtain⟨v',Hp,h1,h2,h3,h4⟩:=this.push (by rw[aA.aW];omega) (by omega) x;exact⟨v',Hp,h1,by rw[pT];exact h2,h3,h4⟩
  have w4':=(ov.same (H.next+2) (by omega)).trans w4;have w5':=(ov.same H.next (by omega)).trans w5;have w3':=(ov.same (H.next+1) (by omega)).trans w3;have w1':Over H ((H1.alloc (.cells [.int .i64 0,.int .i64 0,.int .i64 0] false)).set H1.next (.cells (cU x) false)):=⟨Cd w1.le ov.le,fun j hj=>(ov.same j (by omega)).trans (w1.same j hj)⟩;obtain⟨v',Hp,p1,p2,p3,p4⟩:=bFi _ (.loop key (LF 13 f) .busy) ov gx gn
  obtain⟨sa,sb,sc,sd,se,rfl⟩:∃a b c d e,v'=.sl a b c d e:=by
   rcases p2 with ⟨h,_⟩|⟨xC,_,h,_⟩
   . rw[pT] at h;simp at h
   exact⟨_,_,_,_,_,h⟩
  refine⟨(Hp.set H.next (.cells [.sl sa sb sc sd se] false)).set (H.next+1+1) (.loop key (LF 13 f) .ready),?_,?_⟩
  . subst wu;unfold Ry;dsimp only[List.zip,List.zipWith,CG,fM]
    have bEq:FC Tryz.prog gv 13 (.ops [⟨some 5,.alloc [.int .i64 0,.int .i64 0,.int .i64 0],none⟩,⟨none,.store 3 (.tmp 5) (.tmp 7),none⟩]) (kH f 7 (.agg (cU x))) [] H1 (fun e f1 rL H1'=>e=.normal/\f1=kH (kH f 7 (.agg (cU x))) 5 (.ref H1.next 0)/\rL=[]/\H1'=(H1.alloc (.cells [.int .i64 0,.int .i64 0,.int .i64 0] false)).set H1.next (.cells (cU x) false)):=by simp only[↓zP,zJ,seval,oL (aV x)]
    refine jS (fun e f1 rL H1' h=>?_) bEq;obtain⟨rfl,rfl,rfl,rfl⟩:=h;refine⟨rfl,_,_,w4',?_⟩;generalize (H1.alloc (.cells [.int .i64 0,.int .i64 0,.int .i64 0] false)).set H1.next (.cells (cU x) false)=HA at *;refine aJ ?_;have n1:¬(H.next=H.next+1+1):=(by omega);have n2:¬(H1.next=H.next+1+1):=(by omega);have pb:=(p4 H.next (by omega)).trans ((by rw[aA.aC,if_neg (by omega)]:_=HA.get H.next).trans w5');have pl:=(p4 (H.next+1+1) (by omega)).trans Zbt;simp only[↓zP,zJ,seval,FY,w5',gx,n1,n2,oL (aV x)];rw[eL];simp only[p1,cE,zJ,seval,pb];exact⟨rfl,rfl,_,_,by rw[aA.aC,if_neg (by omega)];exact pl,rfl⟩
  have pn:H1.next<=Hp.next:=by omega
  refine⟨⟨by simp only[aA.aW];have :=w1.le;omega,fun j hj=>?_⟩,by simp only[aA.aW];omega,?_,?_,.sl sa sb sc sd se,?_,?_⟩
  . rw[aA.aC,if_neg (by omega),aA.aC,if_neg (by omega),p4 j (by omega),aA.aC,if_neg (by omega)];exact w1'.same j hj
  . rw[aA.aC,if_neg (by omega),aA.aC,if_neg (by omega),p4 _ (by omega),aA.aC,if_neg (by omega)];exact w3'
  . exact Zbt
  . rw[aA.aC,if_neg (by omega),aA.aC,if_pos rfl]
  rcases p2 with h|⟨xC,q0,q1,q2,q3,q4⟩
  . exact .inl h
  exact .inr ⟨xC,q0,q1,by rw[aA.aC,if_neg (by omega),aA.aC,if_neg (by omega)];exact q2,q3,by simp only[aA.aW];omega⟩
 obtain⟨He,⟨w1,w2,w3,w4,v,w5,w6⟩,hS⟩:=WC (tag:=tag) (o:=o) (by omega) I gV gR (r:=r) (by rw[aA.aG,if_neg Zah,aA.aG,if_neg Zah,aA.aG,if_neg (by omega)];exact hr) h0
 refine⟨_,He,_,_,_,hS,w4,fun Hf hf=>?_⟩;obtain⟨f1,f2⟩:=hf;show K f [.mark (H.next+1)] Hf;apply hK;clear hK K;have b0:Hf.get H.next=some (.cells [v] false):=by rw[f2,if_neg (by omega)];exact w5
 have b1:Hf.get (H.next+1)=some .SH:=by rw[f2,if_neg (by omega)];exact w3
 simp only[↓zP,zJ,seval,FY,b0];rw[Ax] at w6;refine⟨b1,[v],rfl,v,rfl,⟨by rw[aA.aW,f1];exact w1.le,fun j hj=>by rw[aA.aC,if_neg (by omega),f2,if_neg (by omega)];exact w1.same j hj⟩,?_⟩
 rcases w6 with h|⟨xC,q0,q1,q2,q3,q4⟩
 . exact .inl h
 exact .inr ⟨xC,q0,q1,by rw[aA.aC,if_neg (by omega),f2,if_neg (by omega)];exact q2,by omega,by rw[aA.aW,f1];exact q4⟩
def aIi (p q:aP.V):Int:=orZ [zS p.x q.x,zS p.y q.y,zS p.z q.z]
theorem Mh (p q:aP.V):aIi p q<0↔iY p q:=AZ (p,0) (q,0)
theorem de (p q:aP.V) (H:aA):Sg 202 [.agg (cU p),.agg (cU q)] H (.ret (.int .i64 (aIi p q))) H:=by
 refine So aYv Zal ?_ H;unfold aNr;dsimp only;refine bQ ?_;refine Ty ?_;refine fF ?_;refine Dz ?_;simp only[↓zP,zJ,seval,zD,cU,sT];refine fP (lN p.x q.x _) ?_;simp only[↓zP,zJ,seval,zD,sT];refine fP (lN p.y q.y _) ?_;simp only[↓zP,zJ,seval,zD,sT];refine fP (lN p.z q.z _) ?_;simp only[↓zP,zJ,seval,zD];have xm:=aIq [zS p.x q.x,zS p.y q.y,zS p.z q.z] (by simp);simp only[iU,sm] at xm;refine fP (xm _) ?_;simp only[↓zP,zJ,seval,zD];refine bR ?_;refine Tx ?_
 (refine Rx ?_;rfl)
def vV (q:aP.V):JG 3:=⟨[q.x,q.y,q.z],rfl⟩
def FW (x:JG 3):aP.V:=⟨x.1.getD 0 0,x.1.getD 1 0,x.1.getD 2 0⟩
theorem TX (x:JG 3):vV (FW x)=x:=by
 obtain⟨l,hl⟩:=x
 match l,hl with
 |[a,b,c],_=>rfl
theorem ZQ (q:aP.V):XJ (vV q)=cU q:=rfl
theorem TQ:∀S:List aP.V,(pM (S.map vV)).map (AV.int .i64)=(cH S).flatten
 |[]=>rfl
 |q::S=>by have :=TQ S;simp only[pM,Cb,Fe,Ct,Bl,cH] at this ⊢;rw[this];rfl
theorem bJb:Go.Sort.SWO (Go.Proofs.ltOf fun x y:JG 3=>aIi (FW x) (FW y)) where
 irrefl x:=by simp only[Go.Proofs.ltOf,Mh,Bh];exact iY.j9 _
 trans x y z h1 h2:=by simp only[Go.Proofs.ltOf,Mh,Bd] at *;exact iY.trans h1 h2
 ntrans x y z h1 h2:=by simp only[Go.Proofs.ltOf,Mh,Bh] at *;unfold iY at *;omega
theorem TJ:Mp Tryz.prog 271:=⟨_,Tryz.func271,by kernel_rfl,by kernel_rfl⟩
theorem aBz (d:List (JG 3)) (hd:d.length<4611686018427387904):
 ∃d':List (JG 3),d'.Perm d/\(d'.Pairwise fun a b=>¬aIi (FW b) (FW a)<0)/\∀(H:aA) (id:Nat) (eN:Bool),H.get id=some (.cells ((pM d).map (AV.int .i64)) eN)->
  Sg 271 [.sl id 3 0 d.length d.length,.func (.func 202) [] []] H (.ret (.iA [])) (H.set id (.cells ((pM d').map (AV.int .i64)) eN)):=
 Mv (fun _=>rfl) Tryz.aBy (by decide) Tryz.isAgg60 Tryz.sizeOf60 rfl TJ (de V0 V0 ⟨0,.nil⟩).1 bJb (fun x y=>by
  have :=de (FW x) (FW y) ⟨0,.nil⟩
  rwa [<-ZQ,<-ZQ,TX,TX] at this) d hd
theorem fe {tag:Nat} (l:List aP.V) (H:aA):Sg 201 [.bD tag 3 (cH l)] H (.ret (.func (.func 272) [] [.ref H.next 0])) (H.alloc (.cells [.bD tag 3 (cH l)] false)):=by refine gH aKk (Ai rfl) ?_;unfold aDm;dsimp only;refine Ty ?_;refine Rx ?_;exact⟨rfl,rfl⟩
theorem Wc {tag:Nat} {l:List aP.V} (hlen:l.length<=64) {r:Nat} {o:Bool} {H:aA} (j6:r<H.next) (hr:H.get r=some (.cells [.bD tag 3 (cH l)] o)):
 ∃H' v,Over H H'/\JQ H' H.next v l/\Sg 270 [.func (.func 272) [] [.ref r 0]] H (.ret v) H':=by
 obtain⟨H',v,h1,h2,hS⟩:=Rq hlen j6 hr;refine⟨H',v,h1,h2,?_⟩;refine gH aKp (Ai rfl) ?_;unfold aDr;dsimp only;refine Ty ?_;refine bY (hS) ?_;refine Tz ?_;refine Rx ?_;exact ZaR
theorem PU {tag:Nat} {l:List aP.V} (hlen:l.length<=64) {r:Nat} {o:Bool} {H:aA} (j6:r<H.next) (hr:H.get r=some (.cells [.bD tag 3 (cH l)] o)):
 ∃H' v S,S.Perm l/\(S.Pairwise fun a b=>¬iY b a)/\Over H H'/\JQ H' H.next v S/\Sg 200 [.func (.func 272) [] [.ref r 0],.func (.func 202) [] []] H (.ret v) H':=by
 obtain⟨H1,v,h1,h2,hS⟩:=Wc hlen j6 hr
 rcases h2 with ⟨rfl,rfl⟩|⟨xC,cQ,rfl,hg,Ti,hn⟩
 . refine⟨H1,.aO,[],.refl _,.nil,h1,.inl ⟨rfl,rfl⟩,?_⟩;refine gH yd (Ai rfl) ?_;unfold rp;dsimp only;refine Ty ?_;refine bY (hS) ?_;refine Ty ?_;refine bY (pE Tryz.aBy rfl TJ 202 _) ?_;refine Tz ?_;refine Rx ?_;exact ZaR
 obtain⟨d',q1,q2,q3⟩:=aBz (l.map vV) (by simp only[Af];omega);have Qu:H1.get xC=some (.cells ((pM (l.map vV)).map (AV.int .i64)) true):=by rw[hg,TQ]
 have hc:=q3 H1 xC true Qu;rw[Af] at hc;have rM:d'=(d'.map FW).map vV:=by rw[Gr];exact(Fl (g:=id) (fun x _=>TX x)).trans (Ke d') |>.symm
 rw[rM,TQ] at hc
 have hp:(d'.map FW).Perm l:=by
  have h1:=q1.map FW
  rwa [Gr,show(FW∘vV)=id from rfl,Ke] at h1
 have hl:=hp.length_eq;refine⟨H1.set xC (.cells (cH (d'.map FW)).flatten true),.sl xC 3 0 (d'.map FW).length (d'.map FW).length,d'.map FW,hp,?_,⟨by rw[aA.aW];exact h1.le,fun j hj=>?_⟩,.inr ⟨xC,fun h=>cQ (Cm (by rw[<-hl,h];rfl)),rfl,?_,Ti,by rw[aA.aW];exact hn⟩,?_⟩
 . rw[Ji];exact q2.imp fun h h2=>h ((Mh _ _).2 h2)
 . rw[aA.aC,if_neg (by omega)];exact h1.same j hj
 . exact Zbt
 rw[hl];refine gH yd (Ai rfl) ?_;unfold rp;dsimp only;refine Ty ?_;refine bY (hS) ?_;refine Ty ?_;refine bY (hc) ?_;refine Tz ?_;refine Rx ?_;exact ZaR
def dd (l:List aP.V):Nat->List aP.V
 |0=>[]
 |j+1=>dd l j++(if 0<j/\l.getD j V0=l.getD (j -1) V0 then [] else [l.getD j V0])
theorem aIw (l:List aP.V):∀j,(dd l j).length<=j
 |0=>Ab _
 |j+1=>by have :=aIw l j;simp only[dd,Ba];split<;>simp <;>omega
theorem HR (R:List aP.V):(cH R).flatten.length=R.length*3:=by rw[oQ (sz:=3) (fun e he=>?_),aU];obtain⟨x,_,rfl⟩:=Bf.1 he;rfl
theorem OB:∀{R:List aP.V} {p:Nat} (h:p<R.length),((cH R).flatten.drop (p*3)).take 3=cU R[p]
 |x::R,0,_=>rfl
 |x::R,p+1,h=>by have :=OB (R:=R) (p:=p) Zbi;simp only[List.getElem_cons_succ,<-this,Cs,Hv];rw[Fa (p*3) 3,<-Jc];rfl
theorem OC:∀{R:List aP.V} {p:Nat} (h:p<R.length) (x:aP.V),fW (cH R).flatten (p*3) (cU x)=(cH (R.set p x)).flatten
 |y::R,0,_,x=>rfl
 |y::R,p+1,h,x=>by
  have :=OC (R:=R) (p:=p) Zbi x;simp only[List.set_cons_succ];simp only[fW,cH,Cb,Bl,aV] at this ⊢;rw[<-this];have e:(p+1)*3=(p*3)+1+1+1:=by omega
  rw[e];simp only[cU,Er,Db,Dp,Iu]
theorem VF:∀(R:List aP.V) (p:Nat),(cH R).flatten.take (p*3)=(cH (R.take p)).flatten
 |[],p=>by simp[cH]
 |x::R,0=>by simp[cH]
 |x::R,p+1=>by have :=VF R p;simp only[cH,Cb,Bl,Dp] at this ⊢;rw[<-this,show(p+1)*3=p*3+1+1+1 by omega];simp only[cU,Er,Db,Dp]
theorem LM:∀m:Nat,bO (List.replicate m [AV.int .i64 0,.int .i64 0,.int .i64 0]).flatten=true
 |0=>rfl
 |m+1=>by simp only[Dx,Bl,Er,Db,bO,AV.free,Co];exact LM m
theorem oz (m:Nat):(List.replicate m [AV.int .i64 0,.int .i64 0,.int .i64 0]).flatten.length=m*3:=by simp
theorem nG (v w:aP.V):cL [.i,.i,.i] (cU v) (cU w)=some (decide (v=w)):=by obtain⟨a,b,c⟩:=v;obtain⟨a',b',c'⟩:=w;simp only[cU,cL,if_true,Bu,V.mk.injEq,Fb];congr 1;rw[Ci];simp
theorem Wd {l:List aP.V} (hlen:l.length<=64) {id:Nat} {H:aA} (dC:id<H.next) (hg:H.get id=some (.cells (cH l).flatten true)):
 ∃H' rest,H'.get id=some (.cells ((cH (dd l l.length)).flatten++rest) true)/\bO rest=true/\H'.next=H.next/\(∀j,j≠id->H'.get j=H.get j)/\
  Sg 205 [.sl id 3 0 l.length l.length] H (.ret (.sl id 3 0 (dd l l.length).length l.length)) H':=by
 suffices h:∃out H',(out=.ret (.sl id 3 0 (dd l l.length).length l.length)/\∃rest,H'.get id=some (.cells ((cH (dd l l.length)).flatten++rest) true)/\bO rest=true/\H'.next=H.next/\(∀j,j≠id->H'.get j=H.get j))/\
  Sg 205 [.sl id 3 0 l.length l.length] H out H' by
  obtain⟨_,H',⟨rfl,rest,h1,h2,h3,h4⟩,hS⟩:=h;exact⟨H',rest,h1,h2,h3,h4,hS⟩
 refine cZ fit aKl (Ai rfl) ?_;unfold aDn;dsimp only;have cY:∀k (h:k<l.length),l.getD k V0=l[k]:=fun k h=>by simp[List.getD,h]
 have same:dd l l.length=l->(∃rest,H.get id=some (.cells ((cH (dd l l.length)).flatten++rest) true)/\bO rest=true/\H.next=H.next/\(∀j,j≠id->H.get j=H.get j)):=fun h=>⟨[],by rw[h,Ch];exact hg,rfl,rfl,fun _ _=>rfl⟩
 refine bQ ?_;simp only[↓zP,zG,Nat.reduceLT];refine bR ?_;refine aN fun K hK=>?_;simp only[↓zP,zJ,Nat.reduceLT,Nat.reduceEqDiff];refine⟨fun h2=>?_,fun h2=>?_⟩
 . refine Rx ?_
   have hd:dd l l.length=l:=by
    match l,h2 with
    |[],_=>rfl
    |[a],_=>simp[dd]
    |a::b::r,h=>simp at h;omega
   exact⟨by rw[hd];rfl,same hd⟩
 apply hK;clear hK K;have Xc:2<=l.length:=by omega
 refine aN fun K hK=>?_;simp only[↓zP,zG,Nat.reduceLT];refine aJ ?_;refine iP [3] (fun M vs H'=>∃k,1<=k/\k<=l.length/\M=l.length -k/\vs=[.int .i64 (k:Nat)]/\H'=H/\dd l k=l.take k) (l.length -1) (by rfl) ?_ ?_
 . refine⟨1,Ab _,by omega,rfl,rfl,rfl,?_⟩
   match l,Xc with
   |a::r,_=>simp[dd]
 rintro M' f H1 hk ⟨k,k1,k2,rfl,hv,rfl,Zf⟩;simp only[zM] at hv;refine aN fun K2 bW=>?_;simp only[↓zP,zJ,Nat.reduceLT,Nat.reduceEqDiff,hv,hk 0 rfl];refine⟨fun fJ=>?_,fun LQ=>?_⟩
 . apply bW;clear bW K2;have tQ:k<l.length:=by omega
   have aSl:k -1<l.length:=(by omega);have w1:IntKind.i64.wrap ((k:Int) -1)=((k -1:Nat):Int):=(wrap_i64 (by omega) (by omega)).trans (by omega);have fl:=HR l;have ak:=OB tQ;have ak1:=OB aSl
   have gR:dd l (k+1)=l.take k++(if l[k]=l[k -1] then [] else [l[k]]):=by simp only[dd,Zf,cY k tQ,cY (k -1) aSl];simp[show 0<k by omega]
   refine aN fun K2 bW=>?_;refine aJ ?_;refine bQ ?_;refine Dz ?_;have ck:k*3+3<=l.length*3:=(by omega);have ck1:(k -1)*3+3<=l.length*3:=(by omega);simp only[↓zP,zJ,Nat.reduceLT,Nat.reduceEqDiff,Nat.reduceAdd,zD,reduceCtorEq,hv,hk 0 rfl,aB,tQ,hg,w1,aSl,ak,ak1,nG,fl,ck,ck1];refine bR ?_;by_cases he:l[k]=l[k -1]
   . have hb:=Aj he
     have KM:vM 3 (.sl id 3 0 l.length l.length) (some k) none none=some (.sl id 3 (0+k*3) (l.length -k) (l.length -k)):=by simp only[vM,Bi,Ef,Ka];rw[if_pos (by omega),if_pos (by omega),if_neg (by omega)]
     simp only[↓zP,zJ,Nat.reduceLT,Nat.reduceEqDiff,Nat.reduceAdd,hb,hv,hk 0 rfl,eB,aB,KM,Cj];refine aJ ?_;rw[if_pos he,Ch] at gR
     refine iP [3,5] (fun M vs H'=>∃kk k2 R,1<=k2/\k+k2<=l.length/\M=l.length -(k+k2)/\vs=[.int .i64 (kk:Nat),.int .i64 (k2:Nat)]/\kk<=k+k2 -1/\R.length=l.length/\R.take kk=dd l (k+k2)/\kk=(dd l (k+k2)).length/\(∀p,k+k2 -1<=p->p<l.length->R[p]?=l[p]?)/\
      H'.get id=some (.cells (cH R).flatten true)/\H'.next=H1.next/\∀j,j≠id->H'.get j=H1.get j) (l.length -(k+1)) (by rfl) ?_ ?_
     . refine⟨k,1,l,Ab _,by omega,rfl,?_,by omega,rfl,gR.symm,by rw[gR];simp;omega,fun p _ _=>rfl,hg,rfl,fun _ _=>rfl⟩;simp only[sm,zB,Nat.reduceEqDiff,hv];rfl
     rintro M' f2 H2 eP ⟨kk,k2,R,r1,r2,rfl,sY,r3,r4,r5,r6,r7,r8,r9,r10⟩;simp only[zM] at sY;obtain⟨v3,v5⟩:=sY;refine aN fun K3 Ls=>?_
     have w0:decide (((k2:Nat):Int)<((l.length -k:Nat):Int))=decide (k+k2<l.length):=by rw[Bs];omega
     have hdl:=aIw l (k+k2);simp only[↓zP,zJ,Nat.reduceLT,Nat.reduceEqDiff,v5,eP 4 rfl];refine⟨fun fJ=>?_,fun LQ=>?_⟩
     . apply Ls;clear Ls K3;have hj:k+k2<l.length:=(by omega);have hjR:k+k2<R.length:=(by omega);have aVu:k+k2 -1<R.length:=(by omega);have aj:=OB hjR;have aj1:=OB aVu
       have ej:R[k+k2]=l[k+k2]:=by have :=r7 (k+k2) (by omega) hj;rw[Ad hjR,Ad hj] at this;exact Aa this
       have ej1:R[k+k2 -1]=l[k+k2 -1]:=by have :=r7 (k+k2 -1) (Ab _) (by omega);rw[Ad aVu,Ad (show k+k2 -1<l.length by omega)] at this;exact Aa this
       rw[ej] at aj;rw[ej1] at aj1
       have KN:dd l (k+k2+1)=dd l (k+k2)++(if l[k+k2]=l[k+k2 -1] then [] else [l[k+k2]]):=by simp only[dd,cY (k+k2) hj,cY (k+k2 -1) (by omega)];simp[show 0<k+k2 by omega]
       have w1:IntKind.i64.wrap ((k2:Int) -1)=((k2 -1:Nat):Int):=(wrap_i64 (by omega) (by omega)).trans (by omega);have w2:IntKind.i64.wrap ((k2:Int)+1)=((k2+1:Nat):Int):=(wrap_i64 (by omega) (by omega)).trans (by omega);have w3:IntKind.i64.wrap ((kk:Int)+1)=((kk+1:Nat):Int):=(wrap_i64 (by omega) (by omega)).trans (by omega);have x1:k*3+k2*3=(k+k2)*3:=(by omega);have x2:k*3+(k2 -1)*3=(k+k2 -1)*3:=(by omega);have fR:=HR R;have y1:(k+k2)*3+3<=R.length*3:=(by omega);have y2:(k+k2 -1)*3+3<=R.length*3:=(by omega);have y3:kk*3+3<=R.length*3:=(by omega);have z1:k2<l.length -k:=(by omega);have z2:k2 -1<l.length -k:=(by omega);have z3:kk<l.length:=(by omega);refine aN fun K3 Ls=>?_;refine aJ ?_;refine bQ ?_;refine Dz ?_;simp only[↓zP,zJ,Nat.reduceLT,Nat.reduceEqDiff,Nat.reduceAdd,zD,reduceCtorEq,v5,eP 4 rfl,aB,z1,z2,r8,w1,x1,x2,fR,y1,y2,aj,aj1,nG];refine bR ?_;by_cases XZ:l[k+k2]=l[k+k2 -1]
       . have gJ:(!decide (l[k+k2]=l[k+k2 -1]))=false:=(by simp[XZ]);simp only[↓zP,zG,gJ];apply Ls;clear Ls K3;simp only[↓zP,zJ,Nat.reduceLT,Nat.reduceEqDiff,v5,v3,w2];rw[if_pos XZ,Ch] at KN;refine⟨_,by omega,kk,k2+1,R,by omega,by omega,rfl,rfl,by omega,r4,by rw[<-Br,KN];exact r5,by rw[<-Br,KN];exact r6,fun p p1 p2=>r7 p (by omega) p2,r8,r9,r10⟩
       have gJ:(!decide (l[k+k2]=l[k+k2 -1]))=true:=(by simp[XZ]);have asp:=OC (R:=R) (p:=kk) (by omega) l[k+k2];simp only[fW] at asp;simp only[↓zP,zJ,Nat.reduceLT,Nat.reduceEqDiff,gJ,v5,v3,eP 4 rfl,eP 0 rfl,hk 0 rfl,aB,z1,z3,r8,x1,fR,y1,y3,aj,w3,oL (aV l[k+k2])];apply Ls;clear Ls K3;simp only[↓zP,zJ,Nat.reduceLT,Nat.reduceEqDiff,v5,w2];rw[if_neg XZ] at KN;refine⟨_,by omega,kk+1,k2+1,R.set kk l[k+k2],by omega,by omega,rfl,rfl,by omega,by rw[Bx];exact r4,?_,?_,fun p p1 p2=>?_,by rw[<-asp];rfl,r9,fun j hj=>?_⟩
       . rw[<-Br,KN,<-r5,An,List.take_set_of_le (Ab _)];simp[show kk<R.length by omega]
       . rw[<-Br,KN,Ba,<-r6];rfl
       . rw[List.getElem?_set_ne (by omega)];exact r7 p (by omega) p2
       rw[if_neg hj];exact r10 j hj
     have xc:k+k2=l.length:=(by omega);obtain⟨m,hm⟩:∃m,l.length -kk=m+1:=⟨l.length -kk -1,by omega⟩
     have hs2:vM 3 (.sl id 3 0 l.length l.length) (some kk) none none=some (.sl id 3 (kk*3) (m+1) (m+1)):=by simp only[vM,Bi,Ef,Ka];rw[if_pos (by omega),if_pos (by omega),if_neg (by omega),hm,Cq]
     have hs3:vM 3 (.sl id 3 0 l.length l.length) none (some kk) none=some (.sl id 3 0 kk l.length):=by simp only[vM,Bi,Ef,Ka];rw[if_pos (by omega),if_pos (by omega),if_neg (by omega)];simp
     have fR:=HR R;have vq:kk*3+(m+1)*3<=R.length*3:=(by omega);simp only[↓zP,zJ,Nat.reduceEqDiff,v3,eP 0 rfl,hk 0 rfl,aB,hs2,hs3,r8,fR,vq,Cj,Bc];rw[xc] at r5 r6;rw[VF,r5,Ek];refine Rx ?_;refine⟨by rw[<-r6];rfl,_,by rw[aA.aC,if_pos rfl],?_,by rw[aA.aW];exact r9,fun j hj=>by rw[aA.aC,if_neg hj];exact r10 j hj⟩
     rw[gD,LM,Ca (by rw[oz,fR];omega)]
     rfl
   have hb:=Ag he;simp only[↓zP,zG,hb];apply bW;clear bW K2;have w2:IntKind.i64.wrap ((k:Int)+1)=((k+1:Nat):Int):=(wrap_i64 (by omega) (by omega)).trans (by omega);simp only[↓zP,zJ,Nat.reduceLT,Nat.reduceEqDiff,hv,w2];refine⟨_,by omega,k+1,by omega,by omega,rfl,rfl,trivial,?_⟩;rw[gR,if_neg he,An];simp[tQ]
 apply hK;clear hK K bW K2;have xc:k=l.length:=by omega
 subst xc;rw[Ax] at Zf;simp only[↓zP,zJ,Nat.reduceLT,Nat.reduceEqDiff,hk 0 rfl];refine Rx ?_;exact⟨by rw[Zf];rfl,same Zf⟩
theorem NU (l:List aP.V) (v:aP.V):∀j,j<=l.length->(v∈dd l j↔v∈l.take j)
 |0,_=>by simp[dd]
 |j+1,h=>by
  have ih:=NU l v j (by omega);have hj:j<l.length:=h;have hg:l.getD j V0=l[j]:=by simp[List.getD,hj]
  rw[An,Ad hj];simp only[dd,Ao,ih,hg,Fu,Am,Bj,Df];split
  . rename_i hc;obtain⟨h0,he⟩:=hc;have KJ:j -1<l.length:=by omega
    have JI:l.getD (j -1) V0=l[j -1]:=(by simp[List.getD,KJ]);simp only[Bj,Df];refine⟨.inl,fun h=>h.elim id fun e=>?_⟩;rw[e,he,JI];exact Hk.2 ⟨j -1,by omega,rfl⟩
  simp
theorem XE {l:List aP.V} (hs:l.Pairwise fun a b=>¬iY b a):∀j,j<=l.length->(dd l j).Pairwise iY
 |0,_=>.nil
 |j+1,h=>by
  have ih:=XE hs j (by omega);have hj:j<l.length:=h;have hg:l.getD j V0=l[j]:=by simp[List.getD,hj]
  simp only[dd,hg];split
  . rw[Ch];exact ih
  rename_i hc;rw[List.pairwise_append];refine⟨ih,List.pairwise_singleton _ _,fun v hv x hx=>?_⟩;simp only[Am,Bj,Df] at hx;subst hx;rw[NU l v j (by omega)] at hv;obtain⟨i,hi,rfl⟩:=Hk.1 hv;have yL:i<j:=by omega
  have KJ:j -1<l.length:=by omega
  have JI:l.getD (j -1) V0=l[j -1]:=by simp[List.getD,KJ]
  rw[JI] at hc;have cQ:l[j]≠l[j -1]:=fun e=>hc ⟨by omega,e⟩;have hp:=Gc.1 hs;have p1:=hp (j -1) j KJ hj (by omega);have p2:iY l[j -1] l[j]:=(iY.total cQ).elim (fun h=>absurd h p1) id;by_cases DO:i=j -1
  . subst DO;exact p2
  have p3:=hp i (j -1) (by omega) KJ (by omega);generalize l[i]=a at *;generalize l[j -1]=b at *;generalize l[j]=c at *;unfold iY at *;omega
structure Ord (l C:List aP.V):Prop where
 Rh:C.Pairwise iY
 mem:∀v,v∈C↔v∈l
theorem Ord.uniq {l C C':List aP.V} (h:Ord l C) (h':Ord l C'):C=C':=
 BF (R:=iY) iY.j9 (fun h h'=>iY.trans h h') h.Rh h'.Rh fun v=>(h.mem v).trans (h'.mem v).symm
theorem Ord.of {l S C:List aP.V} (hp:S.Perm l) (hs:S.Pairwise fun a b=>¬iY b a) (h:Ord l C):dd S S.length=C:=
 Ord.uniq (l:=l) ⟨XE hs _ (Ab _),fun v=>by rw[NU S v _ (Ab _),Ax];exact hp.mem_iff⟩ h
theorem Ky (H:aA):Sg 205 [.aO] H (.ret .aO) H:=by refine gH aKl (Ai rfl) ?_;unfold aDn;dsimp only;refine bQ ?_;refine Tz ?_;refine bR ?_;refine aN fun K hK=>?_;refine Ty ?_;refine⟨fun h2=>?_,fun h2=>absurd (show((0:Int)<2) by decide) (by simp at h2)⟩;refine Rx ?_;exact⟨rfl,rfl⟩
theorem QS {sz:Nat}:∀{bB:List (List AV)} (rest:List AV),(∀e∈bB,e.length=sz)->fI sz bB.length (bB.flatten++rest)=bB
 |[],_,_=>rfl
 |e::bB,rest,h=>by have he:=h e Ar;simp only[As,fI,Bl,Ek];rw[Ce (by omega),Aq (by omega),Il (by omega),Ca (by omega),Db,QS rest fun x hx=>h x (Au _ hx)]
theorem nv {tag:Nat} (ht:Nat.blt tag 2=true) {l C:List aP.V} (hlen:l.length<=64) (hC:Ord l C) (H:aA):
 Sg 154 [.bD tag 3 (cH l)] H (.ret (lG 3 (cH C))) H:=by
 refine eC fit eZ aKa (Ai rfl) ZaK ?_ H;unfold aDc;dsimp only;obtain⟨H1,v,S,hp,hs,ho,hr,hS⟩:=PU (tag:=tag) hlen (r:=0) (o:=false) (H:=(aA.mk 0 .nil).alloc (.cells [.bD tag 3 (cH l)] false)) (by simp) rfl;have Zf:=Ord.of hp hs hC;have hSl:=hp.length_eq;refine Ty ?_;refine bY (fe (tag:=tag) l _) ?_;simp only[seval];refine bY (hS) ?_
 rcases hr with ⟨rfl,rfl⟩|⟨xC,cQ,rfl,hg,Ti,hn⟩
 . refine Tz ?_;refine bY (Ky _) ?_;refine Tz ?_;refine Rx ?_;rw[<-Zf];exact⟨_,0,rfl,fun nw=>rfl⟩
 obtain⟨H2,rest,c1,c2,c3,c4,hcS⟩:=Wd (by omega) hn hg;refine Tz ?_;refine bY (hcS) ?_;refine Tz ?_;refine Rx ?_;rw[Zf] at c1 ⊢
 have hCn:¬cH C=[]:=by
  intro h;have :C=[]:=by simpa [cH] using h
  rw[this] at Zf
  match S,cQ with
  |x::r,_=>have :=(NU (x::r) x _ (Ab _)).2 (by simp);rw[Zf] at this;cases this
 refine⟨.sl xC 3 0 C.length S.length,0,rfl,fun nw=>?_⟩;have hc:H2.eS xC=some ((cH C).flatten++rest):=by simp[aA.eS,c1]
 have hu:∀e∈cH C,e.length=3:=fun e he=>by obtain⟨x,_,rfl⟩:=Bf.1 he;rfl
 have hle:Nat.ble (0+C.length*3) ((cH C).flatten++rest).length=true:=by rw[Ba,HR];exact Jw (by omega)
 have ML:bO ((cH C).flatten++rest)=true:=by rw[gD,lV (show dT (cH C)=true from eK cT C),c2];rfl
 rw[lG,if_neg hCn];simp only[fG,fA,hc,Ee,hle,ML,Cp];rw[show C.length=(cH C).length from (aU C).symm,QS rest hu]
end Go.Proofs.YtgggiembljfnhaaGreatDoor
