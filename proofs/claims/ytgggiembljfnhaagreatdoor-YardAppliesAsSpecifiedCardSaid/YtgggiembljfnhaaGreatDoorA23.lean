/-
  Part of the proof of statement 11
-/
import Derived.Test.YtgggiembljfnhaaGreatDoorA17
import Derived.Test.YtgggiembljfnhaaGreatDoorA22
import Derived.Test.YtgggiembljfnhaaGreatDoorA21
import Derived.Test.YtgggiembljfnhaaGreatDoorA06
set_option linter.unusedVariables false
set_option linter.unusedSimpArgs false
set_option maxRecDepth 100000
set_option maxHeartbeats 16000000
namespace Go.Proofs.YtgggiembljfnhaaGreatDoor
open Go Go.Av Go.aP
attribute [local congr] aT aI aM aH aW aQ aN aF aX
attribute [local irreducible] FC bS eG
theorem Vx {tag:Nat} {l:List aP.V} (hlen:l.length<2^30) {id r:Nat} {o:Bool} (I:Nat->aA->Prop) (fQ:∀i H H',Over H H'->I i H->I i H')
 (gP:∀i (hi:i<l.length) H,I i H->∃H',EI Tryz.prog gv id [.agg (cT l[i])] H (.ret (.bool true)) H'/\I (i+1) H') {H:aA} (hr:H.get r=some (.cells [.bB tag 3 (cJ l)] o)) (h0:I 0 H):
 ∃H',I l.length H'/\Sg 272 [.yield id,.ref r 0] H (.ret (.iA [])) H':=by
 suffices h:∃out H',(out=.ret (.iA [])/\I l.length H')/\Sg 272 [.yield id,.ref r 0] H out H' by obtain⟨_,H',⟨rfl,hm⟩,hS⟩:=h;exact⟨H',hm,hS⟩
 refine cY fit aKb (Ak rfl) ?_;unfold aDe;dsimp only;refine bQ ?_;simp only[↓zP,zJ,seval,hr];refine bR ?_;refine dD [] (fun i vs H'=>I i H') l.length (by omega) (by decide) ?_ ?_ ?_ ?_ ?_
 . exact zq
 . simp only[zB,seval,aU]
 . exact h0
 . rintro i f H1 hi hk e1 hI;have hg:=dC hi;have hs:=gP i hi;generalize l[i]=x at *;refine aL ?_;simp only[↓zP,zJ,seval,e1,hk 5 rfl,hk 0 rfl,aB,aU,hi,hg,oL (aV x)];obtain⟨H',hy,hI'⟩:=hs _ (fQ i _ _ (((Over.refl H1).alloc (.cells [.int .i64 0,.int .i64 0,.int .i64 0] false)).set (Ab _) (.cells (cT x) false)) hI);refine Wc (by decide) (by rfl) (by rfl) hy ?_;refine Ty ?_;exact hI'
 rintro f H1 hk hI;refine⟨rfl,_,by simp only[zR,seval];rfl,?_⟩;exact⟨rfl,hI⟩
def JU (H:aA) (lo:Nat) (v:AV) (l:List aP.V):Prop:=
 (l=[]/\v=.aR)\/∃xH,l≠[]/\v=.sl xH 3 0 l.length l.length/\H.get xH=some (.cells (cJ l).flatten true)/\lo<=xH/\xH<H.next
theorem JU.push {H:aA} {lo:Nat} {v:AV} {l:List aP.V} (h:JU H lo v l) (Tb:lo<=H.next) (hlen:l.length<2^20) (x:aP.V):
 ∃v' H',eB H 3 24 true v [cT x]=some (v',H')/\JU H' lo v' (l++[x])/\H'.next=H.next+1/\∀j,j<lo->H'.get j=H.get j:=by
 rcases h with ⟨rfl,rfl⟩|⟨xH,cP,rfl,hg,h1,h2⟩
 . refine⟨_,_,zN rfl (by simp),.inr ⟨H.next,by simp,rfl,by rw[aA.aG,if_pos rfl];rfl,Tb,by simp⟩,by simp,fun j hj=>by rw[aA.aG,if_neg (by omega)]⟩
 have Zl:(cJ l).flatten.length=l.length*3:=by rw[oM (sz:=3) (fun e he=>?_),aU];obtain⟨x,_,rfl⟩:=Bj.1 he;rfl
 refine⟨_,_,zO hg Zl rfl (by simp only[Aq,Bm];omega) (by decide),.inr ⟨H.next,by simp,by simp,?_,Tb,by simp⟩,by simp,fun j hj=>by rw[aA.aG,aA.bC,if_neg (by omega),aA.aD,if_neg (by omega)]⟩;rw[aA.aG,aA.bC,if_pos rfl];simp[cJ]
theorem JU.over {H H':aA} {lo:Nat} {v:AV} {l:List aP.V} (h:JU H lo v l) (ho:Over H H'):JU H' lo v l:=by
 rcases h with h|⟨xH,h0,h1,h2,h3,h4⟩
 . exact .inl h
 exact .inr ⟨xH,h0,h1,(ho.same _ h4).trans h2,h3,Cj h4 ho.le⟩
theorem Rl {tag:Nat} {l:List aP.V} (hlen:l.length<=64) {r:Nat} {o:Bool} {H:aA} (jz:r<H.next) (hr:H.get r=some (.cells [.bB tag 3 (cJ l)] o)):
 ∃H' v,Over H H'/\JU H' H.next v l/\Sg 313 [.aR,.func (.func 272) [] [.ref r 0]] H (.ret v) H':=by
 suffices h:∃out H',(∃v,out=.ret v/\Over H H'/\JU H' H.next v l)/\Sg 313 [.aR,.func (.func 272) [] [.ref r 0]] H out H' by obtain⟨_,H',⟨v,rfl,h1,h2⟩,hS⟩:=h;exact⟨H',v,h1,h2,hS⟩
 refine GS fit aKc (Ak rfl) ?_;unfold aDf;dsimp only;refine bQ ?_;refine Ty ?_;refine bR ?_;refine aJ fun K hK=>?_;refine bQ ?_;refine Ty ?_;refine bR ?_
 have hbd:pQ 13 (kD (kD (kD (fK [.aR,.func (.func 272) [] [.ref r 0]]) 2 (.ref H.next 0)) 4 .aR) 6 (.func (.func 272) [] [.ref r 0])):=
  ((((Kr (Ak rfl)).1.kD (by decide) _).kD (by decide) _).kD (by decide) _)
 have EZ:(kD (kD (kD (fK [.aR,.func (.func 272) [] [.ref r 0]]) 2 (.ref H.next 0)) 4 .aR) 6 (.func (.func 272) [] [.ref r 0])) 2=.ref H.next 0:=rfl;have hf6:(kD (kD (kD (fK [.aR,.func (.func 272) [] [.ref r 0]]) 2 (.ref H.next 0)) 4 .aR) 6 (.func (.func 272) [] [.ref r 0])) 6=.func (.func 272) [] [.ref r 0]:=rfl;generalize kD (kD (kD (fK [.aR,.func (.func 272) [] [.ref r 0]]) 2 (.ref H.next 0)) 4 .aR) 6 (.func (.func 272) [] [.ref r 0])=f at *;refine aL ?_;refine Ml (by rw[iV];exact hf6) ?_;simp only[aA.aS];generalize vo:Mo.mk [7] _ _=key
 let I:Nat->aA->Prop:=fun i H'=>Over H H'/\H.next+3<=H'.next/\H'.get (H.next+1)=some .SD/\H'.get (H.next+2)=some (.loop key (LF 13 f) .ready)/\∃v,H'.get H.next=some (.cells [v] false)/\JU H' (H.next+3) v (l.take i)
 have fQ:∀i H1 H2,Over H1 H2->I i H1->I i H2:=fun i H1 H2 ho ⟨w1,w2,w3,w4,v,w5,w6⟩=>⟨⟨Ce w1.le ho.le,fun j hj=>(ho.same j (by omega)).trans (w1.same j hj)⟩,Ce w2 ho.le,(ho.same _ (by omega)).trans w3,(ho.same _ (by omega)).trans w4,v,(ho.same _ (by omega)).trans w5,w6.over ho⟩
 have h0:I 0 (((H.alloc (.cells [.aR] false)).alloc .SD).alloc (.loop key (LF 13 f) .ready)):=
  ⟨(((Over.refl H).alloc _).alloc _).alloc _,by simp,by simp[aA.aG],by simp[aA.aG],.aR,by simp[aA.aG];omega,.inl ⟨by simp,rfl⟩⟩
 have gP:∀i (hi:i<l.length) H1,I i H1->∃H',EI Tryz.prog gv (H.next+1+1) [.agg (cT l[i])] H1 (.ret (.bool true)) H'/\I (i+1) H':=by
  rintro i hi H1 ⟨w1,w2,w3,w4,v,w5,w6⟩;have rQ:l.take (i+1)=l.take i++[l[i]]:=by rw[Ao];simp[hi]
  have sJ:(l.take i).length=i:=by simp;omega
  generalize l[i]=x at *
  suffices h:∃H',Rs Tryz.prog gv 13 key f (H.next+1+1) [.agg (cT x)] H1 (.ret (.bool true)) H'/\I (i+1) H' by obtain⟨H',hr,hI⟩:=h;exact⟨H',Wg fit hbd w4 (by rw[<-vo];rfl) hr,hI⟩
  have ov:Over H1 ((H1.alloc (.cells [.int .i64 0,.int .i64 0,.int .i64 0] false)).set H1.next (.cells (cT x) false)):=((Over.refl H1).alloc _).set (Ab _) _;have gx:((H1.alloc (.cells [.int .i64 0,.int .i64 0,.int .i64 0] false)).set H1.next (.cells (cT x) false)).get H1.next=some (.cells (cT x) false):=by rw[aA.aD,if_pos rfl]
  have gn:((H1.alloc (.cells [.int .i64 0,.int .i64 0,.int .i64 0] false)).set H1.next (.cells (cT x) false)).next=H1.next+1:=by simp
  have bEq:∀(HA:aA) (ob:fC),Over H1 HA->HA.get H1.next=some (.cells (cT x) false)->HA.next=H1.next+1->∃v' Hp,eB (HA.set (H.next+1+1) ob) 3 24 true v [cT x]=some (v',Hp)/\JU Hp (H.next+3) v' (l.take (i+1))/\Hp.next=HA.next+1/\∀j,j<H.next+3->Hp.get j=(HA.set (H.next+1+1) ob).get j:=fun HA ob o1 o2 o3=>by
   have :JU (HA.set (H.next+1+1) ob) (H.next+3) v (l.take i):=by
    rcases w6 with h|⟨xH,q0,q1,q2,q3,q4⟩
    . exact .inl h
    exact .inr ⟨xH,q0,q1,by rw[aA.aD,if_neg (by omega),o1.same _ q4];exact q2,q3,by rw[aA.bC];omega⟩
   obtain⟨v',Hp,h1,h2,h3,h4⟩:=this.push (by rw[aA.bC];omega) (by omega) x;exact⟨v',Hp,h1,by rw[rQ];exact h2,h3,h4⟩
  have w4':=(ov.same (H.next+2) (by omega)).trans w4;have w5':=(ov.same H.next (by omega)).trans w5;have w3':=(ov.same (H.next+1) (by omega)).trans w3;have w1':Over H ((H1.alloc (.cells [.int .i64 0,.int .i64 0,.int .i64 0] false)).set H1.next (.cells (cT x) false)):=⟨Ce w1.le ov.le,fun j hj=>(ov.same j (by omega)).trans (w1.same j hj)⟩;obtain⟨v',Hp,p1,p2,p3,p4⟩:=bEq _ (.loop key (LF 13 f) .busy) ov gx gn
  obtain⟨sa,sb,sc,sd,se,rfl⟩:∃a b c d e,v'=.sl a b c d e:=by
   rcases p2 with ⟨h,_⟩|⟨xH,_,h,_⟩
   . rw[rQ] at h;simp at h
   exact⟨_,_,_,_,_,h⟩
  refine⟨(Hp.set H.next (.cells [.sl sa sb sc sd se] false)).set (H.next+1+1) (.loop key (LF 13 f) .ready),?_,?_⟩
  . subst vo;unfold Rs;dsimp only[List.zip,List.zipWith,CK,fP]
    have bDy:FC Tryz.prog gv 13 (.ops [⟨some 5,.alloc [.int .i64 0,.int .i64 0,.int .i64 0],none⟩,⟨none,.store 3 (.tmp 5) (.tmp 7),none⟩]) (kD f 7 (.agg (cT x))) [] H1 (fun e f1 rI H1'=>e=.normal/\f1=kD (kD f 7 (.agg (cT x))) 5 (.ref H1.next 0)/\rI=[]/\H1'=(H1.alloc (.cells [.int .i64 0,.int .i64 0,.int .i64 0] false)).set H1.next (.cells (cT x) false)):=by simp only[↓zP,zJ,seval,oL (aV x)]
    refine jM (fun e f1 rI H1' h=>?_) bDy;obtain⟨rfl,rfl,rfl,rfl⟩:=h;refine⟨rfl,_,_,w4',?_⟩;generalize (H1.alloc (.cells [.int .i64 0,.int .i64 0,.int .i64 0] false)).set H1.next (.cells (cT x) false)=HA at *;refine aL ?_;have n1:¬(H.next=H.next+1+1):=(by omega);have n2:¬(H1.next=H.next+1+1):=(by omega);have pb:=(p4 H.next (by omega)).trans ((by rw[aA.aD,if_neg (by omega)]:_=HA.get H.next).trans w5');have pl:=(p4 (H.next+1+1) (by omega)).trans (by rw[aA.aD,if_pos rfl]);simp only[↓zP,zJ,seval,EZ,w5',gx,n1,n2,oL (aV x)];rw[eL];simp only[p1,cF,zJ,seval,pb];exact⟨rfl,rfl,_,_,by rw[aA.aD,if_neg (by omega)];exact pl,rfl⟩
  have pn:H1.next<=Hp.next:=by omega
  refine⟨⟨by simp only[aA.bC];have :=w1.le;omega,fun j hj=>?_⟩,by simp only[aA.bC];omega,?_,?_,.sl sa sb sc sd se,?_,?_⟩
  . rw[aA.aD,if_neg (by omega),aA.aD,if_neg (by omega),p4 j (by omega),aA.aD,if_neg (by omega)];exact w1'.same j hj
  . rw[aA.aD,if_neg (by omega),aA.aD,if_neg (by omega),p4 _ (by omega),aA.aD,if_neg (by omega)];exact w3'
  . rw[aA.aD,if_pos rfl]
  . rw[aA.aD,if_neg (by omega),aA.aD,if_pos rfl]
  rcases p2 with h|⟨xH,q0,q1,q2,q3,q4⟩
  . exact .inl h
  exact .inr ⟨xH,q0,q1,by rw[aA.aD,if_neg (by omega),aA.aD,if_neg (by omega)];exact q2,q3,by simp only[aA.bC];omega⟩
 obtain⟨He,⟨w1,w2,w3,w4,v,w5,w6⟩,hS⟩:=Vx (tag:=tag) (o:=o) (by omega) I fQ gP (r:=r) (by rw[aA.aG,if_neg Zai,aA.aG,if_neg Zai,aA.aG,if_neg (by omega)];exact hr) h0
 refine⟨_,He,_,_,_,hS,w4,fun Hf hf=>?_⟩;obtain⟨f1,f2⟩:=hf;show K f [.mark (H.next+1)] Hf;apply hK;clear hK K;have b0:Hf.get H.next=some (.cells [v] false):=by rw[f2,if_neg (by omega)];exact w5
 have b1:Hf.get (H.next+1)=some .SD:=by rw[f2,if_neg (by omega)];exact w3
 simp only[↓zP,zJ,seval,EZ,b0];rw[Ay] at w6;refine⟨b1,[v],rfl,v,rfl,⟨by rw[aA.bC,f1];exact w1.le,fun j hj=>by rw[aA.aD,if_neg (by omega),f2,if_neg (by omega)];exact w1.same j hj⟩,?_⟩
 rcases w6 with h|⟨xH,q0,q1,q2,q3,q4⟩
 . exact .inl h
 exact .inr ⟨xH,q0,q1,by rw[aA.aD,if_neg (by omega),f2,if_neg (by omega)];exact q2,by omega,by rw[aA.bC,f1];exact q4⟩
def aHt (p q:aP.V):Int:=orZ [zY p.x q.x,zY p.y q.y,zY p.z q.z]
theorem Mf (p q:aP.V):aHt p q<0↔iU p q:=BD (p,0) (q,0)
theorem cx (p q:aP.V) (H:aA):Sg 202 [.agg (cT p),.agg (cT q)] H (.ret (.int .i64 (aHt p q))) H:=by
 refine So aYe Zam ?_ H;unfold aNc;dsimp only;refine bQ ?_;refine Ty ?_;refine fD ?_;refine Dz ?_;simp only[↓zP,zJ,seval,zD,cT,sP];refine fH (lJ p.x q.x _) ?_;simp only[↓zP,zJ,seval,zD,sP];refine fH (lJ p.y q.y _) ?_;simp only[↓zP,zJ,seval,zD,sP];refine fH (lJ p.z q.z _) ?_;simp only[↓zP,zJ,seval,zD];have xc:=aIb [zY p.x q.x,zY p.y q.y,zY p.z q.z] (by simp);simp only[iR,sm] at xc;refine fH (xc _) ?_;simp only[↓zP,zJ,seval,zD];refine bR ?_;refine Tx ?_
 (refine Rx ?_;rfl)
def vV (q:aP.V):JL 3:=⟨[q.x,q.y,q.z],rfl⟩
def GB (x:JL 3):aP.V:=⟨x.1.getD 0 0,x.1.getD 1 0,x.1.getD 2 0⟩
theorem TQ (x:JL 3):vV (GB x)=x:=by
 obtain⟨l,hl⟩:=x
 match l,hl with
 |[a,b,c],_=>rfl
theorem ZO (q:aP.V):XD (vV q)=cT q:=rfl
theorem TJ:∀S:List aP.V,(pI (S.map vV)).map (AV.int .i64)=(cJ S).flatten
 |[]=>rfl
 |q::S=>by have :=TJ S;simp only[pI,Cd,Fc,Cx,Bp,cJ] at this ⊢;rw[this];rfl
theorem bIj:Go.Sort.SWO (Go.Proofs.ltOf fun x y:JL 3=>aHt (GB x) (GB y)) where
 irrefl x:=by simp only[Go.Proofs.ltOf,Mf,Bh];exact iU.j8 _
 trans x y z h1 h2:=by simp only[Go.Proofs.ltOf,Mf,Bd] at *;exact iU.trans h1 h2
 ntrans x y z h1 h2:=by simp only[Go.Proofs.ltOf,Mf,Bh] at *;unfold iU at *;omega
theorem TC:Mn Tryz.prog 271:=⟨_,Tryz.func271,by kernel_rfl,by kernel_rfl⟩
theorem aBl (d:List (JL 3)) (hd:d.length<4611686018427387904):
 ∃d':List (JL 3),d'.Perm d/\(d'.Pairwise fun a b=>¬aHt (GB b) (GB a)<0)/\∀(H:aA) (id:Nat) (eM:Bool),H.get id=some (.cells ((pI d).map (AV.int .i64)) eM)->
  Sg 271 [.sl id 3 0 d.length d.length,.func (.func 202) [] []] H (.ret (.iA [])) (H.set id (.cells ((pI d').map (AV.int .i64)) eM)):=
 Mt (fun _=>rfl) Tryz.aBk (by decide) Tryz.isAgg60 Tryz.sizeOf60 rfl TC (cx V0 V0 ⟨0,.nil⟩).1 bIj (fun x y=>by
  have :=cx (GB x) (GB y) ⟨0,.nil⟩
  rwa [<-ZO,<-ZO,TQ,TQ] at this) d hd
theorem er {tag:Nat} (l:List aP.V) (H:aA):Sg 201 [.bB tag 3 (cJ l)] H (.ret (.func (.func 272) [] [.ref H.next 0])) (H.alloc (.cells [.bB tag 3 (cJ l)] false)):=by refine gH aJv (Ak rfl) ?_;unfold aCy;dsimp only;refine Ty ?_;refine Rx ?_;exact⟨rfl,rfl⟩
theorem WY {tag:Nat} {l:List aP.V} (hlen:l.length<=64) {r:Nat} {o:Bool} {H:aA} (jz:r<H.next) (hr:H.get r=some (.cells [.bB tag 3 (cJ l)] o)):
 ∃H' v,Over H H'/\JU H' H.next v l/\Sg 270 [.func (.func 272) [] [.ref r 0]] H (.ret v) H':=by
 obtain⟨H',v,h1,h2,hS⟩:=Rl hlen jz hr;refine⟨H',v,h1,h2,?_⟩;refine gH aKa (Ak rfl) ?_;unfold aDd;dsimp only;refine Ty ?_;refine bZ (hS) ?_;refine Tz ?_;refine Rx ?_;exact⟨rfl,rfl⟩
theorem PR {tag:Nat} {l:List aP.V} (hlen:l.length<=64) {r:Nat} {o:Bool} {H:aA} (jz:r<H.next) (hr:H.get r=some (.cells [.bB tag 3 (cJ l)] o)):
 ∃H' v S,S.Perm l/\(S.Pairwise fun a b=>¬iU b a)/\Over H H'/\JU H' H.next v S/\Sg 200 [.func (.func 272) [] [.ref r 0],.func (.func 202) [] []] H (.ret v) H':=by
 obtain⟨H1,v,h1,h2,hS⟩:=WY hlen jz hr
 rcases h2 with ⟨rfl,rfl⟩|⟨xH,cP,rfl,hg,Tb,hn⟩
 . refine⟨H1,.aR,[],.refl _,.nil,h1,.inl ⟨rfl,rfl⟩,?_⟩;refine gH xr (Ak rfl) ?_;unfold q9;dsimp only;refine Ty ?_;refine bZ (hS) ?_;refine Ty ?_;refine bZ (oY Tryz.aBk rfl TC 202 _) ?_;refine Tz ?_;refine Rx ?_;exact⟨rfl,rfl⟩
 obtain⟨d',q1,q2,q3⟩:=aBl (l.map vV) (by simp only[Af];omega);have WK:H1.get xH=some (.cells ((pI (l.map vV)).map (AV.int .i64)) true):=by rw[hg,TJ]
 have hc:=q3 H1 xH true WK;rw[Af] at hc;have sF:d'=(d'.map GB).map vV:=by rw[Gr];exact(Fl (g:=id) (fun x _=>TQ x)).trans (Kb d') |>.symm
 rw[sF,TJ] at hc
 have hp:(d'.map GB).Perm l:=by
  have h1:=q1.map GB
  rwa [Gr,show(GB∘vV)=id from rfl,Kb] at h1
 have hl:=hp.length_eq;refine⟨H1.set xH (.cells (cJ (d'.map GB)).flatten true),.sl xH 3 0 (d'.map GB).length (d'.map GB).length,d'.map GB,hp,?_,⟨by rw[aA.bC];exact h1.le,fun j hj=>?_⟩,.inr ⟨xH,fun h=>cP (Cm (by rw[<-hl,h];rfl)),rfl,?_,Tb,by rw[aA.bC];exact hn⟩,?_⟩
 . rw[Jg];exact q2.imp fun h h2=>h ((Mf _ _).2 h2)
 . rw[aA.aD,if_neg (by omega)];exact h1.same j hj
 . rw[aA.aD,if_pos rfl]
 rw[hl];refine gH xr (Ak rfl) ?_;unfold q9;dsimp only;refine Ty ?_;refine bZ (hS) ?_;refine Ty ?_;refine bZ (hc) ?_;refine Tz ?_;refine Rx ?_;exact⟨rfl,rfl⟩
def dd (l:List aP.V):Nat->List aP.V
 |0=>[]
 |j+1=>dd l j++(if 0<j/\l.getD j V0=l.getD (j -1) V0 then [] else [l.getD j V0])
theorem aIi (l:List aP.V):∀j,(dd l j).length<=j
 |0=>Ab _
 |j+1=>by have :=aIi l j;simp only[dd,Ba];split<;>simp <;>omega
theorem HV (R:List aP.V):(cJ R).flatten.length=R.length*3:=by rw[oM (sz:=3) (fun e he=>?_),aU];obtain⟨x,_,rfl⟩:=Bj.1 he;rfl
theorem Nz:∀{R:List aP.V} {p:Nat} (h:p<R.length),((cJ R).flatten.drop (p*3)).take 3=cT R[p]
 |x::R,0,_=>rfl
 |x::R,p+1,h=>by have :=Nz (R:=R) (p:=p) (by simpa using h);simp only[List.getElem_cons_succ,<-this,Cr,Ht];rw[Fo (p*3) 3,<-Jb];rfl
theorem OA:∀{R:List aP.V} {p:Nat} (h:p<R.length) (x:aP.V),fW (cJ R).flatten (p*3) (cT x)=(cJ (R.set p x)).flatten
 |y::R,0,_,x=>rfl
 |y::R,p+1,h,x=>by
  have :=OA (R:=R) (p:=p) (by simpa using h) x;simp only[List.set_cons_succ];simp only[fW,cJ,Cd,Bp,aV] at this ⊢;rw[<-this];have e:(p+1)*3=(p*3)+1+1+1:=by omega
  rw[e];simp only[cT,Ep,Dc,Dp,Iu]
theorem VB:∀(R:List aP.V) (p:Nat),(cJ R).flatten.take (p*3)=(cJ (R.take p)).flatten
 |[],p=>by simp[cJ]
 |x::R,0=>by simp[cJ]
 |x::R,p+1=>by have :=VB R p;simp only[cJ,Cd,Bp,Dp] at this ⊢;rw[<-this,show(p+1)*3=p*3+1+1+1 by omega];simp only[cT,Ep,Dc,Dp]
theorem LJ:∀m:Nat,bO (List.replicate m [AV.int .i64 0,.int .i64 0,.int .i64 0]).flatten=true
 |0=>rfl
 |m+1=>by simp only[Fk,Bp,Ep,Dc,bO,AV.free,Co];exact LJ m
theorem oj (m:Nat):(List.replicate m [AV.int .i64 0,.int .i64 0,.int .i64 0]).flatten.length=m*3:=by simp
theorem nB (v w:aP.V):cK [.i,.i,.i] (cT v) (cT w)=some (decide (v=w)):=by obtain⟨a,b,c⟩:=v;obtain⟨a',b',c'⟩:=w;simp only[cT,cK,if_true,Bx,V.mk.injEq,Fa];congr 1;rw[Cg];simp
theorem WZ {l:List aP.V} (hlen:l.length<=64) {id:Nat} {H:aA} (dB:id<H.next) (hg:H.get id=some (.cells (cJ l).flatten true)):
 ∃H' rest,H'.get id=some (.cells ((cJ (dd l l.length)).flatten++rest) true)/\bO rest=true/\H'.next=H.next/\(∀j,j≠id->H'.get j=H.get j)/\
  Sg 205 [.sl id 3 0 l.length l.length] H (.ret (.sl id 3 0 (dd l l.length).length l.length)) H':=by
 suffices h:∃out H',(out=.ret (.sl id 3 0 (dd l l.length).length l.length)/\∃rest,H'.get id=some (.cells ((cJ (dd l l.length)).flatten++rest) true)/\bO rest=true/\H'.next=H.next/\(∀j,j≠id->H'.get j=H.get j))/\
  Sg 205 [.sl id 3 0 l.length l.length] H out H' by
  obtain⟨_,H',⟨rfl,rest,h1,h2,h3,h4⟩,hS⟩:=h;exact⟨H',rest,h1,h2,h3,h4,hS⟩
 refine cY fit aJw (Ak rfl) ?_;unfold aCz;dsimp only;have cW:∀k (h:k<l.length),l.getD k V0=l[k]:=fun k h=>by simp[List.getD,h]
 have same:dd l l.length=l->(∃rest,H.get id=some (.cells ((cJ (dd l l.length)).flatten++rest) true)/\bO rest=true/\H.next=H.next/\(∀j,j≠id->H.get j=H.get j)):=fun h=>⟨[],by rw[h,Ch];exact hg,rfl,rfl,fun _ _=>rfl⟩
 refine bQ ?_;simp only[↓zP,zG,Nat.reduceLT];refine bR ?_;refine aJ fun K hK=>?_;simp only[↓zP,zJ,Nat.reduceLT,Nat.reduceEqDiff];refine⟨fun h2=>?_,fun h2=>?_⟩
 . refine Rx ?_
   have hd:dd l l.length=l:=by
    match l,h2 with
    |[],_=>rfl
    |[a],_=>simp[dd]
    |a::b::r,h=>simp at h;omega
   exact⟨by rw[hd];rfl,same hd⟩
 apply hK;clear hK K;have XZ:2<=l.length:=by omega
 refine aJ fun K hK=>?_;simp only[↓zP,zG,Nat.reduceLT];refine aL ?_;refine iM [3] (fun M vs H'=>∃k,1<=k/\k<=l.length/\M=l.length -k/\vs=[.int .i64 (k:Nat)]/\H'=H/\dd l k=l.take k) (l.length -1) (by rfl) ?_ ?_
 . refine⟨1,Ab _,by omega,rfl,rfl,rfl,?_⟩
   match l,XZ with
   |a::r,_=>simp[dd]
 rintro M' f H1 hk ⟨k,k1,k2,rfl,hv,rfl,Ze⟩;simp only[zM] at hv;refine aJ fun K2 bW=>?_;simp only[↓zP,zJ,Nat.reduceLT,Nat.reduceEqDiff,hv,hk 0 rfl];refine⟨fun fF=>?_,fun LN=>?_⟩
 . apply bW;clear bW K2;have tQ:k<l.length:=by omega
   have aRw:k -1<l.length:=(by omega);have w1:IntKind.i64.wrap ((k:Int) -1)=((k -1:Nat):Int):=(wrap_i64 (by omega) (by omega)).trans (by omega);have fl:=HV l;have ak:=Nz tQ;have ak1:=Nz aRw
   have gP:dd l (k+1)=l.take k++(if l[k]=l[k -1] then [] else [l[k]]):=by simp only[dd,Ze,cW k tQ,cW (k -1) aRw];simp[show 0<k by omega]
   refine aJ fun K2 bW=>?_;refine aL ?_;refine bQ ?_;refine Dz ?_;have ck:k*3+3<=l.length*3:=(by omega);have ck1:(k -1)*3+3<=l.length*3:=(by omega);simp only[↓zP,zJ,Nat.reduceLT,Nat.reduceEqDiff,Nat.reduceAdd,zD,reduceCtorEq,hv,hk 0 rfl,aB,tQ,hg,w1,aRw,ak,ak1,nB,fl,ck,ck1];refine bR ?_;by_cases he:l[k]=l[k -1]
   . have hb:=Aj he
     have DS:vR 3 (.sl id 3 0 l.length l.length) (some k) none none=some (.sl id 3 (0+k*3) (l.length -k) (l.length -k)):=by simp only[vR,Bi,Ee,Jx];rw[if_pos (by omega),if_pos (by omega),if_neg (by omega)]
     simp only[↓zP,zJ,Nat.reduceLT,Nat.reduceEqDiff,Nat.reduceAdd,hb,hv,hk 0 rfl,dZ,aB,DS,Ci];refine aL ?_;rw[if_pos he,Ch] at gP
     refine iM [3,5] (fun M vs H'=>∃kk k2 R,1<=k2/\k+k2<=l.length/\M=l.length -(k+k2)/\vs=[.int .i64 (kk:Nat),.int .i64 (k2:Nat)]/\kk<=k+k2 -1/\R.length=l.length/\R.take kk=dd l (k+k2)/\kk=(dd l (k+k2)).length/\(∀p,k+k2 -1<=p->p<l.length->R[p]?=l[p]?)/\
      H'.get id=some (.cells (cJ R).flatten true)/\H'.next=H1.next/\∀j,j≠id->H'.get j=H1.get j) (l.length -(k+1)) (by rfl) ?_ ?_
     . refine⟨k,1,l,Ab _,by omega,rfl,?_,by omega,rfl,gP.symm,by rw[gP];simp;omega,fun p _ _=>rfl,hg,rfl,fun _ _=>rfl⟩;simp only[sm,zB,Nat.reduceEqDiff,hv];rfl
     rintro M' f2 H2 eO ⟨kk,k2,R,r1,r2,rfl,sU,r3,r4,r5,r6,r7,r8,r9,r10⟩;simp only[zM] at sU;obtain⟨v3,v5⟩:=sU;refine aJ fun K3 Lp=>?_
     have w0:decide (((k2:Nat):Int)<((l.length -k:Nat):Int))=decide (k+k2<l.length):=by rw[Bs];omega
     have hdl:=aIi l (k+k2);simp only[↓zP,zJ,Nat.reduceLT,Nat.reduceEqDiff,v5,eO 4 rfl];refine⟨fun fF=>?_,fun LN=>?_⟩
     . apply Lp;clear Lp K3;have hj:k+k2<l.length:=(by omega);have hjR:k+k2<R.length:=(by omega);have aVd:k+k2 -1<R.length:=(by omega);have aj:=Nz hjR;have aj1:=Nz aVd
       have ej:R[k+k2]=l[k+k2]:=by have :=r7 (k+k2) (by omega) hj;rw[Ad hjR,Ad hj] at this;exact Aa this
       have ej1:R[k+k2 -1]=l[k+k2 -1]:=by have :=r7 (k+k2 -1) (Ab _) (by omega);rw[Ad aVd,Ad (show k+k2 -1<l.length by omega)] at this;exact Aa this
       rw[ej] at aj;rw[ej1] at aj1
       have KP:dd l (k+k2+1)=dd l (k+k2)++(if l[k+k2]=l[k+k2 -1] then [] else [l[k+k2]]):=by simp only[dd,cW (k+k2) hj,cW (k+k2 -1) (by omega)];simp[show 0<k+k2 by omega]
       have w1:IntKind.i64.wrap ((k2:Int) -1)=((k2 -1:Nat):Int):=(wrap_i64 (by omega) (by omega)).trans (by omega);have w2:IntKind.i64.wrap ((k2:Int)+1)=((k2+1:Nat):Int):=(wrap_i64 (by omega) (by omega)).trans (by omega);have w3:IntKind.i64.wrap ((kk:Int)+1)=((kk+1:Nat):Int):=(wrap_i64 (by omega) (by omega)).trans (by omega);have x1:k*3+k2*3=(k+k2)*3:=(by omega);have x2:k*3+(k2 -1)*3=(k+k2 -1)*3:=(by omega);have fR:=HV R;have y1:(k+k2)*3+3<=R.length*3:=(by omega);have y2:(k+k2 -1)*3+3<=R.length*3:=(by omega);have y3:kk*3+3<=R.length*3:=(by omega);have z1:k2<l.length -k:=(by omega);have z2:k2 -1<l.length -k:=(by omega);have z3:kk<l.length:=(by omega);refine aJ fun K3 Lp=>?_;refine aL ?_;refine bQ ?_;refine Dz ?_;simp only[↓zP,zJ,Nat.reduceLT,Nat.reduceEqDiff,Nat.reduceAdd,zD,reduceCtorEq,v5,eO 4 rfl,aB,z1,z2,r8,w1,x1,x2,fR,y1,y2,aj,aj1,nB];refine bR ?_;by_cases XU:l[k+k2]=l[k+k2 -1]
       . have fV:(!decide (l[k+k2]=l[k+k2 -1]))=false:=(by simp[XU]);simp only[↓zP,zG,fV];apply Lp;clear Lp K3;simp only[↓zP,zJ,Nat.reduceLT,Nat.reduceEqDiff,v5,v3,w2];rw[if_pos XU,Ch] at KP;refine⟨_,by omega,kk,k2+1,R,by omega,by omega,rfl,rfl,by omega,r4,by rw[<-Br,KP];exact r5,by rw[<-Br,KP];exact r6,fun p p1 p2=>r7 p (by omega) p2,r8,r9,r10⟩
       have fV:(!decide (l[k+k2]=l[k+k2 -1]))=true:=(by simp[XU]);have asp:=OA (R:=R) (p:=kk) (by omega) l[k+k2];simp only[fW] at asp;simp only[↓zP,zJ,Nat.reduceLT,Nat.reduceEqDiff,fV,v5,v3,eO 4 rfl,eO 0 rfl,hk 0 rfl,aB,z1,z3,r8,x1,fR,y1,y3,aj,w3,oL (aV l[k+k2])];apply Lp;clear Lp K3;simp only[↓zP,zJ,Nat.reduceLT,Nat.reduceEqDiff,v5,w2];rw[if_neg XU] at KP;refine⟨_,by omega,kk+1,k2+1,R.set kk l[k+k2],by omega,by omega,rfl,rfl,by omega,by rw[By];exact r4,?_,?_,fun p p1 p2=>?_,by rw[<-asp];rfl,r9,fun j hj=>?_⟩
       . rw[<-Br,KP,<-r5,Ao,List.take_set_of_le (Ab _)];simp[show kk<R.length by omega]
       . rw[<-Br,KP,Ba,<-r6];rfl
       . rw[List.getElem?_set_ne (by omega)];exact r7 p (by omega) p2
       rw[if_neg hj];exact r10 j hj
     have vz:k+k2=l.length:=(by omega);obtain⟨m,hm⟩:∃m,l.length -kk=m+1:=⟨l.length -kk -1,by omega⟩
     have hs2:vR 3 (.sl id 3 0 l.length l.length) (some kk) none none=some (.sl id 3 (kk*3) (m+1) (m+1)):=by simp only[vR,Bi,Ee,Jx];rw[if_pos (by omega),if_pos (by omega),if_neg (by omega),hm,Cs]
     have hs3:vR 3 (.sl id 3 0 l.length l.length) none (some kk) none=some (.sl id 3 0 kk l.length):=by simp only[vR,Bi,Ee,Jx];rw[if_pos (by omega),if_pos (by omega),if_neg (by omega)];simp
     have fR:=HV R;have vg:kk*3+(m+1)*3<=R.length*3:=(by omega);simp only[↓zP,zJ,Nat.reduceEqDiff,v3,eO 0 rfl,hk 0 rfl,aB,hs2,hs3,r8,fR,vg,Ci,Bc];rw[vz] at r5 r6;rw[VB,r5,Eb];refine Rx ?_;refine⟨by rw[<-r6];rfl,_,by rw[aA.aD,if_pos rfl],?_,by rw[aA.bC];exact r9,fun j hj=>by rw[aA.aD,if_neg hj];exact r10 j hj⟩
     rw[gY,LJ,Cc (by rw[oj,fR];omega)]
     rfl
   have hb:=Ag he;simp only[↓zP,zG,hb];apply bW;clear bW K2;have w2:IntKind.i64.wrap ((k:Int)+1)=((k+1:Nat):Int):=(wrap_i64 (by omega) (by omega)).trans (by omega);simp only[↓zP,zJ,Nat.reduceLT,Nat.reduceEqDiff,hv,w2];refine⟨_,by omega,k+1,by omega,by omega,rfl,rfl,trivial,?_⟩;rw[gP,if_neg he,Ao];simp[tQ]
 apply hK;clear hK K bW K2;have vz:k=l.length:=by omega
 subst vz;rw[Ay] at Ze;simp only[↓zP,zJ,Nat.reduceLT,Nat.reduceEqDiff,hk 0 rfl];refine Rx ?_;exact⟨by rw[Ze];rfl,same Ze⟩
theorem NR (l:List aP.V) (v:aP.V):∀j,j<=l.length->(v∈dd l j↔v∈l.take j)
 |0,_=>by simp[dd]
 |j+1,h=>by
  have ih:=NR l v j (by omega);have hj:j<l.length:=h;have hg:l.getD j V0=l[j]:=by simp[List.getD,hj]
  rw[Ao,Ad hj];simp only[dd,Ap,ih,hg,Fu,Am,Bg,Dd];split
  . rename_i hc;obtain⟨h0,he⟩:=hc;have KM:j -1<l.length:=by omega
    have CZ:l.getD (j -1) V0=l[j -1]:=(by simp[List.getD,KM]);simp only[Bg,Dd];refine⟨.inl,fun h=>h.elim id fun e=>?_⟩;rw[e,he,CZ];exact Hi.2 ⟨j -1,by omega,rfl⟩
  simp
theorem Wy {l:List aP.V} (hs:l.Pairwise fun a b=>¬iU b a):∀j,j<=l.length->(dd l j).Pairwise iU
 |0,_=>.nil
 |j+1,h=>by
  have ih:=Wy hs j (by omega);have hj:j<l.length:=h;have hg:l.getD j V0=l[j]:=by simp[List.getD,hj]
  simp only[dd,hg];split
  . rw[Ch];exact ih
  rename_i hc;rw[List.pairwise_append];refine⟨ih,List.pairwise_singleton _ _,fun v hv x hx=>?_⟩;simp only[Am,Bg,Dd] at hx;subst hx;rw[NR l v j (by omega)] at hv;obtain⟨i,hi,rfl⟩:=Hi.1 hv;have yN:i<j:=by omega
  have KM:j -1<l.length:=by omega
  have CZ:l.getD (j -1) V0=l[j -1]:=by simp[List.getD,KM]
  rw[CZ] at hc;have cP:l[j]≠l[j -1]:=fun e=>hc ⟨by omega,e⟩;have hp:=Gc.1 hs;have p1:=hp (j -1) j KM hj (by omega);have p2:iU l[j -1] l[j]:=(iU.total cP).elim (fun h=>absurd h p1) id;by_cases xG:i=j -1
  . subst xG;exact p2
  have p3:=hp i (j -1) (by omega) KM (by omega);generalize l[i]=a at *;generalize l[j -1]=b at *;generalize l[j]=c at *;unfold iU at *;omega
structure Ord (l C:List aP.V):Prop where
 Rb:C.Pairwise iU
 mem:∀v,v∈C↔v∈l
theorem Ord.uniq {l C C':List aP.V} (h:Ord l C) (h':Ord l C'):C=C':=
 BJ (R:=iU) iU.j8 (fun h h'=>iU.trans h h') h.Rb h'.Rb fun v=>(h.mem v).trans (h'.mem v).symm
theorem Ord.of {l S C:List aP.V} (hp:S.Perm l) (hs:S.Pairwise fun a b=>¬iU b a) (h:Ord l C):dd S S.length=C:=
 Ord.uniq (l:=l) ⟨Wy hs _ (Ab _),fun v=>by rw[NR S v _ (Ab _),Ay];exact hp.mem_iff⟩ h
theorem Kw (H:aA):Sg 205 [.aR] H (.ret .aR) H:=by refine gH aJw (Ak rfl) ?_;unfold aCz;dsimp only;refine bQ ?_;refine Tz ?_;refine bR ?_;refine aJ fun K hK=>?_;refine Ty ?_;refine⟨fun h2=>?_,fun h2=>absurd (show((0:Int)<2) by decide) (by simp at h2)⟩;refine Rx ?_;exact⟨rfl,rfl⟩
theorem QO {sz:Nat}:∀{aY:List (List AV)} (rest:List AV),(∀e∈aY,e.length=sz)->fM sz aY.length (aY.flatten++rest)=aY
 |[],_,_=>rfl
 |e::aY,rest,h=>by have he:=h e Ar;simp only[Aq,fM,Bp,Eb];rw[Cl (by omega),As (by omega),Il (by omega),Cc (by omega),Dc,QO rest fun x hx=>h x (Aw _ hx)]
theorem nm {tag:Nat} (ht:Nat.blt tag 2=true) {l C:List aP.V} (hlen:l.length<=64) (hC:Ord l C) (H:aA):
 Sg 154 [.bB tag 3 (cJ l)] H (.ret (lB 3 (cJ C))) H:=by
 refine eQ fit fG aJl (Ak rfl) ZaJ ?_ H;unfold aCo;dsimp only;obtain⟨H1,v,S,hp,hs,ho,hr,hS⟩:=PR (tag:=tag) hlen (r:=0) (o:=false) (H:=(aA.mk 0 .nil).alloc (.cells [.bB tag 3 (cJ l)] false)) (by simp) rfl;have Ze:=Ord.of hp hs hC;have hSl:=hp.length_eq;refine Ty ?_;refine bZ (er (tag:=tag) l _) ?_;simp only[seval];refine bZ (hS) ?_
 rcases hr with ⟨rfl,rfl⟩|⟨xH,cP,rfl,hg,Tb,hn⟩
 . refine Tz ?_;refine bZ (Kw _) ?_;refine Tz ?_;refine Rx ?_;rw[<-Ze];exact⟨_,0,rfl,fun nw=>rfl⟩
 obtain⟨H2,rest,c1,c2,c3,c4,hcS⟩:=WZ (by omega) hn hg;refine Tz ?_;refine bZ (hcS) ?_;refine Tz ?_;refine Rx ?_;rw[Ze] at c1 ⊢
 have hCn:¬cJ C=[]:=by
  intro h;have :C=[]:=by simpa [cJ] using h
  rw[this] at Ze
  match S,cP with
  |x::r,_=>have :=(NR (x::r) x _ (Ab _)).2 (by simp);rw[Ze] at this;cases this
 refine⟨.sl xH 3 0 C.length S.length,0,rfl,fun nw=>?_⟩;have hc:H2.eY xH=some ((cJ C).flatten++rest):=by simp[aA.eY,c1]
 have hu:∀e∈cJ C,e.length=3:=fun e he=>by obtain⟨x,_,rfl⟩:=Bj.1 he;rfl
 have hle:Nat.ble (0+C.length*3) ((cJ C).flatten++rest).length=true:=by rw[Ba,HV];exact Nat.ble_eq_true_of_le (by omega)
 have MK:bO ((cJ C).flatten++rest)=true:=by rw[gY,lQ (show dR (cJ C)=true from eJ cS C),c2];rfl
 rw[lB,if_neg hCn];simp only[fT,jH,hc,El,hle,MK,Cv];rw[show C.length=(cJ C).length from (aU C).symm,QO rest hu]
end Go.Proofs.YtgggiembljfnhaaGreatDoor
