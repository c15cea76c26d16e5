/-
  Part of the proof of statement 13
-/
import Derived.Test.YtogfcjbgeebfkaaGreatDoorB03
import Derived.Laws.Sem
set_option linter.unusedVariables false
set_option linter.unusedSimpArgs false
set_option linter.unusedSectionVars false
namespace Go.Av
open Go
def NT(P:Program)(g:bL)(r:bH)(s:List AV)(H:aB)(v:AV)(H':aB):Prop:=
 match r.op with
 |.call f azs=>∃p,nB (f.eval g s)=some p/\Sound P g p.1 (p.2.1++azs.map (Arg.eval g s)++p.2.2) H (.ret v) H'
 |.panic _|.mY _ _=>False
 |op=>dU (Arg.eval g s) H op=some (v,H')
def WQ(P:Program)(g:bL)(pairs:List (Nat×Nat))(base:Nat):Nat->Nat->List bH->List (Nat×Nat)->List (Nat×aB×aB)->List AV->aB->(List AV->aB->Prop)->Prop
 |_,_,[],_,_,s,H,Q=>Q s H
 |i,k,r::rs,rd,ef,s,H,Q=>
  if bW s r then
   if r.op.fresh then
    ∃z val,BX (Arg.eval g s) r.op=some (z,val)/\(∀x∈ef,(i,x.1)∈pairs->x.2.1.get (base+k)=x.2.2.get (base+k))/\
     WQ P g pairs base (i+1) (k+1) rs ((i,base+k)::rd) ef (oM s r.dst (val (base+k))) (H.set (base+k) z) Q
   else if r.op.rF then
    ∃v H',NT P g r s H v H'/\H.next<=H'.next/\(∀x∈rd,(x.1,i)∈pairs->H.get x.2=H'.get x.2)/\
     WQ P g pairs base (i+1) k rs rd ((i,H,H')::ef) (oM s r.dst v) H' Q
   else
    ∃v,NT P g r s H v H/\(∀id,r.op.dP (Arg.eval g s)=some id->∀x∈ef,(i,x.1)∈pairs->x.2.1.get id=x.2.2.get id)/\
     WQ P g pairs base (i+1) k rs (match r.op.dP (Arg.eval g s) with|some id=>(i,id)::rd|none=>rd) ef (oM s r.dst v) H Q
  else WQ P g pairs base (i+1) (if r.op.fresh then k+1 else k) rs rd ef (oM s r.dst aC) H Q
structure WW (P:Program) (g:bL) (pairs:List (Nat×Nat)) (base i k:Nat) (rs:List bH) (rd:List (Nat×Nat)) (ef:List (Nat×aB×aB)) (s:List AV) (H:aB) (Q:List AV->aB->Prop)
 (Hs:Nat->aB) (ss:Nat->List AV) (vs:Nat->AV):Prop where
 h0:Hs 0=H
 s0:ss 0=s
 fin:Q (ss rs.length) (Hs rs.length)
 step:∀(j:Nat) (r:bH),rs[j]?=some r->DStep P g false (base+(k+iS rs j)) r (ss j) (Hs j) (vs j) (Hs (j+1))/\ss (j+1)=oM (ss j) r.dst (vs j)
 mono:∀(j:Nat) (r:bH),rs[j]?=some r->r.op.rF=true->(Hs j).next<=(Hs (j+1)).next
 WM:∀x∈rd,∀(e:Nat) (re:bH),rs[e]?=some re->re.op.rF=true->bW (ss e) re=true->(x.1,i+e)∈pairs->(Hs e).get x.2=(Hs (e+1)).get x.2
 new:∀x∈ef,∀(j:Nat) (r:bH),rs[j]?=some r->bW (ss j) r=true->(i+j,x.1)∈pairs->
  ∀id,(r.op.dP (Arg.eval g (ss j))=some id\/(r.op.fresh=true/\id=base+(k+iS rs j)))->x.2.1.get id=x.2.2.get id
 both:∀(j e:Nat) (rj re:bH),rs[j]?=some rj->rs[e]?=some re->re.op.rF=true->bW (ss j) rj=true->bW (ss e) re=true->(i+j,i+e)∈pairs->
  ∀id,(rj.op.dP (Arg.eval g (ss j))=some id\/(rj.op.fresh=true/\id=base+(k+iS rs j)))->(Hs e).get id=(Hs (e+1)).get id
theorem Rt(r:bH)(W:List bH)(j:Nat):iS (r::W) (j+1)=(if r.op.fresh then 1 else 0)+iS W j:=by grind[iS]
def aDm{α:Type}(x:α)(f:Nat->α):Nat->α
 |0=>x
 |n+1=>f n
variable{P:Program}{g:bL}{pairs:List (Nat×Nat)}{r:bH}{s:List AV}{H H':aB}{Q:List AV->aB->Prop}{v:AV}
theorem WW.cons{base i k:Nat}{W:List bH}{a p:List (Nat×Nat)}{t h:List (Nat×aB×aB)}
 {c:Nat->aB} {u:Nat->List AV} {vs:Nat->AV} 
 (R:WW P g pairs base (i+1) (if r.op.fresh then k+1 else k) W p h (oM s r.dst v) H' Q c u vs)
 (J:DStep P g false (base+k) r s H v H') (Z:r.op.rF=true->H.next<=H'.next)
 (w:∀x∈a,x∈p) (G:∀x∈t,x∈h)
 (I:bW s r=true->∀id,(r.op.dP (Arg.eval g s)=some id\/(r.op.fresh=true/\id=base+k))->(i,id)∈p)
 (K:bW s r=true->r.op.rF=true->(i,H,H')∈h)
 (o:∀x∈a,r.op.rF=true->bW s r=true->(x.1,i)∈pairs->H.get x.2=H'.get x.2)
 (B:∀x∈t,bW s r=true->(i,x.1)∈pairs->∀id,(r.op.dP (Arg.eval g s)=some id\/(r.op.fresh=true/\id=base+k))->x.2.1.get id=x.2.2.get id):
 WW P g pairs base i k (r::W) a t s H Q (aDm H c) (aDm s u) (aDm v vs):=by
 have E:∀j,base+((if r.op.fresh then k+1 else k)+iS W j)=base+(k+iS (r::W) (j+1)):=fun j=>by rw[Rt];split<;>omega
 have F:∀j,i+1+j=i+(j+1):=fun j=>by omega
 refine⟨rfl,rfl,R.fin,fun j q D=>?_,fun j q D z=>?_,fun x C e d z n L m=>?_,fun x C j q D L m id f=>?_,fun j e b d Y z n A l m id f=>?_⟩
 . cases j with
   |zero=>simp at D;subst D;refine⟨?_,R.s0⟩;show DStep P g false (base+(k+iS (r::W) 0)) r s H v (c 0);rw[R.h0];exact J
   |succ j=>have :=R.step j q (by simpa using D);rw[E] at this;exact this
 . cases j with
   |zero=>simp at D;subst D;show H.next<=(c 0).next;rw[R.h0];exact Z z
   |succ j=>exact R.mono j q (by simpa using D) z
 . cases e with
   |zero=>simp at z;subst z;show H.get x.2=(c 0).get x.2;rw[R.h0];exact o x C n L m
   |succ e=>exact R.WM x (w x C) e d ZbK n L Zcg
 . cases j with
   |zero=>simp at D;subst D;exact B x C L m id f
   |succ j=>refine R.new x (G x C) j q (by simpa using D) L Zcg id ?_;rw[E];exact f
 cases j with
 |zero=>
  simp at Y;subst Y
  cases e with
  |zero=>grind[xY,mP,oV]
  |succ e=>exact R.WM (i,id) (I A id f) e d ZbK n l Zcg
 |succ j=>
  have y:b.op.dP (Arg.eval g (u j))=some id\/(b.op.fresh=true/\id=base+((if r.op.fresh then k+1 else k)+iS W j)):=by rw[E];exact f
  cases e with
  |zero=>simp at z;subst z;show H.get id=(c 0).get id;rw[R.h0];exact R.new (i,H,H') (K l n) j b ZaV A Zcg id y
  |succ e=>exact R.both j e b d ZaV ZbK n A l (by rw[F,F];exact m) id y
theorem NT.aRe{id:Nat}(h:NT P g r s H v H')(L:bW s r=true)(N:r.op.fresh=false):DStep P g false id r s H v H':=by unfold DStep;rw[if_pos L,if_neg (by grind)];exact h
theorem JZ{P:Program}{g:bL}{pairs:List (Nat×Nat)}{base:Nat}{Q:List AV->aB->Prop}:∀(W:List bH) (i k:Nat) (a:List (Nat×Nat)) (t:List (Nat×aB×aB)) (s:List AV) (H:aB),
 WQ P g pairs base i k W a t s H Q->∃c u vs,WW P g pairs base i k W a t s H Q c u vs
 |[],i,k,a,t,s,H,h=>⟨fun _=>H,fun _=>s,fun _=>aC,rfl,rfl,h,fun j r Y=>by simp at Y,fun j r Y=>by simp at Y,fun x C e d z=>by simp at z,fun x C e d z=>by simp at z,fun j e b d Y=>by simp at Y⟩
 |r::W,i,k,a,t,s,H,h=>by
  unfold WQ at h;by_cases L:bW s r=true
  . rw[if_pos L] at h;by_cases N:r.op.fresh=true
    . rw[if_pos N] at h;obtain⟨f,val,O,Z,B⟩:=h;obtain⟨c,u,vs,R⟩:=JZ W _ _ _ _ _ _ B;have E:(if r.op.fresh then k+1 else k)=k+1:=(by rw[if_pos N]);refine⟨_,_,_,WW.cons (v:=val (base+k)) (by rw[E];exact R) ?_ (fun z=>by rw[oV N] at z;cases z) (fun x C=>Ax _ C) (fun x C=>C) (fun _ id hid=>?_) (fun _ z=>by rw[oV N] at z;cases z) (fun x _ z=>by rw[oV N] at z;cases z) (fun x C _ m id hid=>?_)⟩
      . grind[DStep]
      . rcases hid with hid|hid
        . have :=mP hid
          grind[BV]
        rw[hid.2];exact Ay
      rcases hid with hid|hid
      . have :=mP hid
        grind[BV]
      rw[hid.2];exact Z x C m
    rw[if_neg N] at h;have l:r.op.fresh=false:=(by simpa using N);have E:(if r.op.fresh then k+1 else k)=k:=(by rw[if_neg N]);by_cases z:r.op.rF=true
    . rw[if_pos z] at h;obtain⟨v,H',O,Z,B,h4⟩:=h;obtain⟨c,u,vs,R⟩:=JZ W _ _ _ _ _ _ h4;refine⟨_,_,_,WW.cons (v:=v) (by rw[E];exact R) (O.aRe L l) (fun _=>Z) (fun x C=>C) (fun x C=>Ax _ C) (fun _ id hid=>?_) (fun _ _=>Ay) (fun x C _ _ m=>B x C m) (fun x C _ m id hid=>?_)⟩
      all_goals grind[xY,mP]
    rw[if_neg z] at h;obtain⟨v,O,Z,B⟩:=h;obtain⟨c,u,vs,R⟩:=JZ W _ _ _ _ _ _ B;refine⟨_,_,_,WW.cons (v:=v) (by rw[E];exact R) (O.aRe L l) (fun A=>absurd A z) (fun x C=>?_) (fun x C=>C) (fun _ id hid=>?_) (fun _ A=>absurd A z) (fun x _ A=>absurd A z) (fun x C _ m id hid=>?_)⟩
    all_goals grind
  rw[if_neg L] at h;obtain⟨c,u,vs,R⟩:=JZ W _ _ _ _ _ _ h;refine⟨_,_,_,WW.cons (v:=aC) R ?_ (fun _=>Ad _) (fun x C=>C) (fun x C=>C) (fun I=>absurd I L) (fun I=>absurd I L) (fun x _ _ I=>absurd I L) (fun x _ I=>absurd I L)⟩
  grind[DStep]
def oJ(H:aB):Nat->Bool
 |0=>true
 |n+1=>oJ H n&&(H.get (H.next+n)).isNone
theorem Pw{H:aB}:∀{n:Nat},oJ H n=true->∀k,k<n->H.get (H.next+k)=none
 |0,_,k,hk=>absurd hk (Am k)
 |n+1,h,k,hk=>by
  simp only[oJ,Ak,Option.isNone_iff_eq_none] at h;by_cases T:k=n
  . grind
  exact Pw h.1 k A0
def kb(P:Program)(g:bL)(rl:List bH)(pairs:List (Nat×Nat))(s:List AV)(H:aB)(Q:List AV->aB->Prop):Prop:=
 oJ H (rl.countP (·.op.fresh))=true/\WQ P g pairs H.next 0 0 rl [] [] s {H with next:=H.next+rl.countP (·.op.fresh)} Q
variable{rl:List bH}
theorem kb.run(h:kb P g rl pairs s H Q)
 (m:∀i e,(i,e)∈pairs->∀d,rl[e]?=some d->d.op.rF=true):
 ∃c u vs,dS P g rl none pairs s H c u vs/\Q (u rl.length) (c rl.length):=by
 obtain⟨c,u,vs,R⟩:=JZ _ _ _ _ _ _ _ h.2;refine⟨c,u,vs,⟨R.s0,R.h0,Pw h.1,fun i r F=>?_,R.mono,fun i e a W d F z q l id f=>?_⟩,R.fin⟩
 . have :=R.step i r F
   grind
 refine R.both i e W d F z (m i e a d z) q l (by grind) id ?_
 grind
def PI(P:Program)(g:bL)(rl:List bH)(pairs:List (Nat×Nat))(s:List AV)(H:aB)(E:AV->List AV->aB->Prop):Prop:=
 ∃j c u vs,(j,rl.length)∈pairs/\dS P g rl (some j) pairs s H c u vs/\
 ∃r f X p x H1,rl[j]?=some r/\r.op=.call f X/\bW (u j) r=true/\nB (f.eval g (u j))=some p/\
  Sound P g p.1 (p.2.1++X.map (Arg.eval g (u j))++p.2.2) (c j) (.Lo x) H1/\E x (u j) H1
theorem PI.mono{E w:AV->List AV->aB->Prop}(h:PI P g rl pairs s H E)(z:∀x s H,E x s H->w x s H):PI P g rl pairs s H w:=
 let⟨j,c,u,vs,O,Z,r,f,X,p,x,H1,T,o,C,b,Y,t⟩:=h
 ⟨j,c,u,vs,O,Z,r,f,X,p,x,H1,T,o,C,b,Y,z _ _ _ t⟩
def PH(P:Program)(g:bL)(rl:List bH)(pairs:List (Nat×Nat))(s:List AV)(H:aB)(E:AV->aB->Prop):Prop:=
 ∃(j:Nat) (a:List bH) (c:Nat->aB) (u:Nat->List AV) (vs:Nat->AV),(j,rl.length+1)∈pairs/\a.length=rl.length/\(∀(i:Nat) (n:bH),a[i]?=some n->∃r:bH,rl[i]?=some r/\(n=r\/n=⟨r.dst,.mO (.const aC),none⟩))/\(∀(i:Nat) (r:bH),rl[i]?=some r->i<=j\/(j,rl.length+2+i)∈pairs->a[i]?=some r)/\
 dS P g a (some j) pairs s H c u vs/\
 ∃r f X p x H1,rl[j]?=some r/\r.op=.call f X/\bW (u j) r=true/\nB (f.eval g (u j))=some p/\
  Sound P g p.1 (p.2.1++X.map (Arg.eval g (u j))++p.2.2) (c j) (.Lo x) H1/\E x H1
theorem PH.mono{E w:AV->aB->Prop}(h:PH P g rl pairs s H E)(z:∀x H,E x H->w x H):PH P g rl pairs s H w:=
 let⟨j,a,c,u,vs,O,Z,B,h4,D,r,f,X,p,x,H1,T,o,C,b,Y,t⟩:=h
 ⟨j,a,c,u,vs,O,Z,B,h4,D,r,f,X,p,x,H1,T,o,C,b,Y,z _ _ t⟩
variable{m:Array Oper}
theorem qE.bSp{a:List bH}{anc:Nat->Nat->Bool}(K:qE m rl pairs anc)(h:∀(i:Nat) (n:bH),a[i]?=some n->∃r:bH,rl[i]?=some r/\(n=r\/n=⟨r.dst,.mO (.const aC),none⟩)):qE m a pairs anc:=by
 have e:∀{d:Option Nat} {t:Nat},t∉yD (⟨d,.mO (.const aC),none⟩:bH):=fun {d t} h=>by grind[yD,eN.args,Arg.tmps]
 have g:∀{d:Option Nat},(⟨d,.mO (.const aC),none⟩:bH).op.rF=true->False:=fun h=>by cases h
 have f:∀{d:Option Nat},(⟨d,.mO (.const aC),none⟩:bH).op.reads=true->False:=fun h=>by cases h
 have c:∀{d:Option Nat},(⟨d,.mO (.const aC),none⟩:bH).op.fresh=true->False:=fun h=>by cases h
 refine⟨K.aRf,K.wit,fun i j W b H F Y I=>?_,fun i j W b H F Y z N=>?_,fun i r F V v J=>?_⟩
 . obtain⟨r1,O,T⟩:=h i W F;obtain⟨r2,Z,o⟩:=h j b Y;obtain⟨l,X,c3,S,k⟩:=K.cmp i j r1 r2 H O Z I
   rcases T with rfl|rfl<;>rcases o with rfl|rfl
   all_goals simp_all
 . obtain⟨r1,O,T⟩:=h i W F;obtain⟨r2,Z,o⟩:=h j b Y
   rcases T with rfl|rfl
   . rcases o with rfl|rfl
     . exact K.early i j _ _ H O Z z N
     simp_all
   simp_all
 obtain⟨r1,O,T⟩:=h i r F
 rcases T with rfl|rfl
 . exact K.lits i _ O V v J
 simp_all
def xG(n:Nat)(c:List Nat)(i j:Nat):Bool:=decide (i<j)&&decide (j<n)&&(c.getD j 0).testBit i
def UW(W b:bH):Bool:=
 (!W.op.rF|| !b.op.rF)&&
 (match W.dst with|some d=> !(yD b).contains d&&b.dst != some d|none=>true)&&
 (match b.dst with|some d=> !(yD W).contains d|none=>true)
def aGe(r:bH):Bool:= !r.op.reads||r.op.args.all fun |.const v=>(DO v).isNone|_=>true
def Ui(m:Array Oper)(rl:List bH)(c:List Nat):Bool:=
 (List.range rl.length).all fun j=>
   match m[j]?,rl[j]? with
   |some o,some rj=>
    o.after.toList.all (fun e=> !Region.binds .any e||decide (e.on<j))&&aGe rj&&
    (List.range j).all fun i=>
      if xG rl.length c i j then o.after.toList.any fun e=>Region.binds .any e&&(e.on==i||xG rl.length c i e.on)
      else match rl[i]? with
       |some W=>UW W rj
       |none=>false
   |_,_=>false
def Tb(rl:List bH)(c:List Nat)(a b:Nat):Bool:=
 match rl[a]?,rl[b]? with
 |some ra,some rb=>rb.op.rF&&
  ((decide (a<b)&& !xG rl.length c a b&&(ra.op.reads||ra.op.fresh))||(decide (b<a)&&(ra.op.fresh||(!xG rl.length c b a&&ra.op.reads))))
 |_,_=>false
def Xy(rl:List bH)(c:List Nat)(j:Nat):Bool:=
 match rl[j]? with
 |some r=>match r.op with
  |.call _ _=>(List.range rl.length).all fun k=>k==j||xG rl.length c k j||xG rl.length c j k
  |_=>false
 |none=>false
def bCu:bH->Bool
 |⟨some _,.load _ _ (.tmp _),none⟩=>true
 |_=>false
def dh(rl:List bH)(c:List Nat)(j:Nat):Bool:=
 match rl[j]? with
 |some r=>match r.op with
  |.call _ _=>(List.range rl.length).all fun k=>k==j||xG rl.length c k j||xG rl.length c j k||(decide (j<k)&&match rl[k]? with|some q=>bCu q|none=>false)
  |_=>false
 |none=>false
def bMg(rl:List bH)(j:Nat):Bool:=(rl.drop (j+1)).all fun |⟨_,.mO _,none⟩=>true|_=>false
def Le(rl:List bH)(c:List Nat):List (Nat×Nat):=
 ((List.range rl.length).filter fun j=> !(Xy rl c j&&bMg rl j)&&dh rl c j).flatMap fun j=>(j,rl.length+1)::((List.range rl.length).filter fun k=>decide (j<k)&& !xG rl.length c j k).map fun k=>(j,rl.length+2+k)
def qY(rl:List bH)(c:List Nat):List (Nat×Nat):=
 (((List.range rl.length).flatMap fun a=>(List.range rl.length).map fun b=>(a,b)).filter fun p=>Tb rl c p.1 p.2)++
 (((List.range rl.length).filter (Xy rl c)).map fun j=>(j,rl.length))++Le rl c
variable{a b:Nat}{c:List Nat}
theorem Mw:(a,b)∈Le rl c↔(a<rl.length/\dh rl c a=true/\(Xy rl c a&&bMg rl a)=false)/\(b=rl.length+1\/∃k,k<rl.length/\a<k/\xG rl.length c a k=false/\b=rl.length+2+k):=by
 unfold Le;simp only[Ec,Fs,Bb,Ba,Be,An,Ak,Ct,Bs]
 grind
theorem nV:(a,b)∈qY rl c↔(a<rl.length/\b<rl.length/\Tb rl c a b=true)\/(b=rl.length/\Xy rl c a=true/\a<rl.length)\/(a,b)∈Le rl c:=by grind[qY]
theorem Xs(h:(a,b)∈Le rl c):rl.length<b:=by rcases(Mw.1 h).2 with rfl|⟨k,_,_,_,rfl⟩<;>omega
variable{j:Nat}
theorem fh(h:(j,rl.length)∈qY rl c):∀k,k<rl.length->(k<j->xG rl.length c k j=true)/\(j<k->xG rl.length c j k=true):=by
 rcases nV.1 h with ⟨_,h,_⟩|⟨_,h,_⟩|h
 . omega
 rotate_left
 . exact absurd (Xs h) (Ff _)
 grind[Xy,xG]
theorem YI(h:(j,rl.length+1)∈qY rl c):(∀k,k<rl.length->k<j->xG rl.length c k j=true)/\∀k,k<rl.length->j<k->xG rl.length c j k=false->(j,rl.length+2+k)∈qY rl c:=by
 rcases nV.1 h with ⟨_,h,_⟩|⟨h,_⟩|h
 . omega
 . omega
 obtain⟨⟨O,Z,B⟩,_⟩:=Mw.1 h;refine⟨fun k E a=>?_,fun k E u I=>nV.2 (.inr (.inr (Mw.2 ⟨⟨O,Z,B⟩,.inr ⟨k,E,u,I,rfl⟩⟩)))⟩
 grind[dh,xG]
theorem Mb(A:rl.length=m.size)(h:Ui m rl c=true):qE m rl (qY rl c) (xG rl.length c):=by
 unfold Ui at h;rw[Bi] at h
 have Y:∀(j:Nat) (o:Oper) (b:bH),m[j]?=some o->rl[j]?=some b->
  (o.after.toList.all (fun e=> !Region.binds .any e||decide (e.on<j))&&aGe b&&
  (List.range j).all fun i=>
    if xG rl.length c i j then o.after.toList.any fun e=>Region.binds .any e&&(e.on==i||xG rl.length c i e.on)
    else match rl[i]? with
     |some W=>UW W b
     |none=>false)=true:=fun j o b S V=>by
  have :=h j (Bb.2 (Bf.1 V).1);rw[S,V] at this;exact this
 have f:∀(j:Nat),j<rl.length->∃o b,m[j]?=some o/\rl[j]?=some b:=fun j Y=>⟨m[j]'(by omega),rl[j],by simp[show j<m.size by omega],by simp[Y]⟩
 have p:∀i j W b,i<j->rl[i]?=some W->rl[j]?=some b->xG rl.length c i j=false->UW W b=true:=fun i j W b H F a I=>by obtain⟨o,n,S,g⟩:=f j (Bf.1 a).1;have :=Y j o b S a;simp only[Ak] at this;have :=Bi.1 this.2 i (Bb.2 H);rw[I,F] at this;exact this
 refine⟨fun j o S e z X=>?_,fun i j I=>?_,fun i j W b H F a I=>?_,fun i j W b H F a z N=>?_,fun j r V w v J=>?_⟩
 . obtain⟨o',b,D,V⟩:=f j (by rw[A];exact(Eg.1 S).1);have :=Y j o b S V;simp only[Ak] at this;have :=Bi.1 this.1.1 e ZbK;rw[X] at this;simpa using this
 . have q:=I;unfold xG at I;simp only[Ak,Bs] at I;obtain⟨o,b,S,V⟩:=f j I.1.2;have :=Y j o b S V;simp only[Ak] at this;have :=Bi.1 this.2 i (Bb.2 I.1.1);rw[if_pos q] at this;obtain⟨e,z,R⟩:=Cz.1 this;simp only[Ak,Eb,Dr] at R;exact⟨o,S,e,by simpa using z,R.1,R.2⟩
 . have l:=p i j W b H F a I;have T:=(Bf.1 F).1;have k:=(Bf.1 a).1;unfold UW at l;simp only[Ak] at l;obtain⟨⟨O,Z⟩,B⟩:=l;refine⟨fun z=>?_,fun d hd=>?_,fun d hd=>?_,fun z V=>?_,fun z V=>?_⟩
   . rw[z] at O;simpa using O
   . rw[hd] at Z;simp only[Ak,Ct,Ge] at Z;exact⟨fun t=>by have :=Z.1;simp[t] at this,Z.2⟩
   . rw[hd] at B;exact fun t=>by simp[t] at B
   . refine nV.2 (.inl ⟨T,k,?_⟩);unfold Tb;rw[F,a];simp only[z,H,I,Gy,Fl,Dx,Dm,Eb];exact .inl V
   refine nV.2 (.inl ⟨k,T,?_⟩);unfold Tb;rw[F,a];simp[z,H,I,V]
 . have T:=(Bf.1 F).1;have k:=(Bf.1 a).1;refine nV.2 (.inl ⟨k,T,?_⟩);unfold Tb;rw[F,a];simp[z,H,N]
 obtain⟨o,n,S,_⟩:=f j (Bf.1 V).1;have :=Y j o r S V;simp only[Ak] at this;have :=this.1.2;unfold aGe at this;rw[w] at this;have :=Bi.1 this _ J;simpa using this
theorem zg:∀i e,(i,e)∈qY rl c->∀d,rl[e]?=some d->d.op.rF=true:=fun i e h d a=>by
 rcases nV.1 h with ⟨_,_,this⟩|⟨rfl,_⟩|hl
 rotate_left
 . grind
 . rw[Cr (Nat.le_of_lt (Xs hl))] at a;grind
 grind[Tb]
def bX.nd:bX->Bool
 |.ops rl=>rl.all fun r=>match r.op with|.mY _ _=>false|_=>true
 |.seq a b|.cond _ a b=>a.nd&&b.nd
 |.block _ a|.loop a=>a.nd
 |.pO _ _ _ _=>false
 |_=>true
def fL(P:Program)(g:bL)(N:Bool):Code->Option bX
 |.skip=>some .skip
 |.label _=>some .skip
 |.region _ ops false=>(mX P g N ops ops.toList).map .ops
 |.region _ ops true=>match mX P g N ops ops.toList with
  |some rl=>if Ui ops rl (Region.before ops).toList then some (.draw rl (qY rl (Region.before ops).toList)) else none
  |none=>none
 |.seq a b=>match fL P g N a,fL P g N b with
  |some x,some y=>some (.seq x y)
  |_,_=>none
 |.cond c a b=>match bN g c,fL P g N a,fL P g N b with
  |some z,some x,some y=>some (.cond z x y)
  |_,_,_=>none
 |.block id a=>(fL P g N a).map (.block id)
 |.loop a=>(fL P g N a).map .loop
 |.scope a=>fL P g N a
 |.exit id=>some (.exit id)
 |.ret=>some .ret
 |.rangeFunc c ps x y=>match bN g c,fL P g N x,fL P g N y with
  |some c',some x',some y'=>if x'.nd&&y'.nd then some (.pO c' ps.toList x' y') else none
  |_,_,_=>none
 |_=>none
def aJh(next:List AV->List gW->aB->Prop)(Q:AQ):AQ
 |.normal,s,ds,H=>next s ds H
 |e,s,ds,H=>Q e s ds H
def qU(id:Nat)(Q:AQ):AQ
 |.exit i,s,ds,H=>if i=id then Q .normal s ds H else Q (.exit i) s ds H
 |e,s,ds,H=>Q e s ds H
def rY(s:List AV):List (Nat×AV)->List AV
 |[]=>s
 |(t,v)::r=>rY (s.set t v) r
def YZ(id:Nat)(out:Out)(W:aB):AQ
 |.normal,_,ds,H=>ds=[]/\out=.ret (.bool true)/\∃k sn,H.get id=some (.loop k sn .busy)/\W=H.set id (.loop k sn .ready)
 |.ret,_,ds,H=>ds=[]/\out=.ret (.bool false)/\∃k sn,H.get id=some (.loop k sn .busy)/\W=H.set id (.loop k sn (.done .ret))
 |.exit i,_,ds,H=>ds=[]/\out=.ret (.bool false)/\∃k sn,H.get id=some (.loop k sn .busy)/\W=H.set id (.loop k sn (.done (.exit i)))
 |.panic _,_,_,_=>False
def aNs(A:LSt)(sn:List AV)(ds:List gW)(H:aB)(Q:AQ):Prop:=
 match A with
 |.ready=>Q .normal sn ds H
 |.done .ret=>Q .ret sn ds H
 |.done (.exit i)=>Q (.exit i) sn ds H
 |_=>False
def zH(y:aB)(id:Nat)(L:aB):Prop:=L.next=y.next/\∀m,L.get m=if m=id then some .dead else y.get m
def AC(P:Program)(g:bL):bX->List AV->List gW->aB->AQ->Prop
 |.skip,s,ds,H,Q=>Q .normal s ds H
 |.ops rl,s,ds,H,Q=>uK P g rl s ds H Q
 |.draw rl pairs,s,ds,H,Q=>(kb P g rl pairs s H fun l H'=>Q .normal l ds H')\/(PI P g rl pairs s H fun x l H'=>Q (.panic x) l ds H')\/PH P g rl pairs s H fun x H'=>∀l:List AV,l.length=s.length->(∀t,t∉rl.filterMap (·.dst)->l.getD t aC=s.getD t aC)->Q (.panic x) l ds H'
 |.seq a b,s,ds,H,Q=>AC P g a s ds H (aJh (fun s ds H=>AC P g b s ds H Q) Q)
 |.cond c a b,s,ds,H,Q=>∃t,c.eval g s=.bool t/\if t then AC P g a s ds H Q else AC P g b s ds H Q
 |.block id a,s,ds,H,Q=>AC P g a s ds H (qU id Q)
 |.loop a,s,ds,H,Q=>∃(I:Nat->List AV->List gW->aB->Prop) (n:Nat),I n s ds H/\
   ∀n s ds H,I n s ds H->AC P g a s ds H (aJh (fun s ds H=>∃m,m<n/\I m s ds H) Q)
 |.exit id,s,ds,H,Q=>Q (.exit id) s ds H
 |.ret,s,ds,H,Q=>Q .ret s ds H
 |.pO c ps MI body,s,ds,H,Q=>∃fid fs cs v y p l A L,c.eval g s=.func (.func fid) fs cs/\
   Sound P g fid (fs++[.yield (H.next+1)]++cs) ((H.alloc .AN).alloc (.loop ⟨ps,MI,body⟩ s .ready)) (.ret v) y/\y.get (H.next+1)=some (.loop p l A)/\zH y (H.next+1) L/\
   aNs A s (.mark H.next::ds) L Q
def PJ(P:Program)(g:bL)(k:HU)(s:List AV)(id:Nat)(args:List AV)(H2:aB)(out:Out)(W:aB):Prop:=
 AC P g k.MI (rY s (k.ps.zip args)) [] H2 fun e s1 N H1=>match e with
  |.normal=>N=[]/\∃k1 b,H1.get id=some (.loop k1 b .ready)/\AC P g k.body s1 [] (H1.set id (.loop k1 b .busy)) (YZ id out W)
  |_=>False
structure Fit (P:Program) (g:bL):Prop where
 mixed:P.follows .mixedOrders=true
 lok:∀k r,g.lok k r↔(r.params.toList=k.ps/\∃mu,fL P g mu r.assign=some k.MI/\fL P g mu r.body=some k.body/\k.MI.nd=true/\k.body.nd=true)
noncomputable def VM (p:Nat->Prop) (h:∃n,p n):Nat:=
 Classical.choose (show ∃n,p n/\∀m,p m->n<=m from by
  obtain⟨n,A⟩:=h
  induction n using Nat.strongRecOn with
  |_ n K=>
   by_cases R:∃m,m<n/\p m
   . obtain⟨m,t,a⟩:=R;exact K m t a
   exact⟨n,A,fun m t=>Jn fun r=>R ⟨m,r,t⟩⟩)
theorem Np(p:Nat->Prop)(h:∃n,p n):p (VM p h)/\∀m,p m->VM p h<=m:=Kc (VM._proof_1 p h)
variable{a:Act}{Q:Exit->Act->World->Prop}{c:Code}{w:World}{F:Fence}{n:Nat}
theorem Yy(h:c.wpIn F n P Q a w)(d:∀l a w,¬Q (.goto l) a w):(Code.scope c).wpIn F n P Q a w:=by
 intro b k cs f X V;obtain⟨e,s,w',D,g⟩:=h b (.inScope c::k) cs f X V;have O:step P (lone (b.atR a (.code (.scope c)::k)) cs w)=.next (lone (b.atR a (.code c::.inScope c::k)) cs w):=step_lone_go (by rfl);have Z:∀a w,step P (lone (b.atR a (.inScope c::k)) cs w)=.next (lone (b.atR a k) cs w):=fun a w=>step_lone_go (by rfl);refine⟨e,s,w',D,.of_steps (.one (fenced_calm X V rfl) O) ?_⟩
 cases e with
 |normal=>exact StepsIn.trans g (.one (fenced_calm X V rfl) (Z s w'))
 |exit id=>assumption
 |goto l=>grind
 |ret=>exact g
 |panic S=>exact g
 |outgrown=>exact g
theorem Yx{g:Nat}(I:Nat->Act->World->Prop){n:Nat}{a:Act}{w:World}(G:I n a w)
 (round:∀n a w,I n a w->c.wpIn F g P (Exit.then (fun s w'=>∃m,m<n/\I m s w') Q) a w):(Code.loop c).wpIn F g P Q a w:=by
 classical
 refine wpIn_loop (fun s w'=>∃m,I m s w') (fun s w'=>if h:∃m,I m s w' then VM (fun m=>I m s w') h else 0) ⟨n,G⟩ fun s w' b=>?_;have Z:=Np (fun m=>I m s w') b;refine wpIn_mono (round _ s w' Z.1) fun e a1 w1 D=>?_
 cases e with
 |normal=>obtain⟨m,t,O⟩:=D;have d:∃m,I m a1 w1:=⟨m,O⟩;refine⟨d,?_⟩;rw[dif_pos d,dif_pos b];exact Bv ((Np (fun m=>I m a1 w1) d).2 m O) t
 |_=>exact D
variable{G:Gh}
theorem QR.aOd{Q:AQ}{l:Nat}{w':World}:¬QR g G H w Q (.goto l) a w':=by rintro⟨z,b,V,H',E,_,_,_,_,_,C⟩;cases z<;>exact C.elim
theorem CG{mu:Bool}(hm:Fit P g):∀(c:Code) (ro:Option Nat) (ac:bX),fL P g mu c=some ac->(ro=none\/ac.nd=true)->∀(s:List AV) (ds:List gW) (G:Gh) (H:aB) (w:World) (a:Act) (Q:AQ),
 AC P g ac s ds H Q->WR g G H w->SR G w s a->UE G w ds a.defers->c.wpIn (Fw ro) 0 P (QR g G H w Q) a w:=by
 intro c
 induction c with
 |skip=>intro ro ac R CE s ds G H w a Q h L M hd;simp only[fL,Aj] at R;subst R;exact wpIn_skip ⟨.normal,s,ds,H,G,h,L,Ext.refl G H w,M,hd,trivial⟩
 |label l=>intro ro ac R CE s ds G H w a Q h L M hd;simp only[fL,Aj] at R;subst R;exact wpIn_label ⟨.normal,s,ds,H,G,h,L,Ext.refl G H w,M,hd,trivial⟩
 |region id aq aK=>
  intro ro ac R CE s ds G H w a Q h L M hd
  cases aK with
  |false=>
   simp only[fL,Ae] at R;obtain⟨rl,X,rfl⟩:=R;refine wpIn_region ?_
   have :=HP (ro:=ro) aq.toList rl 0 X (fun j Y=>by simp) (CE.imp (fun h=>h) fun h r hr f bl e=>by
    have :=Bi.1 h r hr
    rw[e] at this;cases this) s ds G H w a Q h L M hd
   rw[Ej] at this
   rwa [Ki]
  |true=>
   simp only[fL] at R;split at R
   . rename_i rl X;split at R
     . rename_i Om;obtain rfl:=Aa R;have hn:rl.length=aq.size:=by simpa using(AL _ _ X).1
       rcases h with h|⟨j,Hs,ss,vs,O,D,Z⟩|⟨j,jb,Hs,ss,vs,O,U,QH,yW,D,r,f,Ze,p,x,H1,e1,o,e3,e4,e5,e6⟩
       . obtain⟨Hs,ss,vs,D,N⟩:=kb.run h zg;exact IP hm.mixed X rfl (fun _ _ h _=>h) D (Mb hn Om) L M hd (fun _=>N) (fun j h=>by cases h)
       . refine IP hm.mixed X rfl (fun _ _ h _=>h) D (Mb hn Om) L M hd (fun h=>by cases h) (fun k hk=>by
          cases hk;have aA:=fh O;obtain⟨r,f,Ze,p,x,H1,e1,o,e3,e4,e5,e6⟩:=Z
          exact⟨fun k hk ak=>(aA k hk).1 ak,r,f,Ze,p,x,H1,e1,o,e3,e4,e5,fun s' _ _ DL=>by rw[DL fun k hk b6=>(aA k hk).2 b6];exact e6⟩)
       obtain⟨q1,q2⟩:=YI O
       refine IP hm.mixed X U.symm (fun i r F Y=>yW i r F ?_) D ((Mb hn Om).bSp QH) L M hd (fun h=>by cases h) (fun k hk=>by
        cases hk
        exact⟨fun k hk ak=>q1 k A0 ak,r,f,Ze,p,x,H1,yW _ _ e1 (.inl (Ad _)),o,e3,e4,e5,fun s' pK W _=>e6 s' (pK.trans (D.zC _ (by rw[U];exact Nat.le_of_lt (Bf.1 e1).1))) fun t hm=>by
         have cU:∀(i:Nat) (q:bH),jb[i]?=some q->q.dst≠some t:=fun i q F hq=>by
          obtain⟨B,h0,h⟩:=QH i q F;refine hm (Ix.2 ⟨B,List.mem_of_getElem? h0,?_⟩)
          rcases h with rfl|rfl<;>exact hq
         rw[W t cU,D.Yk cU (by rw[U];exact Nat.le_of_lt (Bf.1 e1).1)]⟩)
       by_cases BQ:i<=j
       . exact .inl BQ
       exact .inr (q2 i (Bf.1 F).1 A0 (Y j rfl))
     cases R
   cases R
 |seq x y ad ab=>
  intro ro ac R CE s ds G H w a Q h L M hd;simp only[fL] at R;split at R
  . rename_i ax ay a6 a7;obtain rfl:=Aa R;refine wpIn_seq (wpIn_mono (ad ro ax a6 (CE.imp (fun h=>h) fun h=>(Ak _ _▸h).1) s ds G H w a _ h L M hd) fun e a' w' hq=>?_);obtain⟨ae,s',V,H',E,q,oH,z,DL,T,C⟩:=hq
    cases e with
    |normal=>
     cases ae with
     |normal=>exact wpIn_mono (ab ro ay a7 (CE.imp (fun h=>h) fun h=>(Ak _ _▸h).2) s' V E H' w' a' Q q oH DL T) fun _ _ _ hq=>QR.trans z hq
     |_=>exact C.elim
    |_=>
     cases ae with
     |normal=>exact C.elim
     |_=>exact⟨_,s',V,H',E,q,oH,z,DL,T,C⟩
  cases R
 |cond c x y ad ab=>
  intro ro ac R CE s ds G H w a Q h L M hd;simp only[fL] at R;split at R
  . rename_i az ax ay bb a6 a7;obtain rfl:=Aa R;obtain⟨t,W,h⟩:=h;have hv:=bM L M bb;rw[W] at hv;refine wpIn_cond hv.lJ ?_
    cases t with
    |true=>exact ad ro ax a6 (CE.imp (fun h=>h) fun h=>(Ak _ _▸h).1) s ds G H w a Q h L M hd
    |false=>exact ab ro ay a7 (CE.imp (fun h=>h) fun h=>(Ak _ _▸h).2) s ds G H w a Q h L M hd
  cases R
 |block id x K=>
  intro ro ac R CE s ds G H w a Q h L M hd;simp only[fL,Ae] at R;obtain⟨ax,a6,rfl⟩:=R;refine wpIn_block (wpIn_mono (K ro ax a6 CE s ds G H w a _ h L M hd) fun e a' w' hq=>?_);obtain⟨ae,s',V,H',E,q,oH,z,DL,T,C⟩:=hq
  cases ae with
  |exit i=>
   cases e with
   |exit i'=>
    obtain rfl:i=i':=C;simp only[qU] at q;simp only[Exit.inBlock];split
    . rename_i F;rw[if_pos F] at q;exact⟨.normal,s',V,H',E,q,oH,z,DL,T,trivial⟩
    rename_i F;rw[if_neg F] at q;exact⟨.exit i,s',V,H',E,q,oH,z,DL,T,rfl⟩
   |_=>exact C.elim
  |normal=>
   cases e with
   |normal=>exact⟨.normal,s',V,H',E,q,oH,z,DL,T,trivial⟩
   |_=>exact C.elim
  |ret=>
   cases e with
   |ret=>exact⟨.ret,s',V,H',E,q,oH,z,DL,T,trivial⟩
   |_=>exact C.elim
  |panic v=>
   cases e with
   |panic ch=>exact⟨.panic v,s',V,H',E,q,oH,z,DL,T,C⟩
   |_=>exact C.elim
 |loop x K=>
  intro ro ac R CE s ds G H w a Q h L M hd;simp only[fL,Ae] at R;obtain⟨ax,a6,rfl⟩:=R;obtain⟨I,n,h0,hI⟩:=h;refine Yx (fun n a' w'=>∃s' V H' E,I n s' V H'/\WR g E H' w'/\Ext G H w E H' w'/\SR E w' s' a'/\UE E w' V a'.defers) ⟨s,ds,H,G,h0,L,Ext.refl G H w,M,hd⟩ fun n a1 w1 F=>?_;obtain⟨s1,oT,H1,G1,F,QH,ZF,b3,b8⟩:=F;refine wpIn_mono (K ro ax a6 CE s1 oT G1 H1 w1 a1 _ (hI n s1 oT H1 F) QH b3 b8) fun e a' w' hq=>?_;obtain⟨ae,s',V,H',E,q,oH,z,DL,T,C⟩:=hq
  cases e with
  |normal=>
   cases ae with
   |normal=>obtain⟨m,hm,rE⟩:=q;exact⟨m,hm,s',V,H',E,rE,oH,ZF.trans z,DL,T⟩
   |_=>exact C.elim
  |_=>
   cases ae with
   |normal=>exact C.elim
   |_=>exact⟨_,s',V,H',E,q,oH,ZF.trans z,DL,T,C⟩
 |scope x K=>intro ro ac R CE s ds G H w a Q h L M hd;exact Yy (K ro ac R CE s ds G H w a Q h L M hd) fun l a w=>QR.aOd
 |exit id=>intro ro ac R CE s ds G H w a Q h L M hd;simp only[fL,Aj] at R;subst R;exact wpIn_exit ⟨.exit id,s,ds,H,G,h,L,Ext.refl G H w,M,hd,rfl⟩
 |ret=>intro ro ac R CE s ds G H w a Q h L M hd;simp only[fL,Aj] at R;subst R;exact wpIn_ret ⟨.ret,s,ds,H,G,h,L,Ext.refl G H w,M,hd,trivial⟩
 |rangeFunc c ps x y ad ab=>
  intro ro ac R CE s ds G H w a Q h L M hd;simp only[fL] at R;split at R
  . rename_i c' ax ay b9 a6 a7;split at R
    . rename_i TQ;obtain rfl:=Aa R;rw[Ak] at TQ
      obtain rfl:ro=none:=CE.resolve_right fun h=>by cases h
      obtain⟨fid,fs,cs,v,He,k',s',A,Hf,d,hS,J,aO,N⟩:=h;have ar:=bM L M b9;rw[d] at ar;obtain⟨af,ag,b7,O,Z⟩:=IJ (p:=(fid,fs,cs)) rfl ar;refine wpIn_rangeFunc fun fn _=>?_;obtain⟨r,hr⟩:∃r:Loop,r={state:=.ready,pending:=none,fn,tmps:=a.tmps,params:=ps,assign:=x,body:=y,defers:=w.heap.size}:=⟨_,rfl⟩;have b5:oK r .ready=r:=by rw[hr];rfl
      have fresh:∀{G:Gh} {H:aB} {w:World},WR g G H w->G.loc H.next=none:=fun {G H w} L=>by
       cases U:G.loc H.next with
       |none=>rfl
       |some l'=>exact absurd (L.lt _ _ U) (Ff _)
      have m1:=L.FN H.next .AN (.deferred (some [])) rfl (fresh L) (aB.aJ H _) (Gm _) (Fa _) (w':=w.alloc (.deferred (some []))) ⟨rfl,.now⟩ (fun _=>by show(w.heap.push _)[w.heap.size]?=_;simp);have sO:SR (G.eG H.next ⟨w.heap.size,0,0,1⟩) (w.alloc (.deferred (some []))) s a:=M.ext (m1.ext (Ext.refl G H w) (Ad _))
      have m2:=m1.rel.FN (H.alloc .AN).next (.loop ⟨ps.toList,ax,ay⟩ s .ready) (.loop r) rfl (fresh m1.rel) (aB.aJ _ _) (Gm _) (Fa _) (w':=(w.alloc (.deferred (some []))).alloc (.loop r)) ⟨rfl,.now⟩ (fun aj=>by
       refine⟨r,(hm.lok _ _).2 ⟨by rw[hr],mu,by rw[hr];exact a6,by rw[hr];exact a7,TQ.1,TQ.2⟩,by rw[b5];exact GB (w.heap.push (.deferred (some []))) (.loop r),?_⟩;have b4:r.tmps=a.tmps:=(by rw[hr]);rw[b4]
       exact⟨sO.1,fun j Y=>aj _ _ (sO.2 j Y)⟩)
      have o:=m2.ext (m1.ext (Ext.refl G H w) (Ad _)) (Gm _);obtain⟨G2,an⟩:∃G2,G2=(G.eG H.next ⟨w.heap.size,0,0,1⟩).eG (H.alloc .AN).next ⟨(w.alloc (.deferred (some []))).heap.size,0,0,1⟩:=⟨_,rfl⟩
      have hL:G2.loc (H.next+1)=some ⟨w.heap.size+1,0,0,1⟩:=by rw[an];show(if H.next+1=H.next+1 then some (⟨(w.heap.push _).size,0,0,1⟩:Loc) else _)=_;simp
      have hD:G2.loc H.next=some ⟨w.heap.size,0,0,1⟩:=by rw[an];show(if H.next=H.next+1 then _ else if H.next=H.next then some (⟨w.heap.size,0,0,1⟩:Loc) else _)=_;rw[if_neg A0,if_pos rfl]
      have CA:=m2.rel;rw[<-an] at CA o;have bj:True:=trivial
      refine⟨w.heap.size+1,[{target:=.collected w.heap.size,args:= #[]}],_,{target:=.fn (.func fid) ag.toArray,args:=af.toArray++ #[.func (.yield (w.heap.size+1)) #[] #[]]},(w.alloc (.deferred (some []))).alloc (.loop {state:=.ready,pending:=none,fn,tmps:=a.tmps,params:=ps,assign:=x,body:=y,defers:=w.heap.size}),fid,_,_,
       run_enterLoop_outer _ _ _ _ _,?_,fun _ _=>trivial,pD hS.1 _ _ _,DX,?_⟩
      . simp only[resolve,rangeCall,b7];simp[Deferred.ofValue,Act.eval]
      rw[<-hr]
      have pL:jD G2 ((w.alloc (.deferred (some []))).alloc (.loop r)) (fs++[.yield (H.next+1)]++cs) (af++[.func (.yield (w.heap.size+1)) #[] #[]]++ag):=
       ((O.ext o).append ((VR.yield (H.next+1) _ hL).cons (jD.nil _ _))).append (Z.ext o)
      have GU:=hS.2 G2 _ _ CA pL;rw[show(af++[Value.func (.yield (w.heap.size+1)) #[] #[]]++ag).toArray=(af.toArray++ #[.func (.yield (w.heap.size+1)) #[] #[]])++ag.toArray by apply Array.ext';simp] at GU;refine(Pa GU).mono fun e w3 z=>?_;obtain⟨G3,b,S,tJ⟩:=z
      cases e with
      |panicked _=>exact tJ.elim
      |outgrown=>exact tJ.elim
      |returned u=>
       have aE:=S.loc _ _ hL;obtain⟨_,_,r3,bc,ba,aN⟩:=b.iT _ _ _ aE J rfl;have bf:=o.trans S
       have aF:∀(p:Option LEx),(oK r3 A).pending=p.map LEx.code->(oK r3 A).state≠ .busy->∃w4,(Instr.endLoop (w.heap.size+1)).run P w3=.ok (p.map LEx.code) w4/\
        WR g G3 Hf w4/\Ext G H w G3 Hf w4:=by
        intro p hp hb
        have h5:(Instr.endLoop (w.heap.size+1)).run P w3=.ok (p.map LEx.code) (w3.putObj (w.heap.size+1) (.loop {oK r3 A with state:=.exhausted})):=by have h5:=run_endLoop (P:=P) ba hb;rw[h5];exact Al (fun q=>Result.ok q _) hp
        obtain⟨q1,q2⟩:=b.JN (o':=.loop k' s' (.over p)) (x:=.loop {oK r3 A with state:=.exhausted}) (w':=w3.putObj (w.heap.size+1) (.loop {oK r3 A with state:=.exhausted})) aE J rfl rfl rfl .now (fun aj yX=>⟨r3,bc,by
         rw[yX];congr 2
         cases A<;>simp only[oK] at hp ⊢ <;>rw[hp],⟨aN.1,fun j Y=>aj _ _ (aN.2 j Y)⟩⟩)
        have hg:∀m,Hf.get m=((He.set (H.next+1) (.loop k' s' (.over p))).set (H.next+1) .dead).get m:=fun m=>by rw[aO.2,aB.aD,aB.aD];split<;>rfl
        have hn:Hf.next=((He.set (H.next+1) (.loop k' s' (.over p))).set (H.next+1) .dead).next:=aO.1;exact⟨_,h5,(q1.kill (H.next+1)).pJ (fun m _ _=>hg m) A0,((bf.trans q2).kill (H.next+1)).pJ (fun m _ _=>hg m) A0⟩
       have wz:∀{H4:aB} {w4:World},Ext G H w G3 H4 w4->SR G3 w4 s {a with defers:=[{target:=.collected w.heap.size,args:= #[]}]++a.defers}/\
        UE G3 w4 (.mark H.next::ds) ([{target:=.collected w.heap.size,args:= #[]}]++a.defers):=fun {H4 w4} ex=>
        ⟨M.ext ex,⟨_,S.loc _ _ hD,rfl⟩,hd.ext ex⟩
       cases A with
       |ready=>obtain⟨w4,h5,q1,q2⟩:=aF none rfl (by simp[oK]);exact⟨none,w4,h5,.normal,s,_,_,G3,N,q1,q2,(wz q2).1,(wz q2).2,trivial⟩
       |done e=>
        obtain⟨w4,h5,q1,q2⟩:=aF (some e) rfl (by simp[oK]);refine⟨_,w4,h5,?_⟩
        cases e with
        |ret=>exact wpIn_ret ⟨.ret,s,_,_,G3,N,q1,q2,(wz q2).1,(wz q2).2,trivial⟩
        |exit i=>exact wpIn_exit ⟨.exit i,s,_,_,G3,N,q1,q2,(wz q2).1,(wz q2).2,rfl⟩
       |busy=>exact N.elim
       |over _=>exact N.elim
    cases R
  cases R
 |_=>intro ro ac R;simp[fL] at R
theorem MT(hm:Fit P g){id:Nat}{k:HU}{s args:List AV}{H2 W:aB}{out:Out}(dB:H2.get id=some (.loop k s .ready))(Q:args.length=k.ps.length)
 (n:PJ P g k s id args H2 out W):mS P g id args H2 out W:=by
 intro E w' vs l' oH J pK;obtain⟨_,_,r,L,B,an⟩:=oH.iT _ l' _ pK dB rfl;obtain⟨ad,mu,f,ay,y⟩:=(hm.lok _ _).1 L;have F:=J.1;have hy:=run_yield (P:=P) (args:=vs.toArray) B (by rw[<-F] at Q;show vs.toArray.size=r.params.size;rw[<-Ej (xs:=r.params),ad];simpa using Q);refine⟨_,_,_,_,hy,roundIn_of_wpIn trivial ?_⟩
 have az:SR E w' (rY s (k.ps.zip args)) {tmps:=(r.params.zip vs.toArray).foldl (fun tmps (t,a)=>tmps.setIfInBounds t a) r.tmps,defers:=[]}:=by
  have key:∀(l:List Nat) (X:List AV) (us:List Value) (s0:List AV) (tm:Array Value),jD E w' X us->jD E w' s0 tm.toList->
   jD E w' (rY s0 (l.zip X)) ((l.zip us).foldl (fun tmps (t,a)=>tmps.setIfInBounds t a) tm).toList:=by
   intro l
   induction l with
   |nil=>intro X us s0 tm _ G;simpa [rY] using G
   |cons t l K=>
    intro X us s0 tm I G
    cases X with
    |nil=>have :=I.1;simp only[Bo,Jo] at this;subst this;simpa [rY] using G
    |cons v X=>
     cases us with
     |nil=>have :=I.1;simp at this
     |cons u us=>have Z:=I.2 0 A3;have ta:jD E w' X us:=⟨by have :=I.1;simpa using this,fun j Y=>by have :=I.2 (j+1) ZaV;simpa using this⟩;refine K X us _ _ ta ?_;exact(SR.put (a:={tmps:=tm,defers:=[]}) G (some t) Z:_)
  have :=key k.ps args vs s r.tmps J an;rw[<-Array.foldl_toList,Array.toList_zip,ad];exact this
 refine wpIn_mono (CG hm _ (some l'.dE) _ f (.inr y.1) _ [] E H2 w' _ _ n oH az trivial) fun e a1 w1 D=>?_;obtain⟨z,s1,N,H1,G1,q,M,V,O,U,C⟩:=D
 cases z with
 |normal=>
  cases e with
  |normal=>
   obtain⟨aq,k1,qm,ak,Py⟩:=q;subst aq;have H:=V.loc _ _ pK;obtain⟨_,_,r1,aE,AB,aj⟩:=M.iT _ _ _ H ak rfl;obtain⟨q1,q2⟩:=M.JN (o':=.loop k1 qm .busy) (x:=.loop {oK r1 .ready with state:=.busy}) (w':=w1.putObj l'.dE (.loop {oK r1 .ready with state:=.busy})) H ak rfl rfl rfl .now (fun a7 yX=>⟨r1,aE,yX,⟨aj.1,fun j Y=>a7 _ _ (aj.2 j Y)⟩⟩);refine⟨_,run_beginRound AB rfl,?_⟩
   have aF:a1.defers=[]:=by
    cases xm:a1.defers with
    |nil=>rfl
    |cons d r=>rw[xm] at U;exact U.elim
   refine wpIn_mono (CG hm _ (some l'.dE) _ ay (.inr y.2) s1 [] G1 _ _ a1 _ Py q1 (O.ext q2) (by rw[aF];trivial)) fun e a2 R D=>?_;obtain⟨z,s2,Uj,H4,G4,q,ab,af,aN,aO,C⟩:=D;have aK:=(V.trans q2).trans af;have T:=(q2.trans af).loc _ _ H
   have p:∀(A:LSt) (b:Bool) (h:Option Code),(∃k4 a6,H4.get id=some (.loop k4 a6 .busy)/\W=H4.set id (.loop k4 a6 A))->out=.ret (.bool b)->h.isNone=b->
    (∀r q:Loop,q=oK r .busy->{q with state:=if h.isNone then .ready else .done,pending:=h}=oK r A)->
    ∃v m,(Instr.endRound l'.dE h).run P R=.ok v m/\∃c,WR g c W m/\Ext E H2 w' c W m/\ZU c m out (.returned v):=by
    intro A b h ⟨k4,a6,o,h3⟩ S Y hla;obtain⟨_,_,r4,aA,ar,ag⟩:=ab.iT _ _ _ T o rfl;have w:=run_endRound (P:=P) h ar;rw[hla r4 _ rfl] at w;obtain⟨p1,p2⟩:=ab.JN (o':=.loop k4 a6 A) (x:=.loop (oK r4 A)) (w':=R.putObj l'.dE (.loop (oK r4 A))) T o rfl rfl rfl .now (fun a7 yX=>⟨r4,aA,yX,⟨ag.1,fun j Y=>a7 _ _ (ag.2 j Y)⟩⟩);refine⟨_,_,w,G4,by rw[h3];exact p1,by rw[h3];exact aK.trans p2,?_⟩;rw[S,Y];exact .bool b
   cases z with
   |normal=>
    cases e with
    |normal=>obtain⟨_,S,o⟩:=q;exact p .ready true none o S rfl (fun r q D=>by subst D;rfl)
    |_=>exact C.elim
   |ret=>
    cases e with
    |ret=>obtain⟨_,S,o⟩:=q;exact p (.done .ret) false (some .ret) o S rfl (fun r q D=>by subst D;rfl)
    |_=>exact C.elim
   |exit i=>
    cases e with
    |exit j=>obtain rfl:i=j:=C;obtain⟨_,S,o⟩:=q;exact p (.done (.exit i)) false (some (.exit i)) o S rfl (fun r q D=>by subst D;rfl)
    |_=>exact C.elim
   |panic v=>exact q.elim
  |_=>exact C.elim
 |_=>exact q.elim
inductive KA where
 |tmp (t:Nat)
 |cell (a:Nat) (agg:Bool) (n:Nat)
def aCz(P:Program):ResultVar->Option KA
 |.tmp t=>some (.tmp t)
 |.cell a t=>match gR P t,lV P t with
  |some agg,some n=>some (.cell a agg n)
  |_,_=>none
def wM(P:Program):List ResultVar->Option (List KA)
 |[]=>some []
 |x::r=>match aCz P x,wM P r with
  |some y,some ys=>some (y::ys)
  |_,_=>none
def aAc(s:List AV)(H:aB):KA->Option AV
 |.tmp t=>some (s.getD t aC)
 |.cell a agg n=>match dU (Arg.eval g0 s) H (.load agg n (.tmp a)) with
  |some (v,_)=>some v
  |none=>none
def rA(s:List AV)(H:aB):List KA->Option (List AV)
 |[]=>some []
 |x::r=>match aAc s H x,rA s H r with
  |some v,some vs=>some (v::vs)
  |_,_=>none
def nJ:List AV->AV
 |[v]=>v
 |vs=>.iV vs
structure CC where
 ntmps:Nat
 results:List KA
 body:bX
def gX(P:Program)(g:bL)(mu:Bool)(f:FuncId)(F:CC):Prop:=
 ∃fn c,P.funcs[f]?=some fn/\fn.body=some c/\(fn.name== "runtime.NumGoroutine")=false/\fL P g mu c=some F.body/\fn.ntmps=F.ntmps/\wM P fn.results.toList=some F.results
variable{N:Bool}{f:FuncId}
theorem gX.ok{F:CC}(h:gX P g N f F):CI P f:=
 let⟨fn,c,O,Z,B,_⟩:=h
 ⟨fn,O,by grind,B⟩
def sC(F:CC)(args:List AV):List AV:=args++List.replicate (F.ntmps -args.length) aC
def aPy(F:CC)(R:Out->aB->Prop):AQ
 |.normal,s,ds,H|.ret,s,ds,H=>ds=[]/\∃vs,rA s H F.results=some vs/\R (.ret (nJ vs)) H
 |.panic v,_,ds,H=>ds=[]/\R (.Lo v) H
 |.exit _,_,_,_=>False
theorem aIc{x:Nat}{t:TypeId}{e:Bool}(m:gR P t=some e)(o:lV P t=some n)
 {v:AV} {H':aB} (L:WR g G H w) (M:SR G w s a) (h:dU (Arg.eval g0 s) H (.load e n (.tmp x))=some (v,H')):
 ∃C u,a.tmps.getD x undef=.pointer (some C)/\(loadVar t C).run P w=.ok u w/\VR G w v u:=by
 have K:=M.getD x
 have p:∀(b o':Nat) (cs:List AV),a.tmps.getD x undef=.pointer (some ⟨b,o',none⟩)->n=cs.length->(∀c∈cs,c.one=true)->(e=false->n=1)->
  (∀j,j<n->∃u,w.cell? ⟨b,o'+j,none⟩=some u/\VR G w (cs.getD j aC) u)->
  ∃C u,a.tmps.getD x undef=.pointer (some C)/\(loadVar t C).run P w=.ok u w/\VR G w (if e then .agg cs else cs.getD 0 aC) u:=by
  intro b o' cs z U O A R;obtain⟨u,V,J⟩:=Lx (P:=P) m o U O A R;exact⟨_,u,z,V,J⟩
 simp only[dU,Arg.eval] at h;generalize q:a.tmps.getD x undef=i at K p;split at h
 . rename_i id off f;rw[f] at K;split at h
   . rename_i cs F;obtain⟨r,d⟩:=aB.qL F;split at h
     . rename_i y
       cases K with
       |ref _ _ l U=>
        have h4:=(L.cells id l cs r U d).2.2.2.1;have k:=NG L U d y;have Q:n=((cs.drop off).take n).length:=Zag;have W:∀c∈(cs.drop off).take n,c.one=true:=fun c R=>h4 c (Gz (Cu R));split at h
        . rename_i T;simp only[Aj,An] at h;exact Zbi
        rename_i T;split at h
        . rename_i A;simp only[Aj,An] at h;obtain⟨rfl,rfl⟩:=h;have :=p _ _ _ rfl Q W (fun _=>A) k
          rwa [if_neg T,qO _ _ _ _ _ A0,Cv] at this
        cases h
     cases h
   cases h
 . rename_i cs f;rw[f] at K;split at h
   . cases K with
     |pl _ b o' us X J=>
      have k:∀j,j<n->∃u,w.cell? ⟨b,o'+j,none⟩=some u/\VR G w ((cs.take n).getD j aC) u:=fun j Y=>by rw[getD_take _ _ _ _ Y];exact⟨us j,(X j A0).2.1,J j A0⟩
      have Q:n=(cs.take n).length:=by simp;omega
      have W:∀c∈cs.take n,c.one=true:=fun c R=>by obtain⟨j,Y,rfl⟩:=Hd.1 (Cu R);have :=(X j Y).2.2;simpa [getD_eq,Ai Y] using this
      split at h
      . rename_i T;exact Zbi
      rename_i T;split at h
      . rename_i A;obtain⟨rfl,rfl⟩:=h;have :=p _ _ _ rfl Q W (fun _=>A) k
        rwa [if_neg T,getD_take _ _ _ _ A0] at this
      cases h
   cases h
 cases h
def Va(tmps:Array Value):ResultVar->Sem Value
 |.tmp t=>pure (tmps.getD t undef)
 |.cell a t=>do loadVar t (←asAddr (tmps.getD a undef))
theorem Lw{P:Program}{g:bL}{G:Gh}{H:aB}{w:World}{s:List AV}{a:Act}(L:WR g G H w)(M:SR G w s a):∀(l:List ResultVar) (rl:List KA) (vs:List AV),wM P l=some rl->rA s H rl=some vs->
 ∃us:List Value,(l.mapM (Va a.tmps)).run P w=Result.ok us w/\jD G w vs us
 |[],rl,vs,hr,h=>by obtain rfl:=Aa hr;obtain rfl:=Aa h;exact⟨[],by simp,jD.nil G w⟩
 |x::l,rl,vs,hr,h=>by
  unfold wM at hr;split at hr
  . rename_i y ys Q E;obtain rfl:=Aa hr;unfold rA at h;split at h
    . rename_i v i J I;obtain rfl:=Aa h;obtain⟨us,O,Z⟩:=Lw L M l ys i E I
      cases x with
      |tmp t=>obtain rfl:=Aa Q;obtain rfl:=Aa J;exact⟨a.tmps.getD t undef::us,by simp[O,Va],jD.cons (M.getD t) Z⟩
      |cell b t=>
       simp only[aCz] at Q;split at Q
       . rename_i e n m A;obtain rfl:=Aa Q;simp only[aAc] at J;split at J
         . rename_i q H' R;obtain rfl:=Aa J;obtain⟨c,u,T,o,C⟩:=aIc m A L M R;refine⟨u::us,?_,jD.cons C Z⟩;simp only[List.mapM_cons,Va,Sem.run_bind,T,asAddr,Sem.run_pure,Result.andThen_ok,o,O]
         grind
       grind
    grind
  grind
theorem OB{fn:Func}{rl:List KA}{vs:List AV}(L:WR g G H w)(M:SR G w s a)(V:wM P fn.results.toList=some rl)(h:rA s H rl=some vs):
 ∃u,(results fn a.tmps).run P w=.ok u w/\VR G w (nJ vs) u:=by
 obtain⟨us,O,Z⟩:=Lw L M _ _ _ V h
 have key:(results fn a.tmps).run P w=.ok (if h:us.toArray.size=1 then us.toArray[0] else .tuple us.toArray) w:=by
  have n:results fn a.tmps=(fn.results.mapM (Va a.tmps)>>= fun vs=>pure (if h:vs.size=1 then vs[0] else .tuple vs)):=by rfl
  rw[n];rw[Array.mapM_eq_mapM_toList];simp_all
 refine⟨_,key,?_⟩;have U:=Z.1
 cases vs with
 |nil=>obtain rfl:us=[]:=Jo.1 U;exact VR.oQ G w
 |cons v vs=>
  cases us with
  |nil=>grind
  |cons u us=>
   cases vs with
   |nil=>simp at U;subst U;have :=Z.2 0 A3;assumption
   |cons v2 vs=>
    cases us with
    |nil=>grind
    |cons j us=>exact VR.iV _ _ Z.1 Z.2
def MS(P:Program)(g:bL)(f:FuncId)(args:List AV)(H:aB)(R:Out->aB->Prop):Prop:=
 CI P f/\∀(G:Gh) (w:World) (vs:List Value),WR g G H w->jD G w args vs->
  Calls P f vs.toArray w fun e w'=>∃out H' E,R out H'/\WR g E H' w'/\Ext G H w E H' w'/\ZU E w' out e
theorem KI(t:Fit P g){f:FuncId}{F:CC}(s:gX P g N f F){args:List AV}{H:aB}{R:Out->aB->Prop}
 (h:AC P g F.body (sC F args) [] H (aPy F R)):MS P g f args H R:=by
 refine⟨s.ok,fun G w vs L J=>?_⟩;obtain⟨fn,c,O,Z,_,K,h4,M⟩:=s;refine calls_of_wp O Z (wp_mono (wpIn_wide.1 (CG t c none F.body K (.inl rfl) _ [] G H w _ _ h L ?_ trivial)) fun e a w' D=>?_)
 . have Q:=J.1;show jD G w _ _;exact ZaR
 obtain⟨W,l,V,H1,E,q,I,z,y,T,C⟩:=D
 have b:V=[]->a.defers=[]:=fun X=>by
  subst X
  cases U:a.defers with
  |nil=>rfl
  |cons d r=>rw[U] at T;exact T.elim
 have p:∀o,(V=[]/\∃vs,rA l H1 F.results=some vs/\R (.ret (nJ vs)) H1)->
  (o=Exit.normal\/o=Exit.ret)->bodyPost P fn (fun e w'=>∃out H' E,R out H'/\WR g E H' w'/\Ext G H w E H' w'/\ZU E w' out e) o a w':=by
  rintro o ⟨k,i,x,n⟩ A;obtain⟨u,B,m⟩:=OB I y M x
  rcases A with rfl|rfl
  all_goals exact⟨b k,u,B,_,_,E,n,I,z,m⟩
 cases W with
 |normal=>
  cases e with
  |normal=>exact p _ q (.inl rfl)
  |_=>exact C.elim
 |ret=>
  cases e with
  |ret=>exact p _ q (.inr rfl)
  |_=>exact C.elim
 |exit id=>exact q.elim
 |panic v=>
  cases e with
  |panic S=>obtain⟨k,n⟩:=q;exact⟨b k,_,_,E,n,I,z,C⟩
  |_=>exact C.elim
variable{args:List AV}{out:Out}
theorem MS.exact(h:MS P g f args H fun o h=>o=out/\h=H'):Sound P g f args H out H':=
 ⟨h.1,fun G w vs L J=>(h.2 G w vs L J).mono fun e w' ⟨_,_,E,⟨T,a⟩,O,Z,B⟩=>⟨E,a▸O,a▸Z,T▸B⟩⟩
theorem Sound.open(h:Sound P g f args H out H'):MS P g f args H fun o h=>o=out/\h=H':=
 ⟨h.1,fun G w vs L J=>(h.2 G w vs L J).mono fun e w' ⟨E,O,Z,B⟩=>⟨_,_,E,⟨rfl,rfl⟩,O,Z,B⟩⟩
theorem Wd(t:Fit P g){f:FuncId}{F:CC}(u:gX P g N f F){args:List AV}{H H':aB}{out:Out}
 (h:AC P g F.body (sC F args) [] H (aPy F fun o h=>o=out/\h=H')):Sound P g f args H out H':=(KI t u h).exact
end Go.Av
