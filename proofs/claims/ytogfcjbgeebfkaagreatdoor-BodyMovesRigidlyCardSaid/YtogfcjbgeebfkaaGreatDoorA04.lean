/-
  Part of the proof of statement 9
-/
import Derived.Test.YtogfcjbgeebfkaaGreatDoorA03
import Derived.Laws.Sem
set_option linter.unusedVariables false
set_option linter.unusedSimpArgs false
set_option linter.unusedSectionVars false
namespace Go.Av
open Go
def Nq(P:Program)(g:bL)(r:bG)(s:List AV)(H:aA)(v:AV)(H':aA):Prop:=
 match r.op with
 |.call f azs=>∃p,nH (f.eval g s)=some p/\Sound P g p.1 (p.2.1++azs.map (Arg.eval g s)++p.2.2) H (.ret v) H'
 |.panic _|.nD _ _=>False
 |op=>dS (Arg.eval g s) H op=some (v,H')
def Wb(P:Program)(g:bL)(pairs:List (Nat×Nat))(base:Nat):Nat->Nat->List bG->List (Nat×Nat)->List (Nat×aA×aA)->List AV->aA->(List AV->aA->Prop)->Prop
 |_,_,[],_,_,s,H,Q=>Q s H
 |i,k,r::rs,rd,ef,s,H,Q=>
  if bU s r then
   if r.op.fresh then
    ∃T val,CS (Arg.eval g s) r.op=some (T,val)/\(∀x∈ef,(i,x.1)∈pairs->x.2.1.get (base+k)=x.2.2.get (base+k))/\
     Wb P g pairs base (i+1) (k+1) rs ((i,base+k)::rd) ef (oR s r.dst (val (base+k))) (H.set (base+k) T) Q
   else if r.op.rR then
    ∃v H',Nq P g r s H v H'/\H.next<=H'.next/\(∀x∈rd,(x.1,i)∈pairs->H.get x.2=H'.get x.2)/\
     Wb P g pairs base (i+1) k rs rd ((i,H,H')::ef) (oR s r.dst v) H' Q
   else
    ∃v,Nq P g r s H v H/\(∀id,r.op.dL (Arg.eval g s)=some id->∀x∈ef,(i,x.1)∈pairs->x.2.1.get id=x.2.2.get id)/\
     Wb P g pairs base (i+1) k rs (match r.op.dL (Arg.eval g s) with|some id=>(i,id)::rd|none=>rd) ef (oR s r.dst v) H Q
  else Wb P g pairs base (i+1) (if r.op.fresh then k+1 else k) rs rd ef (oR s r.dst aB) H Q
structure Wg (P:Program) (g:bL) (pairs:List (Nat×Nat)) (base i k:Nat) (rs:List bG) (rd:List (Nat×Nat)) (ef:List (Nat×aA×aA)) (s:List AV) (H:aA) (Q:List AV->aA->Prop)
 (Hs:Nat->aA) (ss:Nat->List AV) (vs:Nat->AV):Prop where
 h0:Hs 0=H
 s0:ss 0=s
 fin:Q (ss rs.length) (Hs rs.length)
 step:∀(j:Nat) (r:bG),rs[j]?=some r->DStep P g false (base+(k+iV rs j)) r (ss j) (Hs j) (vs j) (Hs (j+1))/\ss (j+1)=oR (ss j) r.dst (vs j)
 mono:∀(j:Nat) (r:bG),rs[j]?=some r->r.op.rR=true->(Hs j).next<=(Hs (j+1)).next
 WZ:∀x∈rd,∀(e:Nat) (re:bG),rs[e]?=some re->re.op.rR=true->bU (ss e) re=true->(x.1,i+e)∈pairs->(Hs e).get x.2=(Hs (e+1)).get x.2
 new:∀x∈ef,∀(j:Nat) (r:bG),rs[j]?=some r->bU (ss j) r=true->(i+j,x.1)∈pairs->
  ∀id,(r.op.dL (Arg.eval g (ss j))=some id\/(r.op.fresh=true/\id=base+(k+iV rs j)))->x.2.1.get id=x.2.2.get id
 both:∀(j e:Nat) (rj re:bG),rs[j]?=some rj->rs[e]?=some re->re.op.rR=true->bU (ss j) rj=true->bU (ss e) re=true->(i+j,i+e)∈pairs->
  ∀id,(rj.op.dL (Arg.eval g (ss j))=some id\/(rj.op.fresh=true/\id=base+(k+iV rs j)))->(Hs e).get id=(Hs (e+1)).get id
theorem SN(r:bG)(X:List bG)(j:Nat):iV (r::X) (j+1)=(if r.op.fresh then 1 else 0)+iV X j:=by grind[iV]
def aEf{α:Type}(x:α)(f:Nat->α):Nat->α
 |0=>x
 |n+1=>f n
variable{P:Program}{g:bL}{pairs:List (Nat×Nat)}{r:bG}{s:List AV}{H H':aA}{Q:List AV->aA->Prop}{v:AV}
theorem Wg.cons{base i k:Nat}{X:List bG}{a y:List (Nat×Nat)}{p h:List (Nat×aA×aA)}
 {o:Nat->aA} {c:Nat->List AV} {vs:Nat->AV} 
 (R:Wg P g pairs base (i+1) (if r.op.fresh then k+1 else k) X y h (oR s r.dst v) H' Q o c vs)
 (A:DStep P g false (base+k) r s H v H') (N:r.op.rR=true->H.next<=H'.next)
 (t:∀x∈a,x∈y) (G:∀x∈p,x∈h)
 (J:bU s r=true->∀id,(r.op.dL (Arg.eval g s)=some id\/(r.op.fresh=true/\id=base+k))->(i,id)∈y)
 (K:bU s r=true->r.op.rR=true->(i,H,H')∈h)
 (I:∀x∈a,r.op.rR=true->bU s r=true->(x.1,i)∈pairs->H.get x.2=H'.get x.2)
 (n:∀x∈p,bU s r=true->(i,x.1)∈pairs->∀id,(r.op.dL (Arg.eval g s)=some id\/(r.op.fresh=true/\id=base+k))->x.2.1.get id=x.2.2.get id):
 Wg P g pairs base i k (r::X) a p s H Q (aEf H o) (aEf s c) (aEf v vs):=by
 have E:∀j,base+((if r.op.fresh then k+1 else k)+iV X j)=base+(k+iV (r::X) (j+1)):=fun j=>by rw[SN];split<;>omega
 have F:∀j,i+1+j=i+(j+1):=fun j=>by omega
 refine⟨rfl,rfl,R.fin,fun j q D=>?_,fun j q D B=>?_,fun x C e b B f L m=>?_,fun x C j q D L m id d=>?_,fun j e l b Y B f z w m id d=>?_⟩
 . cases j with
   |zero=>simp at D;subst D;refine⟨?_,R.s0⟩;show DStep P g false (base+(k+iV (r::X) 0)) r s H v (o 0);rw[R.h0];exact A
   |succ j=>have :=R.step j q (by simpa using D);rw[E] at this;exact this
 . cases j with
   |zero=>simp at D;subst D;show H.next<=(o 0).next;rw[R.h0];exact N B
   |succ j=>exact R.mono j q (by simpa using D) B
 . cases e with
   |zero=>simp at B;subst B;show H.get x.2=(o 0).get x.2;rw[R.h0];exact I x C f L m
   |succ e=>exact R.WZ x (t x C) e b ZbY f L ZcA
 . cases j with
   |zero=>simp at D;subst D;exact n x C L m id d
   |succ j=>refine R.new x (G x C) j q (by simpa using D) L ZcA id ?_;rw[E];exact d
 cases j with
 |zero=>
  simp at Y;subst Y
  cases e with
  |zero=>grind[yP,mZ,pA]
  |succ e=>exact R.WZ (i,id) (J z id d) e b ZbY f w ZcA
 |succ j=>
  have u:l.op.dL (Arg.eval g (c j))=some id\/(l.op.fresh=true/\id=base+((if r.op.fresh then k+1 else k)+iV X j)):=by rw[E];exact d
  cases e with
  |zero=>simp at B;subst B;show H.get id=(o 0).get id;rw[R.h0];exact R.new (i,H,H') (K w f) j l Za0 z ZcA id u
  |succ e=>exact R.both j e l b Za0 ZbY f z w (by rw[F,F];exact m) id u
theorem Nq.aRs{id:Nat}(h:Nq P g r s H v H')(L:bU s r=true)(N:r.op.fresh=false):DStep P g false id r s H v H':=by unfold DStep;rw[if_pos L,if_neg (by grind)];exact h
theorem KJ{P:Program}{g:bL}{pairs:List (Nat×Nat)}{base:Nat}{Q:List AV->aA->Prop}:∀(X:List bG) (i k:Nat) (a:List (Nat×Nat)) (p:List (Nat×aA×aA)) (s:List AV) (H:aA),
 Wb P g pairs base i k X a p s H Q->∃o c vs,Wg P g pairs base i k X a p s H Q o c vs
 |[],i,k,a,p,s,H,h=>⟨fun _=>H,fun _=>s,fun _=>aB,rfl,rfl,h,fun j r Y=>by simp at Y,fun j r Y=>by simp at Y,fun x C e b B=>by simp at B,fun x C e b B=>by simp at B,fun j e l b Y=>by simp at Y⟩
 |r::X,i,k,a,p,s,H,h=>by
  unfold Wb at h;by_cases L:bU s r=true
  . rw[if_pos L] at h;by_cases N:r.op.fresh=true
    . rw[if_pos N] at h;obtain⟨T,val,O,Z,W⟩:=h;obtain⟨o,c,vs,R⟩:=KJ X _ _ _ _ _ _ W;have E:(if r.op.fresh then k+1 else k)=k+1:=(by rw[if_pos N]);refine⟨_,_,_,Wg.cons (v:=val (base+k)) (by rw[E];exact R) ?_ (fun B=>by rw[pA N] at B;cases B) (fun x C=>As _ C) (fun x C=>C) (fun _ id hid=>?_) (fun _ B=>by rw[pA N] at B;cases B) (fun x _ B=>by rw[pA N] at B;cases B) (fun x C _ m id hid=>?_)⟩
      . grind[DStep]
      . rcases hid with hid|hid
        . have :=mZ hid
          grind[CP]
        rw[hid.2];exact Az
      rcases hid with hid|hid
      . have :=mZ hid
        grind[CP]
      rw[hid.2];exact Z x C m
    rw[if_neg N] at h;have D:r.op.fresh=false:=(by simpa using N);have E:(if r.op.fresh then k+1 else k)=k:=(by rw[if_neg N]);by_cases B:r.op.rR=true
    . rw[if_pos B] at h;obtain⟨v,H',O,Z,W,h4⟩:=h;obtain⟨o,c,vs,R⟩:=KJ X _ _ _ _ _ _ h4;refine⟨_,_,_,Wg.cons (v:=v) (by rw[E];exact R) (O.aRs L D) (fun _=>Z) (fun x C=>C) (fun x C=>As _ C) (fun _ id hid=>?_) (fun _ _=>Az) (fun x C _ _ m=>W x C m) (fun x C _ m id hid=>?_)⟩
      all_goals grind[yP,mZ]
    rw[if_neg B] at h;obtain⟨v,O,Z,W⟩:=h;obtain⟨o,c,vs,R⟩:=KJ X _ _ _ _ _ _ W;refine⟨_,_,_,Wg.cons (v:=v) (by rw[E];exact R) (O.aRs L D) (fun A=>absurd A B) (fun x C=>?_) (fun x C=>C) (fun _ id hid=>?_) (fun _ A=>absurd A B) (fun x _ A=>absurd A B) (fun x C _ m id hid=>?_)⟩
    all_goals grind
  rw[if_neg L] at h;obtain⟨o,c,vs,R⟩:=KJ X _ _ _ _ _ _ h;refine⟨_,_,_,Wg.cons (v:=aB) R ?_ (fun _=>Ae _) (fun x C=>C) (fun x C=>C) (fun I=>absurd I L) (fun I=>absurd I L) (fun x _ _ I=>absurd I L) (fun x _ I=>absurd I L)⟩
  grind[DStep]
def qV(H:aA):Nat->Bool
 |0=>true
 |n+1=>qV H n&&(H.get (H.next+n)).isNone
theorem QJ{H:aA}:∀{n:Nat},qV H n=true->∀k,k<n->H.get (H.next+k)=none
 |0,_,k,hk=>absurd hk (Al k)
 |n+1,h,k,hk=>by
  simp only[qV,Ak,Option.isNone_iff_eq_none] at h;by_cases I:k=n
  . grind
  exact QJ h.1 k A0
def kp(P:Program)(g:bL)(rl:List bG)(pairs:List (Nat×Nat))(s:List AV)(H:aA)(Q:List AV->aA->Prop):Prop:=
 qV H (rl.countP (·.op.fresh))=true/\Wb P g pairs H.next 0 0 rl [] [] s {H with next:=H.next+rl.countP (·.op.fresh)} Q
variable{rl:List bG}
theorem kp.run(h:kp P g rl pairs s H Q)
 (m:∀i e,(i,e)∈pairs->∀b,rl[e]?=some b->b.op.rR=true):
 ∃o c vs,dR P g rl none pairs s H o c vs/\Q (c rl.length) (o rl.length):=by
 obtain⟨o,c,vs,R⟩:=KJ _ _ _ _ _ _ _ h.2;refine⟨o,c,vs,⟨R.s0,R.h0,QJ h.1,fun i r F=>?_,R.mono,fun i e a n b F B v w id d=>?_⟩,R.fin⟩
 . have :=R.step i r F
   grind
 refine R.both i e n b F B (m i e a b B) v w (by grind) id ?_
 grind
def PU(P:Program)(g:bL)(rl:List bG)(pairs:List (Nat×Nat))(s:List AV)(H:aA)(E:AV->List AV->aA->Prop):Prop:=
 ∃j o c vs,(j,rl.length)∈pairs/\dR P g rl (some j) pairs s H o c vs/\
 ∃r f K p x H1,rl[j]?=some r/\r.op=.call f K/\bU (c j) r=true/\nH (f.eval g (c j))=some p/\
  Sound P g p.1 (p.2.1++K.map (Arg.eval g (c j))++p.2.2) (o j) (.MD x) H1/\E x (c j) H1
theorem PU.mono{E i:AV->List AV->aA->Prop}(h:PU P g rl pairs s H E)(B:∀x s H,E x s H->i x s H):PU P g rl pairs s H i:=
 let⟨j,o,c,vs,O,Z,r,f,K,p,x,H1,T,b,a,U,u,v⟩:=h
 ⟨j,o,c,vs,O,Z,r,f,K,p,x,H1,T,b,a,U,u,B _ _ _ v⟩
def PT(P:Program)(g:bL)(rl:List bG)(pairs:List (Nat×Nat))(s:List AV)(H:aA)(E:AV->aA->Prop):Prop:=
 ∃(j:Nat) (a:List bG) (o:Nat->aA) (c:Nat->List AV) (vs:Nat->AV),(j,rl.length+1)∈pairs/\a.length=rl.length/\(∀(i:Nat) (S:bG),a[i]?=some S->∃r:bG,rl[i]?=some r/\(S=r\/S=⟨r.dst,.wE (.const aB),none⟩))/\(∀(i:Nat) (r:bG),rl[i]?=some r->i<=j\/(j,rl.length+2+i)∈pairs->a[i]?=some r)/\
 dR P g a (some j) pairs s H o c vs/\
 ∃r f K p x H1,rl[j]?=some r/\r.op=.call f K/\bU (c j) r=true/\nH (f.eval g (c j))=some p/\
  Sound P g p.1 (p.2.1++K.map (Arg.eval g (c j))++p.2.2) (o j) (.MD x) H1/\E x H1
theorem PT.mono{E i:AV->aA->Prop}(h:PT P g rl pairs s H E)(B:∀x H,E x H->i x H):PT P g rl pairs s H i:=
 let⟨j,a,o,c,vs,O,Z,W,h4,D,r,f,K,p,x,H1,T,d,b,U,u,v⟩:=h
 ⟨j,a,o,c,vs,O,Z,W,h4,D,r,f,K,p,x,H1,T,d,b,U,u,B _ _ v⟩
variable{m:Array Oper}
theorem qL.bRz{a:List bG}{anc:Nat->Nat->Bool}(K:qL m rl pairs anc)(h:∀(i:Nat) (S:bG),a[i]?=some S->∃r:bG,rl[i]?=some r/\(S=r\/S=⟨r.dst,.wE (.const aB),none⟩)):qL m a pairs anc:=by
 have f:∀{d:Option Nat} {t:Nat},t∉yW (⟨d,.wE (.const aB),none⟩:bG):=fun {d t} h=>by grind[yW,eJ.args,Arg.tmps]
 have p:∀{d:Option Nat},(⟨d,.wE (.const aB),none⟩:bG).op.rR=true->False:=fun h=>by cases h
 have b:∀{d:Option Nat},(⟨d,.wE (.const aB),none⟩:bG).op.reads=true->False:=fun h=>by cases h
 have e:∀{d:Option Nat},(⟨d,.wE (.const aB),none⟩:bG).op.fresh=true->False:=fun h=>by cases h
 refine⟨K.aRt,K.wit,fun i j n l s F Y I=>?_,fun i j n l s F Y B N=>?_,fun i r F V v J=>?_⟩
 . obtain⟨r1,O,T⟩:=h i n F;obtain⟨r2,Z,P⟩:=h j l Y;obtain⟨y,g,c3,o,c⟩:=K.cmp i j r1 r2 s O Z I
   rcases T with rfl|rfl<;>rcases P with rfl|rfl
   all_goals simp_all
 . obtain⟨r1,O,T⟩:=h i n F;obtain⟨r2,Z,P⟩:=h j l Y
   rcases T with rfl|rfl
   . rcases P with rfl|rfl
     . exact K.early i j _ _ s O Z B N
     simp_all
   simp_all
 obtain⟨r1,O,T⟩:=h i r F
 rcases T with rfl|rfl
 . exact K.lits i _ O V v J
 simp_all
def xZ(n:Nat)(c:List Nat)(i j:Nat):Bool:=decide (i<j)&&decide (j<n)&&(c.getD j 0).testBit i
def Ui(n l:bG):Bool:=
 (!n.op.rR|| !l.op.rR)&&
 (match n.dst with|some d=> !(yW l).contains d&&l.dst != some d|none=>true)&&
 (match l.dst with|some d=> !(yW n).contains d|none=>true)
def aGt(r:bG):Bool:= !r.op.reads||r.op.args.all fun |.const v=>(EF v).isNone|_=>true
def Uu(m:Array Oper)(rl:List bG)(c:List Nat):Bool:=
 (List.range rl.length).all fun j=>
   match m[j]?,rl[j]? with
   |some o,some rj=>
    o.after.toList.all (fun e=> !Region.binds .any e||decide (e.on<j))&&aGt rj&&
    (List.range j).all fun i=>
      if xZ rl.length c i j then o.after.toList.any fun e=>Region.binds .any e&&(e.on==i||xZ rl.length c i e.on)
      else match rl[i]? with
       |some n=>Ui n rj
       |none=>false
   |_,_=>false
def Tp(rl:List bG)(c:List Nat)(a b:Nat):Bool:=
 match rl[a]?,rl[b]? with
 |some ra,some rb=>rb.op.rR&&
  ((decide (a<b)&& !xZ rl.length c a b&&(ra.op.reads||ra.op.fresh))||(decide (b<a)&&(ra.op.fresh||(!xZ rl.length c b a&&ra.op.reads))))
 |_,_=>false
def YO(rl:List bG)(c:List Nat)(j:Nat):Bool:=
 match rl[j]? with
 |some r=>match r.op with
  |.call _ _=>(List.range rl.length).all fun k=>k==j||xZ rl.length c k j||xZ rl.length c j k
  |_=>false
 |none=>false
def bCu:bG->Bool
 |⟨some _,.load _ _ (.tmp _),none⟩=>true
 |_=>false
def fw(rl:List bG)(c:List Nat)(j:Nat):Bool:=
 match rl[j]? with
 |some r=>match r.op with
  |.call _ _=>(List.range rl.length).all fun k=>k==j||xZ rl.length c k j||xZ rl.length c j k||(decide (j<k)&&match rl[k]? with|some q=>bCu q|none=>false)
  |_=>false
 |none=>false
def bMa(rl:List bG)(j:Nat):Bool:=(rl.drop (j+1)).all fun |⟨_,.wE _,none⟩=>true|_=>false
def Lt(rl:List bG)(c:List Nat):List (Nat×Nat):=
 ((List.range rl.length).filter fun j=> !(YO rl c j&&bMa rl j)&&fw rl c j).flatMap fun j=>(j,rl.length+1)::((List.range rl.length).filter fun k=>decide (j<k)&& !xZ rl.length c j k).map fun k=>(j,rl.length+2+k)
def rF(rl:List bG)(c:List Nat):List (Nat×Nat):=
 (((List.range rl.length).flatMap fun a=>(List.range rl.length).map fun b=>(a,b)).filter fun p=>Tp rl c p.1 p.2)++
 (((List.range rl.length).filter (YO rl c)).map fun j=>(j,rl.length))++Lt rl c
variable{a b:Nat}{c:List Nat}
theorem NU:(a,b)∈Lt rl c↔(a<rl.length/\fw rl c a=true/\(YO rl c a&&bMa rl a)=false)/\(b=rl.length+1\/∃k,k<rl.length/\a<k/\xZ rl.length c a k=false/\b=rl.length+2+k):=by
 unfold Lt;simp only[Ed,Ft,Ax,Bd,Bb,Ap,Ak,Cx,Br]
 grind
theorem oB:(a,b)∈rF rl c↔(a<rl.length/\b<rl.length/\Tp rl c a b=true)\/(b=rl.length/\YO rl c a=true/\a<rl.length)\/(a,b)∈Lt rl c:=by grind[rF]
theorem YK(h:(a,b)∈Lt rl c):rl.length<b:=by rcases(NU.1 h).2 with rfl|⟨k,_,_,_,rfl⟩<;>omega
variable{j:Nat}
theorem ja(h:(j,rl.length)∈rF rl c):∀k,k<rl.length->(k<j->xZ rl.length c k j=true)/\(j<k->xZ rl.length c j k=true):=by
 rcases oB.1 h with ⟨_,h,_⟩|⟨_,h,_⟩|h
 . omega
 rotate_left
 . exact absurd (YK h) (Ec _)
 grind[YO,xZ]
theorem YY(h:(j,rl.length+1)∈rF rl c):(∀k,k<rl.length->k<j->xZ rl.length c k j=true)/\∀k,k<rl.length->j<k->xZ rl.length c j k=false->(j,rl.length+2+k)∈rF rl c:=by
 rcases oB.1 h with ⟨_,h,_⟩|⟨h,_⟩|h
 . omega
 . omega
 obtain⟨⟨O,Z,W⟩,_⟩:=NU.1 h;refine⟨fun k E a=>?_,fun k E q I=>oB.2 (.inr (.inr (NU.2 ⟨⟨O,Z,W⟩,.inr ⟨k,E,q,I,rfl⟩⟩)))⟩
 grind[fw,xZ]
theorem My(A:rl.length=m.size)(h:Uu m rl c=true):qL m rl (rF rl c) (xZ rl.length c):=by
 unfold Uu at h;rw[Bh] at h
 have Y:∀(j:Nat) (o:Oper) (l:bG),m[j]?=some o->rl[j]?=some l->
  (o.after.toList.all (fun e=> !Region.binds .any e||decide (e.on<j))&&aGt l&&
  (List.range j).all fun i=>
    if xZ rl.length c i j then o.after.toList.any fun e=>Region.binds .any e&&(e.on==i||xZ rl.length c i e.on)
    else match rl[i]? with
     |some n=>Ui n l
     |none=>false)=true:=fun j o l S V=>by
  have :=h j (Ax.2 (Bj.1 V).1);rw[S,V] at this;exact this
 have f:∀(j:Nat),j<rl.length->∃o l,m[j]?=some o/\rl[j]?=some l:=fun j Y=>⟨m[j]'(by omega),rl[j],by simp[show j<m.size by omega],by simp[Y]⟩
 have w:∀i j n l,i<j->rl[i]?=some n->rl[j]?=some l->xZ rl.length c i j=false->Ui n l=true:=fun i j n l s F a I=>by obtain⟨o,u,S,b⟩:=f j (Bj.1 a).1;have :=Y j o l S a;simp only[Ak] at this;have :=Bh.1 this.2 i (Ax.2 s);rw[I,F] at this;exact this
 refine⟨fun j o S e B X=>?_,fun i j I=>?_,fun i j n l s F a I=>?_,fun i j n l s F a B N=>?_,fun j r V t v J=>?_⟩
 . obtain⟨o',l,k,V⟩:=f j (by rw[A];exact(Ez.1 S).1);have :=Y j o l S V;simp only[Ak] at this;have :=Bh.1 this.1.1 e ZbY;rw[X] at this;simpa using this
 . have C:=I;unfold xZ at I;simp only[Ak,Br] at I;obtain⟨o,l,S,V⟩:=f j I.1.2;have :=Y j o l S V;simp only[Ak] at this;have :=Bh.1 this.2 i (Ax.2 I.1.1);rw[if_pos C] at this;obtain⟨e,B,R⟩:=Cj.1 this;simp only[Ak,Ea,Dl] at R;exact⟨o,S,e,by simpa using B,R.1,R.2⟩
 . have q:=w i j n l s F a I;have M:=(Bj.1 F).1;have g:=(Bj.1 a).1;unfold Ui at q;simp only[Ak] at q;obtain⟨⟨O,Z⟩,W⟩:=q;refine⟨fun B=>?_,fun d hd=>?_,fun d hd=>?_,fun B V=>?_,fun B V=>?_⟩
   . rw[B] at O;simpa using O
   . rw[hd] at Z;simp only[Ak,Cx,Gc] at Z;exact⟨fun p=>by have :=Z.1;simp[p] at this,Z.2⟩
   . rw[hd] at W;exact fun p=>by simp[p] at W
   . refine oB.2 (.inl ⟨M,g,?_⟩);unfold Tp;rw[F,a];simp only[B,s,I,Gw,Ey,Ee,Dk,Ea];exact .inl V
   refine oB.2 (.inl ⟨g,M,?_⟩);unfold Tp;rw[F,a];simp[B,s,I,V]
 . have M:=(Bj.1 F).1;have g:=(Bj.1 a).1;refine oB.2 (.inl ⟨g,M,?_⟩);unfold Tp;rw[F,a];simp[B,s,N]
 obtain⟨o,u,S,_⟩:=f j (Bj.1 V).1;have :=Y j o r S V;simp only[Ak] at this;have :=this.1.2;unfold aGt at this;rw[t] at this;have :=Bh.1 this _ J;simpa using this
theorem aAc:∀i e,(i,e)∈rF rl c->∀b,rl[e]?=some b->b.op.rR=true:=fun i e h b a=>by
 rcases oB.1 h with ⟨_,_,this⟩|⟨rfl,_⟩|hl
 rotate_left
 . grind
 . rw[Cu (Nat.le_of_lt (YK hl))] at a;grind
 grind[Tp]
def bY.nd:bY->Bool
 |.ops rl=>rl.all fun r=>match r.op with|.nD _ _=>false|_=>true
 |.seq a b|.cond _ a b=>a.nd&&b.nd
 |.block _ a|.loop a=>a.nd
 |.pT _ _ _ _=>false
 |_=>true
def fO(P:Program)(g:bL)(N:Bool):Code->Option bY
 |.skip=>some .skip
 |.label _=>some .skip
 |.region _ ops false=>(nC P g N ops ops.toList).map .ops
 |.region _ ops true=>match nC P g N ops ops.toList with
  |some rl=>if Uu ops rl (Region.before ops).toList then some (.draw rl (rF rl (Region.before ops).toList)) else none
  |none=>none
 |.seq a b=>match fO P g N a,fO P g N b with
  |some x,some y=>some (.seq x y)
  |_,_=>none
 |.cond c a b=>match bO g c,fO P g N a,fO P g N b with
  |some z,some x,some y=>some (.cond z x y)
  |_,_,_=>none
 |.block id a=>(fO P g N a).map (.block id)
 |.loop a=>(fO P g N a).map .loop
 |.scope a=>fO P g N a
 |.exit id=>some (.exit id)
 |.ret=>some .ret
 |.rangeFunc c ps x y=>match bO g c,fO P g N x,fO P g N y with
  |some c',some x',some y'=>if x'.nd&&y'.nd then some (.pT c' ps.toList x' y') else none
  |_,_,_=>none
 |_=>none
def aJy(next:List AV->List gX->aA->Prop)(Q:AQ):AQ
 |.normal,s,d,H=>next s d H
 |e,s,d,H=>Q e s d H
def rC(id:Nat)(Q:AQ):AQ
 |.exit i,s,ds,H=>if i=id then Q .normal s ds H else Q (.exit i) s ds H
 |e,s,ds,H=>Q e s ds H
def sF(s:List AV):List (Nat×AV)->List AV
 |[]=>s
 |(t,v)::r=>sF (s.set t v) r
def Yo(id:Nat)(out:Out)(X:aA):AQ
 |.normal,_,ds,H=>ds=[]/\out=.ret (.bool true)/\∃k sn,H.get id=some (.loop k sn .busy)/\X=H.set id (.loop k sn .ready)
 |.ret,_,ds,H=>ds=[]/\out=.ret (.bool false)/\∃k sn,H.get id=some (.loop k sn .busy)/\X=H.set id (.loop k sn (.done .ret))
 |.exit i,_,ds,H=>ds=[]/\out=.ret (.bool false)/\∃k sn,H.get id=some (.loop k sn .busy)/\X=H.set id (.loop k sn (.done (.exit i)))
 |.panic _,_,_,_=>False
def aOn(y:LSt)(sn:List AV)(d:List gX)(H:aA)(Q:AQ):Prop:=
 match y with
 |.ready=>Q .normal sn d H
 |.done .ret=>Q .ret sn d H
 |.done (.exit i)=>Q (.exit i) sn d H
 |_=>False
def AD(B:aA)(id:Nat)(G:aA):Prop:=G.next=B.next/\∀m,G.get m=if m=id then some .dead else B.get m
def AC(P:Program)(g:bL):bY->List AV->List gX->aA->AQ->Prop
 |.skip,s,d,H,Q=>Q .normal s d H
 |.ops rl,s,d,H,Q=>vH P g rl s d H Q
 |.draw rl pairs,s,d,H,Q=>(kp P g rl pairs s H fun S H'=>Q .normal S d H')\/(PU P g rl pairs s H fun x S H'=>Q (.panic x) S d H')\/PT P g rl pairs s H fun x H'=>∀S:List AV,S.length=s.length->(∀t,t∉rl.filterMap (·.dst)->S.getD t aB=s.getD t aB)->Q (.panic x) S d H'
 |.seq a b,s,d,H,Q=>AC P g a s d H (aJy (fun s d H=>AC P g b s d H Q) Q)
 |.cond c a b,s,d,H,Q=>∃t,c.eval g s=.bool t/\if t then AC P g a s d H Q else AC P g b s d H Q
 |.block id a,s,d,H,Q=>AC P g a s d H (rC id Q)
 |.loop a,s,d,H,Q=>∃(I:Nat->List AV->List gX->aA->Prop) (n:Nat),I n s d H/\
   ∀n s d H,I n s d H->AC P g a s d H (aJy (fun s d H=>∃m,m<n/\I m s d H) Q)
 |.exit id,s,d,H,Q=>Q (.exit id) s d H
 |.ret,s,d,H,Q=>Q .ret s d H
 |.pT c ps Nr body,s,d,H,Q=>∃fid fs cs v B p S y G,c.eval g s=.func (.func fid) fs cs/\
   Sound P g fid (fs++[.yield (H.next+1)]++cs) ((H.alloc .Nu).alloc (.loop ⟨ps,Nr,body⟩ s .ready)) (.ret v) B/\B.get (H.next+1)=some (.loop p S y)/\AD B (H.next+1) G/\
   aOn y s (.mark H.next::d) G Q
def PV(P:Program)(g:bL)(k:Mm)(s:List AV)(id:Nat)(args:List AV)(w:aA)(out:Out)(X:aA):Prop:=
 AC P g k.Nr (sF s (k.ps.zip args)) [] w fun e A N H1=>match e with
  |.normal=>N=[]/\∃k1 d,H1.get id=some (.loop k1 d .ready)/\AC P g k.body A [] (H1.set id (.loop k1 d .busy)) (Yo id out X)
  |_=>False
structure Fit (P:Program) (g:bL):Prop where
 mixed:P.follows .mixedOrders=true
 lok:∀k r,g.lok k r↔(r.params.toList=k.ps/\∃mu,fO P g mu r.assign=some k.Nr/\fO P g mu r.body=some k.body/\k.Nr.nd=true/\k.body.nd=true)
noncomputable def Vd (p:Nat->Prop) (h:∃n,p n):Nat:=
 Classical.choose (show ∃n,p n/\∀m,p m->n<=m from by
  obtain⟨n,A⟩:=h
  induction n using Nat.strongRecOn with
  |_ n z=>
   by_cases R:∃m,m<n/\p m
   . obtain⟨m,a,b⟩:=R;exact z m a b
   exact⟨n,A,fun m a=>Jv fun r=>R ⟨m,r,a⟩⟩)
theorem OK(p:Nat->Prop)(h:∃n,p n):p (Vd p h)/\∀m,p m->Vd p h<=m:=Kk (Vd._proof_1 p h)
variable{a:Act}{Q:Exit->Act->World->Prop}{c:Code}{F:Fence}{n:Nat}{w:World}
theorem ZO(h:c.wpIn F n P Q a w)(t:∀l a w,¬Q (.goto l) a w):(Code.scope c).wpIn F n P Q a w:=by
 intro b k cs f X V;obtain⟨e,s,w',D,g⟩:=h b (.inScope c::k) cs f X V;have O:step P (lone (b.atR a (.code (.scope c)::k)) cs w)=.next (lone (b.atR a (.code c::.inScope c::k)) cs w):=step_lone_go (by rfl);have Z:∀a w,step P (lone (b.atR a (.inScope c::k)) cs w)=.next (lone (b.atR a k) cs w):=fun a w=>step_lone_go (by rfl);refine⟨e,s,w',D,.of_steps (.one (fenced_calm X V rfl) O) ?_⟩
 cases e with
 |normal=>exact StepsIn.trans g (.one (fenced_calm X V rfl) (Z s w'))
 |exit id=>assumption
 |goto l=>grind
 |ret=>exact g
 |panic T=>exact g
 |outgrown=>exact g
theorem ZN{g:Nat}(I:Nat->Act->World->Prop){n:Nat}{a:Act}{w:World}(o:I n a w)
 (round:∀n a w,I n a w->c.wpIn F g P (Exit.then (fun s w'=>∃m,m<n/\I m s w') Q) a w):(Code.loop c).wpIn F g P Q a w:=by
 classical
 refine wpIn_loop (fun s w'=>∃m,I m s w') (fun s w'=>if h:∃m,I m s w' then Vd (fun m=>I m s w') h else 0) ⟨n,o⟩ fun s w' J=>?_;have K:=OK (fun m=>I m s w') J;refine wpIn_mono (round _ s w' K.1) fun e a1 w1 D=>?_
 cases e with
 |normal=>obtain⟨m,p,O⟩:=D;have b:∃m,I m a1 w1:=⟨m,O⟩;refine⟨b,?_⟩;rw[dif_pos b,dif_pos J];exact Bn ((OK (fun m=>I m a1 w1) b).2 m O) p
 |_=>exact D
variable{G:Gh}
theorem QR.aOx{Q:AQ}{l:Nat}{w':World}:¬QR g G H w Q (.goto l) a w':=by rintro⟨b,S,V,H',E,_,_,_,_,_,C⟩;cases b<;>exact C.elim
theorem DB{mu:Bool}(hm:Fit P g):∀(c:Code) (ro:Option Nat) (z:bY),fO P g mu c=some z->(ro=none\/z.nd=true)->∀(s:List AV) (d:List gX) (G:Gh) (H:aA) (w:World) (a:Act) (Q:AQ),
 AC P g z s d H Q->WR g G H w->SR G w s a->UQ G w d a.defers->c.wpIn (Fw ro) 0 P (QR g G H w Q) a w:=by
 intro c
 induction c with
 |skip=>intro ro z R DA s d G H w a Q h L M hd;simp only[fO,Aj] at R;subst R;exact wpIn_skip ⟨.normal,s,d,H,G,h,L,Ext.refl G H w,M,hd,trivial⟩
 |label l=>intro ro z R DA s d G H w a Q h L M hd;simp only[fO,Aj] at R;subst R;exact wpIn_label ⟨.normal,s,d,H,G,h,L,Ext.refl G H w,M,hd,trivial⟩
 |region id an aK=>
  intro ro z R DA s d G H w a Q h L M hd
  cases aK with
  |false=>
   simp only[fO,Ad] at R;obtain⟨rl,O,rfl⟩:=R;refine wpIn_region ?_
   have :=ID (ro:=ro) an.toList rl 0 O (fun j hj=>by simp) (DA.imp (fun h=>h) fun h r hr f K e=>by
    have :=Bh.1 h r hr
    rw[e] at this;cases this) s d G H w a Q h L M hd
   rw[Ef] at this
   rwa [Km]
  |true=>
   simp only[fO] at R;split at R
   . rename_i rl O;split at R
     . rename_i N;obtain rfl:=Aa R;have A:rl.length=an.size:=by simpa using(BD _ _ O).1
       rcases h with h|⟨j,Hs,ss,vs,h1,D,Z⟩|⟨j,jr,Hs,ss,vs,h1,U,Ol,zY,D,r,f,Zt,p,x,H1,T,e2,e3,e4,e5,e6⟩
       . obtain⟨Hs,ss,vs,D,Y⟩:=kp.run h aAc;exact JA hm.mixed O rfl (fun _ _ h _=>h) D (My A N) L M hd (fun _=>Y) (fun j h=>by cases h)
       . refine JA hm.mixed O rfl (fun _ _ h _=>h) D (My A N) L M hd (fun h=>by cases h) (fun k hk=>by
          cases hk;have aE:=ja h1;obtain⟨r,f,Zt,p,x,H1,T,e2,e3,e4,e5,e6⟩:=Z
          exact⟨fun k hk ak=>(aE k hk).1 ak,r,f,Zt,p,x,H1,T,e2,e3,e4,e5,fun S _ _ b=>by rw[b fun k hk b3=>(aE k hk).2 b3];exact e6⟩)
       obtain⟨q1,q2⟩:=YY h1
       refine JA hm.mixed O U.symm (fun i r F hj=>zY i r F ?_) D ((My A N).bRz Ol) L M hd (fun h=>by cases h) (fun k hk=>by
        cases hk
        exact⟨fun k hk ak=>q1 k A0 ak,r,f,Zt,p,x,H1,zY _ _ T (.inl (Ae _)),e2,e3,e4,e5,fun S pS ht _=>e6 S (pS.trans (D.AB _ (by rw[U];exact Nat.le_of_lt (Bj.1 T).1))) fun t hm=>by
         have cU:∀(i:Nat) (q:bG),jr[i]?=some q->q.dst≠some t:=fun i q F hq=>by
          obtain⟨r0,o,h⟩:=Ol i q F;refine hm (Jb.2 ⟨r0,List.mem_of_getElem? o,?_⟩)
          rcases h with rfl|rfl<;>exact hq
         rw[ht t cU,D.Yz cU (by rw[U];exact Nat.le_of_lt (Bj.1 T).1)]⟩)
       by_cases CI:i<=j
       . exact .inl CI
       exact .inr (q2 i (Bj.1 F).1 A0 (hj j rfl))
     cases R
   cases R
 |seq x y ad ab=>
  intro ro z R DA s d G H w a Q h L M hd;simp only[fO] at R;split at R
  . rename_i ax ay a6 a7;obtain rfl:=Aa R;refine wpIn_seq (wpIn_mono (ad ro ax a6 (DA.imp (fun h=>h) fun h=>(Ak _ _▸h).1) s d G H w a _ h L M hd) fun e a' w' hq=>?_);obtain⟨ae,S,V,H',E,q,oN,B,b,tF,C⟩:=hq
    cases e with
    |normal=>
     cases ae with
     |normal=>exact wpIn_mono (ab ro ay a7 (DA.imp (fun h=>h) fun h=>(Ak _ _▸h).2) S V E H' w' a' Q q oN b tF) fun _ _ _ hq=>QR.trans B hq
     |_=>exact C.elim
    |_=>
     cases ae with
     |normal=>exact C.elim
     |_=>exact⟨_,S,V,H',E,q,oN,B,b,tF,C⟩
  cases R
 |cond c x y ad ab=>
  intro ro z R DA s d G H w a Q h L M hd;simp only[fO] at R;split at R
  . rename_i az ax ay ba a6 a7;obtain rfl:=Aa R;obtain⟨t,ht,h⟩:=h;have J:=bM L M ba;rw[ht] at J;refine wpIn_cond J.lM ?_
    cases t with
    |true=>exact ad ro ax a6 (DA.imp (fun h=>h) fun h=>(Ak _ _▸h).1) s d G H w a Q h L M hd
    |false=>exact ab ro ay a7 (DA.imp (fun h=>h) fun h=>(Ak _ _▸h).2) s d G H w a Q h L M hd
  cases R
 |block id x ih=>
  intro ro z R DA s d G H w a Q h L M hd;simp only[fO,Ad] at R;obtain⟨ax,a6,rfl⟩:=R;refine wpIn_block (wpIn_mono (ih ro ax a6 DA s d G H w a _ h L M hd) fun e a' w' hq=>?_);obtain⟨ae,S,V,H',E,q,oN,B,b,tF,C⟩:=hq
  cases ae with
  |exit i=>
   cases e with
   |exit i'=>
    obtain rfl:i=i':=C;simp only[rC] at q;simp only[Exit.inBlock];split
    . rename_i F;rw[if_pos F] at q;exact⟨.normal,S,V,H',E,q,oN,B,b,tF,trivial⟩
    rename_i F;rw[if_neg F] at q;exact⟨.exit i,S,V,H',E,q,oN,B,b,tF,rfl⟩
   |_=>exact C.elim
  |normal=>
   cases e with
   |normal=>exact⟨.normal,S,V,H',E,q,oN,B,b,tF,trivial⟩
   |_=>exact C.elim
  |ret=>
   cases e with
   |ret=>exact⟨.ret,S,V,H',E,q,oN,B,b,tF,trivial⟩
   |_=>exact C.elim
  |panic v=>
   cases e with
   |panic ch=>exact⟨.panic v,S,V,H',E,q,oN,B,b,tF,C⟩
   |_=>exact C.elim
 |loop x ih=>
  intro ro z R DA s d G H w a Q h L M hd;simp only[fO,Ad] at R;obtain⟨ax,a6,rfl⟩:=R;obtain⟨I,n,o,hI⟩:=h;refine ZN (fun n a' w'=>∃S V H' E,I n S V H'/\WR g E H' w'/\Ext G H w E H' w'/\SR E w' S a'/\UQ E w' V a'.defers) ⟨s,d,H,G,o,L,Ext.refl G H w,M,hd⟩ fun n a1 w1 F=>?_;obtain⟨s1,qU,H1,G1,F,Ol,ZV,b0,b5⟩:=F;refine wpIn_mono (ih ro ax a6 DA s1 qU G1 H1 w1 a1 _ (hI n s1 qU H1 F) Ol b0 b5) fun e a' w' hq=>?_;obtain⟨ae,S,V,H',E,q,oN,B,b,tF,C⟩:=hq
  cases e with
  |normal=>
   cases ae with
   |normal=>obtain⟨m,hm,rP⟩:=q;exact⟨m,hm,S,V,H',E,rP,oN,ZV.trans B,b,tF⟩
   |_=>exact C.elim
  |_=>
   cases ae with
   |normal=>exact C.elim
   |_=>exact⟨_,S,V,H',E,q,oN,ZV.trans B,b,tF,C⟩
 |scope x ih=>intro ro z R DA s d G H w a Q h L M hd;exact ZO (ih ro z R DA s d G H w a Q h L M hd) fun l a w=>QR.aOx
 |exit id=>intro ro z R DA s d G H w a Q h L M hd;simp only[fO,Aj] at R;subst R;exact wpIn_exit ⟨.exit id,s,d,H,G,h,L,Ext.refl G H w,M,hd,rfl⟩
 |ret=>intro ro z R DA s d G H w a Q h L M hd;simp only[fO,Aj] at R;subst R;exact wpIn_ret ⟨.ret,s,d,H,G,h,L,Ext.refl G H w,M,hd,trivial⟩
 |rangeFunc c ps x y ad ab=>
  intro ro z R DA s d G H w a Q h L M hd;simp only[fO] at R;split at R
  . rename_i c' ax ay b7 a6 a7;split at R
    . rename_i TZ;obtain rfl:=Aa R;rw[Ak] at TZ
      obtain rfl:ro=none:=DA.resolve_right fun h=>by cases h
      obtain⟨fid,fs,cs,v,He,k',S,st,Hf,b6,hS,CL,aO,Y⟩:=h;have ar:=bM L M b7;rw[b6] at ar;obtain⟨af,ag,b4,h1,Z⟩:=IS (p:=(fid,fs,cs)) rfl ar;refine wpIn_rangeFunc fun fn _=>?_;obtain⟨r,hr⟩:∃r:Loop,r={state:=.ready,pending:=none,fn,tmps:=a.tmps,params:=ps,assign:=x,body:=y,defers:=w.heap.size}:=⟨_,rfl⟩;have b2:oQ r .ready=r:=by rw[hr];rfl
      have fresh:∀{G:Gh} {H:aA} {w:World},WR g G H w->G.loc H.next=none:=fun {G H w} L=>by
       cases U:G.loc H.next with
       |none=>rfl
       |some l'=>exact absurd (L.lt _ _ U) (Ec _)
      have m1:=L.GD H.next .Nu (.deferred (some [])) rfl (fresh L) (aA.aI H _) (Gm _) (Fg _) (w':=w.alloc (.deferred (some []))) ⟨rfl,.now⟩ (fun _=>by show(w.heap.push _)[w.heap.size]?=_;simp);have W:SR (G.eA H.next ⟨w.heap.size,0,0,1⟩) (w.alloc (.deferred (some []))) s a:=M.ext (m1.ext (Ext.refl G H w) (Ae _))
      have m2:=m1.rel.GD (H.alloc .Nu).next (.loop ⟨ps.toList,ax,ay⟩ s .ready) (.loop r) rfl (fresh m1.rel) (aA.aI _ _) (Gm _) (Fg _) (w':=(w.alloc (.deferred (some []))).alloc (.loop r)) ⟨rfl,.now⟩ (fun aj=>by
       refine⟨r,(hm.lok _ _).2 ⟨by rw[hr],mu,by rw[hr];exact a6,by rw[hr];exact a7,TZ.1,TZ.2⟩,by rw[b2];exact GP (w.heap.push (.deferred (some []))) (.loop r),?_⟩;have b1:r.tmps=a.tmps:=(by rw[hr]);rw[b1]
       exact⟨W.1,fun j hj=>aj _ _ (W.2 j hj)⟩)
      have e2:=m2.ext (m1.ext (Ext.refl G H w) (Ae _)) (Gm _);obtain⟨G2,al⟩:∃G2,G2=(G.eA H.next ⟨w.heap.size,0,0,1⟩).eA (H.alloc .Nu).next ⟨(w.alloc (.deferred (some []))).heap.size,0,0,1⟩:=⟨_,rfl⟩
      have hL:G2.loc (H.next+1)=some ⟨w.heap.size+1,0,0,1⟩:=by rw[al];show(if H.next+1=H.next+1 then some (⟨(w.heap.push _).size,0,0,1⟩:Loc) else _)=_;simp
      have hD:G2.loc H.next=some ⟨w.heap.size,0,0,1⟩:=by rw[al];show(if H.next=H.next+1 then _ else if H.next=H.next then some (⟨w.heap.size,0,0,1⟩:Loc) else _)=_;rw[if_neg A0,if_pos rfl]
      have CM:=m2.rel;rw[<-al] at CM e2;have bf:True:=trivial
      refine⟨w.heap.size+1,[{target:=.collected w.heap.size,args:= #[]}],_,{target:=.fn (.func fid) ag.toArray,args:=af.toArray++ #[.func (.yield (w.heap.size+1)) #[] #[]]},(w.alloc (.deferred (some []))).alloc (.loop {state:=.ready,pending:=none,fn,tmps:=a.tmps,params:=ps,assign:=x,body:=y,defers:=w.heap.size}),fid,_,_,
       run_enterLoop_outer _ _ _ _ _,?_,fun _ _=>trivial,pJ hS.1 _ _ _,EN,?_⟩
      . simp only[resolve,rangeCall,b4];simp[Deferred.ofValue,Act.eval]
      rw[<-hr]
      have qK:jH G2 ((w.alloc (.deferred (some []))).alloc (.loop r)) (fs++[.yield (H.next+1)]++cs) (af++[.func (.yield (w.heap.size+1)) #[] #[]]++ag):=
       ((h1.ext e2).append ((VR.yield (H.next+1) _ hL).cons (jH.nil _ _))).append (Z.ext e2)
      have HL:=hS.2 G2 _ _ CM qK;rw[show(af++[Value.func (.yield (w.heap.size+1)) #[] #[]]++ag).toArray=(af.toArray++ #[.func (.yield (w.heap.size+1)) #[] #[]])++ag.toArray by apply Array.ext';simp] at HL;refine(Pr HL).mono fun e w3 B=>?_;obtain⟨G3,aq,yh,yI⟩:=B
      cases e with
      |panicked _=>exact yI.elim
      |outgrown=>exact yI.elim
      |returned u=>
       have AW:=yh.loc _ _ hL;obtain⟨_,_,r3,bb,b9,aN⟩:=aq.jK _ _ _ AW CL rfl;have bc:=e2.trans yh
       have aF:∀(p:Option LEx),(oQ r3 st).pending=p.map LEx.code->(oQ r3 st).state≠ .busy->∃w4,(Instr.endLoop (w.heap.size+1)).run P w3=.ok (p.map LEx.code) w4/\
        WR g G3 Hf w4/\Ext G H w G3 Hf w4:=by
        intro p hp X
        have h5:(Instr.endLoop (w.heap.size+1)).run P w3=.ok (p.map LEx.code) (w3.putObj (w.heap.size+1) (.loop {oQ r3 st with state:=.exhausted})):=by have h5:=run_endLoop (P:=P) b9 X;rw[h5];exact Am (fun q=>Result.ok q _) hp
        obtain⟨q1,q2⟩:=aq.JZ (o':=.loop k' S (.over p)) (x:=.loop {oQ r3 st with state:=.exhausted}) (w':=w3.putObj (w.heap.size+1) (.loop {oQ r3 st with state:=.exhausted})) AW CL rfl rfl rfl .now (fun aj vY=>⟨r3,bb,by
         rw[vY];congr 2
         cases st<;>simp only[oQ] at hp ⊢ <;>rw[hp],⟨aN.1,fun j hj=>aj _ _ (aN.2 j hj)⟩⟩)
        have hg:∀m,Hf.get m=((He.set (H.next+1) (.loop k' S (.over p))).set (H.next+1) .dead).get m:=fun m=>by rw[aO.2,aA.aH,aA.aH];split<;>rfl
        have A:Hf.next=((He.set (H.next+1) (.loop k' S (.over p))).set (H.next+1) .dead).next:=aO.1;exact⟨_,h5,(q1.kill (H.next+1)).pQ (fun m _ _=>hg m) A0,((bc.trans q2).kill (H.next+1)).pQ (fun m _ _=>hg m) A0⟩
       have xq:∀{H4:aA} {w4:World},Ext G H w G3 H4 w4->SR G3 w4 s {a with defers:=[{target:=.collected w.heap.size,args:= #[]}]++a.defers}/\
        UQ G3 w4 (.mark H.next::d) ([{target:=.collected w.heap.size,args:= #[]}]++a.defers):=fun {H4 w4} ex=>
        ⟨M.ext ex,⟨_,yh.loc _ _ hD,rfl⟩,hd.ext ex⟩
       cases st with
       |ready=>obtain⟨w4,h5,q1,q2⟩:=aF none rfl (by simp[oQ]);exact⟨none,w4,h5,.normal,s,_,_,G3,Y,q1,q2,(xq q2).1,(xq q2).2,trivial⟩
       |done e=>
        obtain⟨w4,h5,q1,q2⟩:=aF (some e) rfl (by simp[oQ]);refine⟨_,w4,h5,?_⟩
        cases e with
        |ret=>exact wpIn_ret ⟨.ret,s,_,_,G3,Y,q1,q2,(xq q2).1,(xq q2).2,trivial⟩
        |exit i=>exact wpIn_exit ⟨.exit i,s,_,_,G3,Y,q1,q2,(xq q2).1,(xq q2).2,rfl⟩
       |busy=>exact Y.elim
       |over _=>exact Y.elim
    cases R
  cases R
 |_=>intro ro z R;simp[fO] at R
theorem Mq(p:Fit P g){id:Nat}{k:Mm}{s args:List AV}{w X:aA}{out:Out}(dA:w.get id=some (.loop k s .ready))(Q:args.length=k.ps.length)
 (hA:PV P g k s id args w out X):tY P g id args w out X:=by
 intro E w' vs l' oN J L;obtain⟨_,_,r,ar,O,aq⟩:=oN.jK _ l' _ L dA rfl;obtain⟨ad,mu,f,aE,T⟩:=(p.lok _ _).1 ar;have an:=J.1;have hy:=run_yield (P:=P) (args:=vs.toArray) O (by rw[<-an] at Q;show vs.toArray.size=r.params.size;rw[<-Ef (xs:=r.params),ad];simpa using Q);refine⟨_,_,_,_,hy,roundIn_of_wpIn trivial ?_⟩
 have aF:SR E w' (sF s (k.ps.zip args)) {tmps:=(r.params.zip vs.toArray).foldl (fun tmps (t,a)=>tmps.setIfInBounds t a) r.tmps,defers:=[]}:=by
  have key:∀(l:List Nat) (K:List AV) (us:List Value) (s0:List AV) (tm:Array Value),jH E w' K us->jH E w' s0 tm.toList->
   jH E w' (sF s0 (l.zip K)) ((l.zip us).foldl (fun tmps (t,a)=>tmps.setIfInBounds t a) tm).toList:=by
   intro l
   induction l with
   |nil=>intro K us s0 tm _ o;simpa [sF] using o
   |cons t l z=>
    intro K us s0 tm I o
    cases K with
    |nil=>have :=I.1;simp only[Ca,Hv] at this;subst this;simpa [sF] using o
    |cons v K=>
     cases us with
     |nil=>have :=I.1;simp at this
     |cons u us=>have EE:=I.2 0 A2;have ta:jH E w' K us:=⟨by have :=I.1;simpa using this,fun j Y=>by have :=I.2 (j+1) Za0;simpa using this⟩;refine z K us _ _ ta ?_;exact(SR.put (a:={tmps:=tm,defers:=[]}) o (some t) EE:_)
  have :=key k.ps args vs s r.tmps J aq;rw[<-Array.foldl_toList,Array.toList_zip,ad];exact this
 refine wpIn_mono (DB p _ (some l'.dE) _ f (.inr T.1) _ [] E w w' _ _ hA oN aF trivial) fun e a1 w1 D=>?_;obtain⟨ae,A,N,H1,G1,q,Ol,V,B,ag,C⟩:=D
 cases ae with
 |normal=>
  cases e with
  |normal=>
   obtain⟨ay,k1,ry,al,QL⟩:=q;subst ay;have H:=V.loc _ _ L;obtain⟨_,_,r1,aN,AS,ak⟩:=Ol.jK _ _ _ H al rfl;obtain⟨q1,q2⟩:=Ol.JZ (o':=.loop k1 ry .busy) (x:=.loop {oQ r1 .ready with state:=.busy}) (w':=w1.putObj l'.dE (.loop {oQ r1 .ready with state:=.busy})) H al rfl rfl rfl .now (fun a7 W=>⟨r1,aN,W,⟨ak.1,fun j Y=>a7 _ _ (ak.2 j Y)⟩⟩);refine⟨_,run_beginRound AS rfl,?_⟩
   have aO:a1.defers=[]:=by
    cases n:a1.defers with
    |nil=>rfl
    |cons d r=>rw[n] at ag;exact ag.elim
   refine wpIn_mono (DB p _ (some l'.dE) _ aE (.inr T.2) A [] G1 _ _ a1 _ QL q1 (B.ext q2) (by rw[aO];trivial)) fun e a2 G D=>?_;obtain⟨ae,Z,Uv,H4,G4,q,ab,af,b1,b2,C⟩:=D;have b0:=(V.trans q2).trans af;have U:=(q2.trans af).loc _ _ H
   have y:∀(st:LSt) (b:Bool) (m:Option Code),(∃k4 a6,H4.get id=some (.loop k4 a6 .busy)/\X=H4.set id (.loop k4 a6 st))->out=.ret (.bool b)->m.isNone=b->
    (∀r q:Loop,q=oQ r .busy->{q with state:=if m.isNone then .ready else .done,pending:=m}=oQ r st)->
    ∃v M,(Instr.endRound l'.dE m).run P G=.ok v M/\∃c,WR g c X M/\Ext E w w' c X M/\Zl c M out (.returned v):=by
    intro st b m ⟨k4,a6,F,h3⟩ S Y hla;obtain⟨_,_,h,aK,az,aj⟩:=ab.jK _ _ _ U F rfl;have R:=run_endRound (P:=P) m az;rw[hla h _ rfl] at R;obtain⟨p1,p2⟩:=ab.JZ (o':=.loop k4 a6 st) (x:=.loop (oQ h st)) (w':=G.putObj l'.dE (.loop (oQ h st))) U F rfl rfl rfl .now (fun a7 W=>⟨h,aK,W,⟨aj.1,fun j Y=>a7 _ _ (aj.2 j Y)⟩⟩);refine⟨_,_,R,G4,by rw[h3];exact p1,by rw[h3];exact b0.trans p2,?_⟩;rw[S,Y];exact .bool b
   cases ae with
   |normal=>
    cases e with
    |normal=>obtain⟨_,S,F⟩:=q;exact y .ready true none F S rfl (fun r q D=>by subst D;rfl)
    |_=>exact C.elim
   |ret=>
    cases e with
    |ret=>obtain⟨_,S,F⟩:=q;exact y (.done .ret) false (some .ret) F S rfl (fun r q D=>by subst D;rfl)
    |_=>exact C.elim
   |exit i=>
    cases e with
    |exit j=>obtain rfl:i=j:=C;obtain⟨_,S,F⟩:=q;exact y (.done (.exit i)) false (some (.exit i)) F S rfl (fun r q D=>by subst D;rfl)
    |_=>exact C.elim
   |panic v=>exact q.elim
  |_=>exact C.elim
 |_=>exact q.elim
inductive KK where
 |tmp (t:Nat)
 |cell (a:Nat) (agg:Bool) (n:Nat)
def aDq(P:Program):ResultVar->Option KK
 |.tmp t=>some (.tmp t)
 |.cell a t=>match gP P t,mD P t with
  |some agg,some n=>some (.cell a agg n)
  |_,_=>none
def xE(P:Program):List ResultVar->Option (List KK)
 |[]=>some []
 |x::r=>match aDq P x,xE P r with
  |some y,some ys=>some (y::ys)
  |_,_=>none
def aAu(s:List AV)(H:aA):KK->Option AV
 |.tmp t=>some (s.getD t aB)
 |.cell a agg n=>match dS (Arg.eval g0 s) H (.load agg n (.tmp a)) with
  |some (v,_)=>some v
  |none=>none
def rI(s:List AV)(H:aA):List KK->Option (List AV)
 |[]=>some []
 |x::r=>match aAu s H x,rI s H r with
  |some v,some vs=>some (v::vs)
  |_,_=>none
def nN:List AV->AV
 |[v]=>v
 |vs=>.jS vs
structure DC where
 ntmps:Nat
 results:List KK
 body:bY
def iM(P:Program)(g:bL)(mu:Bool)(f:FuncId)(F:DC):Prop:=
 ∃fn c,P.funcs[f]?=some fn/\fn.body=some c/\(fn.name== "runtime.NumGoroutine")=false/\fO P g mu c=some F.body/\fn.ntmps=F.ntmps/\xE P fn.results.toList=some F.results
variable{N:Bool}{f:FuncId}
theorem iM.ok{F:DC}(h:iM P g N f F):DH P f:=
 let⟨fn,c,O,Z,W,_⟩:=h
 ⟨fn,O,by grind,W⟩
def sK(F:DC)(args:List AV):List AV:=args++List.replicate (F.ntmps -args.length) aB
def aQq(F:DC)(R:Out->aA->Prop):AQ
 |.normal,s,ds,H|.ret,s,ds,H=>ds=[]/\∃vs,rI s H F.results=some vs/\R (.ret (nN vs)) H
 |.panic v,_,ds,H=>ds=[]/\R (.MD v) H
 |.exit _,_,_,_=>False
theorem aIv{x:Nat}{t:TypeId}{e:Bool}(i:gP P t=some e)(I:mD P t=some n)
 {v:AV} {H':aA} (L:WR g G H w) (M:SR G w s a) (h:dS (Arg.eval g0 s) H (.load e n (.tmp x))=some (v,H')):
 ∃q u,a.tmps.getD x undef=.pointer (some q)/\(loadVar t q).run P w=.ok u w/\VR G w v u:=by
 have W:=M.getD x
 have y:∀(b o':Nat) (cs:List AV),a.tmps.getD x undef=.pointer (some ⟨b,o',none⟩)->n=cs.length->(∀c∈cs,c.one=true)->(e=false->n=1)->
  (∀j,j<n->∃u,w.cell? ⟨b,o'+j,none⟩=some u/\VR G w (cs.getD j aB) u)->
  ∃q u,a.tmps.getD x undef=.pointer (some q)/\(loadVar t q).run P w=.ok u w/\VR G w (if e then .agg cs else cs.getD 0 aB) u:=by
  intro b o' cs B U O A R;obtain⟨u,V,J⟩:=ML (P:=P) i I U O A R;exact⟨_,u,B,V,J⟩
 simp only[dS,Arg.eval] at h;generalize f:a.tmps.getD x undef=o at W y;split at h
 . rename_i id off d;rw[d] at W;split at h
   . rename_i cs F;obtain⟨r,p⟩:=aA.qS F;split at h
     . rename_i T
       cases W with
       |ref _ _ l U=>
        have h4:=(L.cells id l cs r U p).2.2.2.1;have k:=Na L U p T;have Q:n=((cs.drop off).take n).length:=Zaf;have E:∀c∈(cs.drop off).take n,c.one=true:=fun c R=>h4 c (Gx (Cw R));split at h
        . rename_i m;simp only[Aj,Ap] at h;exact Zbw
        rename_i m;split at h
        . rename_i A;simp only[Aj,Ap] at h;obtain⟨rfl,rfl⟩:=h;have :=y _ _ _ rfl Q E (fun _=>A) k
          rwa [if_neg m,qW _ _ _ _ _ A0,Di] at this
        cases h
     cases h
   cases h
 . rename_i cs d;rw[d] at W;split at h
   . cases W with
     |pl _ b o' us X J=>
      have k:∀j,j<n->∃u,w.cell? ⟨b,o'+j,none⟩=some u/\VR G w ((cs.take n).getD j aB) u:=fun j Y=>by rw[getD_take _ _ _ _ Y];exact⟨us j,(X j A0).2.1,J j A0⟩
      have Q:n=(cs.take n).length:=by simp;omega
      have E:∀c∈cs.take n,c.one=true:=fun c R=>by obtain⟨j,Y,rfl⟩:=Gy.1 (Cw R);have :=(X j Y).2.2;simpa [getD_eq,Af Y] using this
      split at h
      . rename_i m;exact Zbw
      rename_i m;split at h
      . rename_i A;obtain⟨rfl,rfl⟩:=h;have :=y _ _ _ rfl Q E (fun _=>A) k
        rwa [if_neg m,getD_take _ _ _ _ A0] at this
      cases h
   cases h
 cases h
def Vm(tmps:Array Value):ResultVar->Sem Value
 |.tmp t=>pure (tmps.getD t undef)
 |.cell a t=>do loadVar t (←asAddr (tmps.getD a undef))
theorem MK{P:Program}{g:bL}{G:Gh}{H:aA}{w:World}{s:List AV}{a:Act}(L:WR g G H w)(M:SR G w s a):∀(l:List ResultVar) (rl:List KK) (vs:List AV),xE P l=some rl->rI s H rl=some vs->
 ∃us:List Value,(l.mapM (Vm a.tmps)).run P w=Result.ok us w/\jH G w vs us
 |[],rl,vs,hr,h=>by obtain rfl:=Aa hr;obtain rfl:=Aa h;exact⟨[],by simp,jH.nil G w⟩
 |x::l,rl,vs,hr,h=>by
  unfold xE at hr;split at hr
  . rename_i y ys Q E;obtain rfl:=Aa hr;unfold rI at h;split at h
    . rename_i v U J z;obtain rfl:=Aa h;obtain⟨us,O,Z⟩:=MK L M l ys U E z
      cases x with
      |tmp t=>obtain rfl:=Aa Q;obtain rfl:=Aa J;exact⟨a.tmps.getD t undef::us,by simp[O,Vm],jH.cons (M.getD t) Z⟩
      |cell b t=>
       simp only[aDq] at Q;split at Q
       . rename_i e n i I;obtain rfl:=Aa Q;simp only[aAu] at J;split at J
         . rename_i D H' R;obtain rfl:=Aa J;obtain⟨q,u,T,c,B⟩:=aIv i I L M R;refine⟨u::us,?_,jH.cons B Z⟩;simp only[List.mapM_cons,Vm,Sem.run_bind,T,asAddr,Sem.run_pure,Result.andThen_ok,c,O]
         grind
       grind
    grind
  grind
theorem OW{fn:Func}{rl:List KK}{vs:List AV}(L:WR g G H w)(M:SR G w s a)(V:xE P fn.results.toList=some rl)(h:rI s H rl=some vs):
 ∃u,(results fn a.tmps).run P w=.ok u w/\VR G w (nN vs) u:=by
 obtain⟨us,O,Z⟩:=MK L M _ _ _ V h
 have key:(results fn a.tmps).run P w=.ok (if h:us.toArray.size=1 then us.toArray[0] else .tuple us.toArray) w:=by
  have o:results fn a.tmps=(fn.results.mapM (Vm a.tmps)>>= fun vs=>pure (if h:vs.size=1 then vs[0] else .tuple vs)):=by rfl
  rw[o];rw[Array.mapM_eq_mapM_toList];simp_all
 refine⟨_,key,?_⟩;have U:=Z.1
 cases vs with
 |nil=>obtain rfl:us=[]:=Hv.1 U;exact VR.oV G w
 |cons v vs=>
  cases us with
  |nil=>grind
  |cons u us=>
   cases vs with
   |nil=>simp at U;subst U;have :=Z.2 0 A2;assumption
   |cons v2 vs=>
    cases us with
    |nil=>grind
    |cons n us=>exact VR.jS _ _ Z.1 Z.2
def Mp(P:Program)(g:bL)(f:FuncId)(args:List AV)(H:aA)(R:Out->aA->Prop):Prop:=
 DH P f/\∀(G:Gh) (w:World) (vs:List Value),WR g G H w->jH G w args vs->
  Calls P f vs.toArray w fun e w'=>∃out H' E,R out H'/\WR g E H' w'/\Ext G H w E H' w'/\Zl E w' out e
theorem KU(p:Fit P g){f:FuncId}{F:DC}(L:iM P g N f F){args:List AV}{H:aA}{R:Out->aA->Prop}
 (h:AC P g F.body (sK F args) [] H (aQq F R)):Mp P g f args H R:=by
 refine⟨L.ok,fun G w vs x J=>?_⟩;obtain⟨fn,c,O,Z,_,W,h4,M⟩:=L;refine calls_of_wp O Z (wp_mono (wpIn_wide.1 (DB p c none F.body W (.inl rfl) _ [] G H w _ _ h x ?_ trivial)) fun e a w' D=>?_)
 . have Q:=J.1;show jH G w _ _;exact ZaU
 obtain⟨l,S,V,H1,E,q,I,B,b,i,C⟩:=D
 have o:V=[]->a.defers=[]:=fun X=>by
  subst X
  cases n:a.defers with
  |nil=>rfl
  |cons d r=>rw[n] at i;exact i.elim
 have y:∀k,(V=[]/\∃vs,rI S H1 F.results=some vs/\R (.ret (nN vs)) H1)->
  (k=Exit.normal\/k=Exit.ret)->bodyPost P fn (fun e w'=>∃out H' E,R out H'/\WR g E H' w'/\Ext G H w E H' w'/\Zl E w' out e) k a w':=by
  rintro k ⟨t,U,s,z⟩ A;obtain⟨u,K,m⟩:=OW I b M s
  rcases A with rfl|rfl
  all_goals exact⟨o t,u,K,_,_,E,z,I,B,m⟩
 cases l with
 |normal=>
  cases e with
  |normal=>exact y _ q (.inl rfl)
  |_=>exact C.elim
 |ret=>
  cases e with
  |ret=>exact y _ q (.inr rfl)
  |_=>exact C.elim
 |exit id=>exact q.elim
 |panic v=>
  cases e with
  |panic T=>obtain⟨t,z⟩:=q;exact⟨o t,_,_,E,z,I,B,C⟩
  |_=>exact C.elim
variable{args:List AV}{out:Out}
theorem Mp.exact(h:Mp P g f args H fun o h=>o=out/\h=H'):Sound P g f args H out H':=
 ⟨h.1,fun G w vs L J=>(h.2 G w vs L J).mono fun e w' ⟨_,_,E,⟨T,a⟩,O,Z,W⟩=>⟨E,a▸O,a▸Z,T▸W⟩⟩
theorem Sound.open(h:Sound P g f args H out H'):Mp P g f args H fun o h=>o=out/\h=H':=
 ⟨h.1,fun G w vs L J=>(h.2 G w vs L J).mono fun e w' ⟨E,O,Z,W⟩=>⟨_,_,E,⟨rfl,rfl⟩,O,Z,W⟩⟩
theorem Wp(p:Fit P g){f:FuncId}{F:DC}(L:iM P g N f F){args:List AV}{H H':aA}{out:Out}
 (h:AC P g F.body (sK F args) [] H (aQq F fun o h=>o=out/\h=H')):Sound P g f args H out H':=(KU p L h).exact
end Go.Av
