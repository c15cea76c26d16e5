/-
  Part of the proof of statement 7
-/
import Derived.Test.YtogfcjbgeebfkaaGreatDoorA03
import Derived.Laws.Sem
set_option linter.unusedVariables false
set_option linter.unusedSimpArgs false
set_option linter.unusedSectionVars false
namespace Go.Av
open Go
def HV(P:Program)(g:bF)(r:aZ)(s:List AV)(H:aA)(v:AV)(H':aA):Prop:=
 match r.op with
 |.call f azs=>∃p,lQ (f.eval g s)=some p/\Sound P g p.1 (p.2.1++azs.map (Arg.eval g s)++p.2.2) H (.ret v) H'
 |.panic _|.lN _ _=>False
 |op=>dE (Arg.eval g s) H op=some (v,H')
def Uz(P:Program)(g:bF)(pairs:List (Nat×Nat))(base:Nat):Nat->Nat->List aZ->List (Nat×Nat)->List (Nat×aA×aA)->List AV->aA->(List AV->aA->Prop)->Prop
 |_,_,[],_,_,s,H,Q=>Q s H
 |i,k,r::rs,rd,ef,s,H,Q=>
  if bN s r then
   if r.op.fresh then
    ∃ob val,yH (Arg.eval g s) r.op=some (ob,val)/\(∀x∈ef,(i,x.1)∈pairs->x.2.1.get (base+k)=x.2.2.get (base+k))/\
     Uz P g pairs base (i+1) (k+1) rs ((i,base+k)::rd) ef (mT s r.dst (val (base+k))) (H.set (base+k) ob) Q
   else if r.op.pJ then
    ∃v H',HV P g r s H v H'/\H.next<=H'.next/\(∀x∈rd,(x.1,i)∈pairs->H.get x.2=H'.get x.2)/\
     Uz P g pairs base (i+1) k rs rd ((i,H,H')::ef) (mT s r.dst v) H' Q
   else
    ∃v,HV P g r s H v H/\(∀id,r.op.cZ (Arg.eval g s)=some id->∀x∈ef,(i,x.1)∈pairs->x.2.1.get id=x.2.2.get id)/\
     Uz P g pairs base (i+1) k rs (match r.op.cZ (Arg.eval g s) with|some id=>(i,id)::rd|none=>rd) ef (mT s r.dst v) H Q
  else Uz P g pairs base (i+1) (if r.op.fresh then k+1 else k) rs rd ef (mT s r.dst aB) H Q
structure VE (P:Program) (g:bF) (pairs:List (Nat×Nat)) (base i k:Nat) (rs:List aZ) (rd:List (Nat×Nat)) (ef:List (Nat×aA×aA)) (s:List AV) (H:aA) (Q:List AV->aA->Prop)
 (Hs:Nat->aA) (ss:Nat->List AV) (vs:Nat->AV):Prop where
 h0:Hs 0=H
 s0:ss 0=s
 fin:Q (ss rs.length) (Hs rs.length)
 step:∀(j:Nat) (r:aZ),rs[j]?=some r->DStep P g false (base+(k+gL rs j)) r (ss j) (Hs j) (vs j) (Hs (j+1))/\ss (j+1)=mT (ss j) r.dst (vs j)
 mono:∀(j:Nat) (r:aZ),rs[j]?=some r->r.op.pJ=true->(Hs j).next<=(Hs (j+1)).next
 Uw:∀x∈rd,∀(e:Nat) (re:aZ),rs[e]?=some re->re.op.pJ=true->bN (ss e) re=true->(x.1,i+e)∈pairs->(Hs e).get x.2=(Hs (e+1)).get x.2
 new:∀x∈ef,∀(j:Nat) (r:aZ),rs[j]?=some r->bN (ss j) r=true->(i+j,x.1)∈pairs->
  ∀id,(r.op.cZ (Arg.eval g (ss j))=some id\/(r.op.fresh=true/\id=base+(k+gL rs j)))->x.2.1.get id=x.2.2.get id
 both:∀(j e:Nat) (rj re:aZ),rs[j]?=some rj->rs[e]?=some re->re.op.pJ=true->bN (ss j) rj=true->bN (ss e) re=true->(i+j,i+e)∈pairs->
  ∀id,(rj.op.cZ (Arg.eval g (ss j))=some id\/(rj.op.fresh=true/\id=base+(k+gL rs j)))->(Hs e).get id=(Hs (e+1)).get id
theorem RA(r:aZ)(rs:List aZ)(j:Nat):gL (r::rs) (j+1)=(if r.op.fresh then 1 else 0)+gL rs j:=by unfold gL;simp only[Ds,Hd];omega
def aAg{α:Type}(x:α)(f:Nat->α):Nat->α
 |0=>x
 |n+1=>f n
theorem VE.cons{P:Program}{g:bF}{pairs:List (Nat×Nat)}{base i k:Nat}{r:aZ}{rs:List aZ}{rd rd':List (Nat×Nat)}{ef ef':List (Nat×aA×aA)}{s:List AV}{H H':aA}{Q:List AV->aA->Prop}
 {Hs:Nat->aA} {ss:Nat->List AV} {vs:Nat->AV} {v:AV}
 (R:VE P g pairs base (i+1) (if r.op.fresh then k+1 else k) rs rd' ef' (mT s r.dst v) H' Q Hs ss vs)
 (AF:DStep P g false (base+k) r s H v H') (zS:r.op.pJ=true->H.next<=H'.next)
 (hrd:∀x∈rd,x∈rd') (hef:∀x∈ef,x∈ef')
 (bIy:bN s r=true->∀id,(r.op.cZ (Arg.eval g s)=some id\/(r.op.fresh=true/\id=base+k))->(i,id)∈rd')
 (bHo:bN s r=true->r.op.pJ=true->(i,H,H')∈ef')
 (hold:∀x∈rd,r.op.pJ=true->bN s r=true->(x.1,i)∈pairs->H.get x.2=H'.get x.2)
 (LY:∀x∈ef,bN s r=true->(i,x.1)∈pairs->∀id,(r.op.cZ (Arg.eval g s)=some id\/(r.op.fresh=true/\id=base+k))->x.2.1.get id=x.2.2.get id):
 VE P g pairs base i k (r::rs) rd ef s H Q (aAg H Hs) (aAg s ss) (aAg v vs):=by
 have hk:∀j,base+((if r.op.fresh then k+1 else k)+gL rs j)=base+(k+gL (r::rs) (j+1)):=fun j=>by rw[RA];split<;>omega
 have hi:∀j,i+1+j=i+(j+1):=fun j=>by omega
 refine⟨rfl,rfl,R.fin,fun j q hq=>?_,fun j q hq he=>?_,fun x hx e re he Mg hw hp=>?_,fun x hx j q hq hw hp id hid=>?_,fun j e rj re hj he Mg hwj hwe hp id hid=>?_⟩
 . cases j with
   |zero=>simp at hq;subst hq;refine⟨?_,R.s0⟩;show DStep P g false (base+(k+gL (r::rs) 0)) r s H v (Hs 0);rw[R.h0];exact AF
   |succ j=>have :=R.step j q (by simpa using hq);rw[hk] at this;exact this
 . cases j with
   |zero=>simp at hq;subst hq;show H.next<=(Hs 0).next;rw[R.h0];exact zS he
   |succ j=>exact R.mono j q (by simpa using hq) he
 . cases e with
   |zero=>simp at he;subst he;show H.get x.2=(Hs 0).get x.2;rw[R.h0];exact hold x hx Mg hw hp
   |succ e=>exact R.Uw x (hrd x hx) e re (by simpa using he) Mg hw (by rw[hi];exact hp)
 . cases j with
   |zero=>simp at hq;subst hq;exact LY x hx hw hp id hid
   |succ j=>refine R.new x (hef x hx) j q (by simpa using hq) hw (by rw[hi];exact hp) id ?_;rw[hk];exact hid
 cases j with
 |zero=>
  simp at hj;subst hj
  cases e with
  |zero=>
   simp at he;subst he
   rcases hid with h|h
   . rw[vX (lK h)] at Mg;cases Mg
   rw[nP h.1] at Mg;cases Mg
  |succ e=>exact R.Uw (i,id) (bIy hwj id hid) e re (by simpa using he) Mg hwe (by rw[hi];exact hp)
 |succ j=>
  have GF:rj.op.cZ (Arg.eval g (ss j))=some id\/(rj.op.fresh=true/\id=base+((if r.op.fresh then k+1 else k)+gL rs j)):=by rw[hk];exact hid
  cases e with
  |zero=>simp at he;subst he;show H.get id=(Hs 0).get id;rw[R.h0];exact R.new (i,H,H') (bHo hwe Mg) j rj Zas hwj (by rw[hi];exact hp) id GF
  |succ e=>exact R.both j e rj re Zas (by simpa using he) Mg hwj hwe (by rw[hi,hi];exact hp) id GF
theorem HV.aMf{P:Program}{g:bF}{r:aZ}{s:List AV}{H H':aA}{v:AV}{id:Nat}(h:HV P g r s H v H')(hw:bN s r=true)(hf:r.op.fresh=false):DStep P g false id r s H v H':=by unfold DStep;rw[if_pos hw,if_neg (by simp[hf])];exact h
theorem HK{P:Program}{g:bF}{pairs:List (Nat×Nat)}{base:Nat}{Q:List AV->aA->Prop}:∀(rs:List aZ) (i k:Nat) (rd:List (Nat×Nat)) (ef:List (Nat×aA×aA)) (s:List AV) (H:aA),
 Uz P g pairs base i k rs rd ef s H Q->∃Hs ss vs,VE P g pairs base i k rs rd ef s H Q Hs ss vs
 |[],i,k,rd,ef,s,H,h=>⟨fun _=>H,fun _=>s,fun _=>aB,rfl,rfl,h,fun j r hj=>by simp at hj,fun j r hj=>by simp at hj,fun x hx e re he=>by simp at he,fun x hx e re he=>by simp at he,fun j e rj re hj=>by simp at hj⟩
 |r::rs,i,k,rd,ef,s,H,h=>by
  unfold Uz at h;by_cases hw:bN s r=true
  . rw[if_pos hw] at h;by_cases hf:r.op.fresh=true
    . rw[if_pos hf] at h;obtain⟨ob,val,h1,h2,h3⟩:=h;obtain⟨Hs,ss,vs,R⟩:=HK rs _ _ _ _ _ _ h3;have hk:(if r.op.fresh then k+1 else k)=k+1:=(by rw[if_pos hf]);refine⟨_,_,_,VE.cons (v:=val (base+k)) (by rw[hk];exact R) ?_ (fun he=>by rw[nP hf] at he;cases he) (fun x hx=>Aw _ hx) (fun x hx=>hx) (fun _ id hid=>?_) (fun _ he=>by rw[nP hf] at he;cases he) (fun x _ he=>by rw[nP hf] at he;cases he) (fun x hx _ hp id hid=>?_)⟩
      . unfold DStep;rw[if_pos hw,if_pos hf];exact⟨ob,val,h1,rfl,rfl⟩
      . rcases hid with hid|hid
        . have :=lK hid;rw[zV this] at hf;cases hf
        rw[hid.2];exact Bc
      rcases hid with hid|hid
      . have :=lK hid;rw[zV this] at hf;cases hf
      rw[hid.2];exact h2 x hx hp
    rw[if_neg hf] at h;have hf':r.op.fresh=false:=(by simpa using hf);have hk:(if r.op.fresh then k+1 else k)=k:=(by rw[if_neg hf]);by_cases he:r.op.pJ=true
    . rw[if_pos he] at h;obtain⟨v,H',h1,h2,h3,h4⟩:=h;obtain⟨Hs,ss,vs,R⟩:=HK rs _ _ _ _ _ _ h4;refine⟨_,_,_,VE.cons (v:=v) (by rw[hk];exact R) (h1.aMf hw hf') (fun _=>h2) (fun x hx=>hx) (fun x hx=>Aw _ hx) (fun _ id hid=>?_) (fun _ _=>Bc) (fun x hx _ _ hp=>h3 x hx hp) (fun x hx _ hp id hid=>?_)⟩
      all_goals
       rcases hid with hid|hid
       . rw[vX (lK hid)] at he;cases he
       exact absurd hid.1 hf
    rw[if_neg he] at h;obtain⟨v,h1,h2,h3⟩:=h;obtain⟨Hs,ss,vs,R⟩:=HK rs _ _ _ _ _ _ h3;refine⟨_,_,_,VE.cons (v:=v) (by rw[hk];exact R) (h1.aMf hw hf') (fun wX=>absurd wX he) (fun x hx=>?_) (fun x hx=>hx) (fun _ id hid=>?_) (fun _ wX=>absurd wX he) (fun x _ wX=>absurd wX he) (fun x hx _ hp id hid=>?_)⟩
    . split
      . exact Aw _ hx
      exact hx
    . rcases hid with hid|hid
      . rw[hid];exact Bc
      exact absurd hid.1 hf
    rcases hid with hid|hid
    . exact h2 id hid x hx hp
    exact absurd hid.1 hf
  rw[if_neg hw] at h;obtain⟨Hs,ss,vs,R⟩:=HK rs _ _ _ _ _ _ h;refine⟨_,_,_,VE.cons (v:=aB) R ?_ (fun _=>Ag _) (fun x hx=>hx) (fun x hx=>hx) (fun lT=>absurd lT hw) (fun lT=>absurd lT hw) (fun x _ _ lT=>absurd lT hw) (fun x _ lT=>absurd lT hw)⟩;unfold DStep;rw[if_neg hw];exact⟨rfl,rfl⟩
def pK(H:aA):Nat->Bool
 |0=>true
 |n+1=>pK H n&&(H.get (H.next+n)).isNone
theorem Om{H:aA}:∀{n:Nat},pK H n=true->∀k,k<n->H.get (H.next+k)=none
 |0,_,k,hk=>absurd hk (Ar k)
 |n+1,h,k,hk=>by
  simp only[pK,Ak,Option.isNone_iff_eq_none] at h;by_cases vw:k=n
  . rw[vw];exact h.2
  exact Om h.1 k A0
def bt(P:Program)(g:bF)(rl:List aZ)(pairs:List (Nat×Nat))(s:List AV)(H:aA)(Q:List AV->aA->Prop):Prop:=
 pK H (rl.countP (·.op.fresh))=true/\Uz P g pairs H.next 0 0 rl [] [] s {H with next:=H.next+rl.countP (·.op.fresh)} Q
theorem bt.run{P:Program}{g:bF}{rl:List aZ}{pairs:List (Nat×Nat)}{s:List AV}{H:aA}{Q:List AV->aA->Prop}(h:bt P g rl pairs s H Q)
 (hp:∀i e,(i,e)∈pairs->∀re,rl[e]?=some re->re.op.pJ=true):
 ∃Hs ss vs,dH P g rl none pairs s H Hs ss vs/\Q (ss rl.length) (Hs rl.length):=by
 obtain⟨Hs,ss,vs,R⟩:=HK _ _ _ _ _ _ _ h.2;refine⟨Hs,ss,vs,⟨R.s0,R.h0,Om h.1,fun i r hi=>?_,R.mono,fun i e hie ri re hi he hwi hwe id hid=>?_⟩,R.fin⟩
 . have :=R.step i r hi;rw[Dg] at this;exact this
 refine R.both i e ri re hi he (hp i e hie re he) hwi hwe (by simpa using hie) id ?_;rw[Dg];exact hid
def Nz(P:Program)(g:bF)(rl:List aZ)(pairs:List (Nat×Nat))(s:List AV)(H:aA)(E:AV->List AV->aA->Prop):Prop:=
 ∃j Hs ss vs,(j,rl.length)∈pairs/\dH P g rl (some j) pairs s H Hs ss vs/\
 ∃r f azs p x H1,rl[j]?=some r/\r.op=.call f azs/\bN (ss j) r=true/\lQ (f.eval g (ss j))=some p/\
  Sound P g p.1 (p.2.1++azs.map (Arg.eval g (ss j))++p.2.2) (Hs j) (.JU x) H1/\E x (ss j) H1
theorem Nz.mono{P:Program}{g:bF}{rl:List aZ}{pairs:List (Nat×Nat)}{s:List AV}{H:aA}{E E':AV->List AV->aA->Prop}(h:Nz P g rl pairs s H E)(he:∀x s H,E x s H->E' x s H):Nz P g rl pairs s H E':=
 let⟨j,Hs,ss,vs,h1,h2,r,f,azs,p,x,H1,e1,e2,e3,e4,e5,e6⟩:=h
 ⟨j,Hs,ss,vs,h1,h2,r,f,azs,p,x,H1,e1,e2,e3,e4,e5,he _ _ _ e6⟩
def Ny(P:Program)(g:bF)(rl:List aZ)(pairs:List (Nat×Nat))(s:List AV)(H:aA)(E:AV->aA->Prop):Prop:=
 ∃(j:Nat) (Zw:List aZ) (Hs:Nat->aA) (ss:Nat->List AV) (vs:Nat->AV),(j,rl.length+1)∈pairs/\Zw.length=rl.length/\(∀(i:Nat) (r':aZ),Zw[i]?=some r'->∃r:aZ,rl[i]?=some r/\(r'=r\/r'=⟨r.dst,.Lu (.const aB),none⟩))/\(∀(i:Nat) (r:aZ),rl[i]?=some r->i<=j\/(j,rl.length+2+i)∈pairs->Zw[i]?=some r)/\
 dH P g Zw (some j) pairs s H Hs ss vs/\
 ∃r f azs p x H1,rl[j]?=some r/\r.op=.call f azs/\bN (ss j) r=true/\lQ (f.eval g (ss j))=some p/\
  Sound P g p.1 (p.2.1++azs.map (Arg.eval g (ss j))++p.2.2) (Hs j) (.JU x) H1/\E x H1
theorem Ny.mono{P:Program}{g:bF}{rl:List aZ}{pairs:List (Nat×Nat)}{s:List AV}{H:aA}{E E':AV->aA->Prop}(h:Ny P g rl pairs s H E)(he:∀x H,E x H->E' x H):Ny P g rl pairs s H E':=
 let⟨j,Zw,Hs,ss,vs,h1,h2,h3,h4,D,r,f,azs,p,x,H1,e1,e2,e3,e4,e5,e6⟩:=h
 ⟨j,Zw,Hs,ss,vs,h1,h2,h3,h4,D,r,f,azs,p,x,H1,e1,e2,e3,e4,e5,he _ _ e6⟩
theorem pD.bLp{ops:Array Oper}{rl Zw:List aZ}{pairs:List (Nat×Nat)}{anc:Nat->Nat->Bool}(K:pD ops rl pairs anc)(h:∀(i:Nat) (r':aZ),Zw[i]?=some r'->∃r:aZ,rl[i]?=some r/\(r'=r\/r'=⟨r.dst,.Lu (.const aB),none⟩)):pD ops Zw pairs anc:=by
 have du:∀{d:Option Nat} {t:Nat},t∉wB (⟨d,.Lu (.const aB),none⟩:aZ):=fun {d t} h=>by simp[wB,dY.args,Arg.tmps] at h
 have ef:∀{d:Option Nat},(⟨d,.Lu (.const aB),none⟩:aZ).op.pJ=true->False:=fun h=>by cases h
 have re:∀{d:Option Nat},(⟨d,.Lu (.const aB),none⟩:aZ).op.reads=true->False:=fun h=>by cases h
 have fr:∀{d:Option Nat},(⟨d,.Lu (.const aB),none⟩:aZ).op.fresh=true->False:=fun h=>by cases h
 refine⟨K.aMg,K.wit,fun i j ri rj uU hi hj ha=>?_,fun i j ri rj uU hi hj he hf=>?_,fun i r hi hr v hv=>?_⟩
 . obtain⟨r1,h1,e1⟩:=h i ri hi;obtain⟨r2,h2,e2⟩:=h j rj hj;obtain⟨c1,c2,c3,c4,c5⟩:=K.cmp i j r1 r2 uU h1 h2 ha
   rcases e1 with rfl|rfl<;>rcases e2 with rfl|rfl
   . exact⟨c1,c2,c3,c4,c5⟩
   . exact⟨fun _=>rfl,fun d hd=>⟨du,(c2 d hd).2⟩,c3,fun h=>(ef h).elim,fun _ h=>(re h).elim⟩
   . exact⟨fun h=>(ef h).elim,c2,fun d hd=>du,fun _ h=>h.elim (fun h=>(re h).elim) fun h=>(fr h).elim,fun h=>(ef h).elim⟩
   exact⟨fun h=>(ef h).elim,fun d hd=>⟨du,(c2 d hd).2⟩,fun d hd=>du,fun h=>(ef h).elim,fun h=>(ef h).elim⟩
 . obtain⟨r1,h1,e1⟩:=h i ri hi;obtain⟨r2,h2,e2⟩:=h j rj hj
   rcases e1 with rfl|rfl
   . rcases e2 with rfl|rfl
     . exact K.early i j _ _ uU h1 h2 he hf
     exact(fr hf).elim
   exact(ef he).elim
 obtain⟨r1,h1,e1⟩:=h i r hi
 rcases e1 with rfl|rfl
 . exact K.lits i _ h1 hr v hv
 exact(re hr).elim
def rU(n:Nat)(dP:List Nat)(i j:Nat):Bool:=decide (i<j)&&decide (j<n)&&(dP.getD j 0).testBit i
def TW(ri rj:aZ):Bool:=
 (!ri.op.pJ|| !rj.op.pJ)&&
 (match ri.dst with|some d=> !(wB rj).contains d&&rj.dst != some d|none=>true)&&
 (match rj.dst with|some d=> !(wB ri).contains d|none=>true)
def aCi(r:aZ):Bool:= !r.op.reads||r.op.args.all fun |.const v=>(BN v).isNone|_=>true
def Tf(ops:Array Oper)(rl:List aZ)(dP:List Nat):Bool:=
 (List.range rl.length).all fun j=>
   match ops[j]?,rl[j]? with
   |some o,some rj=>
    o.after.toList.all (fun e=> !Region.binds .any e||decide (e.on<j))&&aCi rj&&
    (List.range j).all fun i=>
      if rU rl.length dP i j then o.after.toList.any fun e=>Region.binds .any e&&(e.on==i||rU rl.length dP i e.on)
      else match rl[i]? with
       |some ri=>TW ri rj
       |none=>false
   |_,_=>false
def Sh(rl:List aZ)(dP:List Nat)(a b:Nat):Bool:=
 match rl[a]?,rl[b]? with
 |some ra,some rb=>rb.op.pJ&&
  ((decide (a<b)&& !rU rl.length dP a b&&(ra.op.reads||ra.op.fresh))||(decide (b<a)&&(ra.op.fresh||(!rU rl.length dP b a&&ra.op.reads))))
 |_,_=>false
def WU(rl:List aZ)(dP:List Nat)(j:Nat):Bool:=
 match rl[j]? with
 |some r=>match r.op with
  |.call _ _=>(List.range rl.length).all fun k=>k==j||rU rl.length dP k j||rU rl.length dP j k
  |_=>false
 |none=>false
def aXa:aZ->Bool
 |⟨some _,.load _ _ (.tmp _),none⟩=>true
 |_=>false
def ZT(rl:List aZ)(dP:List Nat)(j:Nat):Bool:=
 match rl[j]? with
 |some r=>match r.op with
  |.call _ _=>(List.range rl.length).all fun k=>k==j||rU rl.length dP k j||rU rl.length dP j k||(decide (j<k)&&match rl[k]? with|some q=>aXa q|none=>false)
  |_=>false
 |none=>false
def bFf(rl:List aZ)(j:Nat):Bool:=(rl.drop (j+1)).all fun |⟨_,.Lu _,none⟩=>true|_=>false
def JL(rl:List aZ)(dP:List Nat):List (Nat×Nat):=
 ((List.range rl.length).filter fun j=> !(WU rl dP j&&bFf rl j)&&ZT rl dP j).flatMap fun j=>(j,rl.length+1)::((List.range rl.length).filter fun k=>decide (j<k)&& !rU rl.length dP j k).map fun k=>(j,rl.length+2+k)
def pS(rl:List aZ)(dP:List Nat):List (Nat×Nat):=
 (((List.range rl.length).flatMap fun a=>(List.range rl.length).map fun b=>(a,b)).filter fun p=>Sh rl dP p.1 p.2)++
 (((List.range rl.length).filter (WU rl dP)).map fun j=>(j,rl.length))++JL rl dP
theorem Lt{rl:List aZ}{dP:List Nat}{a b:Nat}:(a,b)∈JL rl dP↔(a<rl.length/\ZT rl dP a=true/\(WU rl dP a&&bFf rl a)=false)/\(b=rl.length+1\/∃k,k<rl.length/\a<k/\rU rl.length dP a k=false/\b=rl.length+2+k):=by
 unfold JL;simp only[Ek,Fk,Az,Am,Bm,Af,Ak,Cs,Bf];constructor
 . rintro⟨x,⟨h1,h2,h3⟩,⟨rfl,rfl⟩|⟨k,⟨h4,h5,h6⟩,rfl,rfl⟩⟩
   . exact⟨⟨h1,h3,h2⟩,.inl rfl⟩
   exact⟨⟨h1,h3,h2⟩,.inr ⟨k,h4,h5,h6,rfl⟩⟩
 rintro⟨⟨h1,h2,h3⟩,rfl|⟨k,h4,h5,h6,rfl⟩⟩
 . exact⟨a,⟨h1,h3,h2⟩,.inl ⟨rfl,rfl⟩⟩
 exact⟨a,⟨h1,h3,h2⟩,.inr ⟨k,⟨h4,h5,h6⟩,rfl,rfl⟩⟩
theorem mM{rl:List aZ}{dP:List Nat}{a b:Nat}:(a,b)∈pS rl dP↔(a<rl.length/\b<rl.length/\Sh rl dP a b=true)\/(b=rl.length/\WU rl dP a=true/\a<rl.length)\/(a,b)∈JL rl dP:=by
 unfold pS;simp only[Aq,Fk,Ek,Az,Bm,Af,or_assoc];constructor
 . rintro(⟨⟨x,hx,y,hy,rfl,rfl⟩,h⟩|⟨x,⟨h1,h2⟩,rfl,rfl⟩|h)
   . exact .inl ⟨hx,hy,h⟩
   . exact .inr (.inl ⟨rfl,h2,h1⟩)
   exact .inr (.inr h)
 rintro(⟨h1,h2,h3⟩|⟨rfl,h2,h3⟩|h)
 . exact .inl ⟨⟨a,h1,b,h2,rfl,rfl⟩,h3⟩
 . exact .inr (.inl ⟨a,⟨h3,h2⟩,rfl,rfl⟩)
 exact .inr (.inr h)
theorem WS{rl:List aZ}{dP:List Nat}{a b:Nat}(h:(a,b)∈JL rl dP):rl.length<b:=by rcases(Lt.1 h).2 with rfl|⟨k,_,_,_,rfl⟩<;>omega
theorem Zj{rl:List aZ}{dP:List Nat}{j:Nat}(h:(j,rl.length)∈pS rl dP):∀k,k<rl.length->(k<j->rU rl.length dP k j=true)/\(j<k->rU rl.length dP j k=true):=by
 rcases mM.1 h with ⟨_,h,_⟩|⟨_,h,_⟩|h
 . exact absurd h (Ew _)
 rotate_left
 . exact absurd (WS h) (Ew _)
 intro k hk;unfold WU at h
 have h:(List.range rl.length).all (fun k=>k==j||rU rl.length dP k j||rU rl.length dP j k)=true:=by
  split at h
  . split at h
    . exact h
    cases h
  cases h
 have :=Bg.1 h k (Az.2 hk);simp only[Dq,Dh] at this
 have ho:∀{a b:Nat},rU rl.length dP a b=true->a<b:=fun {a b} h=>by unfold rU at h;simp only[Ak,Bf] at h;exact h.1.1
 constructor
 . intro hkj
   rcases this with (rfl|h)|h
   . omega
   . exact h
   have :=ho h;omega
 intro hkj
 rcases this with (rfl|h)|h
 . omega
 . have :=ho h;omega
 exact h
theorem Wj{rl:List aZ}{dP:List Nat}{j:Nat}(h:(j,rl.length+1)∈pS rl dP):(∀k,k<rl.length->k<j->rU rl.length dP k j=true)/\∀k,k<rl.length->j<k->rU rl.length dP j k=false->(j,rl.length+2+k)∈pS rl dP:=by
 rcases mM.1 h with ⟨_,h,_⟩|⟨h,_⟩|h
 . omega
 . omega
 obtain⟨⟨h1,h2,h3⟩,_⟩:=Lt.1 h;refine⟨fun k hk hkj=>?_,fun k hk ZC ha=>mM.2 (.inr (.inr (Lt.2 ⟨⟨h1,h2,h3⟩,.inr ⟨k,hk,ZC,ha,rfl⟩⟩)))⟩;unfold ZT at h2
 have ho:∀{a b:Nat},rU rl.length dP a b=true->a<b:=fun {a b} h=>by unfold rU at h;simp only[Ak,Bf] at h;exact h.1.1
 split at h2
 . split at h2
   . have :=Bg.1 h2 k (Az.2 hk);simp only[Dq,Dh,Ak,Bf] at this
     rcases this with ((rfl|h)|h)|h
     . omega
     . exact h
     . have :=ho h;omega
     omega
   cases h2
 cases h2
theorem LK{ops:Array Oper}{rl:List aZ}{dP:List Nat}(hn:rl.length=ops.size)(h:Tf ops rl dP=true):pD ops rl (pS rl dP) (rU rl.length dP):=by
 unfold Tf at h;rw[Bg] at h
 have hj:∀(j:Nat) (o:Oper) (rj:aZ),ops[j]?=some o->rl[j]?=some rj->
  (o.after.toList.all (fun e=> !Region.binds .any e||decide (e.on<j))&&aCi rj&&
  (List.range j).all fun i=>
    if rU rl.length dP i j then o.after.toList.any fun e=>Region.binds .any e&&(e.on==i||rU rl.length dP i e.on)
    else match rl[i]? with
     |some ri=>TW ri rj
     |none=>false)=true:=fun j o rj ho hr=>by
  have :=h j (Az.2 (Be.1 hr).1);rw[ho,hr] at this;exact this
 have AE:∀(j:Nat),j<rl.length->∃o rj,ops[j]?=some o/\rl[j]?=some rj:=fun j hj=>⟨ops[j]'(by omega),rl[j],by simp[show j<ops.size by omega],by simp[hj]⟩
 have bHf:∀i j ri rj,i<j->rl[i]?=some ri->rl[j]?=some rj->rU rl.length dP i j=false->TW ri rj=true:=fun i j ri rj uU hi vr ha=>by obtain⟨o,rj',ho,hr'⟩:=AE j (Be.1 vr).1;have :=hj j o rj ho vr;simp only[Ak] at this;have :=Bg.1 this.2 i (Az.2 uU);rw[ha,hi] at this;exact this
 refine⟨fun j o ho e he hb=>?_,fun i j ha=>?_,fun i j ri rj uU hi vr ha=>?_,fun i j ri rj uU hi vr he hf=>?_,fun j r hr hrd v hv=>?_⟩
 . obtain⟨o',rj,ZF,hr⟩:=AE j (by rw[hn];exact(Cg.1 ho).1);have :=hj j o rj ho hr;simp only[Ak] at this;have :=Bg.1 this.1.1 e (by simpa using he);rw[hb] at this;simpa using this
 . have ek:=ha;unfold rU at ha;simp only[Ak,Bf] at ha;obtain⟨o,rj,ho,hr⟩:=AE j ha.1.2;have :=hj j o rj ho hr;simp only[Ak] at this;have :=Bg.1 this.2 i (Az.2 ha.1.1);rw[if_pos ek] at this;obtain⟨e,he,hc⟩:=Cv.1 this;simp only[Ak,Dq,Dh] at hc;exact⟨o,ho,e,by simpa using he,hc.1,hc.2⟩
 . have hap:=bHf i j ri rj uU hi vr ha;have wb:=(Be.1 hi).1;have hlj:=(Be.1 vr).1;unfold TW at hap;simp only[Ak] at hap;obtain⟨⟨h1,h2⟩,h3⟩:=hap;refine⟨fun he=>?_,fun d hd=>?_,fun d hd=>?_,fun he hr=>?_,fun he hr=>?_⟩
   . rw[he] at h1;simpa using h1
   . rw[hd] at h2;simp only[Ak,Cs,Gw] at h2;exact⟨fun hm=>by have :=h2.1;simp[hm] at this,h2.2⟩
   . rw[hd] at h3;simp only[Cs] at h3;exact fun hm=>by simp[hm] at h3
   . refine mM.2 (.inl ⟨wb,hlj,?_⟩);unfold Sh;rw[hi,vr];simp only[he,uU,ha,Fv,Fy,Du,Ct,Dq];exact .inl hr
   refine mM.2 (.inl ⟨hlj,wb,?_⟩);unfold Sh;rw[hi,vr];simp[he,uU,ha,hr]
 . have wb:=(Be.1 hi).1;have hlj:=(Be.1 vr).1;refine mM.2 (.inl ⟨hlj,wb,?_⟩);unfold Sh;rw[hi,vr];simp[he,uU,hf]
 obtain⟨o,rj',ho,_⟩:=AE j (Be.1 hr).1;have :=hj j o r ho hr;simp only[Ak] at this;have :=this.1.2;unfold aCi at this;rw[hrd] at this;simp only[Ih,Bool.false_or] at this;have :=Bg.1 this _ hv;simpa using this
theorem rf{rl:List aZ}{dP:List Nat}:∀i e,(i,e)∈pS rl dP->∀re,rl[e]?=some re->re.op.pJ=true:=fun i e h re hre=>by
 rcases mM.1 h with ⟨_,_,this⟩|⟨rfl,_⟩|hl
 rotate_left
 . rw[Bt (Ag _)] at hre;cases hre
 . rw[Bt (Nat.le_of_lt (WS hl))] at hre;cases hre
 unfold Sh at this;rw[hre] at this
 cases hi:rl[i]? with
 |none=>rw[hi] at this;cases this
 |some ri=>rw[hi] at this;simp only[Ak] at this;exact this.1
def bR.nd:bR->Bool
 |.ops rl=>rl.all fun r=>match r.op with|.lN _ _=>false|_=>true
 |.seq a b|.cond _ a b=>a.nd&&b.nd
 |.block _ a|.loop a=>a.nd
 |.oJ _ _ _ _=>false
 |_=>true
def eK(P:Program)(g:bF)(mu:Bool):Code->Option bR
 |.skip=>some .skip
 |.label _=>some .skip
 |.region _ ops false=>(lM P g mu ops ops.toList).map .ops
 |.region _ ops true=>match lM P g mu ops ops.toList with
  |some rl=>if Tf ops rl (Region.before ops).toList then some (.draw rl (pS rl (Region.before ops).toList)) else none
  |none=>none
 |.seq a b=>match eK P g mu a,eK P g mu b with
  |some x,some y=>some (.seq x y)
  |_,_=>none
 |.cond c a b=>match bJ g c,eK P g mu a,eK P g mu b with
  |some z,some x,some y=>some (.cond z x y)
  |_,_,_=>none
 |.block id a=>(eK P g mu a).map (.block id)
 |.loop a=>(eK P g mu a).map .loop
 |.scope a=>eK P g mu a
 |.exit id=>some (.exit id)
 |.ret=>some .ret
 |.rangeFunc c ps x y=>match bJ g c,eK P g mu x,eK P g mu y with
  |some c',some x',some y'=>if x'.nd&&y'.nd then some (.oJ c' ps.toList x' y') else none
  |_,_,_=>none
 |_=>none
def aFb(next:List AV->List fY->aA->Prop)(Q:AQ):AQ
 |.normal,s,ds,H=>next s ds H
 |e,s,ds,H=>Q e s ds H
def pP(id:Nat)(Q:AQ):AQ
 |.exit i,s,ds,H=>if i=id then Q .normal s ds H else Q (.exit i) s ds H
 |e,s,ds,H=>Q e s ds H
def pT(s:List AV):List (Nat×AV)->List AV
 |[]=>s
 |(t,v)::r=>pT (s.set t v) r
def Wy(id:Nat)(out:Out)(H3:aA):AQ
 |.normal,_,ds,H=>ds=[]/\out=.ret (.bool true)/\∃k sn,H.get id=some (.loop k sn .busy)/\H3=H.set id (.loop k sn .ready)
 |.ret,_,ds,H=>ds=[]/\out=.ret (.bool false)/\∃k sn,H.get id=some (.loop k sn .busy)/\H3=H.set id (.loop k sn (.done .ret))
 |.exit i,_,ds,H=>ds=[]/\out=.ret (.bool false)/\∃k sn,H.get id=some (.loop k sn .busy)/\H3=H.set id (.loop k sn (.done (.exit i)))
 |.panic _,_,_,_=>False
def aJe(st:LSt)(sn:List AV)(ds:List fY)(H:aA)(Q:AQ):Prop:=
 match st with
 |.ready=>Q .normal sn ds H
 |.done .ret=>Q .ret sn ds H
 |.done (.exit i)=>Q (.exit i) sn ds H
 |_=>False
def xE(He:aA)(id:Nat)(Hf:aA):Prop:=Hf.next=He.next/\∀m,Hf.get m=if m=id then some .dead else He.get m
def AC(P:Program)(g:bF):bR->List AV->List fY->aA->AQ->Prop
 |.skip,s,ds,H,Q=>Q .normal s ds H
 |.ops rl,s,ds,H,Q=>tF P g rl s ds H Q
 |.draw rl pairs,s,ds,H,Q=>(bt P g rl pairs s H fun s' H'=>Q .normal s' ds H')\/(Nz P g rl pairs s H fun x s' H'=>Q (.panic x) s' ds H')\/Ny P g rl pairs s H fun x H'=>∀s':List AV,s'.length=s.length->(∀t,t∉rl.filterMap (·.dst)->s'.getD t aB=s.getD t aB)->Q (.panic x) s' ds H'
 |.seq a b,s,ds,H,Q=>AC P g a s ds H (aFb (fun s ds H=>AC P g b s ds H Q) Q)
 |.cond c a b,s,ds,H,Q=>∃t,c.eval g s=.bool t/\if t then AC P g a s ds H Q else AC P g b s ds H Q
 |.block id a,s,ds,H,Q=>AC P g a s ds H (pP id Q)
 |.loop a,s,ds,H,Q=>∃(I:Nat->List AV->List fY->aA->Prop) (n:Nat),I n s ds H/\
   ∀n s ds H,I n s ds H->AC P g a s ds H (aFb (fun s ds H=>∃m,m<n/\I m s ds H) Q)
 |.exit id,s,ds,H,Q=>Q (.exit id) s ds H
 |.ret,s,ds,H,Q=>Q .ret s ds H
 |.oJ c ps MQ body,s,ds,H,Q=>∃fid fs cs v He k' s' st Hf,c.eval g s=.func (.func fid) fs cs/\
   Sound P g fid (fs++[.yield (H.next+1)]++cs) ((H.alloc .MV).alloc (.loop ⟨ps,MQ,body⟩ s .ready)) (.ret v) He/\He.get (H.next+1)=some (.loop k' s' st)/\xE He (H.next+1) Hf/\
   aJe st s (.mark H.next::ds) Hf Q
def OA(P:Program)(g:bF)(k:KT)(s:List AV)(id:Nat)(args:List AV)(H2:aA)(out:Out)(H3:aA):Prop:=
 AC P g k.MQ (pT s (k.ps.zip args)) [] H2 fun e s1 pI H1=>match e with
  |.normal=>pI=[]/\∃k1 jl,H1.get id=some (.loop k1 jl .ready)/\AC P g k.body s1 [] (H1.set id (.loop k1 jl .busy)) (Wy id out H3)
  |_=>False
structure Fit (P:Program) (g:bF):Prop where
 mixed:P.follows .mixedOrders=true
 lok:∀k r,g.lok k r↔(r.params.toList=k.ps/\∃mu,eK P g mu r.assign=some k.MQ/\eK P g mu r.body=some k.body/\k.MQ.nd=true/\k.body.nd=true)
noncomputable def UF (p:Nat->Prop) (h:∃n,p n):Nat:=
 Classical.choose (show ∃n,p n/\∀m,p m->n<=m from by
  obtain⟨n,hn⟩:=h
  induction n using Nat.strongRecOn with
  |_ n ih=>
   by_cases hc:∃m,m<n/\p m
   . obtain⟨m,hm,hp⟩:=hc;exact ih m hm hp
   exact⟨n,hn,fun m hm=>Iz fun dT=>hc ⟨m,dT,hm⟩⟩)
theorem Mm(p:Nat->Prop)(h:∃n,p n):p (UF p h)/\∀m,p m->UF p h<=m:=Iw (UF._proof_1 p h)
theorem XX{F:Fence}{n:Nat}{P:Program}{c:Code}{Q:Exit->Act->World->Prop}{a:Act}{w:World}(h:c.wpIn F n P Q a w)(hg:∀l a w,¬Q (.goto l) a w):(Code.scope c).wpIn F n P Q a w:=by
 intro b k cs AE hb hr;obtain⟨e,a',w',hq,GA⟩:=h b (.inScope c::k) cs AE hb hr;have h1:step P (lone (b.atR a (.code (.scope c)::k)) cs w)=.next (lone (b.atR a (.code c::.inScope c::k)) cs w):=step_lone_go (by simp[stepG,stepG.exec,Frame.atR]);have h2:∀a w,step P (lone (b.atR a (.inScope c::k)) cs w)=.next (lone (b.atR a k) cs w):=fun a w=>step_lone_go (by simp[stepG,stepG.exec,Frame.atR]);refine⟨e,a',w',hq,.of_steps (.one (fenced_calm hb hr rfl) h1) ?_⟩
 cases e with
 |normal=>exact StepsIn.trans GA (.one (fenced_calm hb hr rfl) (h2 a' w'))
 |exit id=>exact⟨fun k' hk=>GA.1 k' (by simpa [exitTo] using hk),fun hr hk=>GA.2 hr (by simpa [exitTo] using hk)⟩
 |goto l=>exact(hg l a' w' hq).elim
 |ret=>exact GA
 |panic ch=>exact GA
 |outgrown=>exact GA
theorem XW{F:Fence}{n0:Nat}{P:Program}{Q:Exit->Act->World->Prop}{c:Code}(I:Nat->Act->World->Prop){n:Nat}{a:Act}{w:World}(h0:I n a w)
 (round:∀n a w,I n a w->c.wpIn F n0 P (Exit.then (fun a' w'=>∃m,m<n/\I m a' w') Q) a w):(Code.loop c).wpIn F n0 P Q a w:=by
 classical
 refine wpIn_loop (fun a' w'=>∃m,I m a' w') (fun a' w'=>if h:∃m,I m a' w' then UF (fun m=>I m a' w') h else 0) ⟨n,h0⟩ fun a' w' hI=>?_;have Uu:=Mm (fun m=>I m a' w') hI;refine wpIn_mono (round _ a' w' Uu.1) fun e a1 w1 hq=>?_
 cases e with
 |normal=>obtain⟨m,hm,h1⟩:=hq;have hI1:∃m,I m a1 w1:=⟨m,h1⟩;refine⟨hI1,?_⟩;rw[dif_pos hI1,dif_pos hI];exact Ce ((Mm (fun m=>I m a1 w1) hI1).2 m h1) hm
 |_=>exact hq
theorem QR.aJj{g:bF}{G:Gh}{H:aA}{w:World}{Q:AQ}{l:Nat}{a:Act}{w':World}:¬QR g G H w Q (.goto l) a w':=by rintro⟨ae,s',fH,H',G',_,_,_,_,_,hx⟩;cases ae<;>exact hx.elim
theorem AG{P:Program}{g:bF}{mu:Bool}(hm:Fit P g):∀(c:Code) (ro:Option Nat) (ac:bR),eK P g mu c=some ac->(ro=none\/ac.nd=true)->∀(s:List AV) (ds:List fY) (G:Gh) (H:aA) (w:World) (a:Act) (Q:AQ),
 AC P g ac s ds H Q->WR g G H w->SR G w s a->TJ G w ds a.defers->c.wpIn (Fw ro) 0 P (QR g G H w Q) a w:=by
 intro c
 induction c with
 |skip=>intro ro ac hc AE s ds G H w a Q h hw hs hd;simp only[eK,Ab] at hc;subst hc;exact wpIn_skip ⟨.normal,s,ds,H,G,h,hw,Ext.refl G H w,hs,hd,trivial⟩
 |label l=>intro ro ac hc AE s ds G H w a Q h hw hs hd;simp only[eK,Ab] at hc;subst hc;exact wpIn_label ⟨.normal,s,ds,H,G,h,hw,Ext.refl G H w,hs,hd,trivial⟩
 |region id ops draw=>
  intro ro ac hc AE s ds G H w a Q h hw hs hd
  cases draw with
  |false=>
   simp only[eK,Ae] at hc;obtain⟨rl,Tq,rfl⟩:=hc;refine wpIn_region ?_
   have :=EZ (ro:=ro) ops.toList rl 0 Tq (fun j hj=>by simp) (AE.imp (fun h=>h) fun h r hr f azs e=>by
    have :=Bg.1 h r hr
    rw[e] at this;cases this) s ds G H w a Q h hw hs hd
   rw[Cz] at this
   rwa [Kz]
  |true=>
   simp only[eK] at hc;split at hc
   . rename_i rl Tq;split at hc
     . rename_i NO;obtain rfl:=Aa hc;have hn:rl.length=ops.size:=by simpa using(yF _ _ Tq).1
       rcases h with h|⟨j,Hs,ss,vs,h1,D,h2⟩|⟨j,Zw,Hs,ss,vs,h1,hl,PC,wZ,D,r,f,lk,p,x,H1,e1,e2,e3,e4,e5,e6⟩
       . obtain⟨Hs,ss,vs,D,hQ⟩:=bt.run h rf;exact FU hm.mixed Tq rfl (fun _ _ h _=>h) D (LK hn NO) hw hs hd (fun _=>hQ) (fun j h=>by cases h)
       . refine FU hm.mixed Tq rfl (fun _ _ h _=>h) D (LK hn NO) hw hs hd (fun h=>by cases h) (fun k hk=>by
          cases hk;have hmk:=Zj h1;obtain⟨r,f,lk,p,x,H1,e1,e2,e3,e4,e5,e6⟩:=h2
          exact⟨fun k hk hkj=>(hmk k hk).1 hkj,r,f,lk,p,x,H1,e1,e2,e3,e4,e5,fun s' _ _ BL=>by rw[BL fun k hk ZC=>(hmk k hk).2 ZC];exact e6⟩)
       obtain⟨q1,q2⟩:=Wj h1
       refine FU hm.mixed Tq hl.symm (fun i r hi hj=>wZ i r hi ?_) D ((LK hn NO).bLp PC) hw hs hd (fun h=>by cases h) (fun k hk=>by
        cases hk
        exact⟨fun k hk hkj=>q1 k A0 hkj,r,f,lk,p,x,H1,wZ _ _ e1 (.inl (Ag _)),e2,e3,e4,e5,fun s' nB ht _=>e6 s' (nB.trans (D.xD _ (by rw[hl];exact Nat.le_of_lt (Be.1 e1).1))) fun t hm=>by
         have cG:∀(i:Nat) (q:aZ),Zw[i]?=some q->q.dst≠some t:=fun i q hi hq=>by
          obtain⟨r0,h0,h⟩:=PC i q hi;refine hm (Jq.2 ⟨r0,List.mem_of_getElem? h0,?_⟩)
          rcases h with rfl|rfl<;>exact hq
         rw[ht t cG,D.XJ cG (by rw[hl];exact Nat.le_of_lt (Be.1 e1).1)]⟩)
       by_cases uU:i<=j
       . exact .inl uU
       exact .inr (q2 i (Be.1 hi).1 A0 (hj j rfl))
     cases hc
   cases hc
 |seq x y ihx ihy=>
  intro ro ac hc AE s ds G H w a Q h hw hs hd;simp only[eK] at hc;split at hc
  . rename_i ax ay hax hay;obtain rfl:=Aa hc;refine wpIn_seq (wpIn_mono (ihx ro ax hax (AE.imp (fun h=>h) fun h=>(Ak _ _▸h).1) s ds G H w a _ h hw hs hd) fun e a' w' hq=>?_);obtain⟨ae,s',fH,H',G',q,lT,he,BL,rE,hx⟩:=hq
    cases e with
    |normal=>
     cases ae with
     |normal=>exact wpIn_mono (ihy ro ay hay (AE.imp (fun h=>h) fun h=>(Ak _ _▸h).2) s' fH G' H' w' a' Q q lT BL rE) fun _ _ _ hq=>QR.trans he hq
     |_=>exact hx.elim
    |_=>
     cases ae with
     |normal=>exact hx.elim
     |_=>exact⟨_,s',fH,H',G',q,lT,he,BL,rE,hx⟩
  cases hc
 |cond c x y ihx ihy=>
  intro ro ac hc AE s ds G H w a Q h hw hs hd;simp only[eK] at hc;split at hc
  . rename_i az ax ay haz hax hay;obtain rfl:=Aa hc;obtain⟨t,ht,h⟩:=h;have hv:=bG hw hs haz;rw[ht] at hv;refine wpIn_cond hv.jR ?_
    cases t with
    |true=>exact ihx ro ax hax (AE.imp (fun h=>h) fun h=>(Ak _ _▸h).1) s ds G H w a Q h hw hs hd
    |false=>exact ihy ro ay hay (AE.imp (fun h=>h) fun h=>(Ak _ _▸h).2) s ds G H w a Q h hw hs hd
  cases hc
 |block id x ih=>
  intro ro ac hc AE s ds G H w a Q h hw hs hd;simp only[eK,Ae] at hc;obtain⟨ax,hax,rfl⟩:=hc;refine wpIn_block (wpIn_mono (ih ro ax hax AE s ds G H w a _ h hw hs hd) fun e a' w' hq=>?_);obtain⟨ae,s',fH,H',G',q,lT,he,BL,rE,hx⟩:=hq
  cases ae with
  |exit i=>
   cases e with
   |exit i'=>
    obtain rfl:i=i':=hx;simp only[pP] at q;simp only[Exit.inBlock];split
    . rename_i hi;rw[if_pos hi] at q;exact⟨.normal,s',fH,H',G',q,lT,he,BL,rE,trivial⟩
    rename_i hi;rw[if_neg hi] at q;exact⟨.exit i,s',fH,H',G',q,lT,he,BL,rE,rfl⟩
   |_=>exact hx.elim
  |normal=>
   cases e with
   |normal=>exact⟨.normal,s',fH,H',G',q,lT,he,BL,rE,trivial⟩
   |_=>exact hx.elim
  |ret=>
   cases e with
   |ret=>exact⟨.ret,s',fH,H',G',q,lT,he,BL,rE,trivial⟩
   |_=>exact hx.elim
  |panic v=>
   cases e with
   |panic ch=>exact⟨.panic v,s',fH,H',G',q,lT,he,BL,rE,hx⟩
   |_=>exact hx.elim
 |loop x ih=>
  intro ro ac hc AE s ds G H w a Q h hw hs hd;simp only[eK,Ae] at hc;obtain⟨ax,hax,rfl⟩:=hc;obtain⟨I,n,h0,hI⟩:=h;refine XW (fun n a' w'=>∃s' fH H' G',I n s' fH H'/\WR g G' H' w'/\Ext G H w G' H' w'/\SR G' w' s' a'/\TJ G' w' fH a'.defers) ⟨s,ds,H,G,h0,hw,Ext.refl G H w,hs,hd⟩ fun n a1 w1 hi=>?_;obtain⟨s1,pI,H1,G1,hi,PC,Ur,hs1,ot⟩:=hi;refine wpIn_mono (ih ro ax hax AE s1 pI G1 H1 w1 a1 _ (hI n s1 pI H1 hi) PC hs1 ot) fun e a' w' hq=>?_;obtain⟨ae,s',fH,H',G',q,lT,he,BL,rE,hx⟩:=hq
  cases e with
  |normal=>
   cases ae with
   |normal=>obtain⟨m,hm,pB⟩:=q;exact⟨m,hm,s',fH,H',G',pB,lT,Ur.trans he,BL,rE⟩
   |_=>exact hx.elim
  |_=>
   cases ae with
   |normal=>exact hx.elim
   |_=>exact⟨_,s',fH,H',G',q,lT,Ur.trans he,BL,rE,hx⟩
 |scope x ih=>intro ro ac hc AE s ds G H w a Q h hw hs hd;exact XX (ih ro ac hc AE s ds G H w a Q h hw hs hd) fun l a w=>QR.aJj
 |exit id=>intro ro ac hc AE s ds G H w a Q h hw hs hd;simp only[eK,Ab] at hc;subst hc;exact wpIn_exit ⟨.exit id,s,ds,H,G,h,hw,Ext.refl G H w,hs,hd,rfl⟩
 |ret=>intro ro ac hc AE s ds G H w a Q h hw hs hd;simp only[eK,Ab] at hc;subst hc;exact wpIn_ret ⟨.ret,s,ds,H,G,h,hw,Ext.refl G H w,hs,hd,trivial⟩
 |rangeFunc c ps x y ihx ihy=>
  intro ro ac hc AE s ds G H w a Q h hw hs hd;simp only[eK] at hc;split at hc
  . rename_i c' ax ay hc' hax hay;split at hc
    . rename_i RH;obtain rfl:=Aa hc;rw[Ak] at RH
      obtain rfl:ro=none:=AE.resolve_right fun h=>by cases h
      obtain⟨fid,fs,cs,v,He,k',s',st,Hf,hcv,hS,AF,aMr,hQ⟩:=h;have hvc:=bG hw hs hc';rw[hcv] at hvc;obtain⟨fsv,csv,hfv,h1,h2⟩:=FL (p:=(fid,fs,cs)) rfl hvc;refine wpIn_rangeFunc fun fn _=>?_;obtain⟨r,hr⟩:∃r:Loop,r={state:=.ready,pending:=none,fn,tmps:=a.tmps,params:=ps,assign:=x,body:=y,defers:=w.heap.size}:=⟨_,rfl⟩;have hrr:nI r .ready=r:=by rw[hr];rfl
      have fresh:∀{G:Gh} {H:aA} {w:World},WR g G H w->G.loc H.next=none:=fun {G H w} hw=>by
       cases hl:G.loc H.next with
       |none=>rfl
       |some l'=>exact absurd (hw.lt _ _ hl) (Ew _)
      have m1:=hw.DM H.next .MV (.deferred (some [])) rfl (fresh hw) (aA.aI H _) (Hg _) (Fm _) (w':=w.alloc (.deferred (some []))) ⟨rfl,.now⟩ (fun _=>by show(w.heap.push _)[w.heap.size]?=_;simp);have uB:SR (G.dW H.next ⟨w.heap.size,0,0,1⟩) (w.alloc (.deferred (some []))) s a:=hs.ext (m1.ext (Ext.refl G H w) (Ag _))
      have m2:=m1.rel.DM (H.alloc .MV).next (.loop ⟨ps.toList,ax,ay⟩ s .ready) (.loop r) rfl (fresh m1.rel) (aA.aI _ _) (Hg _) (Fm _) (w':=(w.alloc (.deferred (some []))).alloc (.loop r)) ⟨rfl,.now⟩ (fun hmv=>by
       refine⟨r,(hm.lok _ _).2 ⟨by rw[hr],mu,by rw[hr];exact hax,by rw[hr];exact hay,RH.1,RH.2⟩,by rw[hrr];exact DV (w.heap.push (.deferred (some []))) (.loop r),?_⟩;have hrt:r.tmps=a.tmps:=(by rw[hr]);rw[hrt]
       exact⟨uB.1,fun j hj=>hmv _ _ (uB.2 j hj)⟩)
      have e2:=m2.ext (m1.ext (Ext.refl G H w) (Ag _)) (Hg _);obtain⟨G2,hG2⟩:∃G2,G2=(G.dW H.next ⟨w.heap.size,0,0,1⟩).dW (H.alloc .MV).next ⟨(w.alloc (.deferred (some []))).heap.size,0,0,1⟩:=⟨_,rfl⟩
      have hL:G2.loc (H.next+1)=some ⟨w.heap.size+1,0,0,1⟩:=by rw[hG2];show(if H.next+1=H.next+1 then some (⟨(w.heap.push _).size,0,0,1⟩:Loc) else _)=_;simp
      have hD:G2.loc H.next=some ⟨w.heap.size,0,0,1⟩:=by rw[hG2];show(if H.next=H.next+1 then _ else if H.next=H.next then some (⟨w.heap.size,0,0,1⟩:Loc) else _)=_;rw[if_neg A0,if_pos rfl]
      have zZ:=m2.rel;rw[<-hG2] at zZ e2;have bHn:True:=trivial
      refine⟨w.heap.size+1,[{target:=.collected w.heap.size,args:= #[]}],_,{target:=.fn (.func fid) csv.toArray,args:=fsv.toArray++ #[.func (.yield (w.heap.size+1)) #[] #[]]},(w.alloc (.deferred (some []))).alloc (.loop {state:=.ready,pending:=none,fn,tmps:=a.tmps,params:=ps,assign:=x,body:=y,defers:=w.heap.size}),fid,_,_,
       run_enterLoop_outer _ _ _ _ _,?_,fun _ _=>trivial,oC hS.1 _ _ _,BV,?_⟩
      . simp only[resolve,rangeCall,hfv];simp[Deferred.ofValue,Act.eval]
      rw[<-hr]
      have nQ:gW G2 ((w.alloc (.deferred (some []))).alloc (.loop r)) (fs++[.yield (H.next+1)]++cs) (fsv++[.func (.yield (w.heap.size+1)) #[] #[]]++csv):=
       ((h1.ext e2).append ((VR.yield (H.next+1) _ hL).cons (gW.nil _ _))).append (h2.ext e2)
      have EL:=hS.2 G2 _ _ zZ nQ;rw[show(fsv++[Value.func (.yield (w.heap.size+1)) #[] #[]]++csv).toArray=(fsv.toArray++ #[.func (.yield (w.heap.size+1)) #[] #[]])++csv.toArray by apply Fh;simp] at EL;refine(OQ EL).mono fun e w3 he=>?_;obtain⟨G3,hw3,ow,vQ⟩:=he
      cases e with
      |panicked _=>exact vQ.elim
      |outgrown=>exact vQ.elim
      |returned u=>
       have vz:=ow.loc _ _ hL;obtain⟨_,_,r3,bIb,hb3,aZo⟩:=hw3.iG _ _ _ vz AF rfl;have aTf:=e2.trans ow
       have fin:∀(p:Option LEx),(nI r3 st).pending=p.map LEx.code->(nI r3 st).state≠ .busy->∃w4,(Instr.endLoop (w.heap.size+1)).run P w3=.ok (p.map LEx.code) w4/\
        WR g G3 Hf w4/\Ext G H w G3 Hf w4:=by
        intro p hp hb
        have h5:(Instr.endLoop (w.heap.size+1)).run P w3=.ok (p.map LEx.code) (w3.putObj (w.heap.size+1) (.loop {nI r3 st with state:=.exhausted})):=by have h5:=run_endLoop (P:=P) hb3 hb;rw[h5];exact Ao (fun q=>Result.ok q _) hp
        obtain⟨q1,q2⟩:=hw3.GX (o':=.loop k' s' (.over p)) (x:=.loop {nI r3 st with state:=.exhausted}) (w':=w3.putObj (w.heap.size+1) (.loop {nI r3 st with state:=.exhausted})) vz AF rfl rfl rfl .now (fun hmv xA=>⟨r3,bIb,by
         rw[xA];congr 2
         cases st<;>simp only[nI] at hp ⊢ <;>rw[hp],⟨aZo.1,fun j hj=>hmv _ _ (aZo.2 j hj)⟩⟩)
        have hg:∀m,Hf.get m=((He.set (H.next+1) (.loop k' s' (.over p))).set (H.next+1) .dead).get m:=fun m=>by rw[aMr.2,aA.aC,aA.aC];split<;>rfl
        have hn:Hf.next=((He.set (H.next+1) (.loop k' s' (.over p))).set (H.next+1) .dead).next:=aMr.1;exact⟨_,h5,(q1.kill (H.next+1)).oH (fun m _ _=>hg m) A0,((aTf.trans q2).kill (H.next+1)).oH (fun m _ _=>hg m) A0⟩
       have nv:∀{H4:aA} {w4:World},Ext G H w G3 H4 w4->SR G3 w4 s {a with defers:=[{target:=.collected w.heap.size,args:= #[]}]++a.defers}/\
        TJ G3 w4 (.mark H.next::ds) ([{target:=.collected w.heap.size,args:= #[]}]++a.defers):=fun {H4 w4} ex=>
        ⟨hs.ext ex,⟨_,ow.loc _ _ hD,rfl⟩,hd.ext ex⟩
       cases st with
       |ready=>obtain⟨w4,h5,q1,q2⟩:=fin none rfl (by simp[nI]);exact⟨none,w4,h5,.normal,s,_,_,G3,hQ,q1,q2,(nv q2).1,(nv q2).2,trivial⟩
       |done e=>
        obtain⟨w4,h5,q1,q2⟩:=fin (some e) rfl (by simp[nI]);refine⟨_,w4,h5,?_⟩
        cases e with
        |ret=>exact wpIn_ret ⟨.ret,s,_,_,G3,hQ,q1,q2,(nv q2).1,(nv q2).2,trivial⟩
        |exit i=>exact wpIn_exit ⟨.exit i,s,_,_,G3,hQ,q1,q2,(nv q2).1,(nv q2).2,rfl⟩
       |busy=>exact hQ.elim
       |over _=>exact hQ.elim
    cases hc
  cases hc
 |_=>intro ro ac hc;simp[eK] at hc
theorem KZ{P:Program}{g:bF}(hm:Fit P g){id:Nat}{k:KT}{s args:List AV}{H2 H3:aA}{out:Out}(cS:H2.get id=some (.loop k s .ready))(hlen:args.length=k.ps.length)
 (hA:OA P g k s id args H2 out H3):rS P g id args H2 out H3:=by
 intro G' w' vs l' lT hv nB;obtain⟨_,_,r,hlk,hblk,hsn⟩:=lT.iG _ l' _ nB cS rfl;obtain⟨hrp,mu,hax,hay,RH⟩:=(hm.lok _ _).1 hlk;have hvl:=hv.1;have hy:=run_yield (P:=P) (args:=vs.toArray) hblk (by rw[<-hvl] at hlen;show vs.toArray.size=r.params.size;rw[<-Cz (xs:=r.params),hrp];simpa using hlen);refine⟨_,_,_,_,hy,roundIn_of_wpIn trivial ?_⟩
 have hS1:SR G' w' (pT s (k.ps.zip args)) {tmps:=(r.params.zip vs.toArray).foldl (fun tmps (t,a)=>tmps.setIfInBounds t a) r.tmps,defers:=[]}:=by
  have key:∀(l:List Nat) (azs:List AV) (us:List Value) (s0:List AV) (tm:Array Value),gW G' w' azs us->gW G' w' s0 tm.toList->
   gW G' w' (pT s0 (l.zip azs)) ((l.zip us).foldl (fun tmps (t,a)=>tmps.setIfInBounds t a) tm).toList:=by
   intro l
   induction l with
   |nil=>intro azs us s0 tm _ h0;simpa [pT] using h0
   |cons t l ih=>
    intro azs us s0 tm ha h0
    cases azs with
    |nil=>have :=ha.1;simp only[Bw,Ip] at this;subst this;simpa [pT] using h0
    |cons v azs=>
     cases us with
     |nil=>have :=ha.1;simp at this
     |cons u us=>have yL:=ha.2 0 A2;simp only[Dk] at yL;have ta:gW G' w' azs us:=⟨by have :=ha.1;simpa using this,fun j hj=>by have :=ha.2 (j+1) Zas;simpa using this⟩;simp only[List.zip_cons_cons,pT,Kr];refine ih azs us _ _ ta ?_;exact(SR.put (a:={tmps:=tm,defers:=[]}) h0 (some t) yL:_)
  have :=key k.ps args vs s r.tmps hv hsn;show gW G' w' _ _;rw[<-Array.foldl_toList,Array.toList_zip,hrp];exact this
 refine wpIn_mono (AG hm _ (some l'.cV) _ hax (.inr RH.1) _ [] G' H2 w' _ _ hA lT hS1 trivial) fun e a1 w1 hq=>?_;obtain⟨ae,s1,pI,H1,G1,q,PC,Ur,hs1,ot,hx⟩:=hq
 cases ae with
 |normal=>
  cases e with
  |normal=>
   obtain⟨hds,k1,jl,aMn,aYr⟩:=q;subst hds;have BI:=Ur.loc _ _ nB;obtain⟨_,_,r1,bIa,rP,aZn⟩:=PC.iG _ _ _ BI aMn rfl;obtain⟨q1,q2⟩:=PC.GX (o':=.loop k1 jl .busy) (x:=.loop {nI r1 .ready with state:=.busy}) (w':=w1.putObj l'.cV (.loop {nI r1 .ready with state:=.busy})) BI aMn rfl rfl rfl .now (fun hmv xA=>⟨r1,bIa,xA,⟨aZn.1,fun j hj=>hmv _ _ (aZn.2 j hj)⟩⟩);refine⟨_,run_beginRound rP rfl,?_⟩
   have bHi:a1.defers=[]:=by
    cases ou:a1.defers with
    |nil=>rfl
    |cons d r=>rw[ou] at ot;exact ot.elim
   refine wpIn_mono (AG hm _ (some l'.cV) _ hay (.inr RH.2) s1 [] G1 _ _ a1 _ aYr q1 (hs1.ext q2) (by rw[bHi];trivial)) fun e a2 w3 hq=>?_;obtain⟨ae,s2,Qy,H4,G4,q,hw4,he4,hs4,hd4,hx⟩:=hq;have aTf:=(Ur.trans q2).trans he4;have hl4:=(q2.trans he4).loc _ _ BI
   have fin:∀(st:LSt) (b:Bool) (jump:Option Code),(∃k4 sn4,H4.get id=some (.loop k4 sn4 .busy)/\H3=H4.set id (.loop k4 sn4 st))->out=.ret (.bool b)->jump.isNone=b->
    (∀r q:Loop,q=nI r .busy->{q with state:=if jump.isNone then .ready else .done,pending:=jump}=nI r st)->
    ∃v w5,(Instr.endRound l'.cV jump).run P w3=.ok v w5/\∃G'',WR g G'' H3 w5/\Ext G' H2 w' G'' H3 w5/\YE G'' w5 out (.returned v):=by
    intro st b jump ⟨k4,sn4,hg4,h3⟩ ho hj wa;obtain⟨_,_,r4,bIc,hb4,aZp⟩:=hw4.iG _ _ _ hl4 hg4 rfl;have h6:=run_endRound (P:=P) jump hb4;rw[wa r4 _ rfl] at h6;obtain⟨p1,p2⟩:=hw4.GX (o':=.loop k4 sn4 st) (x:=.loop (nI r4 st)) (w':=w3.putObj l'.cV (.loop (nI r4 st))) hl4 hg4 rfl rfl rfl .now (fun hmv xA=>⟨r4,bIc,xA,⟨aZp.1,fun j hj=>hmv _ _ (aZp.2 j hj)⟩⟩);refine⟨_,_,h6,G4,by rw[h3];exact p1,by rw[h3];exact aTf.trans p2,?_⟩;rw[ho,hj];exact .bool b
   cases ae with
   |normal=>
    cases e with
    |normal=>obtain⟨_,ho,hg4⟩:=q;exact fin .ready true none hg4 ho rfl (fun r q hq=>by subst hq;rfl)
    |_=>exact hx.elim
   |ret=>
    cases e with
    |ret=>obtain⟨_,ho,hg4⟩:=q;exact fin (.done .ret) false (some .ret) hg4 ho rfl (fun r q hq=>by subst hq;rfl)
    |_=>exact hx.elim
   |exit i=>
    cases e with
    |exit j=>obtain rfl:i=j:=hx;obtain⟨_,ho,hg4⟩:=q;exact fin (.done (.exit i)) false (some (.exit i)) hg4 ho rfl (fun r q hq=>by subst hq;rfl)
    |_=>exact hx.elim
   |panic v=>exact q.elim
  |_=>exact hx.elim
 |_=>exact q.elim
inductive HL where
 |tmp (t:Nat)
 |cell (a:Nat) (agg:Bool) (n:Nat)
def zw(P:Program):ResultVar->Option HL
 |.tmp t=>some (.tmp t)
 |.cell a t=>match fS P t,jY P t with
  |some agg,some n=>some (.cell a agg n)
  |_,_=>none
def uP(P:Program):List ResultVar->Option (List HL)
 |[]=>some []
 |x::r=>match zw P x,uP P r with
  |some y,some ys=>some (y::ys)
  |_,_=>none
def tc(s:List AV)(H:aA):HL->Option AV
 |.tmp t=>some (s.getD t aB)
 |.cell a agg n=>match dE (Arg.eval g0 s) H (.load agg n (.tmp a)) with
  |some (v,_)=>some v
  |none=>none
def mN(s:List AV)(H:aA):List HL->Option (List AV)
 |[]=>some []
 |x::r=>match tc s H x,mN s H r with
  |some v,some vs=>some (v::vs)
  |_,_=>none
def pA:List AV->AV
 |[v]=>v
 |vs=>.jZ vs
structure CR where
 ntmps:Nat
 results:List HL
 body:bR
def gH(P:Program)(g:bF)(mu:Bool)(f:FuncId)(F:CR):Prop:=
 ∃fn c,P.funcs[f]?=some fn/\fn.body=some c/\(fn.name== "runtime.NumGoroutine")=false/\eK P g mu c=some F.body/\fn.ntmps=F.ntmps/\uP P fn.results.toList=some F.results
theorem gH.ok{P:Program}{g:bF}{mu:Bool}{f:FuncId}{F:CR}(h:gH P g mu f F):AJ P f:=
 let⟨fn,c,h1,h2,h3,_⟩:=h
 ⟨fn,h1,by rw[h2];rfl,h3⟩
def qP(F:CR)(args:List AV):List AV:=args++List.replicate (F.ntmps -args.length) aB
def aLd(F:CR)(R:Out->aA->Prop):AQ
 |.normal,s,ds,H|.ret,s,ds,H=>ds=[]/\∃vs,mN s H F.results=some vs/\R (.ret (pA vs)) H
 |.panic v,_,ds,H=>ds=[]/\R (.JU v) H
 |.exit _,_,_,_=>False
theorem aEc{P:Program}{g:bF}{G:Gh}{H:aA}{w:World}{s:List AV}{a:Act}{x:Nat}{t:TypeId}{agg:Bool}{n:Nat}(hag:fS P t=some agg)(lF:jY P t=some n)
 {v:AV} {H':aA} (hw:WR g G H w) (hs:SR G w s a) (h:dE (Arg.eval g0 s) H (.load agg n (.tmp x))=some (v,H')):
 ∃ad u,a.tmps.getD x undef=.pointer (some ad)/\(loadVar t ad).run P w=.ok u w/\VR G w v u:=by
 have vx:=hs.getD x
 have fin:∀(b o':Nat) (cs:List AV),a.tmps.getD x undef=.pointer (some ⟨b,o',none⟩)->n=cs.length->(∀c∈cs,c.one=true)->(agg=false->n=1)->
  (∀j,j<n->∃u,w.cell? ⟨b,o'+j,none⟩=some u/\VR G w (cs.getD j aB) u)->
  ∃ad u,a.tmps.getD x undef=.pointer (some ad)/\(loadVar t ad).run P w=.ok u w/\VR G w (if agg then .agg cs else cs.getD 0 aB) u:=by
  intro b o' cs he hl h1 hn hc;obtain⟨u,hr,hv⟩:=KB (P:=P) hag lF hl h1 hn hc;exact⟨_,u,he,hr,hv⟩
 simp only[dE,Arg.eval] at h;generalize eA:a.tmps.getD x undef=xv at vx fin;split at h
 . rename_i id off hid;rw[hid] at vx;split at h
   . rename_i cs Mf;obtain⟨eB,hg⟩:=aA.pH Mf;split at h
     . rename_i iE
       cases vx with
       |ref _ _ l hl=>
        have h4:=(hw.cells id l cs eB hl hg).2.2.2.1;have mL:=MB hw hl hg iE;have hlen:n=((cs.drop off).take n).length:=Zaf;have yK:∀c∈(cs.drop off).take n,c.one=true:=fun c hc=>h4 c (Gr (De hc));split at h
        . exact ZaY
        rename_i rD;split at h
        . rename_i hn;simp only[Ab,Af] at h;obtain⟨rfl,rfl⟩:=h;have :=fin _ _ _ rfl hlen yK (fun _=>hn) mL
          rwa [if_neg rD,eZ _ _ _ _ _ A0,Dd] at this
        cases h
     cases h
   cases h
 . rename_i cs hid;rw[hid] at vx;split at h
   . rename_i iE
     cases vx with
     |pl _ b o' us hh hv=>
      have mL:∀j,j<n->∃u,w.cell? ⟨b,o'+j,none⟩=some u/\VR G w ((cs.take n).getD j aB) u:=fun j hj=>by rw[getD_take _ _ _ _ hj];exact⟨us j,(hh j A0).2.1,hv j A0⟩
      have hlen:n=(cs.take n).length:=by simp;omega
      have yK:∀c∈cs.take n,c.one=true:=fun c hc=>by obtain⟨j,hj,rfl⟩:=Hy.1 (De hc);have :=(hh j hj).2.2;simpa [getD_eq,Ac hj] using this
      split at h
      . exact ZaY
      rename_i rD;split at h
      . rename_i hn;simp only[Ab,Af] at h;obtain⟨rfl,rfl⟩:=h;have :=fin _ _ _ rfl hlen yK (fun _=>hn) mL
        rwa [if_neg rD,getD_take _ _ _ _ A0] at this
      cases h
   cases h
 cases h
def UM(tmps:Array Value):ResultVar->Sem Value
 |.tmp t=>pure (tmps.getD t undef)
 |.cell a t=>do loadVar t (←asAddr (tmps.getD a undef))
theorem KA{P:Program}{g:bF}{G:Gh}{H:aA}{w:World}{s:List AV}{a:Act}(hw:WR g G H w)(hs:SR G w s a):∀(l:List ResultVar) (rl:List HL) (vs:List AV),uP P l=some rl->mN s H rl=some vs->
 ∃us:List Value,(l.mapM (UM a.tmps)).run P w=Result.ok us w/\gW G w vs us
 |[],rl,vs,hr,h=>by obtain rfl:=Aa hr;obtain rfl:=Aa h;exact⟨[],by simp,gW.nil G w⟩
 |x::l,rl,vs,hr,h=>by
  unfold uP at hr;split at hr
  . rename_i y ys hy Ln;obtain rfl:=Aa hr;unfold mN at h;split at h
    . rename_i v vs' hv nQ;obtain rfl:=Aa h;obtain⟨us,h1,h2⟩:=KA hw hs l ys vs' Ln nQ
      cases x with
      |tmp t=>obtain rfl:=Aa hy;obtain rfl:=Aa hv;exact⟨a.tmps.getD t undef::us,by simp[h1,UM],gW.cons (hs.getD t) h2⟩
      |cell b t=>
       simp only[zw] at hy;split at hy
       . rename_i agg n hag lF;obtain rfl:=Aa hy;simp only[tc] at hv;split at hv
         . rename_i v' H' lB;obtain rfl:=Aa hv;obtain⟨ad,u,e1,e2,e3⟩:=aEc hag lF hw hs lB;refine⟨u::us,?_,gW.cons e3 h2⟩;simp only[List.mapM_cons,UM,Sem.run_bind,e1,asAddr,Sem.run_pure,Result.andThen_ok,e2,h1]
         cases hv
       cases hy
    cases h
  cases hr
theorem NB{P:Program}{g:bF}{G:Gh}{H:aA}{w:World}{s:List AV}{a:Act}{fn:Func}{rl:List HL}{vs:List AV}(hw:WR g G H w)(hs:SR G w s a)(hr:uP P fn.results.toList=some rl)(h:mN s H rl=some vs):
 ∃u,(results fn a.tmps).run P w=.ok u w/\VR G w (pA vs) u:=by
 obtain⟨us,h1,h2⟩:=KA hw hs _ _ _ hr h
 have key:(results fn a.tmps).run P w=.ok (if h:us.toArray.size=1 then us.toArray[0] else .tuple us.toArray) w:=by
  have DZ:results fn a.tmps=(fn.results.mapM (UM a.tmps)>>= fun vs=>pure (if h:vs.size=1 then vs[0] else .tuple vs)):=by unfold results;congr 1
  rw[DZ];rw[Array.mapM_eq_mapM_toList];simp only[map_eq_pure_bind,Sem.run_bind];rw[h1];simp
 refine⟨_,key,?_⟩;have hl:=h2.1
 cases vs with
 |nil=>obtain rfl:us=[]:=Ip.1 hl;exact VR.nL G w
 |cons v vs=>
  cases us with
  |nil=>simp at hl
  |cons u us=>
   cases vs with
   |nil=>simp at hl;subst hl;have :=h2.2 0 A2;simpa [pA] using this
   |cons v2 vs=>
    cases us with
    |nil=>simp at hl
    |cons u2 us=>rw[dif_neg A2];exact VR.jZ _ _ h2.1 h2.2
def KY(P:Program)(g:bF)(f:FuncId)(args:List AV)(H:aA)(R:Out->aA->Prop):Prop:=
 AJ P f/\∀(G:Gh) (w:World) (vs:List Value),WR g G H w->gW G w args vs->
  Calls P f vs.toArray w fun e w'=>∃out H' G',R out H'/\WR g G' H' w'/\Ext G H w G' H' w'/\YE G' w' out e
theorem HW{P:Program}{g:bF}{mu:Bool}(hm:Fit P g){f:FuncId}{F:CR}(hF:gH P g mu f F){args:List AV}{H:aA}{R:Out->aA->Prop}
 (h:AC P g F.body (qP F args) [] H (aLd F R)):KY P g f args H R:=by
 refine⟨hF.ok,fun G w vs hw hv=>?_⟩;obtain⟨fn,c,h1,h2,_,h3,h4,h5⟩:=hF;refine calls_of_wp h1 h2 (wp_mono (wpIn_wide.1 (AG hm c none F.body h3 (.inl rfl) _ [] G H w _ _ h hw ?_ trivial)) fun e a w' hq=>?_)
 . have hlen:=hv.1;show gW G w _ _;exact Za3
 obtain⟨ae,s',fH,H1,G',q,lT,he,BL,rE,hx⟩:=hq
 have To:fH=[]->a.defers=[]:=fun hh=>by
  subst hh
  cases ou:a.defers with
  |nil=>rfl
  |cons d r=>rw[ou] at rE;exact rE.elim
 have fin:∀e',(fH=[]/\∃vs,mN s' H1 F.results=some vs/\R (.ret (pA vs)) H1)->
  (e'=Exit.normal\/e'=Exit.ret)->bodyPost P fn (fun e w'=>∃out H' G',R out H'/\WR g G' H' w'/\Ext G H w G' H' w'/\YE G' w' out e) e' a w':=by
  rintro e' ⟨hds,vs',nQ,hR⟩ wX;obtain⟨u,hu,NP⟩:=NB lT BL h5 nQ
  rcases wX with rfl|rfl
  all_goals exact⟨To hds,u,hu,_,_,G',hR,lT,he,NP⟩
 cases ae with
 |normal=>
  cases e with
  |normal=>exact fin _ q (.inl rfl)
  |_=>exact hx.elim
 |ret=>
  cases e with
  |ret=>exact fin _ q (.inr rfl)
  |_=>exact hx.elim
 |exit id=>exact q.elim
 |panic v=>
  cases e with
  |panic ch=>obtain⟨hds,hR⟩:=q;exact⟨To hds,_,_,G',hR,lT,he,hx⟩
  |_=>exact hx.elim
theorem KY.exact{P:Program}{g:bF}{f:FuncId}{args:List AV}{H H':aA}{out:Out}(h:KY P g f args H fun o h=>o=out/\h=H'):Sound P g f args H out H':=
 ⟨h.1,fun G w vs hw hv=>(h.2 G w vs hw hv).mono fun e w' ⟨_,_,G',⟨e1,e2⟩,h1,h2,h3⟩=>⟨G',e2▸h1,e2▸h2,e1▸h3⟩⟩
theorem Sound.open{P:Program}{g:bF}{f:FuncId}{args:List AV}{H H':aA}{out:Out}(h:Sound P g f args H out H'):KY P g f args H fun o h=>o=out/\h=H':=
 ⟨h.1,fun G w vs hw hv=>(h.2 G w vs hw hv).mono fun e w' ⟨G',h1,h2,h3⟩=>⟨_,_,G',⟨rfl,rfl⟩,h1,h2,h3⟩⟩
theorem VL{P:Program}{g:bF}{mu:Bool}(hm:Fit P g){f:FuncId}{F:CR}(hF:gH P g mu f F){args:List AV}{H H':aA}{out:Out}
 (h:AC P g F.body (qP F args) [] H (aLd F fun o h=>o=out/\h=H')):Sound P g f args H out H':=(HW hm hF h).exact
end Go.Av
