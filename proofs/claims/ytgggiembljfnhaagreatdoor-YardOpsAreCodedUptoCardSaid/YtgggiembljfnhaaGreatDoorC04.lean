/-
  Part of the proof of statement 14
-/
import Derived.Test.YtgggiembljfnhaaGreatDoorC03
import Derived.Laws.Sem
set_option linter.unusedVariables false
set_option linter.unusedSimpArgs false
set_option linter.unusedSimpArgs false
set_option linter.unusedSectionVars false
namespace Go.Av
open Go
def AS (P:Program) (g:aT) (r:aN) (s:List AV) (H:aA) (v:AV) (H':aA):Prop:=
 match r.op with
 |.call f azs=>∃p,iG (f.eval g s)=some p/\Sound P g p.1 (p.2.1++azs.map (Arg.eval g s)++p.2.2) H (.ret v) H'
 |.panic _|.iH _ _=>False
 |op=>cD (Arg.eval g s) H op=some (v,H')
def Ob (P:Program) (g:aT) (pairs:List (Nat×Nat)) (base:Nat):Nat->Nat->List aN->List (Nat×Nat)->List (Nat×aA×aA)->List AV->aA->(List AV->aA->Prop)->Prop
 |_,_,[],_,_,s,H,Q=>Q s H
 |i,k,r::rs,rd,ef,s,H,Q=>
  if bF s r then
   if r.op.fresh then
    ∃ob val,tL (Arg.eval g s) r.op=some (ob,val)/\(∀x∈ef,(i,x.1)∈pairs->x.2.1.get (base+k)=x.2.2.get (base+k))/\
     Ob P g pairs base (i+1) (k+1) rs ((i,base+k)::rd) ef (jF s r.dst (val (base+k))) (H.set (base+k) ob) Q
   else if r.op.mE then
    ∃v H',AS P g r s H v H'/\H.next<=H'.next/\(∀x∈rd,(x.1,i)∈pairs->H.get x.2=H'.get x.2)/\
     Ob P g pairs base (i+1) k rs rd ((i,H,H')::ef) (jF s r.dst v) H' Q
   else
    ∃v,AS P g r s H v H/\(∀id,r.op.cG (Arg.eval g s)=some id->∀x∈ef,(i,x.1)∈pairs->x.2.1.get id=x.2.2.get id)/\
     Ob P g pairs base (i+1) k rs (match r.op.cG (Arg.eval g s) with|some id=>(i,id)::rd|none=>rd) ef (jF s r.dst v) H Q
  else Ob P g pairs base (i+1) (if r.op.fresh then k+1 else k) rs rd ef (jF s r.dst aC) H Q
structure Og (P:Program) (g:aT) (pairs:List (Nat×Nat)) (base i k:Nat) (rs:List aN) (rd:List (Nat×Nat)) (ef:List (Nat×aA×aA)) (s:List AV) (H:aA) (Q:List AV->aA->Prop)
 (Hs:Nat->aA) (ss:Nat->List AV) (vs:Nat->AV):Prop where
 h0:Hs 0=H
 s0:ss 0=s
 fin:Q (ss rs.length) (Hs rs.length)
 step:∀(j:Nat) (r:aN),rs[j]?=some r->DStep P g false (base+(k+eH rs j)) r (ss j) (Hs j) (vs j) (Hs (j+1))/\ss (j+1)=jF (ss j) r.dst (vs j)
 mono:∀(j:Nat) (r:aN),rs[j]?=some r->r.op.mE=true->(Hs j).next<=(Hs (j+1)).next
 CL:∀x∈rd,∀(e:Nat) (re:aN),rs[e]?=some re->re.op.mE=true->bF (ss e) re=true->(x.1,i+e)∈pairs->(Hs e).get x.2=(Hs (e+1)).get x.2
 new:∀x∈ef,∀(j:Nat) (r:aN),rs[j]?=some r->bF (ss j) r=true->(i+j,x.1)∈pairs->
  ∀id,(r.op.cG (Arg.eval g (ss j))=some id\/(r.op.fresh=true/\id=base+(k+eH rs j)))->x.2.1.get id=x.2.2.get id
 both:∀(j e:Nat) (rj re:aN),rs[j]?=some rj->rs[e]?=some re->re.op.mE=true->bF (ss j) rj=true->bF (ss e) re=true->(i+j,i+e)∈pairs->
  ∀id,(rj.op.cG (Arg.eval g (ss j))=some id\/(rj.op.fresh=true/\id=base+(k+eH rs j)))->(Hs e).get id=(Hs (e+1)).get id
theorem LQ (r:aN) (rs:List aN) (j:Nat):eH (r::rs) (j+1)=(if r.op.fresh then 1 else 0)+eH rs j:=by unfold eH;simp only[Cw,Fl];omega
def Xa {α:Type} (x:α) (f:Nat->α):Nat->α
 |0=>x
 |n+1=>f n
theorem Og.cons {P:Program} {g:aT} {pairs:List (Nat×Nat)} {base i k:Nat} {r:aN} {rs:List aN} {rd rd':List (Nat×Nat)} {ef fe:List (Nat×aA×aA)} {s:List AV} {H H':aA} {Q:List AV->aA->Prop}
 {Hs:Nat->aA} {ss:Nat->List AV} {vs:Nat->AV} {v:AV}
 (R:Og P g pairs base (i+1) (if r.op.fresh then k+1 else k) rs rd' fe (jF s r.dst v) H' Q Hs ss vs)
 (xU:DStep P g false (base+k) r s H v H') (uI:r.op.mE=true->H.next<=H'.next)
 (RC:∀x∈rd,x∈rd') (hef:∀x∈ef,x∈fe)
 (aLe:bF s r=true->∀id,(r.op.cG (Arg.eval g s)=some id\/(r.op.fresh=true/\id=base+k))->(i,id)∈rd')
 (aKm:bF s r=true->r.op.mE=true->(i,H,H')∈fe)
 (hold:∀x∈rd,r.op.mE=true->bF s r=true->(x.1,i)∈pairs->H.get x.2=H'.get x.2)
 (EF:∀x∈ef,bF s r=true->(i,x.1)∈pairs->∀id,(r.op.cG (Arg.eval g s)=some id\/(r.op.fresh=true/\id=base+k))->x.2.1.get id=x.2.2.get id):
 Og P g pairs base i k (r::rs) rd ef s H Q (Xa H Hs) (Xa s ss) (Xa v vs):=by
 have hk:∀j,base+((if r.op.fresh then k+1 else k)+eH rs j)=base+(k+eH (r::rs) (j+1)):=fun j=>by rw[LQ];split<;>omega
 have hi:∀j,i+1+j=i+(j+1):=fun j=>by omega
 refine⟨rfl,rfl,R.fin,fun j q hq=>?_,fun j q hq he=>?_,fun x hx e re he DF hw hp=>?_,fun x hx j q hq hw hp id bZ=>?_,fun j e rj re hj he DF hwj hwe hp id bZ=>?_⟩
 . cases j with
   |zero=>simp at hq;subst hq;refine⟨?_,R.s0⟩;show DStep P g false (base+(k+eH (r::rs) 0)) r s H v (Hs 0);rw[R.h0];exact xU
   |succ j=>have :=R.step j q (by simpa using hq);rw[hk] at this;exact this
 . cases j with
   |zero=>simp at hq;subst hq;show H.next<=(Hs 0).next;rw[R.h0];exact uI he
   |succ j=>exact R.mono j q (by simpa using hq) he
 . cases e with
   |zero=>simp at he;subst he;show H.get x.2=(Hs 0).get x.2;rw[R.h0];exact hold x hx DF hw hp
   |succ e=>exact R.CL x (RC x hx) e re (by simpa using he) DF hw (by rw[hi];exact hp)
 . cases j with
   |zero=>simp at hq;subst hq;exact EF x hx hw hp id bZ
   |succ j=>refine R.new x (hef x hx) j q (by simpa using hq) hw (by rw[hi];exact hp) id ?_;rw[hk];exact bZ
 cases j with
 |zero=>
  simp at hj;subst hj
  cases e with
  |zero=>
   simp at he;subst he
   rcases bZ with h|h
   . rw[rI (iS h)] at DF;cases DF
   rw[kV h.1] at DF;cases DF
  |succ e=>exact R.CL (i,id) (aLe hwj id bZ) e re (by simpa using he) DF hwe (by rw[hi];exact hp)
 |succ j=>
  have zM:rj.op.cG (Arg.eval g (ss j))=some id\/(rj.op.fresh=true/\id=base+((if r.op.fresh then k+1 else k)+eH rs j)):=by rw[hk];exact bZ
  cases e with
  |zero=>simp at he;subst he;show H.get id=(Hs 0).get id;rw[R.h0];exact R.new (i,H,H') (aKm hwe DF) j rj (by simpa using hj) hwj (by rw[hi];exact hp) id zM
  |succ e=>exact R.both j e rj re (by simpa using hj) (by simpa using he) DF hwj hwe (by rw[hi,hi];exact hp) id zM
theorem AS.n9 {P:Program} {g:aT} {r:aN} {s:List AV} {H H':aA} {v:AV} {id:Nat} (h:AS P g r s H v H') (hw:bF s r=true) (hf:r.op.fresh=false):DStep P g false id r s H v H':=by unfold DStep;rw[if_pos hw,if_neg (by simp[hf])];exact h
theorem AN {P:Program} {g:aT} {pairs:List (Nat×Nat)} {base:Nat} {Q:List AV->aA->Prop}:∀(rs:List aN) (i k:Nat) (rd:List (Nat×Nat)) (ef:List (Nat×aA×aA)) (s:List AV) (H:aA),
 Ob P g pairs base i k rs rd ef s H Q->∃Hs ss vs,Og P g pairs base i k rs rd ef s H Q Hs ss vs
 |[],i,k,rd,ef,s,H,h=>⟨fun _=>H,fun _=>s,fun _=>aC,rfl,rfl,h,fun j r hj=>by simp at hj,fun j r hj=>by simp at hj,fun x hx e re he=>by simp at he,fun x hx e re he=>by simp at he,fun j e rj re hj=>by simp at hj⟩
 |r::rs,i,k,rd,ef,s,H,h=>by
  unfold Ob at h;by_cases hw:bF s r=true
  . rw[if_pos hw] at h;by_cases hf:r.op.fresh=true
    . rw[if_pos hf] at h;obtain⟨ob,val,h1,h2,h3⟩:=h;obtain⟨Hs,ss,vs,R⟩:=AN rs _ _ _ _ _ _ h3;have hk:(if r.op.fresh then k+1 else k)=k+1:=(by rw[if_pos hf]);refine⟨_,_,_,Og.cons (v:=val (base+k)) (by rw[hk];exact R) ?_ (fun he=>by rw[kV hf] at he;cases he) (fun x hx=>Ao _ hx) (fun x hx=>hx) (fun _ id bZ=>?_) (fun _ he=>by rw[kV hf] at he;cases he) (fun x _ he=>by rw[kV hf] at he;cases he) (fun x hx _ hp id bZ=>?_)⟩
      . unfold DStep;rw[if_pos hw,if_pos hf];exact⟨ob,val,h1,rfl,rfl⟩
      . rcases bZ with bZ|bZ
        . have :=iS bZ;rw[uK this] at hf;cases hf
        rw[bZ.2];exact Aq
      rcases bZ with bZ|bZ
      . have :=iS bZ;rw[uK this] at hf;cases hf
      rw[bZ.2];exact h2 x hx hp
    rw[if_neg hf] at h;have pd:r.op.fresh=false:=(by simpa using hf);have hk:(if r.op.fresh then k+1 else k)=k:=(by rw[if_neg hf]);by_cases he:r.op.mE=true
    . rw[if_pos he] at h;obtain⟨v,H',h1,h2,h3,h4⟩:=h;obtain⟨Hs,ss,vs,R⟩:=AN rs _ _ _ _ _ _ h4;refine⟨_,_,_,Og.cons (v:=v) (by rw[hk];exact R) (h1.n9 hw pd) (fun _=>h2) (fun x hx=>hx) (fun x hx=>Ao _ hx) (fun _ id bZ=>?_) (fun _ _=>Aq) (fun x hx _ _ hp=>h3 x hx hp) (fun x hx _ hp id bZ=>?_)⟩
      all_goals
       rcases bZ with bZ|bZ
       . rw[rI (iS bZ)] at he;cases he
       exact absurd bZ.1 hf
    rw[if_neg he] at h;obtain⟨v,h1,h2,h3⟩:=h;obtain⟨Hs,ss,vs,R⟩:=AN rs _ _ _ _ _ _ h3;refine⟨_,_,_,Og.cons (v:=v) (by rw[hk];exact R) (h1.n9 hw pd) (fun sG=>absurd sG he) (fun x hx=>?_) (fun x hx=>hx) (fun _ id bZ=>?_) (fun _ sG=>absurd sG he) (fun x _ sG=>absurd sG he) (fun x hx _ hp id bZ=>?_)⟩
    . split
      . exact Ao _ hx
      exact hx
    . rcases bZ with bZ|bZ
      . rw[bZ];exact Aq
      exact absurd bZ.1 hf
    rcases bZ with bZ|bZ
    . exact h2 id bZ x hx hp
    exact absurd bZ.1 hf
  rw[if_neg hw] at h;obtain⟨Hs,ss,vs,R⟩:=AN rs _ _ _ _ _ _ h;refine⟨_,_,_,Og.cons (v:=aC) R ?_ (fun _=>Ai _) (fun x hx=>hx) (fun x hx=>hx) (fun jG=>absurd jG hw) (fun jG=>absurd jG hw) (fun x _ _ jG=>absurd jG hw) (fun x _ jG=>absurd jG hw)⟩;unfold DStep;rw[if_neg hw];exact⟨rfl,rfl⟩
def mQ (H:aA):Nat->Bool
 |0=>true
 |n+1=>mQ H n&&(H.get (H.next+n)).isNone
theorem JV {H:aA}:∀{n:Nat},mQ H n=true->∀k,k<n->H.get (H.next+k)=none
 |0,_,k,hk=>absurd hk (Bh k)
 |n+1,h,k,hk=>by
  simp only[mQ,Aj,Option.isNone_iff_eq_none] at h;by_cases YO:k=n
  . rw[YO];exact h.2
  exact JV h.1 k (by omega)
def Od (P:Program) (g:aT) (rl:List aN) (pairs:List (Nat×Nat)) (s:List AV) (H:aA) (Q:List AV->aA->Prop):Prop:=
 mQ H (rl.countP (·.op.fresh))=true/\Ob P g pairs H.next 0 0 rl [] [] s {H with next:=H.next+rl.countP (·.op.fresh)} Q
theorem Od.run {P:Program} {g:aT} {rl:List aN} {pairs:List (Nat×Nat)} {s:List AV} {H:aA} {Q:List AV->aA->Prop} (h:Od P g rl pairs s H Q)
 (hp:∀i e,(i,e)∈pairs->∀re,rl[e]?=some re->re.op.mE=true):
 ∃Hs ss vs,cM P g rl none pairs s H Hs ss vs/\Q (ss rl.length) (Hs rl.length):=by
 obtain⟨Hs,ss,vs,R⟩:=AN _ _ _ _ _ _ _ h.2;refine⟨Hs,ss,vs,⟨R.s0,R.h0,JV h.1,fun i r hi=>?_,R.mono,fun i e hie ri re hi he hwi hwe id bZ=>?_⟩,R.fin⟩
 . have :=R.step i r hi;rw[Cc] at this;exact this
 refine R.both i e ri re hi he (hp i e hie re he) hwi hwe (by simpa using hie) id ?_;rw[Cc];exact bZ
def IG (P:Program) (g:aT) (rl:List aN) (pairs:List (Nat×Nat)) (s:List AV) (H:aA) (E:AV->List AV->aA->Prop):Prop:=
 ∃j Hs ss vs,(j,rl.length)∈pairs/\cM P g rl (some j) pairs s H Hs ss vs/\
 ∃r f azs p x H1,rl[j]?=some r/\r.op=.call f azs/\bF (ss j) r=true/\iG (f.eval g (ss j))=some p/\
  Sound P g p.1 (p.2.1++azs.map (Arg.eval g (ss j))++p.2.2) (Hs j) (.pA x) H1/\E x (ss j) H1
theorem IG.mono {P:Program} {g:aT} {rl:List aN} {pairs:List (Nat×Nat)} {s:List AV} {H:aA} {E E':AV->List AV->aA->Prop} (h:IG P g rl pairs s H E) (he:∀x s H,E x s H->E' x s H):IG P g rl pairs s H E':=
 let⟨j,Hs,ss,vs,h1,h2,r,f,azs,p,x,H1,e1,e2,e3,e4,e5,e6⟩:=h
 ⟨j,Hs,ss,vs,h1,h2,r,f,azs,p,x,H1,e1,e2,e3,e4,e5,he _ _ _ e6⟩
def IF (P:Program) (g:aT) (rl:List aN) (pairs:List (Nat×Nat)) (s:List AV) (H:aA) (E:AV->aA->Prop):Prop:=
 ∃(j:Nat) (Sv:List aN) (Hs:Nat->aA) (ss:Nat->List AV) (vs:Nat->AV),(j,rl.length+1)∈pairs/\Sv.length=rl.length/\(∀(i:Nat) (r':aN),Sv[i]?=some r'->∃r:aN,rl[i]?=some r/\(r'=r\/r'=⟨r.dst,.CI (.const aC),none⟩))/\(∀(i:Nat) (r:aN),rl[i]?=some r->i<=j\/(j,rl.length+2+i)∈pairs->Sv[i]?=some r)/\
 cM P g Sv (some j) pairs s H Hs ss vs/\
 ∃r f azs p x H1,rl[j]?=some r/\r.op=.call f azs/\bF (ss j) r=true/\iG (f.eval g (ss j))=some p/\
  Sound P g p.1 (p.2.1++azs.map (Arg.eval g (ss j))++p.2.2) (Hs j) (.pA x) H1/\E x H1
theorem IF.mono {P:Program} {g:aT} {rl:List aN} {pairs:List (Nat×Nat)} {s:List AV} {H:aA} {E E':AV->aA->Prop} (h:IF P g rl pairs s H E) (he:∀x H,E x H->E' x H):IF P g rl pairs s H E':=
 let⟨j,Sv,Hs,ss,vs,h1,h2,h3,h4,D,r,f,azs,p,x,H1,e1,e2,e3,e4,e5,e6⟩:=h
 ⟨j,Sv,Hs,ss,vs,h1,h2,h3,h4,D,r,f,azs,p,x,H1,e1,e2,e3,e4,e5,he _ _ e6⟩
theorem mH.aOj {ops:Array Oper} {rl Sv:List aN} {pairs:List (Nat×Nat)} {anc:Nat->Nat->Bool} (K:mH ops rl pairs anc) (h:∀(i:Nat) (r':aN),Sv[i]?=some r'->∃r:aN,rl[i]?=some r/\(r'=r\/r'=⟨r.dst,.CI (.const aC),none⟩)):mH ops Sv pairs anc:=by
 have du:∀{d:Option Nat} {t:Nat},t∉rL (⟨d,.CI (.const aC),none⟩:aN):=fun {d t} h=>by simp[rL,cZ.args,Arg.tmps] at h
 have ef:∀{d:Option Nat},(⟨d,.CI (.const aC),none⟩:aN).op.mE=true->False:=fun h=>by cases h
 have re:∀{d:Option Nat},(⟨d,.CI (.const aC),none⟩:aN).op.reads=true->False:=fun h=>by cases h
 have fr:∀{d:Option Nat},(⟨d,.CI (.const aC),none⟩:aN).op.fresh=true->False:=fun h=>by cases h
 refine⟨K.oe,K.wit,fun i j ri rj rP hi hj ha=>?_,fun i j ri rj rP hi hj he hf=>?_,fun i r hi hr v hv=>?_⟩
 . obtain⟨r1,h1,e1⟩:=h i ri hi;obtain⟨r2,h2,e2⟩:=h j rj hj;obtain⟨c1,c2,c3,c4,c5⟩:=K.cmp i j r1 r2 rP h1 h2 ha
   rcases e1 with rfl|rfl<;>rcases e2 with rfl|rfl
   . exact⟨c1,c2,c3,c4,c5⟩
   . exact⟨fun _=>rfl,fun d hd=>⟨du,(c2 d hd).2⟩,c3,fun h=>(ef h).elim,fun _ h=>(re h).elim⟩
   . exact⟨fun h=>(ef h).elim,c2,fun d hd=>du,fun _ h=>h.elim (fun h=>(re h).elim) fun h=>(fr h).elim,fun h=>(ef h).elim⟩
   exact⟨fun h=>(ef h).elim,fun d hd=>⟨du,(c2 d hd).2⟩,fun d hd=>du,fun h=>(ef h).elim,fun h=>(ef h).elim⟩
 . obtain⟨r1,h1,e1⟩:=h i ri hi;obtain⟨r2,h2,e2⟩:=h j rj hj
   rcases e1 with rfl|rfl
   . rcases e2 with rfl|rfl
     . exact K.early i j _ _ rP h1 h2 he hf
     exact(fr hf).elim
   exact(ef he).elim
 obtain⟨r1,h1,e1⟩:=h i r hi
 rcases e1 with rfl|rfl
 . exact K.lits i _ h1 hr v hv
 exact(re hr).elim
def oT (n:Nat) (cU:List Nat) (i j:Nat):Bool:=decide (i<j)&&decide (j<n)&&(cU.getD j 0).testBit i
def NJ (ri rj:aN):Bool:=
 (!ri.op.mE|| !rj.op.mE)&&
 (match ri.dst with|some d=> !(rL rj).contains d&&rj.dst != some d|none=>true)&&
 (match rj.dst with|some d=> !(rL ri).contains d|none=>true)
def Yh (r:aN):Bool:= !r.op.reads||r.op.args.all fun |.const v=>(vT v).isNone|_=>true
def NR (ops:Array Oper) (rl:List aN) (cU:List Nat):Bool:=
 (List.range rl.length).all fun j=>
   match ops[j]?,rl[j]? with
   |some o,some rj=>
    o.after.toList.all (fun e=> !Region.binds .any e||decide (e.on<j))&&Yh rj&&
    (List.range j).all fun i=>
      if oT rl.length cU i j then o.after.toList.any fun e=>Region.binds .any e&&(e.on==i||oT rl.length cU i e.on)
      else match rl[i]? with
       |some ri=>NJ ri rj
       |none=>false
   |_,_=>false
def MY (rl:List aN) (cU:List Nat) (a b:Nat):Bool:=
 match rl[a]?,rl[b]? with
 |some ra,some rb=>rb.op.mE&&
  ((decide (a<b)&& !oT rl.length cU a b&&(ra.op.reads||ra.op.fresh))||(decide (b<a)&&(ra.op.fresh||(!oT rl.length cU b a&&ra.op.reads))))
 |_,_=>false
def Pz (rl:List aN) (cU:List Nat) (j:Nat):Bool:=
 match rl[j]? with
 |some r=>match r.op with
  |.call _ _=>(List.range rl.length).all fun k=>k==j||oT rl.length cU k j||oT rl.length cU j k
  |_=>false
 |none=>false
def Sr:aN->Bool
 |⟨some _,.load _ _ (.tmp _),none⟩=>true
 |_=>false
def SP (rl:List aN) (cU:List Nat) (j:Nat):Bool:=
 match rl[j]? with
 |some r=>match r.op with
  |.call _ _=>(List.range rl.length).all fun k=>k==j||oT rl.length cU k j||oT rl.length cU j k||(decide (j<k)&&match rl[k]? with|some q=>Sr q|none=>false)
  |_=>false
 |none=>false
def aIz (rl:List aN) (j:Nat):Bool:=(rl.drop (j+1)).all fun |⟨_,.CI _,none⟩=>true|_=>false
def CF (rl:List aN) (cU:List Nat):List (Nat×Nat):=
 ((List.range rl.length).filter fun j=> !(Pz rl cU j&&aIz rl j)&&SP rl cU j).flatMap fun j=>(j,rl.length+1)::((List.range rl.length).filter fun k=>decide (j<k)&& !oT rl.length cU j k).map fun k=>(j,rl.length+2+k)
def mY (rl:List aN) (cU:List Nat):List (Nat×Nat):=
 (((List.range rl.length).flatMap fun a=>(List.range rl.length).map fun b=>(a,b)).filter fun p=>MY rl cU p.1 p.2)++
 (((List.range rl.length).filter (Pz rl cU)).map fun j=>(j,rl.length))++CF rl cU
theorem EM {rl:List aN} {cU:List Nat} {a b:Nat}:(a,b)∈CF rl cU↔(a<rl.length/\SP rl cU a=true/\(Pz rl cU a&&aIz rl a)=false)/\(b=rl.length+1\/∃k,k<rl.length/\a<k/\oT rl.length cU a k=false/\b=rl.length+2+k):=by
 unfold CF;simp only[Fh,Dn,Bn,Ah,Bq,Ad,Aj,Cr,Bj];constructor
 . rintro⟨x,⟨h1,h2,h3⟩,⟨rfl,rfl⟩|⟨k,⟨h4,h5,h6⟩,rfl,rfl⟩⟩
   . exact⟨⟨h1,h3,h2⟩,.inl rfl⟩
   exact⟨⟨h1,h3,h2⟩,.inr ⟨k,h4,h5,h6,rfl⟩⟩
 rintro⟨⟨h1,h2,h3⟩,rfl|⟨k,h4,h5,h6,rfl⟩⟩
 . exact⟨a,⟨h1,h3,h2⟩,.inl ⟨rfl,rfl⟩⟩
 exact⟨a,⟨h1,h3,h2⟩,.inr ⟨k,⟨h4,h5,h6⟩,rfl,rfl⟩⟩
theorem jT {rl:List aN} {cU:List Nat} {a b:Nat}:(a,b)∈mY rl cU↔(a<rl.length/\b<rl.length/\MY rl cU a b=true)\/(b=rl.length/\Pz rl cU a=true/\a<rl.length)\/(a,b)∈CF rl cU:=by
 unfold mY;simp only[Az,Dn,Fh,Bn,Bq,Ad,or_assoc];constructor
 . rintro(⟨⟨x,hx,y,hy,rfl,rfl⟩,h⟩|⟨x,⟨h1,h2⟩,rfl,rfl⟩|h)
   . exact .inl ⟨hx,hy,h⟩
   . exact .inr (.inl ⟨rfl,h2,h1⟩)
   exact .inr (.inr h)
 rintro(⟨h1,h2,h3⟩|⟨rfl,h2,h3⟩|h)
 . exact .inl ⟨⟨a,h1,b,h2,rfl,rfl⟩,h3⟩
 . exact .inr (.inl ⟨a,⟨h3,h2⟩,rfl,rfl⟩)
 exact .inr (.inr h)
theorem Pv {rl:List aN} {cU:List Nat} {a b:Nat} (h:(a,b)∈CF rl cU):rl.length<b:=by rcases(EM.1 h).2 with rfl|⟨k,_,_,_,rfl⟩<;>omega
theorem Sl {rl:List aN} {cU:List Nat} {j:Nat} (h:(j,rl.length)∈mY rl cU):∀k,k<rl.length->(k<j->oT rl.length cU k j=true)/\(j<k->oT rl.length cU j k=true):=by
 rcases jT.1 h with ⟨_,h,_⟩|⟨_,h,_⟩|h
 . exact absurd h (Ee _)
 rotate_left
 . exact absurd (Pv h) (Ee _)
 intro k hk;unfold Pz at h
 have h:(List.range rl.length).all (fun k=>k==j||oT rl.length cU k j||oT rl.length cU j k)=true:=by
  split at h
  . split at h
    . exact h
    cases h
  cases h
 have :=Bc.1 h k (Bn.2 hk);simp only[Dg,Dr] at this
 have ho:∀{a b:Nat},oT rl.length cU a b=true->a<b:=fun {a b} h=>by unfold oT at h;simp only[Aj,Bj] at h;exact h.1.1
 constructor
 . intro gy
   rcases this with (rfl|h)|h
   . omega
   . exact h
   have :=ho h;omega
 intro gy
 rcases this with (rfl|h)|h
 . omega
 . have :=ho h;omega
 exact h
theorem QM {rl:List aN} {cU:List Nat} {j:Nat} (h:(j,rl.length+1)∈mY rl cU):(∀k,k<rl.length->k<j->oT rl.length cU k j=true)/\∀k,k<rl.length->j<k->oT rl.length cU j k=false->(j,rl.length+2+k)∈mY rl cU:=by
 rcases jT.1 h with ⟨_,h,_⟩|⟨h,_⟩|h
 . omega
 . omega
 obtain⟨⟨h1,h2,h3⟩,_⟩:=EM.1 h;refine⟨fun k hk gy=>?_,fun k hk Tt ha=>jT.2 (.inr (.inr (EM.2 ⟨⟨h1,h2,h3⟩,.inr ⟨k,hk,Tt,ha,rfl⟩⟩)))⟩;unfold SP at h2
 have ho:∀{a b:Nat},oT rl.length cU a b=true->a<b:=fun {a b} h=>by unfold oT at h;simp only[Aj,Bj] at h;exact h.1.1
 split at h2
 . split at h2
   . have :=Bc.1 h2 k (Bn.2 hk);simp only[Dg,Dr,Aj,Bj] at this
     rcases this with ((rfl|h)|h)|h
     . omega
     . exact h
     . have :=ho h;omega
     omega
   cases h2
 cases h2
theorem DU {ops:Array Oper} {rl:List aN} {cU:List Nat} (hn:rl.length=ops.size) (h:NR ops rl cU=true):mH ops rl (mY rl cU) (oT rl.length cU):=by
 unfold NR at h;rw[Bc] at h
 have hj:∀(j:Nat) (o:Oper) (rj:aN),ops[j]?=some o->rl[j]?=some rj->
  (o.after.toList.all (fun e=> !Region.binds .any e||decide (e.on<j))&&Yh rj&&
  (List.range j).all fun i=>
    if oT rl.length cU i j then o.after.toList.any fun e=>Region.binds .any e&&(e.on==i||oT rl.length cU i e.on)
    else match rl[i]? with
     |some ri=>NJ ri rj
     |none=>false)=true:=fun j o rj ho hr=>by
  have :=h j (Bn.2 (An.1 hr).1);rw[ho,hr] at this;exact this
 have xC:∀(j:Nat),j<rl.length->∃o rj,ops[j]?=some o/\rl[j]?=some rj:=fun j hj=>⟨ops[j]'(by omega),rl[j],by simp[show j<ops.size by omega],by simp[hj]⟩
 have aKj:∀i j ri rj,i<j->rl[i]?=some ri->rl[j]?=some rj->oT rl.length cU i j=false->NJ ri rj=true:=fun i j ri rj rP hi Wt ha=>by obtain⟨o,rj',ho,hr'⟩:=xC j (An.1 Wt).1;have :=hj j o rj ho Wt;simp only[Aj] at this;have :=Bc.1 this.2 i (Bn.2 rP);rw[ha,hi] at this;exact this
 refine⟨fun j o ho e he hb=>?_,fun i j ha=>?_,fun i j ri rj rP hi Wt ha=>?_,fun i j ri rj rP hi Wt he hf=>?_,fun j r hr RC v hv=>?_⟩
 . obtain⟨o',rj,ho',hr⟩:=xC j (by rw[hn];exact(Bw.1 ho).1);have :=hj j o rj ho hr;simp only[Aj] at this;have :=Bc.1 this.1.1 e (by simpa using he);rw[hb] at this;simpa using this
 . have ha':=ha;unfold oT at ha;simp only[Aj,Bj] at ha;obtain⟨o,rj,ho,hr⟩:=xC j ha.1.2;have :=hj j o rj ho hr;simp only[Aj] at this;have :=Bc.1 this.2 i (Bn.2 ha.1.1);rw[if_pos ha'] at this;obtain⟨e,he,hc⟩:=Hc.1 this;simp only[Aj,Dg,Dr] at hc;exact⟨o,ho,e,by simpa using he,hc.1,hc.2⟩
 . have hap:=aKj i j ri rj rP hi Wt ha;have Tu:=(An.1 hi).1;have hlj:=(An.1 Wt).1;unfold NJ at hap;simp only[Aj] at hap;obtain⟨⟨h1,h2⟩,h3⟩:=hap;refine⟨fun he=>?_,fun d hd=>?_,fun d hd=>?_,fun he hr=>?_,fun he hr=>?_⟩
   . rw[he] at h1;simpa using h1
   . rw[hd] at h2;simp only[Aj,Cr,El] at h2;exact⟨fun hm=>by have :=h2.1;simp[hm] at this,h2.2⟩
   . rw[hd] at h3;simp only[Cr] at h3;exact fun hm=>by simp[hm] at h3
   . refine jT.2 (.inl ⟨Tu,hlj,?_⟩);unfold MY;rw[hi,Wt];simp only[he,rP,ha,Gn,Ga,Cx,Cu,Dg];exact .inl hr
   refine jT.2 (.inl ⟨hlj,Tu,?_⟩);unfold MY;rw[hi,Wt];simp[he,rP,ha,hr]
 . have Tu:=(An.1 hi).1;have hlj:=(An.1 Wt).1;refine jT.2 (.inl ⟨hlj,Tu,?_⟩);unfold MY;rw[hi,Wt];simp[he,rP,hf]
 obtain⟨o,rj',ho,_⟩:=xC j (An.1 hr).1;have :=hj j o r ho hr;simp only[Aj] at this;have :=this.1.2;unfold Yh at this;rw[RC] at this;simp only[Fq,Jh] at this;have :=Bc.1 this _ hv;simpa using this
theorem WA {rl:List aN} {cU:List Nat}:∀i e,(i,e)∈mY rl cU->∀re,rl[e]?=some re->re.op.mE=true:=fun i e h re OW=>by
 rcases jT.1 h with ⟨_,_,this⟩|⟨rfl,_⟩|hl
 rotate_left
 . rw[Bp (Ai _)] at OW;cases OW
 . rw[Bp (Nat.le_of_lt (Pv hl))] at OW;cases OW
 unfold MY at this;rw[OW] at this
 cases hi:rl[i]? with
 |none=>rw[hi] at this;cases this
 |some ri=>rw[hi] at this;simp only[Aj] at this;exact this.1
def bP.nd:bP->Bool
 |.ops rl=>rl.all fun r=>match r.op with|.iH _ _=>false|_=>true
 |.seq a b|.cond _ a b=>a.nd&&b.nd
 |.block _ a|.loop a=>a.nd
 |.lK _ _ _ _=>false
 |_=>true
def dK (P:Program) (g:aT) (mu:Bool):Code->Option bP
 |.skip=>some .skip
 |.label _=>some .skip
 |.region _ ops false=>(iU P g mu ops ops.toList).map .ops
 |.region _ ops true=>match iU P g mu ops ops.toList with
  |some rl=>if NR ops rl (Region.before ops).toList then some (.draw rl (mY rl (Region.before ops).toList)) else none
  |none=>none
 |.seq a b=>match dK P g mu a,dK P g mu b with
  |some x,some y=>some (.seq x y)
  |_,_=>none
 |.cond c a b=>match aX g c,dK P g mu a,dK P g mu b with
  |some z,some x,some y=>some (.cond z x y)
  |_,_,_=>none
 |.block id a=>(dK P g mu a).map (.block id)
 |.loop a=>(dK P g mu a).map .loop
 |.scope a=>dK P g mu a
 |.exit id=>some (.exit id)
 |.ret=>some .ret
 |.rangeFunc c ps x y=>match aX g c,dK P g mu x,dK P g mu y with
  |some c',some x',some y'=>if x'.nd&&y'.nd then some (.lK c' ps.toList x' y') else none
  |_,_,_=>none
 |_=>none
def Zk (next:List AV->List eX->aA->Prop) (Q:AQ):AQ
 |.normal,s,ds,H=>next s ds H
 |e,s,ds,H=>Q e s ds H
def mV (id:Nat) (Q:AQ):AQ
 |.exit i,s,ds,H=>if i=id then Q .normal s ds H else Q (.exit i) s ds H
 |e,s,ds,H=>Q e s ds H
def nU (s:List AV):List (Nat×AV)->List AV
 |[]=>s
 |(t,v)::r=>nU (s.set t v) r
def ZO (id:Nat) (out:Out) (H3:aA):AQ
 |.normal,_,ds,H=>ds=[]/\out=.ret (.bool true)/\∃k sn,H.get id=some (.loop k sn .busy)/\H3=H.set id (.loop k sn .ready)
 |.ret,_,ds,H=>ds=[]/\out=.ret (.bool false)/\∃k sn,H.get id=some (.loop k sn .busy)/\H3=H.set id (.loop k sn (.done .ret))
 |.exit i,_,ds,H=>ds=[]/\out=.ret (.bool false)/\∃k sn,H.get id=some (.loop k sn .busy)/\H3=H.set id (.loop k sn (.done (.exit i)))
 |.panic _,_,_,_=>False
def jr (st:LSt) (sn:List AV) (ds:List eX) (H:aA) (Q:AQ):Prop:=
 match st with
 |.ready=>Q .normal sn ds H
 |.done .ret=>Q .ret sn ds H
 |.done (.exit i)=>Q (.exit i) sn ds H
 |_=>False
def sN (He:aA) (id:Nat) (Hf:aA):Prop:=Hf.next=He.next/\∀m,Hf.get m=if m=id then some .dead else He.get m
def AC (P:Program) (g:aT):bP->List AV->List eX->aA->AQ->Prop
 |.skip,s,ds,H,Q=>Q .normal s ds H
 |.ops rl,s,ds,H,Q=>pY P g rl s ds H Q
 |.draw rl pairs,s,ds,H,Q=>(Od P g rl pairs s H fun s' H'=>Q .normal s' ds H')\/(IG P g rl pairs s H fun x s' H'=>Q (.panic x) s' ds H')\/IF P g rl pairs s H fun x H'=>∀s':List AV,s'.length=s.length->(∀t,t∉rl.filterMap (·.dst)->s'.getD t aC=s.getD t aC)->Q (.panic x) s' ds H'
 |.seq a b,s,ds,H,Q=>AC P g a s ds H (Zk (fun s ds H=>AC P g b s ds H Q) Q)
 |.cond c a b,s,ds,H,Q=>∃t,c.eval g s=.bool t/\if t then AC P g a s ds H Q else AC P g b s ds H Q
 |.block id a,s,ds,H,Q=>AC P g a s ds H (mV id Q)
 |.loop a,s,ds,H,Q=>∃(I:Nat->List AV->List eX->aA->Prop) (n:Nat),I n s ds H/\
   ∀n s ds H,I n s ds H->AC P g a s ds H (Zk (fun s ds H=>∃m,m<n/\I m s ds H) Q)
 |.exit id,s,ds,H,Q=>Q (.exit id) s ds H
 |.ret,s,ds,H,Q=>Q .ret s ds H
 |.lK c ps LB body,s,ds,H,Q=>∃fid fs cs v He k' s' st Hf,c.eval g s=.func (.func fid) fs cs/\
   Sound P g fid (fs++[.yield (H.next+1)]++cs) ((H.alloc .NQ).alloc (.loop ⟨ps,LB,body⟩ s .ready)) (.ret v) He/\He.get (H.next+1)=some (.loop k' s' st)/\sN He (H.next+1) Hf/\
   jr st s (.mark H.next::ds) Hf Q
def Mu (P:Program) (g:aT) (k:IP) (s:List AV) (id:Nat) (args:List AV) (H2:aA) (out:Out) (H3:aA):Prop:=
 AC P g k.LB (nU s (k.ps.zip args)) [] H2 fun e s1 oR H1=>match e with
  |.normal=>oR=[]/\∃k1 l8,H1.get id=some (.loop k1 l8 .ready)/\AC P g k.body s1 [] (H1.set id (.loop k1 l8 .busy)) (ZO id out H3)
  |_=>False
structure Fit (P:Program) (g:aT):Prop where
 mixed:P.follows .mixedOrders=true
 lok:∀k r,g.lok k r↔(r.params.toList=k.ps/\∃mu,dK P g mu r.assign=some k.LB/\dK P g mu r.body=some k.body/\k.LB.nd=true/\k.body.nd=true)
noncomputable def No (p:Nat->Prop) (h:∃n,p n):Nat:=
 Classical.choose (show ∃n,p n/\∀m,p m->n<=m from by
  obtain⟨n,hn⟩:=h
  induction n using Nat.strongRecOn with
  |_ n ih=>
   by_cases hc:∃m,m<n/\p m
   . obtain⟨m,hm,hp⟩:=hc;exact ih m hm hp
   exact⟨n,hn,fun m hm=>Gz fun eW=>hc ⟨m,eW,hm⟩⟩)
theorem FZ (p:Nat->Prop) (h:∃n,p n):p (No p h)/\∀m,p m->No p h<=m:=Gx (No._proof_1 p h)
theorem Qr {F:Fence} {n:Nat} {P:Program} {c:Code} {Q:Exit->Act->World->Prop} {a:Act} {w:World} (h:c.wpIn F n P Q a w) (hg:∀l a w,¬Q (.goto l) a w):(Code.scope c).wpIn F n P Q a w:=by
 intro b k cs xC hb hr;obtain⟨e,a',w',hq,zJ⟩:=h b (.inScope c::k) cs xC hb hr;have h1:step P (lone (b.atR a (.code (.scope c)::k)) cs w)=.next (lone (b.atR a (.code c::.inScope c::k)) cs w):=step_lone_go (by simp[stepG,stepG.exec,Frame.atR]);have h2:∀a w,step P (lone (b.atR a (.inScope c::k)) cs w)=.next (lone (b.atR a k) cs w):=fun a w=>step_lone_go (by simp[stepG,stepG.exec,Frame.atR]);refine⟨e,a',w',hq,.of_steps (.one (fenced_calm hb hr rfl) h1) ?_⟩
 cases e with
 |normal=>exact StepsIn.trans zJ (.one (fenced_calm hb hr rfl) (h2 a' w'))
 |exit id=>exact⟨fun k' hk=>zJ.1 k' (by simpa [exitTo] using hk),fun hr hk=>zJ.2 hr (by simpa [exitTo] using hk)⟩
 |goto l=>exact(hg l a' w' hq).elim
 |ret=>exact zJ
 |panic ch=>exact zJ
 |outgrown=>exact zJ
theorem Qq {F:Fence} {n0:Nat} {P:Program} {Q:Exit->Act->World->Prop} {c:Code} (I:Nat->Act->World->Prop) {n:Nat} {a:Act} {w:World} (h0:I n a w)
 (round:∀n a w,I n a w->c.wpIn F n0 P (Exit.then (fun a' w'=>∃m,m<n/\I m a' w') Q) a w):(Code.loop c).wpIn F n0 P Q a w:=by
 classical
 refine wpIn_loop (fun a' w'=>∃m,I m a' w') (fun a' w'=>if h:∃m,I m a' w' then No (fun m=>I m a' w') h else 0) ⟨n,h0⟩ fun a' w' hI=>?_;have iq:=FZ (fun m=>I m a' w') hI;refine wpIn_mono (round _ a' w' iq.1) fun e a1 w1 hq=>?_
 cases e with
 |normal=>obtain⟨m,hm,h1⟩:=hq;have hI1:∃m,I m a1 w1:=⟨m,h1⟩;refine⟨hI1,?_⟩;rw[dif_pos hI1,dif_pos hI];exact Hv ((FZ (fun m=>I m a1 w1) hI1).2 m h1) hm
 |_=>exact hq
theorem QR.jx {g:aT} {G:Gh} {H:aA} {w:World} {Q:AQ} {l:Nat} {a:Act} {w':World}:¬QR g G H w Q (.goto l) a w':=by rintro⟨ae,s',eC,H',G',_,_,_,_,_,hx⟩;cases ae<;>exact hx.elim
theorem uT {P:Program} {g:aT} {mu:Bool} (hm:Fit P g):∀(c:Code) (ro:Option Nat) (ac:bP),dK P g mu c=some ac->(ro=none\/ac.nd=true)->∀(s:List AV) (ds:List eX) (G:Gh) (H:aA) (w:World) (a:Act) (Q:AQ),
 AC P g ac s ds H Q->WR g G H w->SR G w s a->NA G w ds a.defers->c.wpIn (Fw ro) 0 P (QR g G H w Q) a w:=by
 intro c
 induction c with
 |skip=>intro ro ac hc xC s ds G H w a Q h hw hs hd;simp only[dK,Ab] at hc;subst hc;exact wpIn_skip ⟨.normal,s,ds,H,G,h,hw,Ext.refl G H w,hs,hd,trivial⟩
 |label l=>intro ro ac hc xC s ds G H w a Q h hw hs hd;simp only[dK,Ab] at hc;subst hc;exact wpIn_label ⟨.normal,s,ds,H,G,h,hw,Ext.refl G H w,hs,hd,trivial⟩
 |region id ops draw=>
  intro ro ac hc xC s ds G H w a Q h hw hs hd
  cases draw with
  |false=>
   simp only[dK,Af] at hc;obtain⟨rl,Ty,rfl⟩:=hc;refine wpIn_region ?_
   have :=yL (ro:=ro) ops.toList rl 0 Ty (fun j hj=>by simp) (xC.imp (fun h=>h) fun h r hr f azs e=>by
    have :=Bc.1 h r hr
    rw[e] at this;cases this) s ds G H w a Q h hw hs hd
   rw[Cm] at this
   rwa [Ix]
  |true=>
   simp only[dK] at hc;split at hc
   . rename_i rl Ty;split at hc
     . rename_i vS;obtain rfl:=Aa hc;have hn:rl.length=ops.size:=by simpa using(tG _ _ Ty).1
       rcases h with h|⟨j,Hs,ss,vs,h1,D,h2⟩|⟨j,Sv,Hs,ss,vs,h1,hl,uS,sI,D,r,f,VB,p,x,H1,e1,e2,e3,e4,e5,e6⟩
       . obtain⟨Hs,ss,vs,D,hQ⟩:=Od.run h WA;exact yV hm.mixed Ty rfl (fun _ _ h _=>h) D (DU hn vS) hw hs hd (fun _=>hQ) (fun j h=>by cases h)
       . refine yV hm.mixed Ty rfl (fun _ _ h _=>h) D (DU hn vS) hw hs hd (fun h=>by cases h) (fun k hk=>by
          cases hk;have hmk:=Sl h1;obtain⟨r,f,VB,p,x,H1,e1,e2,e3,e4,e5,e6⟩:=h2
          exact⟨fun k hk gy=>(hmk k hk).1 gy,r,f,VB,p,x,H1,e1,e2,e3,e4,e5,fun s' _ _ DG=>by rw[DG fun k hk Tt=>(hmk k hk).2 Tt];exact e6⟩)
       obtain⟨q1,q2⟩:=QM h1
       refine yV hm.mixed Ty hl.symm (fun i r hi hj=>sI i r hi ?_) D ((DU hn vS).aOj uS) hw hs hd (fun h=>by cases h) (fun k hk=>by
        cases hk
        exact⟨fun k hk gy=>q1 k (by omega) gy,r,f,VB,p,x,H1,sI _ _ e1 (.inl (Ai _)),e2,e3,e4,e5,fun s' lY ht _=>e6 s' (lY.trans (D.sM _ (by rw[hl];exact Nat.le_of_lt (An.1 e1).1))) fun t hm=>by
         have cF:∀(i:Nat) (q:aN),Sv[i]?=some q->q.dst≠some t:=fun i q hi hq=>by
          obtain⟨r0,h0,h⟩:=uS i q hi;refine hm (List.mem_filterMap.2 ⟨r0,List.mem_of_getElem? h0,?_⟩)
          rcases h with rfl|rfl<;>exact hq
         rw[ht t cF,D.Qh cF (by rw[hl];exact Nat.le_of_lt (An.1 e1).1)]⟩)
       by_cases rP:i<=j
       . exact .inl rP
       exact .inr (q2 i (An.1 hi).1 (by omega) (hj j rfl))
     cases hc
   cases hc
 |seq x y qw qx=>
  intro ro ac hc xC s ds G H w a Q h hw hs hd;simp only[dK] at hc;split at hc
  . rename_i ax ay YG hay;obtain rfl:=Aa hc;refine wpIn_seq (wpIn_mono (qw ro ax YG (xC.imp (fun h=>h) fun h=>(Aj _ _▸h).1) s ds G H w a _ h hw hs hd) fun e a' w' hq=>?_);obtain⟨ae,s',eC,H',G',q,jG,he,DG,oU,hx⟩:=hq
    cases e with
    |normal=>
     cases ae with
     |normal=>exact wpIn_mono (qx ro ay hay (xC.imp (fun h=>h) fun h=>(Aj _ _▸h).2) s' eC G' H' w' a' Q q jG DG oU) fun _ _ _ hq=>QR.trans he hq
     |_=>exact hx.elim
    |_=>
     cases ae with
     |normal=>exact hx.elim
     |_=>exact⟨_,s',eC,H',G',q,jG,he,DG,oU,hx⟩
  cases hc
 |cond c x y qw qx=>
  intro ro ac hc xC s ds G H w a Q h hw hs hd;simp only[dK] at hc;split at hc
  . rename_i az ax ay haz YG hay;obtain rfl:=Aa hc;obtain⟨t,ht,h⟩:=h;have hv:=aW hw hs haz;rw[ht] at hv;refine wpIn_cond hv.gO ?_
    cases t with
    |true=>exact qw ro ax YG (xC.imp (fun h=>h) fun h=>(Aj _ _▸h).1) s ds G H w a Q h hw hs hd
    |false=>exact qx ro ay hay (xC.imp (fun h=>h) fun h=>(Aj _ _▸h).2) s ds G H w a Q h hw hs hd
  cases hc
 |block id x ih=>
  intro ro ac hc xC s ds G H w a Q h hw hs hd;simp only[dK,Af] at hc;obtain⟨ax,YG,rfl⟩:=hc;refine wpIn_block (wpIn_mono (ih ro ax YG xC s ds G H w a _ h hw hs hd) fun e a' w' hq=>?_);obtain⟨ae,s',eC,H',G',q,jG,he,DG,oU,hx⟩:=hq
  cases ae with
  |exit i=>
   cases e with
   |exit i'=>
    obtain rfl:i=i':=hx;simp only[mV] at q;simp only[Exit.inBlock];split
    . rename_i hi;rw[if_pos hi] at q;exact⟨.normal,s',eC,H',G',q,jG,he,DG,oU,trivial⟩
    rename_i hi;rw[if_neg hi] at q;exact⟨.exit i,s',eC,H',G',q,jG,he,DG,oU,rfl⟩
   |_=>exact hx.elim
  |normal=>
   cases e with
   |normal=>exact⟨.normal,s',eC,H',G',q,jG,he,DG,oU,trivial⟩
   |_=>exact hx.elim
  |ret=>
   cases e with
   |ret=>exact⟨.ret,s',eC,H',G',q,jG,he,DG,oU,trivial⟩
   |_=>exact hx.elim
  |panic v=>
   cases e with
   |panic ch=>exact⟨.panic v,s',eC,H',G',q,jG,he,DG,oU,hx⟩
   |_=>exact hx.elim
 |loop x ih=>
  intro ro ac hc xC s ds G H w a Q h hw hs hd;simp only[dK,Af] at hc;obtain⟨ax,YG,rfl⟩:=hc;obtain⟨I,n,h0,hI⟩:=h;refine Qq (fun n a' w'=>∃s' eC H' G',I n s' eC H'/\WR g G' H' w'/\Ext G H w G' H' w'/\SR G' w' s' a'/\NA G' w' eC a'.defers) ⟨s,ds,H,G,h0,hw,Ext.refl G H w,hs,hd⟩ fun n a1 w1 hi=>?_;obtain⟨s1,oR,H1,G1,hi,uS,OT,im,Vh⟩:=hi;refine wpIn_mono (ih ro ax YG xC s1 oR G1 H1 w1 a1 _ (hI n s1 oR H1 hi) uS im Vh) fun e a' w' hq=>?_;obtain⟨ae,s',eC,H',G',q,jG,he,DG,oU,hx⟩:=hq
  cases e with
  |normal=>
   cases ae with
   |normal=>obtain⟨m,hm,zL⟩:=q;exact⟨m,hm,s',eC,H',G',zL,jG,OT.trans he,DG,oU⟩
   |_=>exact hx.elim
  |_=>
   cases ae with
   |normal=>exact hx.elim
   |_=>exact⟨_,s',eC,H',G',q,jG,OT.trans he,DG,oU,hx⟩
 |scope x ih=>intro ro ac hc xC s ds G H w a Q h hw hs hd;exact Qr (ih ro ac hc xC s ds G H w a Q h hw hs hd) fun l a w=>QR.jx
 |exit id=>intro ro ac hc xC s ds G H w a Q h hw hs hd;simp only[dK,Ab] at hc;subst hc;exact wpIn_exit ⟨.exit id,s,ds,H,G,h,hw,Ext.refl G H w,hs,hd,rfl⟩
 |ret=>intro ro ac hc xC s ds G H w a Q h hw hs hd;simp only[dK,Ab] at hc;subst hc;exact wpIn_ret ⟨.ret,s,ds,H,G,h,hw,Ext.refl G H w,hs,hd,trivial⟩
 |rangeFunc c ps x y qw qx=>
  intro ro ac hc xC s ds G H w a Q h hw hs hd;simp only[dK] at hc;split at hc
  . rename_i c' ax ay hc' YG hay;split at hc
    . rename_i Nd;obtain rfl:=Aa hc;rw[Aj] at Nd
      obtain rfl:ro=none:=xC.resolve_right fun h=>by cases h
      obtain⟨fid,fs,cs,v,He,k',s',st,Hf,hcv,hS,xU,qd,hQ⟩:=h;have hvc:=aW hw hs hc';rw[hcv] at hvc;obtain⟨fsv,csv,hfv,h1,h2⟩:=yR (p:=(fid,fs,cs)) rfl hvc;refine wpIn_rangeFunc fun fn _=>?_;obtain⟨r,hr⟩:∃r:Loop,r={state:=.ready,pending:=none,fn,tmps:=a.tmps,params:=ps,assign:=x,body:=y,defers:=w.heap.size}:=⟨_,rfl⟩;have hrr:kK r .ready=r:=by rw[hr];rfl
      have fresh:∀{G:Gh} {H:aA} {w:World},WR g G H w->G.loc H.next=none:=fun {G H w} hw=>by
       cases hl:G.loc H.next with
       |none=>rfl
       |some l'=>exact absurd (hw.lt _ _ hl) (Ee _)
      have m1:=hw.xH H.next .NQ (.deferred (some [])) rfl (fresh hw) (aA.aG H _) (Fm _) (Ea _) (w':=w.alloc (.deferred (some []))) ⟨rfl,.now⟩ (fun _=>by show(w.heap.push _)[w.heap.size]?=_;simp);have qN:SR (G.dA H.next ⟨w.heap.size,0,0,1⟩) (w.alloc (.deferred (some []))) s a:=hs.ext (m1.ext (Ext.refl G H w) (Ai _))
      have m2:=m1.rel.xH (H.alloc .NQ).next (.loop ⟨ps.toList,ax,ay⟩ s .ready) (.loop r) rfl (fresh m1.rel) (aA.aG _ _) (Fm _) (Ea _) (w':=(w.alloc (.deferred (some []))).alloc (.loop r)) ⟨rfl,.now⟩ (fun hmv=>by
       refine⟨r,(hm.lok _ _).2 ⟨by rw[hr],mu,by rw[hr];exact YG,by rw[hr];exact hay,Nd.1,Nd.2⟩,by rw[hrr];exact xR (w.heap.push (.deferred (some []))) (.loop r),?_⟩;have hrt:r.tmps=a.tmps:=(by rw[hr]);rw[hrt]
       exact⟨qN.1,fun j hj=>hmv _ _ (qN.2 j hj)⟩)
      have e2:=m2.ext (m1.ext (Ext.refl G H w) (Ai _)) (Fm _);obtain⟨G2,hG2⟩:∃G2,G2=(G.dA H.next ⟨w.heap.size,0,0,1⟩).dA (H.alloc .NQ).next ⟨(w.alloc (.deferred (some []))).heap.size,0,0,1⟩:=⟨_,rfl⟩
      have hL:G2.loc (H.next+1)=some ⟨w.heap.size+1,0,0,1⟩:=by rw[hG2];show(if H.next+1=H.next+1 then some (⟨(w.heap.push _).size,0,0,1⟩:Loc) else _)=_;simp
      have hD:G2.loc H.next=some ⟨w.heap.size,0,0,1⟩:=by rw[hG2];show(if H.next=H.next+1 then _ else if H.next=H.next then some (⟨w.heap.size,0,0,1⟩:Loc) else _)=_;rw[if_neg (by omega),if_pos rfl]
      have qI:=m2.rel;rw[<-hG2] at qI e2;have aKl:True:=trivial
      refine⟨w.heap.size+1,[{target:=.collected w.heap.size,args:= #[]}],_,{target:=.fn (.func fid) csv.toArray,args:=fsv.toArray++ #[.func (.yield (w.heap.size+1)) #[] #[]]},(w.alloc (.deferred (some []))).alloc (.loop {state:=.ready,pending:=none,fn,tmps:=a.tmps,params:=ps,assign:=x,body:=y,defers:=w.heap.size}),fid,_,_,
       run_enterLoop_outer _ _ _ _ _,?_,fun _ _=>trivial,lC hS.1 _ _ _,wB,?_⟩
      . simp only[resolve,rangeCall,hfv];simp[Deferred.ofValue,Act.eval]
      rw[<-hr]
      have gV:fJ G2 ((w.alloc (.deferred (some []))).alloc (.loop r)) (fs++[.yield (H.next+1)]++cs) (fsv++[.func (.yield (w.heap.size+1)) #[] #[]]++csv):=
       ((h1.ext e2).append ((VR.yield (H.next+1) _ hL).cons (fJ.nil _ _))).append (h2.ext e2)
      have yD:=hS.2 G2 _ _ qI gV;rw[show(fsv++[Value.func (.yield (w.heap.size+1)) #[] #[]]++csv).toArray=(fsv.toArray++ #[.func (.yield (w.heap.size+1)) #[] #[]])++csv.toArray by apply Dv;simp] at yD;refine(JC yD).mono fun e w3 he=>?_;obtain⟨G3,ba,Vj,oV⟩:=he
      cases e with
      |panicked _=>exact oV.elim
      |outgrown=>exact oV.elim
      |returned u=>
       have hl3:=Vj.loc _ _ hL;obtain⟨_,_,r3,aKu,hb3,aEf⟩:=ba.fQ _ _ _ hl3 xU rfl;have aAg:=e2.trans Vj
       have fin:∀(p:Option bu),(kK r3 st).pending=p.map bu.code->(kK r3 st).state≠ .busy->∃w4,(Instr.endLoop (w.heap.size+1)).run P w3=.ok (p.map bu.code) w4/\
        WR g G3 Hf w4/\Ext G H w G3 Hf w4:=by
        intro p hp hb
        have h5:(Instr.endLoop (w.heap.size+1)).run P w3=.ok (p.map bu.code) (w3.putObj (w.heap.size+1) (.loop {kK r3 st with state:=.exhausted})):=by have h5:=run_endLoop (P:=P) hb3 hb;rw[h5];exact Bt (fun q=>Result.ok q _) hp
        obtain⟨q1,q2⟩:=ba.AG (o':=.loop k' s' (.over p)) (x:=.loop {kK r3 st with state:=.exhausted}) (w':=w3.putObj (w.heap.size+1) (.loop {kK r3 st with state:=.exhausted})) hl3 xU rfl rfl rfl .now (fun hmv sJ=>⟨r3,aKu,by
         rw[sJ];congr 2
         cases st<;>simp only[kK] at hp ⊢ <;>rw[hp],⟨aEf.1,fun j hj=>hmv _ _ (aEf.2 j hj)⟩⟩)
        have hg:∀m,Hf.get m=((He.set (H.next+1) (.loop k' s' (.over p))).set (H.next+1) .dead).get m:=fun m=>by rw[qd.2,aA.aI,aA.aI];split<;>rfl
        have hn:Hf.next=((He.set (H.next+1) (.loop k' s' (.over p))).set (H.next+1) .dead).next:=qd.1;exact⟨_,h5,(q1.kill (H.next+1)).lJ (fun m _ _=>hg m) (by omega),((aAg.trans q2).kill (H.next+1)).lJ (fun m _ _=>hg m) (by omega)⟩
       have VZ:∀{H4:aA} {w4:World},Ext G H w G3 H4 w4->SR G3 w4 s {a with defers:=[{target:=.collected w.heap.size,args:= #[]}]++a.defers}/\
        NA G3 w4 (.mark H.next::ds) ([{target:=.collected w.heap.size,args:= #[]}]++a.defers):=fun {H4 w4} ex=>
        ⟨hs.ext ex,⟨_,Vj.loc _ _ hD,rfl⟩,hd.ext ex⟩
       cases st with
       |ready=>obtain⟨w4,h5,q1,q2⟩:=fin none rfl (by simp[kK]);exact⟨none,w4,h5,.normal,s,_,_,G3,hQ,q1,q2,(VZ q2).1,(VZ q2).2,trivial⟩
       |done e=>
        obtain⟨w4,h5,q1,q2⟩:=fin (some e) rfl (by simp[kK]);refine⟨_,w4,h5,?_⟩
        cases e with
        |ret=>exact wpIn_ret ⟨.ret,s,_,_,G3,hQ,q1,q2,(VZ q2).1,(VZ q2).2,trivial⟩
        |exit i=>exact wpIn_exit ⟨.exit i,s,_,_,G3,hQ,q1,q2,(VZ q2).1,(VZ q2).2,rfl⟩
       |busy=>exact hQ.elim
       |over _=>exact hQ.elim
    cases hc
  cases hc
 |_=>intro ro ac hc;simp[dK] at hc
theorem Lm {P:Program} {g:aT} (hm:Fit P g) {id:Nat} {k:IP} {s args:List AV} {H2 H3:aA} {out:Out} (cJ:H2.get id=some (.loop k s .ready)) (hlen:args.length=k.ps.length)
 (hA:Mu P g k s id args H2 out H3):yQ P g id args H2 out H3:=by
 intro G' w' vs l' jG hv lY;obtain⟨_,_,r,hlk,hblk,hsn⟩:=jG.fQ _ l' _ lY cJ rfl;obtain⟨hrp,mu,YG,hay,Nd⟩:=(hm.lok _ _).1 hlk;have iv:=hv.1;have hy:=run_yield (P:=P) (args:=vs.toArray) hblk (by rw[<-iv] at hlen;show vs.toArray.size=r.params.size;rw[<-Cm (xs:=r.params),hrp];simpa using hlen);refine⟨_,_,_,_,hy,roundIn_of_wpIn trivial ?_⟩
 have hS1:SR G' w' (nU s (k.ps.zip args)) {tmps:=(r.params.zip vs.toArray).foldl (fun tmps (t,a)=>tmps.setIfInBounds t a) r.tmps,defers:=[]}:=by
  have key:∀(l:List Nat) (azs:List AV) (us:List Value) (s0:List AV) (tm:Array Value),fJ G' w' azs us->fJ G' w' s0 tm.toList->
   fJ G' w' (nU s0 (l.zip azs)) ((l.zip us).foldl (fun tmps (t,a)=>tmps.setIfInBounds t a) tm).toList:=by
   intro l
   induction l with
   |nil=>intro azs us s0 tm _ h0;simpa [nU] using h0
   |cons t l ih=>
    intro azs us s0 tm ha h0
    cases azs with
    |nil=>have :=ha.1;simp only[Ar,Gp] at this;subst this;simpa [nU] using h0
    |cons v azs=>
     cases us with
     |nil=>have :=ha.1;simp at this
     |cons u us=>have SH:=ha.2 0 (by simp);simp only[Di] at SH;have ta:fJ G' w' azs us:=⟨by have :=ha.1;simpa using this,fun j hj=>by have :=ha.2 (j+1) (by simpa using hj);simpa using this⟩;simp only[List.zip_cons_cons,nU,List.foldl_cons];refine ih azs us _ _ ta ?_;exact(SR.put (a:={tmps:=tm,defers:=[]}) h0 (some t) SH:_)
  have :=key k.ps args vs s r.tmps hv hsn;show fJ G' w' _ _;rw[<-Array.foldl_toList,Array.toList_zip,hrp];exact this
 refine wpIn_mono (uT hm _ (some l'.cC) _ YG (.inr Nd.1) _ [] G' H2 w' _ _ hA jG hS1 trivial) fun e a1 w1 hq=>?_;obtain⟨ae,s1,oR,H1,G1,q,uS,OT,im,Vh,hx⟩:=hq
 cases ae with
 |normal=>
  cases e with
  |normal=>
   obtain⟨pc,k1,l8,pf,aDk⟩:=q;subst pc;have uP:=OT.loc _ _ lY;obtain⟨_,_,r1,aKt,Ji,aEe⟩:=uS.fQ _ _ _ uP pf rfl;obtain⟨q1,q2⟩:=uS.AG (o':=.loop k1 l8 .busy) (x:=.loop {kK r1 .ready with state:=.busy}) (w':=w1.putObj l'.cC (.loop {kK r1 .ready with state:=.busy})) uP pf rfl rfl rfl .now (fun hmv sJ=>⟨r1,aKt,sJ,⟨aEe.1,fun j hj=>hmv _ _ (aEe.2 j hj)⟩⟩);refine⟨_,run_beginRound Ji rfl,?_⟩
   have aKk:a1.defers=[]:=by
    cases Wr:a1.defers with
    |nil=>rfl
    |cons d r=>rw[Wr] at Vh;exact Vh.elim
   refine wpIn_mono (uT hm _ (some l'.cC) _ hay (.inr Nd.2) s1 [] G1 _ _ a1 _ aDk q1 (im.ext q2) (by rw[aKk];trivial)) fun e a2 w3 hq=>?_;obtain⟨ae,s2,NS,H4,G4,q,hw4,he4,hs4,hd4,hx⟩:=hq;have aAg:=(OT.trans q2).trans he4;have pz:=(q2.trans he4).loc _ _ uP
   have fin:∀(st:LSt) (b:Bool) (jump:Option Code),(∃k4 sn4,H4.get id=some (.loop k4 sn4 .busy)/\H3=H4.set id (.loop k4 sn4 st))->out=.ret (.bool b)->jump.isNone=b->
    (∀r q:Loop,q=kK r .busy->{q with state:=if jump.isNone then .ready else .done,pending:=jump}=kK r st)->
    ∃v w5,(Instr.endRound l'.cC jump).run P w3=.ok v w5/\∃G'',WR g G'' H3 w5/\Ext G' H2 w' G'' H3 w5/\LJ G'' w5 out (.returned v):=by
    intro st b jump ⟨k4,sn4,pe,h3⟩ ho hj hla;obtain⟨_,_,r4,aKv,hb4,aEg⟩:=hw4.fQ _ _ _ pz pe rfl;have h6:=run_endRound (P:=P) jump hb4;rw[hla r4 _ rfl] at h6;obtain⟨p1,p2⟩:=hw4.AG (o':=.loop k4 sn4 st) (x:=.loop (kK r4 st)) (w':=w3.putObj l'.cC (.loop (kK r4 st))) pz pe rfl rfl rfl .now (fun hmv sJ=>⟨r4,aKv,sJ,⟨aEg.1,fun j hj=>hmv _ _ (aEg.2 j hj)⟩⟩);refine⟨_,_,h6,G4,by rw[h3];exact p1,by rw[h3];exact aAg.trans p2,?_⟩;rw[ho,hj];exact .bool b
   cases ae with
   |normal=>
    cases e with
    |normal=>obtain⟨_,ho,pe⟩:=q;exact fin .ready true none pe ho rfl (fun r q hq=>by subst hq;rfl)
    |_=>exact hx.elim
   |ret=>
    cases e with
    |ret=>obtain⟨_,ho,pe⟩:=q;exact fin (.done .ret) false (some .ret) pe ho rfl (fun r q hq=>by subst hq;rfl)
    |_=>exact hx.elim
   |exit i=>
    cases e with
    |exit j=>obtain rfl:i=j:=hx;obtain⟨_,ho,pe⟩:=q;exact fin (.done (.exit i)) false (some (.exit i)) pe ho rfl (fun r q hq=>by subst hq;rfl)
    |_=>exact hx.elim
   |panic v=>exact q.elim
  |_=>exact hx.elim
 |_=>exact q.elim
inductive AO where
 |tmp (t:Nat)
 |cell (a:Nat) (agg:Bool) (n:Nat)
def XR (P:Program):ResultVar->Option AO
 |.tmp t=>some (.tmp t)
 |.cell a t=>match eO P t,hZ P t with
  |some agg,some n=>some (.cell a agg n)
  |_,_=>none
def qQ (P:Program):List ResultVar->Option (List AO)
 |[]=>some []
 |x::r=>match XR P x,qQ P r with
  |some y,some ys=>some (y::ys)
  |_,_=>none
def WK (s:List AV) (H:aA):AO->Option AV
 |.tmp t=>some (s.getD t aC)
 |.cell a agg n=>match cD (Arg.eval g0 s) H (.load agg n (.tmp a)) with
  |some (v,_)=>some v
  |none=>none
def jU (s:List AV) (H:aA):List AO->Option (List AV)
 |[]=>some []
 |x::r=>match WK s H x,jU s H r with
  |some v,some vs=>some (v::vs)
  |_,_=>none
def iW:List AV->AV
 |[v]=>v
 |vs=>.eZ vs
structure wR where
 ntmps:Nat
 results:List AO
 body:bP
def iM (P:Program) (g:aT) (mu:Bool) (f:FuncId) (F:wR):Prop:=
 ∃fn c,P.funcs[f]?=some fn/\fn.body=some c/\(fn.name== "runtime.NumGoroutine")=false/\dK P g mu c=some F.body/\fn.ntmps=F.ntmps/\qQ P fn.results.toList=some F.results
theorem iM.ok {P:Program} {g:aT} {mu:Bool} {f:FuncId} {F:wR} (h:iM P g mu f F):IN P f:=
 let⟨fn,c,h1,h2,h3,_⟩:=h
 ⟨fn,h1,by rw[h2];rfl,h3⟩
def nC (F:wR) (args:List AV):List AV:=args++List.replicate (F.ntmps -args.length) aC
def lp (F:wR) (R:Out->aA->Prop):AQ
 |.normal,s,ds,H|.ret,s,ds,H=>ds=[]/\∃vs,jU s H F.results=some vs/\R (.ret (iW vs)) H
 |.panic v,_,ds,H=>ds=[]/\R (.pA v) H
 |.exit _,_,_,_=>False
theorem ZM {P:Program} {g:aT} {G:Gh} {H:aA} {w:World} {s:List AV} {a:Act} {x:Nat} {t:TypeId} {agg:Bool} {n:Nat} (ot:eO P t=some agg) (jE:hZ P t=some n)
 {v:AV} {H':aA} (hw:WR g G H w) (hs:SR G w s a) (h:cD (Arg.eval g0 s) H (.load agg n (.tmp x))=some (v,H')):
 ∃ad u,a.tmps.getD x undef=.pointer (some ad)/\(loadVar t ad).run P w=.ok u w/\VR G w v u:=by
 have vx:=hs.getD x
 have fin:∀(b o':Nat) (cs:List AV),a.tmps.getD x undef=.pointer (some ⟨b,o',none⟩)->n=cs.length->(∀c∈cs,c.one=true)->(agg=false->n=1)->
  (∀j,j<n->∃u,w.cell? ⟨b,o'+j,none⟩=some u/\VR G w (cs.getD j aC) u)->
  ∃ad u,a.tmps.getD x undef=.pointer (some ad)/\(loadVar t ad).run P w=.ok u w/\VR G w (if agg then .agg cs else cs.getD 0 aC) u:=by
  intro b o' cs he hl h1 hn hc;obtain⟨u,hr,hv⟩:=CU (P:=P) ot jE hl h1 hn hc;exact⟨_,u,he,hr,hv⟩
 simp only[cD,Arg.eval] at h;generalize dC:a.tmps.getD x undef=xv at vx fin;split at h
 . rename_i id off bZ;rw[bZ] at vx;split at h
   . rename_i cs FW;obtain⟨dH,hg⟩:=aA.mO FW;split at h
     . rename_i gU
       cases vx with
       |ref _ _ l hl=>
        have h4:=(hw.cells id l cs dH hl hg).2.2.2.1;have iD:=ET hw hl hg gU;have hlen:n=((cs.drop off).take n).length:=(by simp;omega);have tP:∀c∈(cs.drop off).take n,c.one=true:=fun c hc=>h4 c (Cy (Bf hc));split at h
        . rename_i oJ;simp only[Ab,Ad] at h;obtain⟨rfl,rfl⟩:=h;have :=fin _ _ _ rfl hlen tP (fun hf=>by rw[oJ] at hf;cases hf) iD
          rwa [if_pos oJ] at this
        rename_i oJ;split at h
        . rename_i hn;simp only[Ab,Ad] at h;obtain⟨rfl,rfl⟩:=h;have :=fin _ _ _ rfl hlen tP (fun _=>hn) iD
          rwa [if_neg oJ,dT _ _ _ _ _ (by omega),Cp] at this
        cases h
     cases h
   cases h
 . rename_i cs bZ;rw[bZ] at vx;split at h
   . rename_i gU
     cases vx with
     |pl _ b o' us hh hv=>
      have iD:∀j,j<n->∃u,w.cell? ⟨b,o'+j,none⟩=some u/\VR G w ((cs.take n).getD j aC) u:=fun j hj=>by rw[getD_take _ _ _ _ hj];exact⟨us j,(hh j (by omega)).2.1,hv j (by omega)⟩
      have hlen:n=(cs.take n).length:=by simp;omega
      have tP:∀c∈cs.take n,c.one=true:=fun c hc=>by obtain⟨j,hj,rfl⟩:=Fy.1 (Bf hc);have :=(hh j hj).2.2;simpa [getD_eq,Ac hj] using this
      split at h
      . rename_i oJ;simp only[Ab,Ad] at h;obtain⟨rfl,rfl⟩:=h;have :=fin _ _ _ rfl hlen tP (fun hf=>by rw[oJ] at hf;cases hf) iD
        rwa [if_pos oJ] at this
      rename_i oJ;split at h
      . rename_i hn;simp only[Ab,Ad] at h;obtain⟨rfl,rfl⟩:=h;have :=fin _ _ _ rfl hlen tP (fun _=>hn) iD
        rwa [if_neg oJ,getD_take _ _ _ _ (by omega)] at this
      cases h
   cases h
 cases h
def Nu (tmps:Array Value):ResultVar->Sem Value
 |.tmp t=>pure (tmps.getD t undef)
 |.cell a t=>do loadVar t (←asAddr (tmps.getD a undef))
theorem CS {P:Program} {g:aT} {G:Gh} {H:aA} {w:World} {s:List AV} {a:Act} (hw:WR g G H w) (hs:SR G w s a):∀(l:List ResultVar) (rl:List AO) (vs:List AV),qQ P l=some rl->jU s H rl=some vs->
 ∃us:List Value,(l.mapM (Nu a.tmps)).run P w=Result.ok us w/\fJ G w vs us
 |[],rl,vs,hr,h=>by obtain rfl:=Aa hr;obtain rfl:=Aa h;exact⟨[],by simp,fJ.nil G w⟩
 |x::l,rl,vs,hr,h=>by
  unfold qQ at hr;split at hr
  . rename_i y ys hy HR;obtain rfl:=Aa hr;unfold jU at h;split at h
    . rename_i v mq hv gV;obtain rfl:=Aa h;obtain⟨us,h1,h2⟩:=CS hw hs l ys mq HR gV
      cases x with
      |tmp t=>obtain rfl:=Aa hy;obtain rfl:=Aa hv;exact⟨a.tmps.getD t undef::us,by simp[h1,Nu],fJ.cons (hs.getD t) h2⟩
      |cell b t=>
       simp only[XR] at hy;split at hy
       . rename_i agg n ot jE;obtain rfl:=Aa hy;simp only[WK] at hv;split at hv
         . rename_i v' H' kA;obtain rfl:=Aa hv;obtain⟨ad,u,e1,e2,e3⟩:=ZM ot jE hw hs kA;refine⟨u::us,?_,fJ.cons e3 h2⟩;simp only[List.mapM_cons,Nu,Sem.run_bind,e1,asAddr,Sem.run_pure,Result.andThen_ok,e2,h1]
         cases hv
       cases hy
    cases h
  cases hr
theorem GH {P:Program} {g:aT} {G:Gh} {H:aA} {w:World} {s:List AV} {a:Act} {fn:Func} {rl:List AO} {vs:List AV} (hw:WR g G H w) (hs:SR G w s a) (hr:qQ P fn.results.toList=some rl) (h:jU s H rl=some vs):
 ∃u,(results fn a.tmps).run P w=.ok u w/\VR G w (iW vs) u:=by
 obtain⟨us,h1,h2⟩:=CS hw hs _ _ _ hr h
 have key:(results fn a.tmps).run P w=.ok (if h:us.toArray.size=1 then us.toArray[0] else .tuple us.toArray) w:=by
  have oW:results fn a.tmps=(fn.results.mapM (Nu a.tmps)>>= fun vs=>pure (if h:vs.size=1 then vs[0] else .tuple vs)):=by unfold results;congr 1
  rw[oW];rw[Array.mapM_eq_mapM_toList];simp only[map_eq_pure_bind,Sem.run_bind];rw[h1];simp
 refine⟨_,key,?_⟩;have hl:=h2.1
 cases vs with
 |nil=>obtain rfl:us=[]:=Gp.1 hl;exact VR.kN G w
 |cons v vs=>
  cases us with
  |nil=>simp at hl
  |cons u us=>
   cases vs with
   |nil=>simp at hl;subst hl;have :=h2.2 0 (by simp);simpa [iW] using this
   |cons v2 vs=>
    cases us with
    |nil=>simp at hl
    |cons u2 us=>rw[dif_neg (by simp)];exact VR.eZ _ _ h2.1 h2.2
def DP (P:Program) (g:aT) (f:FuncId) (args:List AV) (H:aA) (R:Out->aA->Prop):Prop:=
 IN P f/\∀(G:Gh) (w:World) (vs:List Value),WR g G H w->fJ G w args vs->
  Calls P f vs.toArray w fun e w'=>∃out H' G',R out H'/\WR g G' H' w'/\Ext G H w G' H' w'/\LJ G' w' out e
theorem AU {P:Program} {g:aT} {mu:Bool} (hm:Fit P g) {f:FuncId} {F:wR} (hF:iM P g mu f F) {args:List AV} {H:aA} {R:Out->aA->Prop}
 (h:AC P g F.body (nC F args) [] H (lp F R)):DP P g f args H R:=by
 refine⟨hF.ok,fun G w vs hw hv=>?_⟩;obtain⟨fn,c,h1,h2,_,h3,h4,h5⟩:=hF;refine calls_of_wp h1 h2 (wp_mono (wpIn_wide.1 (uT hm c none F.body h3 (.inl rfl) _ [] G H w _ _ h hw ?_ trivial)) fun e a w' hq=>?_)
 . have hlen:=hv.1;show fJ G w _ _;simp only[nC,Jc,Iq,Fc,hlen,h4];refine hv.append ⟨by simp,fun j hj=>?_⟩;simp only[It] at hj;simp only[Ck,Ei,hj,if_true,Bb];exact VR.kN G w
 obtain⟨ae,s',eC,H1,G',q,jG,he,DG,oU,hx⟩:=hq
 have Jq:eC=[]->a.defers=[]:=fun hh=>by
  subst hh
  cases Wr:a.defers with
  |nil=>rfl
  |cons d r=>rw[Wr] at oU;exact oU.elim
 have fin:∀e',(eC=[]/\∃vs,jU s' H1 F.results=some vs/\R (.ret (iW vs)) H1)->
  (e'=Exit.normal\/e'=Exit.ret)->bodyPost P fn (fun e w'=>∃out H' G',R out H'/\WR g G' H' w'/\Ext G H w G' H' w'/\LJ G' w' out e) e' a w':=by
  rintro e' ⟨pc,mq,gV,hR⟩ sG;obtain⟨u,hu,GR⟩:=GH jG DG h5 gV
  rcases sG with rfl|rfl
  all_goals exact⟨Jq pc,u,hu,_,_,G',hR,jG,he,GR⟩
 cases ae with
 |normal=>
  cases e with
  |normal=>exact fin _ q (.inl rfl)
  |_=>exact hx.elim
 |ret=>
  cases e with
  |ret=>exact fin _ q (.inr rfl)
  |_=>exact hx.elim
 |exit id=>exact q.elim
 |panic v=>
  cases e with
  |panic ch=>obtain⟨pc,hR⟩:=q;exact⟨Jq pc,_,_,G',hR,jG,he,hx⟩
  |_=>exact hx.elim
theorem DP.exact {P:Program} {g:aT} {f:FuncId} {args:List AV} {H H':aA} {out:Out} (h:DP P g f args H fun o h=>o=out/\h=H'):Sound P g f args H out H':=
 ⟨h.1,fun G w vs hw hv=>(h.2 G w vs hw hv).mono fun e w' ⟨_,_,G',⟨e1,e2⟩,h1,h2,h3⟩=>⟨G',e2▸h1,e2▸h2,e1▸h3⟩⟩
theorem Sound.open {P:Program} {g:aT} {f:FuncId} {args:List AV} {H H':aA} {out:Out} (h:Sound P g f args H out H'):DP P g f args H fun o h=>o=out/\h=H':=
 ⟨h.1,fun G w vs hw hv=>(h.2 G w vs hw hv).mono fun e w' ⟨G',h1,h2,h3⟩=>⟨_,_,G',⟨rfl,rfl⟩,h1,h2,h3⟩⟩
theorem On {P:Program} {g:aT} {mu:Bool} (hm:Fit P g) {f:FuncId} {F:wR} (hF:iM P g mu f F) {args:List AV} {H H':aA} {out:Out}
 (h:AC P g F.body (nC F args) [] H (lp F fun o h=>o=out/\h=H')):Sound P g f args H out H':=(AU hm hF h).exact
end Go.Av
