/-
  Part of the proof of statement 10
-/
import Derived.Test.YtndkpgceodimiaaGreatDoorA03
import Derived.Laws.Sem
set_option linter.unusedVariables false
set_option linter.unusedSimpArgs false
set_option linter.unusedSectionVars false
namespace Go.Av
open Go
def GO (P:Program) (g:bB) (r:bD) (s:List AV) (H:aA) (v:AV) (H':aA):Prop:=
 match r.op with
 |.call f azs=>∃p,mJ (f.eval g s)=some p/\Sound P g p.1 (p.2.1++azs.map (Arg.eval g s)++p.2.2) H (.ret v) H'
 |.panic _|.lC _ _=>False
 |op=>cX (Arg.eval g s) H op=some (v,H')
def UE (P:Program) (g:bB) (pairs:List (Nat×Nat)) (base:Nat):Nat->Nat->List bD->List (Nat×Nat)->List (Nat×aA×aA)->List AV->aA->(List AV->aA->Prop)->Prop
 |_,_,[],_,_,s,H,Q=>Q s H
 |i,k,r::rs,rd,ef,s,H,Q=>
  if bP s r then
   if r.op.fresh then
    ∃ob val,xK (Arg.eval g s) r.op=some (ob,val)/\(∀x∈ef,(i,x.1)∈pairs->x.2.1.get (base+k)=x.2.2.get (base+k))/\
     UE P g pairs base (i+1) (k+1) rs ((i,base+k)::rd) ef (mX s r.dst (val (base+k))) (H.set (base+k) ob) Q
   else if r.op.pR then
    ∃v H',GO P g r s H v H'/\H.next<=H'.next/\(∀x∈rd,(x.1,i)∈pairs->H.get x.2=H'.get x.2)/\
     UE P g pairs base (i+1) k rs rd ((i,H,H')::ef) (mX s r.dst v) H' Q
   else
    ∃v,GO P g r s H v H/\(∀id,r.op.dG (Arg.eval g s)=some id->∀x∈ef,(i,x.1)∈pairs->x.2.1.get id=x.2.2.get id)/\
     UE P g pairs base (i+1) k rs (match r.op.dG (Arg.eval g s) with|some id=>(i,id)::rd|none=>rd) ef (mX s r.dst v) H Q
  else UE P g pairs base (i+1) (if r.op.fresh then k+1 else k) rs rd ef (mX s r.dst aD) H Q
structure UI (P:Program) (g:bB) (pairs:List (Nat×Nat)) (base i k:Nat) (rs:List bD) (rd:List (Nat×Nat)) (ef:List (Nat×aA×aA)) (s:List AV) (H:aA) (Q:List AV->aA->Prop)
 (Hs:Nat->aA) (ss:Nat->List AV) (vs:Nat->AV):Prop where
 h0:Hs 0=H
 s0:ss 0=s
 fin:Q (ss rs.length) (Hs rs.length)
 step:∀(j:Nat) (r:bD),rs[j]?=some r->DStep P g false (base+(k+gO rs j)) r (ss j) (Hs j) (vs j) (Hs (j+1))/\ss (j+1)=mX (ss j) r.dst (vs j)
 mono:∀(j:Nat) (r:bD),rs[j]?=some r->r.op.pR=true->(Hs j).next<=(Hs (j+1)).next
 UB:∀x∈rd,∀(e:Nat) (re:bD),rs[e]?=some re->re.op.pR=true->bP (ss e) re=true->(x.1,i+e)∈pairs->(Hs e).get x.2=(Hs (e+1)).get x.2
 new:∀x∈ef,∀(j:Nat) (r:bD),rs[j]?=some r->bP (ss j) r=true->(i+j,x.1)∈pairs->
  ∀id,(r.op.dG (Arg.eval g (ss j))=some id\/(r.op.fresh=true/\id=base+(k+gO rs j)))->x.2.1.get id=x.2.2.get id
 both:∀(j e:Nat) (rj re:bD),rs[j]?=some rj->rs[e]?=some re->re.op.pR=true->bP (ss j) rj=true->bP (ss e) re=true->(i+j,i+e)∈pairs->
  ∀id,(rj.op.dG (Arg.eval g (ss j))=some id\/(rj.op.fresh=true/\id=base+(k+gO rs j)))->(Hs e).get id=(Hs (e+1)).get id
theorem Py (r:bD) (rs:List bD) (j:Nat):gO (r::rs) (j+1)=(if r.op.fresh then 1 else 0)+gO rs j:=by unfold gO;simp only[Dl,Gl];omega
def ug {α:Type} (x:α) (f:Nat->α):Nat->α
 |0=>x
 |n+1=>f n
theorem UI.cons {P:Program} {g:bB} {pairs:List (Nat×Nat)} {base i k:Nat} {r:bD} {rs:List bD} {rd rd':List (Nat×Nat)} {ef ef':List (Nat×aA×aA)} {s:List AV} {H H':aA} {Q:List AV->aA->Prop}
 {Hs:Nat->aA} {ss:Nat->List AV} {vs:Nat->AV} {v:AV}
 (R:UI P g pairs base (i+1) (if r.op.fresh then k+1 else k) rs rd' ef' (mX s r.dst v) H' Q Hs ss vs)
 (iE:DStep P g false (base+k) r s H v H') (yT:r.op.pR=true->H.next<=H'.next)
 (hrd:∀x∈rd,x∈rd') (hef:∀x∈ef,x∈ef')
 (bEf:bP s r=true->∀id,(r.op.dG (Arg.eval g s)=some id\/(r.op.fresh=true/\id=base+k))->(i,id)∈rd')
 (bCy:bP s r=true->r.op.pR=true->(i,H,H')∈ef')
 (hold:∀x∈rd,r.op.pR=true->bP s r=true->(x.1,i)∈pairs->H.get x.2=H'.get x.2)
 (Kr:∀x∈ef,bP s r=true->(i,x.1)∈pairs->∀id,(r.op.dG (Arg.eval g s)=some id\/(r.op.fresh=true/\id=base+k))->x.2.1.get id=x.2.2.get id):
 UI P g pairs base i k (r::rs) rd ef s H Q (ug H Hs) (ug s ss) (ug v vs):=by
 have hk:∀j,base+((if r.op.fresh then k+1 else k)+gO rs j)=base+(k+gO (r::rs) (j+1)):=fun j=>by rw[Py];split<;>omega
 have hi:∀j,i+1+j=i+(j+1):=fun j=>by omega
 refine⟨rfl,rfl,R.fin,fun j q hq=>?_,fun j q hq he=>?_,fun x hx e re he JW hw hp=>?_,fun x hx j q hq hw hp id cZ=>?_,fun j e rj re hj he JW hwj hwe hp id cZ=>?_⟩
 · cases j with
   |zero=>simp at hq;subst hq;refine⟨?_,R.s0⟩;show DStep P g false (base+(k+gO (r::rs) 0)) r s H v (Hs 0);rw[R.h0];exact iE
   |succ j=>have :=R.step j q (by simpa using hq);rw[hk] at this;exact this
 · cases j with
   |zero=>simp at hq;subst hq;show H.next<=(Hs 0).next;rw[R.h0];exact yT he
   |succ j=>exact R.mono j q (by simpa using hq) he
 · cases e with
   |zero=>simp at he;subst he;show H.get x.2=(Hs 0).get x.2;rw[R.h0];exact hold x hx JW hw hp
   |succ e=>exact R.UB x (hrd x hx) e re (by simpa using he) JW hw (by rw[hi];exact hp)
 · cases j with
   |zero=>simp at hq;subst hq;exact Kr x hx hw hp id cZ
   |succ j=>refine R.new x (hef x hx) j q (by simpa using hq) hw (by rw[hi];exact hp) id ?_;rw[hk];exact cZ
 cases j with
 |zero=>
  simp at hj;subst hj
  cases e with
  |zero=>
   simp at he;subst he
   rcases cZ with h|h
   · rw[vT (kZ h)] at JW;cases JW
   rw[nH h.1] at JW;cases JW
  |succ e=>exact R.UB (i,id) (bEf hwj id cZ) e re (by simpa using he) JW hwe (by rw[hi];exact hp)
 |succ j=>
  have EZ:rj.op.dG (Arg.eval g (ss j))=some id\/(rj.op.fresh=true/\id=base+((if r.op.fresh then k+1 else k)+gO rs j)):=by rw[hk];exact cZ
  cases e with
  |zero=>simp at he;subst he;show H.get id=(Hs 0).get id;rw[R.h0];exact R.new (i,H,H') (bCy hwe JW) j rj (by simpa using hj) hwj (by rw[hi];exact hp) id EZ
  |succ e=>exact R.both j e rj re (by simpa using hj) (by simpa using he) JW hwj hwe (by rw[hi,hi];exact hp) id EZ
theorem GO.aIj {P:Program} {g:bB} {r:bD} {s:List AV} {H H':aA} {v:AV} {id:Nat} (h:GO P g r s H v H') (hw:bP s r=true) (hf:r.op.fresh=false):DStep P g false id r s H v H':=by unfold DStep;rw[if_pos hw,if_neg (by simp[hf])];exact h
theorem GG {P:Program} {g:bB} {pairs:List (Nat×Nat)} {base:Nat} {Q:List AV->aA->Prop}:∀(rs:List bD) (i k:Nat) (rd:List (Nat×Nat)) (ef:List (Nat×aA×aA)) (s:List AV) (H:aA),
 UE P g pairs base i k rs rd ef s H Q->∃Hs ss vs,UI P g pairs base i k rs rd ef s H Q Hs ss vs
 |[],i,k,rd,ef,s,H,h=>⟨fun _=>H,fun _=>s,fun _=>aD,rfl,rfl,h,fun j r hj=>by simp at hj,fun j r hj=>by simp at hj,fun x hx e re he=>by simp at he,fun x hx e re he=>by simp at he,fun j e rj re hj=>by simp at hj⟩
 |r::rs,i,k,rd,ef,s,H,h=>by
  unfold UE at h;by_cases hw:bP s r=true
  · rw[if_pos hw] at h;by_cases hf:r.op.fresh=true
    · rw[if_pos hf] at h;obtain⟨ob,val,h1,h2,h3⟩:=h;obtain⟨Hs,ss,vs,R⟩:=GG rs _ _ _ _ _ _ h3;have hk:(if r.op.fresh then k+1 else k)=k+1:=(by rw[if_pos hf]);refine⟨_,_,_,UI.cons (v:=val (base+k)) (by rw[hk];exact R) ?_ (fun he=>by rw[nH hf] at he;cases he) (fun x hx=>Ay _ hx) (fun x hx=>hx) (fun _ id cZ=>?_) (fun _ he=>by rw[nH hf] at he;cases he) (fun x _ he=>by rw[nH hf] at he;cases he) (fun x hx _ hp id cZ=>?_)⟩
      · unfold DStep;rw[if_pos hw,if_pos hf];exact⟨ob,val,h1,rfl,rfl⟩
      · rcases cZ with cZ|cZ
        · have :=kZ cZ;rw[yV this] at hf;cases hf
        rw[cZ.2];exact Ax
      rcases cZ with cZ|cZ
      · have :=kZ cZ;rw[yV this] at hf;cases hf
      rw[cZ.2];exact h2 x hx hp
    rw[if_neg hf] at h;have Zw:r.op.fresh=false:=(by simpa using hf);have hk:(if r.op.fresh then k+1 else k)=k:=(by rw[if_neg hf]);by_cases he:r.op.pR=true
    · rw[if_pos he] at h;obtain⟨v,H',h1,h2,h3,h4⟩:=h;obtain⟨Hs,ss,vs,R⟩:=GG rs _ _ _ _ _ _ h4;refine⟨_,_,_,UI.cons (v:=v) (by rw[hk];exact R) (h1.aIj hw Zw) (fun _=>h2) (fun x hx=>hx) (fun x hx=>Ay _ hx) (fun _ id cZ=>?_) (fun _ _=>Ax) (fun x hx _ _ hp=>h3 x hx hp) (fun x hx _ hp id cZ=>?_)⟩
      all_goals
       rcases cZ with cZ|cZ
       · rw[vT (kZ cZ)] at he;cases he
       exact absurd cZ.1 hf
    rw[if_neg he] at h;obtain⟨v,h1,h2,h3⟩:=h;obtain⟨Hs,ss,vs,R⟩:=GG rs _ _ _ _ _ _ h3;refine⟨_,_,_,UI.cons (v:=v) (by rw[hk];exact R) (h1.aIj hw Zw) (fun xU=>absurd xU he) (fun x hx=>?_) (fun x hx=>hx) (fun _ id cZ=>?_) (fun _ xU=>absurd xU he) (fun x _ xU=>absurd xU he) (fun x hx _ hp id cZ=>?_)⟩
    · split
      · exact Ay _ hx
      exact hx
    · rcases cZ with cZ|cZ
      · rw[cZ];exact Ax
      exact absurd cZ.1 hf
    rcases cZ with cZ|cZ
    · exact h2 id cZ x hx hp
    exact absurd cZ.1 hf
  rw[if_neg hw] at h;obtain⟨Hs,ss,vs,R⟩:=GG rs _ _ _ _ _ _ h;refine⟨_,_,_,UI.cons (v:=aD) R ?_ (fun _=>Ak _) (fun x hx=>hx) (fun x hx=>hx) (fun lM=>absurd lM hw) (fun lM=>absurd lM hw) (fun x _ _ lM=>absurd lM hw) (fun x _ lM=>absurd lM hw)⟩;unfold DStep;rw[if_neg hw];exact⟨rfl,rfl⟩
def mQ (H:aA):Nat->Bool
 |0=>true
 |n+1=>mQ H n&&(H.get (H.next+n)).isNone
theorem Nn {H:aA}:∀{n:Nat},mQ H n=true->∀k,k<n->H.get (H.next+k)=none
 |0,_,k,hk=>absurd hk (As k)
 |n+1,h,k,hk=>by
  simp only[mQ,Am,Option.isNone_iff_eq_none] at h;by_cases xm:k=n
  · rw[xm];exact h.2
  exact Nn h.1 k (by omega)
def ZM (P:Program) (g:bB) (rl:List bD) (pairs:List (Nat×Nat)) (s:List AV) (H:aA) (Q:List AV->aA->Prop):Prop:=
 mQ H (rl.countP (·.op.fresh))=true/\UE P g pairs H.next 0 0 rl [] [] s {H with next:=H.next+rl.countP (·.op.fresh)} Q
theorem ZM.run {P:Program} {g:bB} {rl:List bD} {pairs:List (Nat×Nat)} {s:List AV} {H:aA} {Q:List AV->aA->Prop} (h:ZM P g rl pairs s H Q)
 (hp:∀i e,(i,e)∈pairs->∀re,rl[e]?=some re->re.op.pR=true):
 ∃Hs ss vs,dS P g rl none pairs s H Hs ss vs/\Q (ss rl.length) (Hs rl.length):=by
 obtain⟨Hs,ss,vs,R⟩:=GG _ _ _ _ _ _ _ h.2;refine⟨Hs,ss,vs,⟨R.s0,R.h0,Nn h.1,fun i r hi=>?_,R.mono,fun i e hie ri re hi he hwi hwe id cZ=>?_⟩,R.fin⟩
 · have :=R.step i r hi;rw[Cv] at this;exact this
 refine R.both i e ri re hi he (hp i e hie re he) hwi hwe (by simpa using hie) id ?_;rw[Cv];exact cZ
def NB (P:Program) (g:bB) (rl:List bD) (pairs:List (Nat×Nat)) (s:List AV) (H:aA) (E:AV->List AV->aA->Prop):Prop:=
 ∃j Hs ss vs,(j,rl.length)∈pairs/\dS P g rl (some j) pairs s H Hs ss vs/\
 ∃r f azs p x H1,rl[j]?=some r/\r.op=.call f azs/\bP (ss j) r=true/\mJ (f.eval g (ss j))=some p/\
  Sound P g p.1 (p.2.1++azs.map (Arg.eval g (ss j))++p.2.2) (Hs j) (.KC x) H1/\E x (ss j) H1
theorem NB.mono {P:Program} {g:bB} {rl:List bD} {pairs:List (Nat×Nat)} {s:List AV} {H:aA} {E E':AV->List AV->aA->Prop} (h:NB P g rl pairs s H E) (he:∀x s H,E x s H->E' x s H):NB P g rl pairs s H E':=
 let⟨j,Hs,ss,vs,h1,h2,r,f,azs,p,x,H1,e1,e2,e3,e4,e5,e6⟩:=h
 ⟨j,Hs,ss,vs,h1,h2,r,f,azs,p,x,H1,e1,e2,e3,e4,e5,he _ _ _ e6⟩
def zO (n:Nat) (gP:List Nat) (i j:Nat):Bool:=decide (i<j)&&decide (j<n)&&(gP.getD j 0).testBit i
def SY (ri rj:bD):Bool:=
 (!ri.op.pR|| !rj.op.pR)&&
 (match ri.dst with|some d=> !(BL rj).contains d&&rj.dst != some d|none=>true)&&
 (match rj.dst with|some d=> !(BL ri).contains d|none=>true)
def zd (r:bD):Bool:= !r.op.reads||r.op.args.all fun |.const v=>(AO v).isNone|_=>true
def Sj (ops:Array Oper) (rl:List bD) (gP:List Nat):Bool:=
 (List.range rl.length).all fun j=>
   match ops[j]?,rl[j]? with
   |some o,some rj=>
    o.after.toList.all (fun e=> !Region.binds .any e||decide (e.on<j))&&zd rj&&
    (List.range j).all fun i=>
      if zO rl.length gP i j then o.after.toList.any fun e=>Region.binds .any e&&(e.on==i||zO rl.length gP i e.on)
      else match rl[i]? with
       |some ri=>SY ri rj
       |none=>false
   |_,_=>false
def Rg (rl:List bD) (gP:List Nat) (a b:Nat):Bool:=
 match rl[a]?,rl[b]? with
 |some ra,some rb=>rb.op.pR&&
  ((decide (a<b)&& !zO rl.length gP a b&&(ra.op.reads||ra.op.fresh))||(decide (b<a)&&(ra.op.fresh||(!zO rl.length gP b a&&ra.op.reads))))
 |_,_=>false
def ze (rl:List bD) (gP:List Nat) (j:Nat):Bool:=
 match rl[j]? with
 |some r=>match r.op with
  |.call _ _=>(List.range rl.length).all fun k=>k==j||zO rl.length gP k j||zO rl.length gP j k
  |_=>false
 |none=>false
def sW (rl:List bD) (gP:List Nat):List (Nat×Nat):=
 (((List.range rl.length).flatMap fun a=>(List.range rl.length).map fun b=>(a,b)).filter fun p=>Rg rl gP p.1 p.2)++
 ((List.range rl.length).filter (ze rl gP)).map fun j=>(j,rl.length)
theorem rI {rl:List bD} {gP:List Nat} {a b:Nat}:(a,b)∈sW rl gP↔(a<rl.length/\b<rl.length/\Rg rl gP a b=true)\/(b=rl.length/\ze rl gP a=true/\a<rl.length):=by
 unfold sW;simp only[An,Fk,Fa,Ba,Bf,Ah];constructor
 · rintro(⟨⟨x,hx,y,hy,rfl,rfl⟩,h⟩|⟨x,⟨h1,h2⟩,rfl,rfl⟩)
   · exact .inl ⟨hx,hy,h⟩
   exact .inr ⟨rfl,h2,h1⟩
 rintro(⟨h1,h2,h3⟩|⟨rfl,h2,h3⟩)
 · exact .inl ⟨⟨a,h1,b,h2,rfl,rfl⟩,h3⟩
 exact .inr ⟨a,⟨h3,h2⟩,rfl,rfl⟩
theorem YY {rl:List bD} {gP:List Nat} {j:Nat} (h:(j,rl.length)∈sW rl gP):∀k,k<rl.length->(k<j->zO rl.length gP k j=true)/\(j<k->zO rl.length gP j k=true):=by
 rcases rI.1 h with ⟨_,h,_⟩|⟨_,h,_⟩
 · exact absurd h (Ff _)
 intro k hk;unfold ze at h
 have h:(List.range rl.length).all (fun k=>k==j||zO rl.length gP k j||zO rl.length gP j k)=true:=by
  split at h
  · split at h
    · exact h
    cases h
  cases h
 have :=Aw.1 h k (Ba.2 hk);simp only[Dp,Da] at this
 have ho:∀{a b:Nat},zO rl.length gP a b=true->a<b:=fun {a b} h=>by unfold zO at h;simp only[Am,Bg] at h;exact h.1.1
 constructor
 · intro hkj
   rcases this with (rfl|h)|h
   · omega
   · exact h
   have :=ho h;omega
 intro hkj
 rcases this with (rfl|h)|h
 · omega
 · have :=ho h;omega
 exact h
theorem Qm {ops:Array Oper} {rl:List bD} {gP:List Nat} (hn:rl.length=ops.size) (h:Sj ops rl gP=true):tI ops rl (sW rl gP) (zO rl.length gP):=by
 unfold Sj at h;rw[Aw] at h
 have hj:∀(j:Nat) (o:Oper) (rj:bD),ops[j]?=some o->rl[j]?=some rj->
  (o.after.toList.all (fun e=> !Region.binds .any e||decide (e.on<j))&&zd rj&&
  (List.range j).all fun i=>
    if zO rl.length gP i j then o.after.toList.any fun e=>Region.binds .any e&&(e.on==i||zO rl.length gP i e.on)
    else match rl[i]? with
     |some ri=>SY ri rj
     |none=>false)=true:=fun j o rj ho hr=>by
  have :=h j (Ba.2 (Bl.1 hr).1);rw[ho,hr] at this;exact this
 have DK:∀(j:Nat),j<rl.length->∃o rj,ops[j]?=some o/\rl[j]?=some rj:=fun j hj=>⟨ops[j]'(by omega),rl[j],by simp[show j<ops.size by omega],by simp[hj]⟩
 have bCu:∀i j ri rj,i<j->rl[i]?=some ri->rl[j]?=some rj->zO rl.length gP i j=false->SY ri rj=true:=fun i j ri rj yS hi qh ha=>by obtain⟨o,rj',ho,hr'⟩:=DK j (Bl.1 qh).1;have :=hj j o rj ho qh;simp only[Am] at this;have :=Aw.1 this.2 i (Ba.2 yS);rw[ha,hi] at this;exact this
 refine⟨fun j o ho e he hb=>?_,fun i j ha=>?_,fun i j ri rj yS hi qh ha=>?_,fun i j ri rj yS hi qh he hf=>?_,fun j r hr hrd v hv=>?_⟩
 · obtain⟨o',rj,ho',hr⟩:=DK j (by rw[hn];exact(Ck.1 ho).1);have :=hj j o rj ho hr;simp only[Am] at this;have :=Aw.1 this.1.1 e (by simpa using he);rw[hb] at this;simpa using this
 · have ha':=ha;unfold zO at ha;simp only[Am,Bg] at ha;obtain⟨o,rj,ho,hr⟩:=DK j ha.1.2;have :=hj j o rj ho hr;simp only[Am] at this;have :=Aw.1 this.2 i (Ba.2 ha.1.1);rw[if_pos ha'] at this;obtain⟨e,he,hc⟩:=Bu.1 this;simp only[Am,Dp,Da] at hc;exact⟨o,ho,e,by simpa using he,hc.1,hc.2⟩
 · have hap:=bCu i j ri rj yS hi qh ha;have qk:=(Bl.1 hi).1;have hlj:=(Bl.1 qh).1;unfold SY at hap;simp only[Am] at hap;obtain⟨⟨h1,h2⟩,h3⟩:=hap;refine⟨fun he=>?_,fun d hd=>?_,fun d hd=>?_,fun he hr=>?_,fun he hr=>?_⟩
   · rw[he] at h1;simpa using h1
   · rw[hd] at h2;simp only[Am,Cp,Dc] at h2;exact⟨fun hm=>by have :=h2.1;simp[hm] at this,h2.2⟩
   · rw[hd] at h3;simp only[Cp] at h3;exact fun hm=>by simp[hm] at h3
   · refine rI.2 (.inl ⟨qk,hlj,?_⟩);unfold Rg;rw[hi,qh];simp only[he,yS,ha,Gn,Gm,Df,Cr,Dp];exact .inl hr
   refine rI.2 (.inl ⟨hlj,qk,?_⟩);unfold Rg;rw[hi,qh];simp[he,yS,ha,hr]
 · have qk:=(Bl.1 hi).1;have hlj:=(Bl.1 qh).1;refine rI.2 (.inl ⟨hlj,qk,?_⟩);unfold Rg;rw[hi,qh];simp[he,yS,hf]
 obtain⟨o,rj',ho,_⟩:=DK j (Bl.1 hr).1;have :=hj j o r ho hr;simp only[Am] at this;have :=this.1.2;unfold zd at this;rw[hrd] at this;simp only[Is,Bool.false_or] at this;have :=Aw.1 this _ hv;simpa using this
theorem l7 {rl:List bD} {gP:List Nat}:∀i e,(i,e)∈sW rl gP->∀re,rl[e]?=some re->re.op.pR=true:=fun i e h re hre=>by
 rcases rI.1 h with ⟨_,_,this⟩|⟨rfl,_⟩
 rotate_left
 · rw[Bs (Ak _)] at hre;cases hre
 unfold Rg at this;rw[hre] at this
 cases hi:rl[i]? with
 |none=>rw[hi] at this;cases this
 |some ri=>rw[hi] at this;simp only[Am] at this;exact this.1
def cD.nd:cD->Bool
 |.ops rl=>rl.all fun r=>match r.op with|.lC _ _=>false|_=>true
 |.seq a b|.cond _ a b=>a.nd&&b.nd
 |.block _ a|.loop a=>a.nd
 |.oD _ _ _ _=>false
 |_=>true
def eQ (P:Program) (g:bB) (mu:Bool):Code->Option cD
 |.skip=>some .skip
 |.label _=>some .skip
 |.region _ ops false=>(lY P g mu ops ops.toList).map .ops
 |.region _ ops true=>match lY P g mu ops ops.toList with
  |some rl=>if Sj ops rl (Region.before ops).toList then some (.draw rl (sW rl (Region.before ops).toList)) else none
  |none=>none
 |.seq a b=>match eQ P g mu a,eQ P g mu b with
  |some x,some y=>some (.seq x y)
  |_,_=>none
 |.cond c a b=>match bJ g c,eQ P g mu a,eQ P g mu b with
  |some z,some x,some y=>some (.cond z x y)
  |_,_,_=>none
 |.block id a=>(eQ P g mu a).map (.block id)
 |.loop a=>(eQ P g mu a).map .loop
 |.scope a=>eQ P g mu a
 |.exit id=>some (.exit id)
 |.ret=>some .ret
 |.rangeFunc c ps x y=>match bJ g c,eQ P g mu x,eQ P g mu y with
  |some c',some x',some y'=>if x'.nd&&y'.nd then some (.oD c' ps.toList x' y') else none
  |_,_,_=>none
 |_=>none
def aKf (next:List AV->List gH->aA->Prop) (Q:AQ):AQ
 |.normal,s,ds,H=>next s ds H
 |e,s,ds,H=>Q e s ds H
def pI (id:Nat) (Q:AQ):AQ
 |.exit i,s,ds,H=>if i=id then Q .normal s ds H else Q (.exit i) s ds H
 |e,s,ds,H=>Q e s ds H
def pK (s:List AV):List (Nat×AV)->List AV
 |[]=>s
 |(t,v)::r=>pK (s.set t v) r
def WG (id:Nat) (out:Out) (H3:aA):AQ
 |.normal,_,ds,H=>ds=[]/\out=.ret (.bool true)/\∃k sn,H.get id=some (.loop k sn .busy)/\H3=H.set id (.loop k sn .ready)
 |.ret,_,ds,H=>ds=[]/\out=.ret (.bool false)/\∃k sn,H.get id=some (.loop k sn .busy)/\H3=H.set id (.loop k sn (.done .ret))
 |.exit i,_,ds,H=>ds=[]/\out=.ret (.bool false)/\∃k sn,H.get id=some (.loop k sn .busy)/\H3=H.set id (.loop k sn (.done (.exit i)))
 |.panic _,_,_,_=>False
def aFo (st:LSt) (sn:List AV) (ds:List gH) (H:aA) (Q:AQ):Prop:=
 match st with
 |.ready=>Q .normal sn ds H
 |.done .ret=>Q .ret sn ds H
 |.done (.exit i)=>Q (.exit i) sn ds H
 |_=>False
def wV (He:aA) (id:Nat) (Hf:aA):Prop:=Hf.next=He.next/\∀m,Hf.get m=if m=id then some .dead else He.get m
def AC (P:Program) (g:bB):cD->List AV->List gH->aA->AQ->Prop
 |.skip,s,ds,H,Q=>Q .normal s ds H
 |.ops rl,s,ds,H,Q=>uN P g rl s ds H Q
 |.draw rl pairs,s,ds,H,Q=>(ZM P g rl pairs s H fun s' H'=>Q .normal s' ds H')\/NB P g rl pairs s H fun x s' H'=>Q (.panic x) s' ds H'
 |.seq a b,s,ds,H,Q=>AC P g a s ds H (aKf (fun s ds H=>AC P g b s ds H Q) Q)
 |.cond c a b,s,ds,H,Q=>∃t,c.eval g s=.bool t/\if t then AC P g a s ds H Q else AC P g b s ds H Q
 |.block id a,s,ds,H,Q=>AC P g a s ds H (pI id Q)
 |.loop a,s,ds,H,Q=>∃(I:Nat->List AV->List gH->aA->Prop) (n:Nat),I n s ds H/\
   ∀n s ds H,I n s ds H->AC P g a s ds H (aKf (fun s ds H=>∃m,m<n/\I m s ds H) Q)
 |.exit id,s,ds,H,Q=>Q (.exit id) s ds H
 |.ret,s,ds,H,Q=>Q .ret s ds H
 |.oD c ps LX body,s,ds,H,Q=>∃pS fs cs v He k' s' st Hf,c.eval g s=.func (.func pS) fs cs/\
   Sound P g pS (fs++[.yield (H.next+1)]++cs) ((H.alloc .LZ).alloc (.loop ⟨ps,LX,body⟩ s .ready)) (.ret v) He/\He.get (H.next+1)=some (.loop k' s' st)/\wV He (H.next+1) Hf/\
   aFo st s (.mark H.next::ds) Hf Q
def ND (P:Program) (g:bB) (k:KI) (s:List AV) (id:Nat) (args:List AV) (H2:aA) (out:Out) (H3:aA):Prop:=
 AC P g k.LX (pK s (k.ps.zip args)) [] H2 fun e s1 pA H1=>match e with
  |.normal=>pA=[]/\∃k1 dr,H1.get id=some (.loop k1 dr .ready)/\AC P g k.body s1 [] (H1.set id (.loop k1 dr .busy)) (WG id out H3)
  |_=>False
structure Fit (P:Program) (g:bB):Prop where
 mixed:P.follows .mixedOrders=true
 lok:∀k r,g.lok k r↔(r.params.toList=k.ps/\∃mu,eQ P g mu r.assign=some k.LX/\eQ P g mu r.body=some k.body/\k.LX.nd=true/\k.body.nd=true)
noncomputable def TL (p:Nat->Prop) (h:∃n,p n):Nat:=
 Classical.choose (show ∃n,p n/\∀m,p m->n<=m from by
  obtain⟨n,hn⟩:=h
  induction n using Nat.strongRecOn with
  |_ n ih=>
   by_cases hc:∃m,m<n/\p m
   · obtain⟨m,hm,hp⟩:=hc;exact ih m hm hp
   exact⟨n,hn,fun m hm=>Io fun eZ=>hc ⟨m,eZ,hm⟩⟩)
theorem Lq (p:Nat->Prop) (h:∃n,p n):p (TL p h)/\∀m,p m->TL p h<=m:=Ik (TL._proof_1 p h)
theorem Wb {F:Fence} {n:Nat} {P:Program} {c:Code} {Q:Exit->Act->World->Prop} {a:Act} {w:World} (h:c.wpIn F n P Q a w) (hg:∀l a w,¬Q (.goto l) a w):(Code.scope c).wpIn F n P Q a w:=by
 intro b k cs DK hb hr;obtain⟨e,a',w',hq,jy⟩:=h b (.inScope c::k) cs DK hb hr;have h1:step P (lone (b.atR a (.code (.scope c)::k)) cs w)=.next (lone (b.atR a (.code c::.inScope c::k)) cs w):=step_lone_go (by simp[stepG,stepG.exec,Frame.atR]);have h2:∀a w,step P (lone (b.atR a (.inScope c::k)) cs w)=.next (lone (b.atR a k) cs w):=fun a w=>step_lone_go (by simp[stepG,stepG.exec,Frame.atR]);refine⟨e,a',w',hq,.of_steps (.one (fenced_calm hb hr rfl) h1) ?_⟩
 cases e with
 |normal=>exact StepsIn.trans jy (.one (fenced_calm hb hr rfl) (h2 a' w'))
 |exit id=>exact⟨fun k' hk=>jy.1 k' (by simpa [exitTo] using hk),fun hr hk=>jy.2 hr (by simpa [exitTo] using hk)⟩
 |goto l=>exact(hg l a' w' hq).elim
 |ret=>exact jy
 |panic ch=>exact jy
 |outgrown=>exact jy
theorem Wa {F:Fence} {n0:Nat} {P:Program} {Q:Exit->Act->World->Prop} {c:Code} (I:Nat->Act->World->Prop) {n:Nat} {a:Act} {w:World} (h0:I n a w)
 (round:∀n a w,I n a w->c.wpIn F n0 P (Exit.then (fun a' w'=>∃m,m<n/\I m a' w') Q) a w):(Code.loop c).wpIn F n0 P Q a w:=by
 classical
 refine wpIn_loop (fun a' w'=>∃m,I m a' w') (fun a' w'=>if h:∃m,I m a' w' then TL (fun m=>I m a' w') h else 0) ⟨n,h0⟩ fun a' w' hI=>?_;have ya:=Lq (fun m=>I m a' w') hI;refine wpIn_mono (round _ a' w' ya.1) fun e a1 w1 hq=>?_
 cases e with
 |normal=>obtain⟨m,hm,h1⟩:=hq;have hI1:∃m,I m a1 w1:=⟨m,h1⟩;refine⟨hI1,?_⟩;rw[dif_pos hI1,dif_pos hI];exact Jd ((Lq (fun m=>I m a1 w1) hI1).2 m h1) hm
 |_=>exact hq
theorem QR.aFs {g:bB} {G:Gh} {H:aA} {w:World} {Q:AQ} {l:Nat} {a:Act} {w':World}:¬QR g G H w Q (.goto l) a w':=by rintro⟨ae,s',fO,H',G',_,_,_,_,_,hx⟩;cases ae<;>exact hx.elim
theorem GF {P:Program} {g:bB} {mu:Bool} (hm:Fit P g):∀(c:Code) (ro:Option Nat) (ac:cD),eQ P g mu c=some ac->(ro=none\/ac.nd=true)->∀(s:List AV) (ds:List gH) (G:Gh) (H:aA) (w:World) (a:Act) (Q:AQ),
 AC P g ac s ds H Q->WR g G H w->SR G w s a->SM G w ds a.defers->c.wpIn (Fw ro) 0 P (QR g G H w Q) a w:=by
 intro c
 induction c with
 |skip=>intro ro ac hc DK s ds G H w a Q h hw hs hd;simp only[eQ,Ad] at hc;subst hc;exact wpIn_skip ⟨.normal,s,ds,H,G,h,hw,Ext.refl G H w,hs,hd,trivial⟩
 |label l=>intro ro ac hc DK s ds G H w a Q h hw hs hd;simp only[eQ,Ad] at hc;subst hc;exact wpIn_label ⟨.normal,s,ds,H,G,h,hw,Ext.refl G H w,hs,hd,trivial⟩
 |region id ops draw=>
  intro ro ac hc DK s ds G H w a Q h hw hs hd
  cases draw with
  |false=>
   simp only[eQ,Ag] at hc;obtain⟨rl,VM,rfl⟩:=hc;refine wpIn_region ?_
   have :=NC (ro:=ro) ops.toList rl 0 VM (fun j hj=>by simp) (DK.imp (fun h=>h) fun h r hr f azs e=>by
    have :=Aw.1 h r hr
    rw[e] at this;cases this) s ds G H w a Q h hw hs hd
   rw[Cx] at this
   rwa [List.range_eq_range']
  |true=>
   simp only[eQ] at hc;split at hc
   · rename_i rl VM;split at hc
     · rename_i pG;obtain rfl:=Aa hc;have hn:rl.length=ops.size:=by simpa using(xR _ _ VM).1
       rcases h with h|⟨j,Hs,ss,vs,h1,D,h2⟩
       · obtain⟨Hs,ss,vs,D,hQ⟩:=ZM.run h l7;exact Nd hm.mixed VM D (Qm hn pG) hw hs hd (fun _=>hQ) (fun j h=>by cases h)
       exact Nd hm.mixed VM D (Qm hn pG) hw hs hd (fun h=>by cases h) (fun k hk=>by cases hk;exact⟨YY h1,h2⟩)
     cases hc
   cases hc
 |seq x y ihx ihy=>
  intro ro ac hc DK s ds G H w a Q h hw hs hd;simp only[eQ] at hc;split at hc
  · rename_i ax ay wh hay;obtain rfl:=Aa hc;refine wpIn_seq (wpIn_mono (ihx ro ax wh (DK.imp (fun h=>h) fun h=>(Am _ _▸h).1) s ds G H w a _ h hw hs hd) fun e a' w' hq=>?_);obtain⟨ae,s',fO,H',G',q,lM,he,FE,rV,hx⟩:=hq
    cases e with
    |normal=>
     cases ae with
     |normal=>exact wpIn_mono (ihy ro ay hay (DK.imp (fun h=>h) fun h=>(Am _ _▸h).2) s' fO G' H' w' a' Q q lM FE rV) fun _ _ _ hq=>QR.trans he hq
     |_=>exact hx.elim
    |_=>
     cases ae with
     |normal=>exact hx.elim
     |_=>exact⟨_,s',fO,H',G',q,lM,he,FE,rV,hx⟩
  cases hc
 |cond c x y ihx ihy=>
  intro ro ac hc DK s ds G H w a Q h hw hs hd;simp only[eQ] at hc;split at hc
  · rename_i az ax ay haz wh hay;obtain rfl:=Aa hc;obtain⟨t,ht,h⟩:=h;have hv:=bH hw hs haz;rw[ht] at hv;refine wpIn_cond hv.jU ?_
    cases t with
    |true=>exact ihx ro ax wh (DK.imp (fun h=>h) fun h=>(Am _ _▸h).1) s ds G H w a Q h hw hs hd
    |false=>exact ihy ro ay hay (DK.imp (fun h=>h) fun h=>(Am _ _▸h).2) s ds G H w a Q h hw hs hd
  cases hc
 |block id x ih=>
  intro ro ac hc DK s ds G H w a Q h hw hs hd;simp only[eQ,Ag] at hc;obtain⟨ax,wh,rfl⟩:=hc;refine wpIn_block (wpIn_mono (ih ro ax wh DK s ds G H w a _ h hw hs hd) fun e a' w' hq=>?_);obtain⟨ae,s',fO,H',G',q,lM,he,FE,rV,hx⟩:=hq
  cases ae with
  |exit i=>
   cases e with
   |exit i'=>
    obtain rfl:i=i':=hx;simp only[pI] at q;simp only[Exit.inBlock];split
    · rename_i hi;rw[if_pos hi] at q;exact⟨.normal,s',fO,H',G',q,lM,he,FE,rV,trivial⟩
    rename_i hi;rw[if_neg hi] at q;exact⟨.exit i,s',fO,H',G',q,lM,he,FE,rV,rfl⟩
   |_=>exact hx.elim
  |normal=>
   cases e with
   |normal=>exact⟨.normal,s',fO,H',G',q,lM,he,FE,rV,trivial⟩
   |_=>exact hx.elim
  |ret=>
   cases e with
   |ret=>exact⟨.ret,s',fO,H',G',q,lM,he,FE,rV,trivial⟩
   |_=>exact hx.elim
  |panic v=>
   cases e with
   |panic ch=>exact⟨.panic v,s',fO,H',G',q,lM,he,FE,rV,hx⟩
   |_=>exact hx.elim
 |loop x ih=>
  intro ro ac hc DK s ds G H w a Q h hw hs hd;simp only[eQ,Ag] at hc;obtain⟨ax,wh,rfl⟩:=hc;obtain⟨I,n,h0,hI⟩:=h;refine Wa (fun n a' w'=>∃s' fO H' G',I n s' fO H'/\WR g G' H' w'/\Ext G H w G' H' w'/\SR G' w' s' a'/\SM G' w' fO a'.defers) ⟨s,ds,H,G,h0,hw,Ext.refl G H w,hs,hd⟩ fun n a1 w1 hi=>?_;obtain⟨s1,pA,H1,G1,hi,Pg,Tw,hs1,Xq⟩:=hi;refine wpIn_mono (ih ro ax wh DK s1 pA G1 H1 w1 a1 _ (hI n s1 pA H1 hi) Pg hs1 Xq) fun e a' w' hq=>?_;obtain⟨ae,s',fO,H',G',q,lM,he,FE,rV,hx⟩:=hq
  cases e with
  |normal=>
   cases ae with
   |normal=>obtain⟨m,hm,gR⟩:=q;exact⟨m,hm,s',fO,H',G',gR,lM,Tw.trans he,FE,rV⟩
   |_=>exact hx.elim
  |_=>
   cases ae with
   |normal=>exact hx.elim
   |_=>exact⟨_,s',fO,H',G',q,lM,Tw.trans he,FE,rV,hx⟩
 |scope x ih=>intro ro ac hc DK s ds G H w a Q h hw hs hd;exact Wb (ih ro ac hc DK s ds G H w a Q h hw hs hd) fun l a w=>QR.aFs
 |exit id=>intro ro ac hc DK s ds G H w a Q h hw hs hd;simp only[eQ,Ad] at hc;subst hc;exact wpIn_exit ⟨.exit id,s,ds,H,G,h,hw,Ext.refl G H w,hs,hd,rfl⟩
 |ret=>intro ro ac hc DK s ds G H w a Q h hw hs hd;simp only[eQ,Ad] at hc;subst hc;exact wpIn_ret ⟨.ret,s,ds,H,G,h,hw,Ext.refl G H w,hs,hd,trivial⟩
 |rangeFunc c ps x y ihx ihy=>
  intro ro ac hc DK s ds G H w a Q h hw hs hd;simp only[eQ] at hc;split at hc
  · rename_i c' ax ay hc' wh hay;split at hc
    · rename_i QE;obtain rfl:=Aa hc;rw[Am] at QE
      obtain rfl:ro=none:=DK.resolve_right fun h=>by cases h
      obtain⟨pS,fs,cs,v,He,k',s',st,Hf,hcv,hS,iE,aIu,hQ⟩:=h;have hvc:=bH hw hs hc';rw[hcv] at hvc;obtain⟨fsv,csv,hfv,h1,h2⟩:=EK (p:=(pS,fs,cs)) rfl hvc;refine wpIn_rangeFunc fun fn _=>?_;obtain⟨r,hr⟩:∃r:Loop,r={state:=.ready,pending:=none,fn,tmps:=a.tmps,params:=ps,assign:=x,body:=y,defers:=w.heap.size}:=⟨_,rfl⟩;have hrr:mT r .ready=r:=by rw[hr];rfl
      have fresh:∀{G:Gh} {H:aA} {w:World},WR g G H w->G.loc H.next=none:=fun {G H w} hw=>by
       cases hl:G.loc H.next with
       |none=>rfl
       |some l'=>exact absurd (hw.lt _ _ hl) (Ff _)
      have m1:=hw.CG H.next .LZ (.deferred (some [])) rfl (fresh hw) (aA.aJ H _) (Gq _) (Ez _) (w':=w.alloc (.deferred (some []))) ⟨rfl,.now⟩ (fun _=>by show(w.heap.push _)[w.heap.size]?=_;simp);have sQ:SR (G.dZ H.next ⟨w.heap.size,0,0,1⟩) (w.alloc (.deferred (some []))) s a:=hs.ext (m1.ext (Ext.refl G H w) (Ak _))
      have m2:=m1.rel.CG (H.alloc .LZ).next (.loop ⟨ps.toList,ax,ay⟩ s .ready) (.loop r) rfl (fresh m1.rel) (aA.aJ _ _) (Gq _) (Ez _) (w':=(w.alloc (.deferred (some []))).alloc (.loop r)) ⟨rfl,.now⟩ (fun ah=>by
       refine⟨r,(hm.lok _ _).2 ⟨by rw[hr],mu,by rw[hr];exact wh,by rw[hr];exact hay,QE.1,QE.2⟩,by rw[hrr];exact CP (w.heap.push (.deferred (some []))) (.loop r),?_⟩;have hrt:r.tmps=a.tmps:=(by rw[hr]);rw[hrt]
       exact⟨sQ.1,fun j hj=>ah _ _ (sQ.2 j hj)⟩)
      have e2:=m2.ext (m1.ext (Ext.refl G H w) (Ak _)) (Gq _);obtain⟨G2,hG2⟩:∃G2,G2=(G.dZ H.next ⟨w.heap.size,0,0,1⟩).dZ (H.alloc .LZ).next ⟨(w.alloc (.deferred (some []))).heap.size,0,0,1⟩:=⟨_,rfl⟩
      have hL:G2.loc (H.next+1)=some ⟨w.heap.size+1,0,0,1⟩:=by rw[hG2];show(if H.next+1=H.next+1 then some (⟨(w.heap.push _).size,0,0,1⟩:Loc) else _)=_;simp
      have hD:G2.loc H.next=some ⟨w.heap.size,0,0,1⟩:=by rw[hG2];show(if H.next=H.next+1 then _ else if H.next=H.next then some (⟨w.heap.size,0,0,1⟩:Loc) else _)=_;rw[if_neg (by omega),if_pos rfl]
      have zH:=m2.rel;rw[<-hG2] at zH e2;have bCx:True:=trivial
      refine⟨w.heap.size+1,[{target:=.collected w.heap.size,args:= #[]}],_,{target:=.fn (.func pS) csv.toArray,args:=fsv.toArray++ #[.func (.yield (w.heap.size+1)) #[] #[]]},(w.alloc (.deferred (some []))).alloc (.loop {state:=.ready,pending:=none,fn,tmps:=a.tmps,params:=ps,assign:=x,body:=y,defers:=w.heap.size}),pS,_,_,
       run_enterLoop_outer _ _ _ _ _,?_,fun _ _=>trivial,nO hS.1 _ _ _,AZ,?_⟩
      · simp only[resolve,rangeCall,hfv];simp[Deferred.ofValue,Act.eval]
      rw[<-hr]
      have lH:iF G2 ((w.alloc (.deferred (some []))).alloc (.loop r)) (fs++[.yield (H.next+1)]++cs) (fsv++[.func (.yield (w.heap.size+1)) #[] #[]]++csv):=
       ((h1.ext e2).append ((VR.yield (H.next+1) _ hL).cons (iF.nil _ _))).append (h2.ext e2)
      have DI:=hS.2 G2 _ _ zH lH;rw[show(fsv++[Value.func (.yield (w.heap.size+1)) #[] #[]]++csv).toArray=(fsv.toArray++ #[.func (.yield (w.heap.size+1)) #[] #[]])++csv.toArray by apply Fm;simp] at DI;refine(NQ DI).mono fun e w3 he=>?_;obtain⟨G3,QJ,j9,qK⟩:=he
      cases e with
      |panicked _=>exact qK.elim
      |outgrown=>exact qK.elim
      |returned u=>
       have Tx:=j9.loc _ _ hL;obtain⟨_,_,r3,bDm,tS,aUt⟩:=QJ.iM _ _ _ Tx iE rfl;have aQd:=e2.trans j9
       have fin:∀(p:Option LEx),(mT r3 st).pending=p.map LEx.code->(mT r3 st).state≠ .busy->∃w4,(Instr.endLoop (w.heap.size+1)).run P w3=.ok (p.map LEx.code) w4/\
        WR g G3 Hf w4/\Ext G H w G3 Hf w4:=by
        intro p hp hb
        have h5:(Instr.endLoop (w.heap.size+1)).run P w3=.ok (p.map LEx.code) (w3.putObj (w.heap.size+1) (.loop {mT r3 st with state:=.exhausted})):=by have h5:=run_endLoop (P:=P) tS hb;rw[h5];exact Bc (fun q=>Result.ok q _) hp
        obtain⟨q1,q2⟩:=QJ.FU (o':=.loop k' s' (.over p)) (x:=.loop {mT r3 st with state:=.exhausted}) (w':=w3.putObj (w.heap.size+1) (.loop {mT r3 st with state:=.exhausted})) Tx iE rfl rfl rfl .now (fun ah wQ=>⟨r3,bDm,by
         rw[wQ];congr 2
         cases st<;>simp only[mT] at hp ⊢ <;>rw[hp],⟨aUt.1,fun j hj=>ah _ _ (aUt.2 j hj)⟩⟩)
        have hg:∀m,Hf.get m=((He.set (H.next+1) (.loop k' s' (.over p))).set (H.next+1) .dead).get m:=fun m=>by rw[aIu.2,aA.aC,aA.aC];split<;>rfl
        have hn:Hf.next=((He.set (H.next+1) (.loop k' s' (.over p))).set (H.next+1) .dead).next:=aIu.1;exact⟨_,h5,(q1.kill (H.next+1)).oB (fun m _ _=>hg m) (by omega),((aQd.trans q2).kill (H.next+1)).oB (fun m _ _=>hg m) (by omega)⟩
       have jk:∀{H4:aA} {w4:World},Ext G H w G3 H4 w4->SR G3 w4 s {a with defers:=[{target:=.collected w.heap.size,args:= #[]}]++a.defers}/\
        SM G3 w4 (.mark H.next::ds) ([{target:=.collected w.heap.size,args:= #[]}]++a.defers):=fun {H4 w4} ex=>
        ⟨hs.ext ex,⟨_,j9.loc _ _ hD,rfl⟩,hd.ext ex⟩
       cases st with
       |ready=>obtain⟨w4,h5,q1,q2⟩:=fin none rfl (by simp[mT]);exact⟨none,w4,h5,.normal,s,_,_,G3,hQ,q1,q2,(jk q2).1,(jk q2).2,trivial⟩
       |done e=>
        obtain⟨w4,h5,q1,q2⟩:=fin (some e) rfl (by simp[mT]);refine⟨_,w4,h5,?_⟩
        cases e with
        |ret=>exact wpIn_ret ⟨.ret,s,_,_,G3,hQ,q1,q2,(jk q2).1,(jk q2).2,trivial⟩
        |exit i=>exact wpIn_exit ⟨.exit i,s,_,_,G3,hQ,q1,q2,(jk q2).1,(jk q2).2,rfl⟩
       |busy=>exact hQ.elim
       |over _=>exact hQ.elim
    cases hc
  cases hc
 |_=>intro ro ac hc;simp[eQ] at hc
theorem KO {P:Program} {g:bB} (hm:Fit P g) {id:Nat} {k:KI} {s args:List AV} {H2 H3:aA} {out:Out} (cT:H2.get id=some (.loop k s .ready)) (hlen:args.length=k.ps.length)
 (hA:ND P g k s id args H2 out H3):rR P g id args H2 out H3:=by
 intro G' w' vs l' lM hv oU;obtain⟨_,_,r,hlk,hblk,hsn⟩:=lM.iM _ l' _ oU cT rfl;obtain⟨hrp,mu,wh,hay,QE⟩:=(hm.lok _ _).1 hlk;have II:=hv.1;have hy:=run_yield (P:=P) (args:=vs.toArray) hblk (by rw[<-II] at hlen;show vs.toArray.size=r.params.size;rw[<-Cx (xs:=r.params),hrp];simpa using hlen);refine⟨_,_,_,_,hy,roundIn_of_wpIn trivial ?_⟩
 have hS1:SR G' w' (pK s (k.ps.zip args)) {tmps:=(r.params.zip vs.toArray).foldl (fun tmps (t,a)=>tmps.setIfInBounds t a) r.tmps,defers:=[]}:=by
  have key:∀(l:List Nat) (azs:List AV) (us:List Value) (s0:List AV) (tm:Array Value),iF G' w' azs us->iF G' w' s0 tm.toList->
   iF G' w' (pK s0 (l.zip azs)) ((l.zip us).foldl (fun tmps (t,a)=>tmps.setIfInBounds t a) tm).toList:=by
   intro l
   induction l with
   |nil=>intro azs us s0 tm _ h0;simpa [pK] using h0
   |cons t l ih=>
    intro azs us s0 tm ha h0
    cases azs with
    |nil=>have :=ha.1;simp only[Bj,Hy] at this;subst this;simpa [pK] using h0
    |cons v azs=>
     cases us with
     |nil=>have :=ha.1;simp at this
     |cons u us=>have Pf:=ha.2 0 (by simp);simp only[Dn] at Pf;have ta:iF G' w' azs us:=⟨by have :=ha.1;simpa using this,fun j hj=>by have :=ha.2 (j+1) (by simpa using hj);simpa using this⟩;simp only[List.zip_cons_cons,pK,Hq];refine ih azs us _ _ ta ?_;exact(SR.put (a:={tmps:=tm,defers:=[]}) h0 (some t) Pf:_)
  have :=key k.ps args vs s r.tmps hv hsn;show iF G' w' _ _;rw[<-Array.foldl_toList,Array.toList_zip,hrp];exact this
 refine wpIn_mono (GF hm _ (some l'.cY) _ wh (.inr QE.1) _ [] G' H2 w' _ _ hA lM hS1 trivial) fun e a1 w1 hq=>?_;obtain⟨ae,s1,pA,H1,G1,q,Pg,Tw,hs1,Xq,hx⟩:=hq
 cases ae with
 |normal=>
  cases e with
  |normal=>
   obtain⟨hds,k1,dr,aIq,Zr⟩:=q;subst hds;have zC:=Tw.loc _ _ oU;obtain⟨_,_,r1,bDl,dR,aUs⟩:=Pg.iM _ _ _ zC aIq rfl;obtain⟨q1,q2⟩:=Pg.FU (o':=.loop k1 dr .busy) (x:=.loop {mT r1 .ready with state:=.busy}) (w':=w1.putObj l'.cY (.loop {mT r1 .ready with state:=.busy})) zC aIq rfl rfl rfl .now (fun ah wQ=>⟨r1,bDl,wQ,⟨aUs.1,fun j hj=>ah _ _ (aUs.2 j hj)⟩⟩);refine⟨_,run_beginRound dR rfl,?_⟩
   have bCv:a1.defers=[]:=by
    cases xd:a1.defers with
    |nil=>rfl
    |cons d r=>rw[xd] at Xq;exact Xq.elim
   refine wpIn_mono (GF hm _ (some l'.cY) _ hay (.inr QE.2) s1 [] G1 _ _ a1 _ Zr q1 (hs1.ext q2) (by rw[bCv];trivial)) fun e a2 w3 hq=>?_;obtain⟨ae,s2,Qn,H4,G4,q,hw4,he4,hs4,hd4,hx⟩:=hq;have aQd:=(Tw.trans q2).trans he4;have aa:=(q2.trans he4).loc _ _ zC
   have fin:∀(st:LSt) (b:Bool) (jump:Option Code),(∃k4 sn4,H4.get id=some (.loop k4 sn4 .busy)/\H3=H4.set id (.loop k4 sn4 st))->out=.ret (.bool b)->jump.isNone=b->
    (∀r q:Loop,q=mT r .busy->{q with state:=if jump.isNone then .ready else .done,pending:=jump}=mT r st)->
    ∃v w5,(Instr.endRound l'.cY jump).run P w3=.ok v w5/\∃G'',WR g G'' H3 w5/\Ext G' H2 w' G'' H3 w5/\XD G'' w5 out (.returned v):=by
    intro st b jump ⟨k4,sn4,Zy,h3⟩ ho hj hla;obtain⟨_,_,r4,bDn,uK,aUu⟩:=hw4.iM _ _ _ aa Zy rfl;have h6:=run_endRound (P:=P) jump uK;rw[hla r4 _ rfl] at h6;obtain⟨p1,p2⟩:=hw4.FU (o':=.loop k4 sn4 st) (x:=.loop (mT r4 st)) (w':=w3.putObj l'.cY (.loop (mT r4 st))) aa Zy rfl rfl rfl .now (fun ah wQ=>⟨r4,bDn,wQ,⟨aUu.1,fun j hj=>ah _ _ (aUu.2 j hj)⟩⟩);refine⟨_,_,h6,G4,by rw[h3];exact p1,by rw[h3];exact aQd.trans p2,?_⟩;rw[ho,hj];exact .bool b
   cases ae with
   |normal=>
    cases e with
    |normal=>obtain⟨_,ho,Zy⟩:=q;exact fin .ready true none Zy ho rfl (fun r q hq=>by subst hq;rfl)
    |_=>exact hx.elim
   |ret=>
    cases e with
    |ret=>obtain⟨_,ho,Zy⟩:=q;exact fin (.done .ret) false (some .ret) Zy ho rfl (fun r q hq=>by subst hq;rfl)
    |_=>exact hx.elim
   |exit i=>
    cases e with
    |exit j=>obtain rfl:i=j:=hx;obtain⟨_,ho,Zy⟩:=q;exact fin (.done (.exit i)) false (some (.exit i)) Zy ho rfl (fun r q hq=>by subst hq;rfl)
    |_=>exact hx.elim
   |panic v=>exact q.elim
  |_=>exact hx.elim
 |_=>exact q.elim
inductive GH where
 |tmp (t:Nat)
 |cell (a:Nat) (agg:Bool) (n:Nat)
def tj (P:Program):ResultVar->Option GH
 |.tmp t=>some (.tmp t)
 |.cell a t=>match fT P t,kD P t with
  |some agg,some n=>some (.cell a agg n)
  |_,_=>none
def uU (P:Program):List ResultVar->Option (List GH)
 |[]=>some []
 |x::r=>match tj P x,uU P r with
  |some y,some ys=>some (y::ys)
  |_,_=>none
def my (s:List AV) (H:aA):GH->Option AV
 |.tmp t=>some (s.getD t aD)
 |.cell a agg n=>match cX (Arg.eval g0 s) H (.load agg n (.tmp a)) with
  |some (v,_)=>some v
  |none=>none
def mC (s:List AV) (H:aA):List GH->Option (List AV)
 |[]=>some []
 |x::r=>match my s H x,mC s H r with
  |some v,some vs=>some (v::vs)
  |_,_=>none
def mY:List AV->AV
 |[v]=>v
 |vs=>.jR vs
structure BR where
 ntmps:Nat
 results:List GH
 body:cD
def kP (P:Program) (g:bB) (mu:Bool) (f:FuncId) (F:BR):Prop:=
 ∃fn c,P.funcs[f]?=some fn/\fn.body=some c/\(fn.name== "runtime.NumGoroutine")=false/\eQ P g mu c=some F.body/\fn.ntmps=F.ntmps/\uU P fn.results.toList=some F.results
theorem kP.ok {P:Program} {g:bB} {mu:Bool} {f:FuncId} {F:BR} (h:kP P g mu f F):MG P f:=
 let⟨fn,c,h1,h2,h3,_⟩:=h
 ⟨fn,h1,by rw[h2];rfl,h3⟩
def kO (F:BR) (args:List AV):List AV:=args++List.replicate (F.ntmps -args.length) aD
def aHh (F:BR) (R:Out->aA->Prop):AQ
 |.normal,s,ds,H|.ret,s,ds,H=>ds=[]/\∃vs,mC s H F.results=some vs/\R (.ret (mY vs)) H
 |.panic v,_,ds,H=>ds=[]/\R (.KC v) H
 |.exit _,_,_,_=>False
theorem aAr {P:Program} {g:bB} {G:Gh} {H:aA} {w:World} {s:List AV} {a:Act} {x:Nat} {t:TypeId} {agg:Bool} {n:Nat} (hag:fT P t=some agg) (lE:kD P t=some n)
 {v:AV} {H':aA} (hw:WR g G H w) (hs:SR G w s a) (h:cX (Arg.eval g0 s) H (.load agg n (.tmp x))=some (v,H')):
 ∃ad u,a.tmps.getD x undef=.pointer (some ad)/\(loadVar t ad).run P w=.ok u w/\VR G w v u:=by
 have vx:=hs.getD x
 have fin:∀(b o':Nat) (cs:List AV),a.tmps.getD x undef=.pointer (some ⟨b,o',none⟩)->n=cs.length->(∀c∈cs,c.one=true)->(agg=false->n=1)->
  (∀j,j<n->∃u,w.cell? ⟨b,o'+j,none⟩=some u/\VR G w (cs.getD j aD) u)->
  ∃ad u,a.tmps.getD x undef=.pointer (some ad)/\(loadVar t ad).run P w=.ok u w/\VR G w (if agg then .agg cs else cs.getD 0 aD) u:=by
  intro b o' cs he hl h1 hn hc;obtain⟨u,hr,hv⟩:=JN (P:=P) hag lE hl h1 hn hc;exact⟨_,u,he,hr,hv⟩
 simp only[cX,Arg.eval] at h;generalize eG:a.tmps.getD x undef=xv at vx fin;split at h
 · rename_i id off cZ;rw[cZ] at vx;split at h
   · rename_i cs CR;obtain⟨eI,hg⟩:=aA.oX CR;split at h
     · rename_i gG
       cases vx with
       |ref _ _ l hl=>
        have h4:=(hw.cells id l cs eI hl hg).2.2.2.1;have kF:=LJ hw hl hg gG;have hlen:n=((cs.drop off).take n).length:=(by simp;omega);have xX:∀c∈(cs.drop off).take n,c.one=true:=fun c hc=>h4 c (Du (By hc));split at h
        · rename_i rD;simp only[Ad,Ah] at h;obtain⟨rfl,rfl⟩:=h;have :=fin _ _ _ rfl hlen xX (fun hf=>by rw[rD] at hf;cases hf) kF
          rwa [if_pos rD] at this
        rename_i rD;split at h
        · rename_i hn;simp only[Ad,Ah] at h;obtain⟨rfl,rfl⟩:=h;have :=fin _ _ _ rfl hlen xX (fun _=>hn) kF
          rwa [if_neg rD,eV _ _ _ _ _ (by omega),Cy] at this
        cases h
     cases h
   cases h
 · rename_i cs cZ;rw[cZ] at vx;split at h
   · rename_i gG
     cases vx with
     |pl _ b o' us hh hv=>
      have kF:∀j,j<n->∃u,w.cell? ⟨b,o'+j,none⟩=some u/\VR G w ((cs.take n).getD j aD) u:=fun j hj=>by rw[getD_take _ _ _ _ hj];exact⟨us j,(hh j (by omega)).2.1,hv j (by omega)⟩
      have hlen:n=(cs.take n).length:=by simp;omega
      have xX:∀c∈cs.take n,c.one=true:=fun c hc=>by obtain⟨j,hj,rfl⟩:=Hd.1 (By hc);have :=(hh j hj).2.2;simpa [getD_eq,Ab hj] using this
      split at h
      · rename_i rD;simp only[Ad,Ah] at h;obtain⟨rfl,rfl⟩:=h;have :=fin _ _ _ rfl hlen xX (fun hf=>by rw[rD] at hf;cases hf) kF
        rwa [if_pos rD] at this
      rename_i rD;split at h
      · rename_i hn;simp only[Ad,Ah] at h;obtain⟨rfl,rfl⟩:=h;have :=fin _ _ _ rfl hlen xX (fun _=>hn) kF
        rwa [if_neg rD,getD_take _ _ _ _ (by omega)] at this
      cases h
   cases h
 cases h
def TT (tmps:Array Value):ResultVar->Sem Value
 |.tmp t=>pure (tmps.getD t undef)
 |.cell a t=>do loadVar t (←asAddr (tmps.getD a undef))
theorem JM {P:Program} {g:bB} {G:Gh} {H:aA} {w:World} {s:List AV} {a:Act} (hw:WR g G H w) (hs:SR G w s a):∀(l:List ResultVar) (rl:List GH) (vs:List AV),uU P l=some rl->mC s H rl=some vs->
 ∃us:List Value,(l.mapM (TT a.tmps)).run P w=Result.ok us w/\iF G w vs us
 |[],rl,vs,hr,h=>by obtain rfl:=Aa hr;obtain rfl:=Aa h;exact⟨[],by simp,iF.nil G w⟩
 |x::l,rl,vs,hr,h=>by
  unfold uU at hr;split at hr
  · rename_i y ys hy Mo;obtain rfl:=Aa hr;unfold mC at h;split at h
    · rename_i v vs' hv lH;obtain rfl:=Aa h;obtain⟨us,h1,h2⟩:=JM hw hs l ys vs' Mo lH
      cases x with
      |tmp t=>obtain rfl:=Aa hy;obtain rfl:=Aa hv;exact⟨a.tmps.getD t undef::us,by simp[h1,TT],iF.cons (hs.getD t) h2⟩
      |cell b t=>
       simp only[tj] at hy;split at hy
       · rename_i agg n hag lE;obtain rfl:=Aa hy;simp only[my] at hv;split at hv
         · rename_i v' H' mS;obtain rfl:=Aa hv;obtain⟨ad,u,e1,e2,e3⟩:=aAr hag lE hw hs mS;refine⟨u::us,?_,iF.cons e3 h2⟩;simp only[List.mapM_cons,TT,Sem.run_bind,e1,asAddr,Sem.run_pure,Result.andThen_ok,e2,h1]
         cases hv
       cases hy
    cases h
  cases hr
theorem MA {P:Program} {g:bB} {G:Gh} {H:aA} {w:World} {s:List AV} {a:Act} {fn:Func} {rl:List GH} {vs:List AV} (hw:WR g G H w) (hs:SR G w s a) (hr:uU P fn.results.toList=some rl) (h:mC s H rl=some vs):
 ∃u,(results fn a.tmps).run P w=.ok u w/\VR G w (mY vs) u:=by
 obtain⟨us,h1,h2⟩:=JM hw hs _ _ _ hr h
 have key:(results fn a.tmps).run P w=.ok (if h:us.toArray.size=1 then us.toArray[0] else .tuple us.toArray) w:=by
  have aFb:results fn a.tmps=(fn.results.mapM (TT a.tmps)>>= fun vs=>pure (if h:vs.size=1 then vs[0] else .tuple vs)):=by unfold results;congr 1
  rw[aFb];rw[Array.mapM_eq_mapM_toList];simp only[map_eq_pure_bind,Sem.run_bind];rw[h1];simp
 refine⟨_,key,?_⟩;have hl:=h2.1
 cases vs with
 |nil=>obtain rfl:us=[]:=Hy.1 hl;exact VR.oH G w
 |cons v vs=>
  cases us with
  |nil=>simp at hl
  |cons u us=>
   cases vs with
   |nil=>simp at hl;subst hl;have :=h2.2 0 (by simp);simpa [mY] using this
   |cons v2 vs=>
    cases us with
    |nil=>simp at hl
    |cons u2 us=>rw[dif_neg (by simp)];exact VR.jR _ _ h2.1 h2.2
def KN (P:Program) (g:bB) (f:FuncId) (args:List AV) (H:aA) (R:Out->aA->Prop):Prop:=
 MG P f/\∀(G:Gh) (w:World) (vs:List Value),WR g G H w->iF G w args vs->
  Calls P f vs.toArray w fun e w'=>∃out H' G',R out H'/\WR g G' H' w'/\Ext G H w G' H' w'/\XD G' w' out e
theorem GQ {P:Program} {g:bB} {mu:Bool} (hm:Fit P g) {f:FuncId} {F:BR} (hF:kP P g mu f F) {args:List AV} {H:aA} {R:Out->aA->Prop}
 (h:AC P g F.body (kO F args) [] H (aHh F R)):KN P g f args H R:=by
 refine⟨hF.ok,fun G w vs hw hv=>?_⟩;obtain⟨fn,c,h1,h2,_,h3,h4,h5⟩:=hF;refine calls_of_wp h1 h2 (wp_mono (wpIn_wide.1 (GF hm c none F.body h3 (.inl rfl) _ [] G H w _ _ h hw ?_ trivial)) fun e a w' hq=>?_)
 · have hlen:=hv.1;show iF G w _ _;simp only[kO,Array.toList_append,Array.toList_replicate,Gx,hlen,h4];refine hv.append ⟨by simp,fun j hj=>?_⟩;simp only[Jx] at hj;simp only[Bw,Gf,hj,if_true,Bi];exact VR.oH G w
 obtain⟨ae,s',fO,H1,G',q,lM,he,FE,rV,hx⟩:=hq
 have kh:fO=[]->a.defers=[]:=fun hh=>by
  subst hh
  cases xd:a.defers with
  |nil=>rfl
  |cons d r=>rw[xd] at rV;exact rV.elim
 have fin:∀e',(fO=[]/\∃vs,mC s' H1 F.results=some vs/\R (.ret (mY vs)) H1)->
  (e'=Exit.normal\/e'=Exit.ret)->bodyPost P fn (fun e w'=>∃out H' G',R out H'/\WR g G' H' w'/\Ext G H w G' H' w'/\XD G' w' out e) e' a w':=by
  rintro e' ⟨hds,vs',lH,hR⟩ xU;obtain⟨u,hu,MS⟩:=MA lM FE h5 lH
  rcases xU with rfl|rfl
  all_goals exact⟨kh hds,u,hu,_,_,G',hR,lM,he,MS⟩
 cases ae with
 |normal=>
  cases e with
  |normal=>exact fin _ q (.inl rfl)
  |_=>exact hx.elim
 |ret=>
  cases e with
  |ret=>exact fin _ q (.inr rfl)
  |_=>exact hx.elim
 |exit id=>exact q.elim
 |panic v=>
  cases e with
  |panic ch=>obtain⟨hds,hR⟩:=q;exact⟨kh hds,_,_,G',hR,lM,he,hx⟩
  |_=>exact hx.elim
theorem KN.exact {P:Program} {g:bB} {f:FuncId} {args:List AV} {H H':aA} {out:Out} (h:KN P g f args H fun o h=>o=out/\h=H'):Sound P g f args H out H':=
 ⟨h.1,fun G w vs hw hv=>(h.2 G w vs hw hv).mono fun e w' ⟨_,_,G',⟨e1,e2⟩,h1,h2,h3⟩=>⟨G',e2▸h1,e2▸h2,e1▸h3⟩⟩
theorem Sound.open {P:Program} {g:bB} {f:FuncId} {args:List AV} {H H':aA} {out:Out} (h:Sound P g f args H out H'):KN P g f args H fun o h=>o=out/\h=H':=
 ⟨h.1,fun G w vs hw hv=>(h.2 G w vs hw hv).mono fun e w' ⟨G',h1,h2,h3⟩=>⟨_,_,G',⟨rfl,rfl⟩,h1,h2,h3⟩⟩
theorem UP {P:Program} {g:bB} {mu:Bool} (hm:Fit P g) {f:FuncId} {F:BR} (hF:kP P g mu f F) {args:List AV} {H H':aA} {out:Out}
 (h:AC P g F.body (kO F args) [] H (aHh F fun o h=>o=out/\h=H')):Sound P g f args H out H':=(GQ hm hF h).exact
end Go.Av
