/-
  Part of the proof of statement 12
-/
import Derived.Test.YtgggiembljfnhaaGreatDoorB03
import Derived.Laws.Sem
set_option linter.unusedVariables false
set_option linter.unusedSimpArgs false
set_option linter.unusedSectionVars false
namespace Go.Av
open Go
def GL (P:Program) (g:bG) (r:bK) (s:List AV) (H:aA) (v:AV) (H':aA):Prop:=
 match r.op with
 |.call f azs=>∃p,mH (f.eval g s)=some p/\Sound P g p.1 (p.2.1++azs.map (Arg.eval g s)++p.2.2) H (.ret v) H'
 |.panic _|.lD _ _=>False
 |op=>dA (Arg.eval g s) H op=some (v,H')
def Tn (P:Program) (g:bG) (pairs:List (Nat×Nat)) (base:Nat):Nat->Nat->List bK->List (Nat×Nat)->List (Nat×aA×aA)->List AV->aA->(List AV->aA->Prop)->Prop
 |_,_,[],_,_,s,H,Q=>Q s H
 |i,k,r::rs,rd,ef,s,H,Q=>
  if bT s r then
   if r.op.fresh then
    ∃ob val,xB (Arg.eval g s) r.op=some (ob,val)/\(∀x∈ef,(i,x.1)∈pairs->x.2.1.get (base+k)=x.2.2.get (base+k))/\
     Tn P g pairs base (i+1) (k+1) rs ((i,base+k)::rd) ef (nA s r.dst (val (base+k))) (H.set (base+k) ob) Q
   else if r.op.pP then
    ∃v H',GL P g r s H v H'/\H.next<=H'.next/\(∀x∈rd,(x.1,i)∈pairs->H.get x.2=H'.get x.2)/\
     Tn P g pairs base (i+1) k rs rd ((i,H,H')::ef) (nA s r.dst v) H' Q
   else
    ∃v,GL P g r s H v H/\(∀id,r.op.dK (Arg.eval g s)=some id->∀x∈ef,(i,x.1)∈pairs->x.2.1.get id=x.2.2.get id)/\
     Tn P g pairs base (i+1) k rs (match r.op.dK (Arg.eval g s) with|some id=>(i,id)::rd|none=>rd) ef (nA s r.dst v) H Q
  else Tn P g pairs base (i+1) (if r.op.fresh then k+1 else k) rs rd ef (nA s r.dst aD) H Q
structure Ts (P:Program) (g:bG) (pairs:List (Nat×Nat)) (base i k:Nat) (rs:List bK) (rd:List (Nat×Nat)) (ef:List (Nat×aA×aA)) (s:List AV) (H:aA) (Q:List AV->aA->Prop)
 (Hs:Nat->aA) (ss:Nat->List AV) (vs:Nat->AV):Prop where
 h0:Hs 0=H
 s0:ss 0=s
 fin:Q (ss rs.length) (Hs rs.length)
 step:∀(j:Nat) (r:bK),rs[j]?=some r->DStep P g false (base+(k+gX rs j)) r (ss j) (Hs j) (vs j) (Hs (j+1))/\ss (j+1)=nA (ss j) r.dst (vs j)
 mono:∀(j:Nat) (r:bK),rs[j]?=some r->r.op.pP=true->(Hs j).next<=(Hs (j+1)).next
 CE:∀x∈rd,∀(e:Nat) (re:bK),rs[e]?=some re->re.op.pP=true->bT (ss e) re=true->(x.1,i+e)∈pairs->(Hs e).get x.2=(Hs (e+1)).get x.2
 new:∀x∈ef,∀(j:Nat) (r:bK),rs[j]?=some r->bT (ss j) r=true->(i+j,x.1)∈pairs->
  ∀id,(r.op.dK (Arg.eval g (ss j))=some id\/(r.op.fresh=true/\id=base+(k+gX rs j)))->x.2.1.get id=x.2.2.get id
 both:∀(j e:Nat) (rj re:bK),rs[j]?=some rj->rs[e]?=some re->re.op.pP=true->bT (ss j) rj=true->bT (ss e) re=true->(i+j,i+e)∈pairs->
  ∀id,(rj.op.dK (Arg.eval g (ss j))=some id\/(rj.op.fresh=true/\id=base+(k+gX rs j)))->(Hs e).get id=(Hs (e+1)).get id
theorem Pe (r:bK) (rs:List bK) (j:Nat):gX (r::rs) (j+1)=(if r.op.fresh then 1 else 0)+gX rs j:=by unfold gX;simp only[Dp,Gl];omega
def td {α:Type} (x:α) (f:Nat->α):Nat->α
 |0=>x
 |n+1=>f n
theorem Ts.cons {P:Program} {g:bG} {pairs:List (Nat×Nat)} {base i k:Nat} {r:bK} {rs:List bK} {rd rd':List (Nat×Nat)} {ef ef':List (Nat×aA×aA)} {s:List AV} {H H':aA} {Q:List AV->aA->Prop}
 {Hs:Nat->aA} {ss:Nat->List AV} {vs:Nat->AV} {v:AV}
 (R:Ts P g pairs base (i+1) (if r.op.fresh then k+1 else k) rs rd' ef' (nA s r.dst v) H' Q Hs ss vs)
 (gV:DStep P g false (base+k) r s H v H') (yM:r.op.pP=true->H.next<=H'.next)
 (hrd:∀x∈rd,x∈rd') (hef:∀x∈ef,x∈ef')
 (bGi:bT s r=true->∀id,(r.op.dK (Arg.eval g s)=some id\/(r.op.fresh=true/\id=base+k))->(i,id)∈rd')
 (bFc:bT s r=true->r.op.pP=true->(i,H,H')∈ef')
 (hold:∀x∈rd,r.op.pP=true->bT s r=true->(x.1,i)∈pairs->H.get x.2=H'.get x.2)
 (KL:∀x∈ef,bT s r=true->(i,x.1)∈pairs->∀id,(r.op.dK (Arg.eval g s)=some id\/(r.op.fresh=true/\id=base+k))->x.2.1.get id=x.2.2.get id):
 Ts P g pairs base i k (r::rs) rd ef s H Q (td H Hs) (td s ss) (td v vs):=by
 have hk:∀j,base+((if r.op.fresh then k+1 else k)+gX rs j)=base+(k+gX (r::rs) (j+1)):=fun j=>by rw[Pe];split<;>omega
 have hi:∀j,i+1+j=i+(j+1):=fun j=>by omega
 refine⟨rfl,rfl,R.fin,fun j q hq=>?_,fun j q hq he=>?_,fun x hx e re he JH hw hp=>?_,fun x hx j q hq hw hp id dC=>?_,fun j e rj re hj he JH hwj hwe hp id dC=>?_⟩
 . cases j with
   |zero=>simp at hq;subst hq;refine⟨?_,R.s0⟩;show DStep P g false (base+(k+gX (r::rs) 0)) r s H v (Hs 0);rw[R.h0];exact gV
   |succ j=>have :=R.step j q (by simpa using hq);rw[hk] at this;exact this
 . cases j with
   |zero=>simp at hq;subst hq;show H.next<=(Hs 0).next;rw[R.h0];exact yM he
   |succ j=>exact R.mono j q (by simpa using hq) he
 . cases e with
   |zero=>simp at he;subst he;show H.get x.2=(Hs 0).get x.2;rw[R.h0];exact hold x hx JH hw hp
   |succ e=>exact R.CE x (hrd x hx) e re (by simpa using he) JH hw (by rw[hi];exact hp)
 . cases j with
   |zero=>simp at hq;subst hq;exact KL x hx hw hp id dC
   |succ j=>refine R.new x (hef x hx) j q (by simpa using hq) hw (by rw[hi];exact hp) id ?_;rw[hk];exact dC
 cases j with
 |zero=>
  simp at hj;subst hj
  cases e with
  |zero=>
   simp at he;subst he
   rcases dC with h|h
   . rw[vJ (kZ h)] at JH;cases JH
   rw[nK h.1] at JH;cases JH
  |succ e=>exact R.CE (i,id) (bGi hwj id dC) e re (by simpa using he) JH hwe (by rw[hi];exact hp)
 |succ j=>
  have EZ:rj.op.dK (Arg.eval g (ss j))=some id\/(rj.op.fresh=true/\id=base+((if r.op.fresh then k+1 else k)+gX rs j)):=by rw[hk];exact dC
  cases e with
  |zero=>simp at he;subst he;show H.get id=(Hs 0).get id;rw[R.h0];exact R.new (i,H,H') (bFc hwe JH) j rj ZaC hwj (by rw[hi];exact hp) id EZ
  |succ e=>exact R.both j e rj re ZaC (by simpa using he) JH hwj hwe (by rw[hi,hi];exact hp) id EZ
theorem GL.aIx {P:Program} {g:bG} {r:bK} {s:List AV} {H H':aA} {v:AV} {id:Nat} (h:GL P g r s H v H') (hw:bT s r=true) (hf:r.op.fresh=false):DStep P g false id r s H v H':=by unfold DStep;rw[if_pos hw,if_neg (by simp[hf])];exact h
theorem GC {P:Program} {g:bG} {pairs:List (Nat×Nat)} {base:Nat} {Q:List AV->aA->Prop}:∀(rs:List bK) (i k:Nat) (rd:List (Nat×Nat)) (ef:List (Nat×aA×aA)) (s:List AV) (H:aA),
 Tn P g pairs base i k rs rd ef s H Q->∃Hs ss vs,Ts P g pairs base i k rs rd ef s H Q Hs ss vs
 |[],i,k,rd,ef,s,H,h=>⟨fun _=>H,fun _=>s,fun _=>aD,rfl,rfl,h,fun j r hj=>by simp at hj,fun j r hj=>by simp at hj,fun x hx e re he=>by simp at he,fun x hx e re he=>by simp at he,fun j e rj re hj=>by simp at hj⟩
 |r::rs,i,k,rd,ef,s,H,h=>by
  unfold Tn at h;by_cases hw:bT s r=true
  . rw[if_pos hw] at h;by_cases hf:r.op.fresh=true
    . rw[if_pos hf] at h;obtain⟨ob,val,h1,h2,h3⟩:=h;obtain⟨Hs,ss,vs,R⟩:=GC rs _ _ _ _ _ _ h3;have hk:(if r.op.fresh then k+1 else k)=k+1:=(by rw[if_pos hf]);refine⟨_,_,_,Ts.cons (v:=val (base+k)) (by rw[hk];exact R) ?_ (fun he=>by rw[nK hf] at he;cases he) (fun x hx=>Au _ hx) (fun x hx=>hx) (fun _ id dC=>?_) (fun _ he=>by rw[nK hf] at he;cases he) (fun x _ he=>by rw[nK hf] at he;cases he) (fun x hx _ hp id dC=>?_)⟩
      . unfold DStep;rw[if_pos hw,if_pos hf];exact⟨ob,val,h1,rfl,rfl⟩
      . rcases dC with dC|dC
        . have :=kZ dC;rw[yQ this] at hf;cases hf
        rw[dC.2];exact Ar
      rcases dC with dC|dC
      . have :=kZ dC;rw[yQ this] at hf;cases hf
      rw[dC.2];exact h2 x hx hp
    rw[if_neg hf] at h;have hf':r.op.fresh=false:=(by simpa using hf);have hk:(if r.op.fresh then k+1 else k)=k:=(by rw[if_neg hf]);by_cases he:r.op.pP=true
    . rw[if_pos he] at h;obtain⟨v,H',h1,h2,h3,h4⟩:=h;obtain⟨Hs,ss,vs,R⟩:=GC rs _ _ _ _ _ _ h4;refine⟨_,_,_,Ts.cons (v:=v) (by rw[hk];exact R) (h1.aIx hw hf') (fun _=>h2) (fun x hx=>hx) (fun x hx=>Au _ hx) (fun _ id dC=>?_) (fun _ _=>Ar) (fun x hx _ _ hp=>h3 x hx hp) (fun x hx _ hp id dC=>?_)⟩
      all_goals
       rcases dC with dC|dC
       . rw[vJ (kZ dC)] at he;cases he
       exact absurd dC.1 hf
    rw[if_neg he] at h;obtain⟨v,h1,h2,h3⟩:=h;obtain⟨Hs,ss,vs,R⟩:=GC rs _ _ _ _ _ _ h3;refine⟨_,_,_,Ts.cons (v:=v) (by rw[hk];exact R) (h1.aIx hw hf') (fun xN=>absurd xN he) (fun x hx=>?_) (fun x hx=>hx) (fun _ id dC=>?_) (fun _ xN=>absurd xN he) (fun x _ xN=>absurd xN he) (fun x hx _ hp id dC=>?_)⟩
    . split
      . exact Au _ hx
      exact hx
    . rcases dC with dC|dC
      . rw[dC];exact Ar
      exact absurd dC.1 hf
    rcases dC with dC|dC
    . exact h2 id dC x hx hp
    exact absurd dC.1 hf
  rw[if_neg hw] at h;obtain⟨Hs,ss,vs,R⟩:=GC rs _ _ _ _ _ _ h;refine⟨_,_,_,Ts.cons (v:=aD) R ?_ (fun _=>Ab _) (fun x hx=>hx) (fun x hx=>hx) (fun lM=>absurd lM hw) (fun lM=>absurd lM hw) (fun x _ _ lM=>absurd lM hw) (fun x _ lM=>absurd lM hw)⟩;unfold DStep;rw[if_neg hw];exact ZaR
def mR (H:aA):Nat->Bool
 |0=>true
 |n+1=>mR H n&&(H.get (H.next+n)).isNone
theorem Ng {H:aA}:∀{n:Nat},mR H n=true->∀k,k<n->H.get (H.next+k)=none
 |0,_,k,hk=>absurd hk (Ap k)
 |n+1,h,k,hk=>by
  simp only[mR,Al,Option.isNone_iff_eq_none] at h;by_cases xc:k=n
  . rw[xc];exact h.2
  exact Ng h.1 k (by omega)
def Yz (P:Program) (g:bG) (rl:List bK) (pairs:List (Nat×Nat)) (s:List AV) (H:aA) (Q:List AV->aA->Prop):Prop:=
 mR H (rl.countP (·.op.fresh))=true/\Tn P g pairs H.next 0 0 rl [] [] s {H with next:=H.next+rl.countP (·.op.fresh)} Q
theorem Yz.run {P:Program} {g:bG} {rl:List bK} {pairs:List (Nat×Nat)} {s:List AV} {H:aA} {Q:List AV->aA->Prop} (h:Yz P g rl pairs s H Q)
 (hp:∀i e,(i,e)∈pairs->∀re,rl[e]?=some re->re.op.pP=true):
 ∃Hs ss vs,dU P g rl none pairs s H Hs ss vs/\Q (ss rl.length) (Hs rl.length):=by
 obtain⟨Hs,ss,vs,R⟩:=GC _ _ _ _ _ _ _ h.2;refine⟨Hs,ss,vs,⟨R.s0,R.h0,Ng h.1,fun i r hi=>?_,R.mono,fun i e hie ri re hi he hwi hwe id dC=>?_⟩,R.fin⟩
 . have :=R.step i r hi;rw[Cq] at this;exact this
 refine R.both i e ri re hi he (hp i e hie re he) hwi hwe (by simpa using hie) id ?_;rw[Cq];exact dC
def Ml (P:Program) (g:bG) (rl:List bK) (pairs:List (Nat×Nat)) (s:List AV) (H:aA) (E:AV->List AV->aA->Prop):Prop:=
 ∃j Hs ss vs,(j,rl.length)∈pairs/\dU P g rl (some j) pairs s H Hs ss vs/\
 ∃r f azs p x H1,rl[j]?=some r/\r.op=.call f azs/\bT (ss j) r=true/\mH (f.eval g (ss j))=some p/\
  Sound P g p.1 (p.2.1++azs.map (Arg.eval g (ss j))++p.2.2) (Hs j) (.JL x) H1/\E x (ss j) H1
theorem Ml.mono {P:Program} {g:bG} {rl:List bK} {pairs:List (Nat×Nat)} {s:List AV} {H:aA} {E E':AV->List AV->aA->Prop} (h:Ml P g rl pairs s H E) (he:∀x s H,E x s H->E' x s H):Ml P g rl pairs s H E':=
 let⟨j,Hs,ss,vs,h1,h2,r,f,azs,p,x,H1,e1,e2,e3,e4,e5,e6⟩:=h
 ⟨j,Hs,ss,vs,h1,h2,r,f,azs,p,x,H1,e1,e2,e3,e4,e5,he _ _ _ e6⟩
def zC (n:Nat) (gY:List Nat) (i j:Nat):Bool:=decide (i<j)&&decide (j<n)&&(gY.getD j 0).testBit i
def SC (ri rj:bK):Bool:=
 (!ri.op.pP|| !rj.op.pP)&&
 (match ri.dst with|some d=> !(BH rj).contains d&&rj.dst != some d|none=>true)&&
 (match rj.dst with|some d=> !(BH ri).contains d|none=>true)
def zb (r:bK):Bool:= !r.op.reads||r.op.args.all fun |.const v=>(AK v).isNone|_=>true
def SJ (ops:Array Oper) (rl:List bK) (gY:List Nat):Bool:=
 (List.range rl.length).all fun j=>
   match ops[j]?,rl[j]? with
   |some o,some rj=>
    o.after.toList.all (fun e=> !Region.binds .any e||decide (e.on<j))&&zb rj&&
    (List.range j).all fun i=>
      if zC rl.length gY i j then o.after.toList.any fun e=>Region.binds .any e&&(e.on==i||zC rl.length gY i e.on)
      else match rl[i]? with
       |some ri=>SC ri rj
       |none=>false
   |_,_=>false
def RP (rl:List bK) (gY:List Nat) (a b:Nat):Bool:=
 match rl[a]?,rl[b]? with
 |some ra,some rb=>rb.op.pP&&
  ((decide (a<b)&& !zC rl.length gY a b&&(ra.op.reads||ra.op.fresh))||(decide (b<a)&&(ra.op.fresh||(!zC rl.length gY b a&&ra.op.reads))))
 |_,_=>false
def ze (rl:List bK) (gY:List Nat) (j:Nat):Bool:=
 match rl[j]? with
 |some r=>match r.op with
  |.call _ _=>(List.range rl.length).all fun k=>k==j||zC rl.length gY k j||zC rl.length gY j k
  |_=>false
 |none=>false
def sP (rl:List bK) (gY:List Nat):List (Nat×Nat):=
 (((List.range rl.length).flatMap fun a=>(List.range rl.length).map fun b=>(a,b)).filter fun p=>RP rl gY p.1 p.2)++
 ((List.range rl.length).filter (ze rl gY)).map fun j=>(j,rl.length)
theorem rE {rl:List bK} {gY:List Nat} {a b:Nat}:(a,b)∈sP rl gY↔(a<rl.length/\b<rl.length/\RP rl gY a b=true)\/(b=rl.length/\ze rl gY a=true/\a<rl.length):=by
 unfold sP;simp only[Ao,Fh,Fp,Ay,Bf,Ak];constructor
 . rintro(⟨⟨x,hx,y,hy,rfl,rfl⟩,h⟩|⟨x,⟨h1,h2⟩,rfl,rfl⟩)
   . exact .inl ⟨hx,hy,h⟩
   exact .inr ⟨rfl,h2,h1⟩
 rintro(⟨h1,h2,h3⟩|⟨rfl,h2,h3⟩)
 . exact .inl ⟨⟨a,h1,b,h2,rfl,rfl⟩,h3⟩
 exact .inr ⟨a,⟨h3,h2⟩,rfl,rfl⟩
theorem YH {rl:List bK} {gY:List Nat} {j:Nat} (h:(j,rl.length)∈sP rl gY):∀k,k<rl.length->(k<j->zC rl.length gY k j=true)/\(j<k->zC rl.length gY j k=true):=by
 rcases rE.1 h with ⟨_,h,_⟩|⟨_,h,_⟩
 . exact absurd h (Ez _)
 intro k hk;unfold ze at h
 have h:(List.range rl.length).all (fun k=>k==j||zC rl.length gY k j||zC rl.length gY j k)=true:=by
  split at h
  . split at h
    . exact h
    cases h
  cases h
 have :=Aw.1 h k (Ay.2 hk);simp only[Dm,Cf] at this
 have ho:∀{a b:Nat},zC rl.length gY a b=true->a<b:=fun {a b} h=>by unfold zC at h;simp only[Al,Bd] at h;exact h.1.1
 constructor
 . intro hkj
   rcases this with (rfl|h)|h
   . omega
   . exact h
   have :=ho h;omega
 intro hkj
 rcases this with (rfl|h)|h
 . omega
 . have :=ho h;omega
 exact h
theorem QZ {ops:Array Oper} {rl:List bK} {gY:List Nat} (hn:rl.length=ops.size) (h:SJ ops rl gY=true):tC ops rl (sP rl gY) (zC rl.length gY):=by
 unfold SJ at h;rw[Aw] at h
 have hj:∀(j:Nat) (o:Oper) (rj:bK),ops[j]?=some o->rl[j]?=some rj->
  (o.after.toList.all (fun e=> !Region.binds .any e||decide (e.on<j))&&zb rj&&
  (List.range j).all fun i=>
    if zC rl.length gY i j then o.after.toList.any fun e=>Region.binds .any e&&(e.on==i||zC rl.length gY i e.on)
    else match rl[i]? with
     |some ri=>SC ri rj
     |none=>false)=true:=fun j o rj ho hr=>by
  have :=h j (Ay.2 (Bk.1 hr).1);rw[ho,hr] at this;exact this
 have BW:∀(j:Nat),j<rl.length->∃o rj,ops[j]?=some o/\rl[j]?=some rj:=fun j hj=>⟨ops[j]'(by omega),rl[j],by simp[show j<ops.size by omega],by simp[hj]⟩
 have bEy:∀i j ri rj,i<j->rl[i]?=some ri->rl[j]?=some rj->zC rl.length gY i j=false->SC ri rj=true:=fun i j ri rj yL hi pg ha=>by obtain⟨o,rj',ho,hr'⟩:=BW j (Bk.1 pg).1;have :=hj j o rj ho pg;simp only[Al] at this;have :=Aw.1 this.2 i (Ay.2 yL);rw[ha,hi] at this;exact this
 refine⟨fun j o ho e he hb=>?_,fun i j ha=>?_,fun i j ri rj yL hi pg ha=>?_,fun i j ri rj yL hi pg he hf=>?_,fun j r hr hrd v hv=>?_⟩
 . obtain⟨o',rj,jz,hr⟩:=BW j (by rw[hn];exact(Cg.1 ho).1);have :=hj j o rj ho hr;simp only[Al] at this;have :=Aw.1 this.1.1 e (by simpa using he);rw[hb] at this;simpa using this
 . have ha':=ha;unfold zC at ha;simp only[Al,Bd] at ha;obtain⟨o,rj,ho,hr⟩:=BW j ha.1.2;have :=hj j o rj ho hr;simp only[Al] at this;have :=Aw.1 this.2 i (Ay.2 ha.1.1);rw[if_pos ha'] at this;obtain⟨e,he,hc⟩:=Bz.1 this;simp only[Al,Dm,Cf] at hc;exact⟨o,ho,e,by simpa using he,hc.1,hc.2⟩
 . have hap:=bEy i j ri rj yL hi pg ha;have pq:=(Bk.1 hi).1;have hlj:=(Bk.1 pg).1;unfold SC at hap;simp only[Al] at hap;obtain⟨⟨h1,h2⟩,h3⟩:=hap;refine⟨fun he=>?_,fun d hd=>?_,fun d hd=>?_,fun he hr=>?_,fun he hr=>?_⟩
   . rw[he] at h1;simpa using h1
   . rw[hd] at h2;simp only[Al,Cn,Dd] at h2;exact⟨fun hm=>by have :=h2.1;simp[hm] at this,h2.2⟩
   . rw[hd] at h3;simp only[Cn] at h3;exact fun hm=>by simp[hm] at h3
   . refine rE.2 (.inl ⟨pq,hlj,?_⟩);unfold RP;rw[hi,pg];simp only[he,yL,ha,Gm,Gb,Cp,Co,Dm];exact .inl hr
   refine rE.2 (.inl ⟨hlj,pq,?_⟩);unfold RP;rw[hi,pg];simp[he,yL,ha,hr]
 . have pq:=(Bk.1 hi).1;have hlj:=(Bk.1 pg).1;refine rE.2 (.inl ⟨hlj,pq,?_⟩);unfold RP;rw[hi,pg];simp[he,yL,hf]
 obtain⟨o,rj',ho,_⟩:=BW j (Bk.1 hr).1;have :=hj j o r ho hr;simp only[Al] at this;have :=this.1.2;unfold zb at this;rw[hrd] at this;simp only[Gw,Km] at this;have :=Aw.1 this _ hv;simpa using this
theorem kv {rl:List bK} {gY:List Nat}:∀i e,(i,e)∈sP rl gY->∀re,rl[e]?=some re->re.op.pP=true:=fun i e h re Zr=>by
 rcases rE.1 h with ⟨_,_,this⟩|⟨rfl,_⟩
 rotate_left
 . rw[Bv (Ab _)] at Zr;cases Zr
 unfold RP at this;rw[Zr] at this
 cases hi:rl[i]? with
 |none=>rw[hi] at this;cases this
 |some ri=>rw[hi] at this;simp only[Al] at this;exact this.1
def cF.nd:cF->Bool
 |.ops rl=>rl.all fun r=>match r.op with|.lD _ _=>false|_=>true
 |.seq a b|.cond _ a b=>a.nd&&b.nd
 |.block _ a|.loop a=>a.nd
 |.oG _ _ _ _=>false
 |_=>true
def eV (P:Program) (g:bG) (mu:Bool):Code->Option cF
 |.skip=>some .skip
 |.label _=>some .skip
 |.region _ ops false=>(lT P g mu ops ops.toList).map .ops
 |.region _ ops true=>match lT P g mu ops ops.toList with
  |some rl=>if SJ ops rl (Region.before ops).toList then some (.draw rl (sP rl (Region.before ops).toList)) else none
  |none=>none
 |.seq a b=>match eV P g mu a,eV P g mu b with
  |some x,some y=>some (.seq x y)
  |_,_=>none
 |.cond c a b=>match bN g c,eV P g mu a,eV P g mu b with
  |some z,some x,some y=>some (.cond z x y)
  |_,_,_=>none
 |.block id a=>(eV P g mu a).map (.block id)
 |.loop a=>(eV P g mu a).map .loop
 |.scope a=>eV P g mu a
 |.exit id=>some (.exit id)
 |.ret=>some .ret
 |.rangeFunc c ps x y=>match bN g c,eV P g mu x,eV P g mu y with
  |some c',some x',some y'=>if x'.nd&&y'.nd then some (.oG c' ps.toList x' y') else none
  |_,_,_=>none
 |_=>none
def aKy (next:List AV->List gN->aA->Prop) (Q:AQ):AQ
 |.normal,s,ds,H=>next s ds H
 |e,s,ds,H=>Q e s ds H
def pL (id:Nat) (Q:AQ):AQ
 |.exit i,s,ds,H=>if i=id then Q .normal s ds H else Q (.exit i) s ds H
 |e,s,ds,H=>Q e s ds H
def qI (s:List AV):List (Nat×AV)->List AV
 |[]=>s
 |(t,v)::r=>qI (s.set t v) r
def aBd (id:Nat) (out:Out) (H3:aA):AQ
 |.normal,_,ds,H=>ds=[]/\out=.ret (.bool true)/\∃k sn,H.get id=some (.loop k sn .busy)/\H3=H.set id (.loop k sn .ready)
 |.ret,_,ds,H=>ds=[]/\out=.ret (.bool false)/\∃k sn,H.get id=some (.loop k sn .busy)/\H3=H.set id (.loop k sn (.done .ret))
 |.exit i,_,ds,H=>ds=[]/\out=.ret (.bool false)/\∃k sn,H.get id=some (.loop k sn .busy)/\H3=H.set id (.loop k sn (.done (.exit i)))
 |.panic _,_,_,_=>False
def aGc (st:LSt) (sn:List AV) (ds:List gN) (H:aA) (Q:AQ):Prop:=
 match st with
 |.ready=>Q .normal sn ds H
 |.done .ret=>Q .ret sn ds H
 |.done (.exit i)=>Q (.exit i) sn ds H
 |_=>False
def wL (He:aA) (id:Nat) (Hf:aA):Prop:=Hf.next=He.next/\∀m,Hf.get m=if m=id then some .dead else He.get m
def AC (P:Program) (g:bG):cF->List AV->List gN->aA->AQ->Prop
 |.skip,s,ds,H,Q=>Q .normal s ds H
 |.ops rl,s,ds,H,Q=>uF P g rl s ds H Q
 |.draw rl pairs,s,ds,H,Q=>(Yz P g rl pairs s H fun s' H'=>Q .normal s' ds H')\/Ml P g rl pairs s H fun x s' H'=>Q (.panic x) s' ds H'
 |.seq a b,s,ds,H,Q=>AC P g a s ds H (aKy (fun s ds H=>AC P g b s ds H Q) Q)
 |.cond c a b,s,ds,H,Q=>∃t,c.eval g s=.bool t/\if t then AC P g a s ds H Q else AC P g b s ds H Q
 |.block id a,s,ds,H,Q=>AC P g a s ds H (pL id Q)
 |.loop a,s,ds,H,Q=>∃(I:Nat->List AV->List gN->aA->Prop) (n:Nat),I n s ds H/\
   ∀n s ds H,I n s ds H->AC P g a s ds H (aKy (fun s ds H=>∃m,m<n/\I m s ds H) Q)
 |.exit id,s,ds,H,Q=>Q (.exit id) s ds H
 |.ret,s,ds,H,Q=>Q .ret s ds H
 |.oG c ps PM body,s,ds,H,Q=>∃fid fs cs v He k' s' st Hf,c.eval g s=.func (.func fid) fs cs/\
   Sound P g fid (fs++[.yield (H.next+1)]++cs) ((H.alloc .SH).alloc (.loop ⟨ps,PM,body⟩ s .ready)) (.ret v) He/\He.get (H.next+1)=some (.loop k' s' st)/\wL He (H.next+1) Hf/\
   aGc st s (.mark H.next::ds) Hf Q
def Rp (P:Program) (g:bG) (k:Mq) (s:List AV) (id:Nat) (args:List AV) (H2:aA) (out:Out) (H3:aA):Prop:=
 AC P g k.PM (qI s (k.ps.zip args)) [] H2 fun e s1 rL H1=>match e with
  |.normal=>rL=[]/\∃k1 sn1,H1.get id=some (.loop k1 sn1 .ready)/\AC P g k.body s1 [] (H1.set id (.loop k1 sn1 .busy)) (aBd id out H3)
  |_=>False
structure Fit (P:Program) (g:bG):Prop where
 mixed:P.follows .mixedOrders=true
 lok:∀k r,g.lok k r↔(r.params.toList=k.ps/\∃mu,eV P g mu r.assign=some k.PM/\eV P g mu r.body=some k.body/\k.PM.nd=true/\k.body.nd=true)
noncomputable def Sx (p:Nat->Prop) (h:∃n,p n):Nat:=
 Classical.choose (show ∃n,p n/\∀m,p m->n<=m from by
  obtain⟨n,hn⟩:=h
  induction n using Nat.strongRecOn with
  |_ n ih=>
   by_cases hc:∃m,m<n/\p m
   . obtain⟨m,hm,hp⟩:=hc;exact ih m hm hp
   exact⟨n,hn,fun m hm=>Ih fun fJ=>hc ⟨m,fJ,hm⟩⟩)
theorem LV (p:Nat->Prop) (h:∃n,p n):p (Sx p h)/\∀m,p m->Sx p h<=m:=Ig (Sx._proof_1 p h)
theorem WG {F:Fence} {n:Nat} {P:Program} {c:Code} {Q:Exit->Act->World->Prop} {a:Act} {w:World} (h:c.wpIn F n P Q a w) (hg:∀l a w,¬Q (.goto l) a w):(Code.scope c).wpIn F n P Q a w:=by
 intro b k cs BW hb hr;obtain⟨e,a',w',hq,jq⟩:=h b (.inScope c::k) cs BW hb hr;have h1:step P (lone (b.atR a (.code (.scope c)::k)) cs w)=.next (lone (b.atR a (.code c::.inScope c::k)) cs w):=step_lone_go (by simp[stepG,stepG.exec,Frame.atR]);have h2:∀a w,step P (lone (b.atR a (.inScope c::k)) cs w)=.next (lone (b.atR a k) cs w):=fun a w=>step_lone_go (by simp[stepG,stepG.exec,Frame.atR]);refine⟨e,a',w',hq,.of_steps (.one (fenced_calm hb hr rfl) h1) ?_⟩
 cases e with
 |normal=>exact StepsIn.trans jq (.one (fenced_calm hb hr rfl) (h2 a' w'))
 |exit id=>exact⟨fun k' hk=>jq.1 k' (by simpa [exitTo] using hk),fun hr hk=>jq.2 hr (by simpa [exitTo] using hk)⟩
 |goto l=>exact(hg l a' w' hq).elim
 |ret=>exact jq
 |panic ch=>exact jq
 |outgrown=>exact jq
theorem WE {F:Fence} {n0:Nat} {P:Program} {Q:Exit->Act->World->Prop} {c:Code} (I:Nat->Act->World->Prop) {n:Nat} {a:Act} {w:World} (h0:I n a w)
 (round:∀n a w,I n a w->c.wpIn F n0 P (Exit.then (fun a' w'=>∃m,m<n/\I m a' w') Q) a w):(Code.loop c).wpIn F n0 P Q a w:=by
 classical
 refine wpIn_loop (fun a' w'=>∃m,I m a' w') (fun a' w'=>if h:∃m,I m a' w' then Sx (fun m=>I m a' w') h else 0) ⟨n,h0⟩ fun a' w' hI=>?_;have hsp:=LV (fun m=>I m a' w') hI;refine wpIn_mono (round _ a' w' hsp.1) fun e a1 w1 hq=>?_
 cases e with
 |normal=>obtain⟨m,hm,h1⟩:=hq;have hI1:∃m,I m a1 w1:=⟨m,h1⟩;refine⟨hI1,?_⟩;rw[dif_pos hI1,dif_pos hI];exact Ja ((LV (fun m=>I m a1 w1) hI1).2 m h1) hm
 |_=>exact hq
theorem QR.aGg {g:bG} {G:Gh} {H:aA} {w:World} {Q:AQ} {l:Nat} {a:Act} {w':World}:¬QR g G H w Q (.goto l) a w':=by rintro⟨ae,s',fQ,H',G',_,_,_,_,_,hx⟩;cases ae<;>exact hx.elim
theorem GB {P:Program} {g:bG} {mu:Bool} (hm:Fit P g):∀(c:Code) (ro:Option Nat) (ac:cF),eV P g mu c=some ac->(ro=none\/ac.nd=true)->∀(s:List AV) (ds:List gN) (G:Gh) (H:aA) (w:World) (a:Act) (Q:AQ),
 AC P g ac s ds H Q->WR g G H w->SR G w s a->Rt G w ds a.defers->c.wpIn (Fw ro) 0 P (QR g G H w Q) a w:=by
 intro c
 induction c with
 |skip=>intro ro ac hc BW s ds G H w a Q h hw hs hd;simp only[eV,Ae] at hc;subst hc;exact wpIn_skip ⟨.normal,s,ds,H,G,h,hw,Ext.refl G H w,hs,hd,trivial⟩
 |label l=>intro ro ac hc BW s ds G H w a Q h hw hs hd;simp only[eV,Ae] at hc;subst hc;exact wpIn_label ⟨.normal,s,ds,H,G,h,hw,Ext.refl G H w,hs,hd,trivial⟩
 |region id ops draw=>
  intro ro ac hc BW s ds G H w a Q h hw hs hd
  cases draw with
  |false=>
   simp only[eV,Ah] at hc;obtain⟨rl,CV,rfl⟩:=hc;refine wpIn_region ?_
   have :=Mm (ro:=ro) ops.toList rl 0 CV (fun j hj=>by simp) (BW.imp (fun h=>h) fun h r hr f azs e=>by
    have :=Aw.1 h r hr
    rw[e] at this;cases this) s ds G H w a Q h hw hs hd
   rw[Dc] at this
   rwa [List.range_eq_range']
  |true=>
   simp only[eV] at hc;split at hc
   . rename_i rl CV;split at hc
     . rename_i qP;obtain rfl:=Aa hc;have hn:rl.length=ops.size:=by simpa using(xK _ _ CV).1
       rcases h with h|⟨j,Hs,ss,vs,h1,D,h2⟩
       . obtain⟨Hs,ss,vs,D,hQ⟩:=Yz.run h kv;exact NW hm.mixed CV D (QZ hn qP) hw hs hd (fun _=>hQ) (fun j h=>by cases h)
       exact NW hm.mixed CV D (QZ hn qP) hw hs hd (fun h=>by cases h) (fun k hk=>by cases hk;exact⟨YH h1,h2⟩)
     cases hc
   cases hc
 |seq x y ihx ihy=>
  intro ro ac hc BW s ds G H w a Q h hw hs hd;simp only[eV] at hc;split at hc
  . rename_i ax ay vf hay;obtain rfl:=Aa hc;refine wpIn_seq (wpIn_mono (ihx ro ax vf (BW.imp (fun h=>h) fun h=>(Al _ _▸h).1) s ds G H w a _ h hw hs hd) fun e a' w' hq=>?_);obtain⟨ae,s',fQ,H',G',q,lM,he,BX,rM,hx⟩:=hq
    cases e with
    |normal=>
     cases ae with
     |normal=>exact wpIn_mono (ihy ro ay hay (BW.imp (fun h=>h) fun h=>(Al _ _▸h).2) s' fQ G' H' w' a' Q q lM BX rM) fun _ _ _ hq=>QR.trans he hq
     |_=>exact hx.elim
    |_=>
     cases ae with
     |normal=>exact hx.elim
     |_=>exact⟨_,s',fQ,H',G',q,lM,he,BX,rM,hx⟩
  cases hc
 |cond c x y ihx ihy=>
  intro ro ac hc BW s ds G H w a Q h hw hs hd;simp only[eV] at hc;split at hc
  . rename_i az ax ay haz vf hay;obtain rfl:=Aa hc;obtain⟨t,ht,h⟩:=h;have hv:=bM hw hs haz;rw[ht] at hv;refine wpIn_cond hv.jY ?_
    cases t with
    |true=>exact ihx ro ax vf (BW.imp (fun h=>h) fun h=>(Al _ _▸h).1) s ds G H w a Q h hw hs hd
    |false=>exact ihy ro ay hay (BW.imp (fun h=>h) fun h=>(Al _ _▸h).2) s ds G H w a Q h hw hs hd
  cases hc
 |block id x ih=>
  intro ro ac hc BW s ds G H w a Q h hw hs hd;simp only[eV,Ah] at hc;obtain⟨ax,vf,rfl⟩:=hc;refine wpIn_block (wpIn_mono (ih ro ax vf BW s ds G H w a _ h hw hs hd) fun e a' w' hq=>?_);obtain⟨ae,s',fQ,H',G',q,lM,he,BX,rM,hx⟩:=hq
  cases ae with
  |exit i=>
   cases e with
   |exit i'=>
    obtain rfl:i=i':=hx;simp only[pL] at q;simp only[Exit.inBlock];split
    . rename_i hi;rw[if_pos hi] at q;exact⟨.normal,s',fQ,H',G',q,lM,he,BX,rM,trivial⟩
    rename_i hi;rw[if_neg hi] at q;exact⟨.exit i,s',fQ,H',G',q,lM,he,BX,rM,rfl⟩
   |_=>exact hx.elim
  |normal=>
   cases e with
   |normal=>exact⟨.normal,s',fQ,H',G',q,lM,he,BX,rM,trivial⟩
   |_=>exact hx.elim
  |ret=>
   cases e with
   |ret=>exact⟨.ret,s',fQ,H',G',q,lM,he,BX,rM,trivial⟩
   |_=>exact hx.elim
  |panic v=>
   cases e with
   |panic ch=>exact⟨.panic v,s',fQ,H',G',q,lM,he,BX,rM,hx⟩
   |_=>exact hx.elim
 |loop x ih=>
  intro ro ac hc BW s ds G H w a Q h hw hs hd;simp only[eV,Ah] at hc;obtain⟨ax,vf,rfl⟩:=hc;obtain⟨I,n,h0,hI⟩:=h;refine WE (fun n a' w'=>∃s' fQ H' G',I n s' fQ H'/\WR g G' H' w'/\Ext G H w G' H' w'/\SR G' w' s' a'/\Rt G' w' fQ a'.defers) ⟨s,ds,H,G,h0,hw,Ext.refl G H w,hs,hd⟩ fun n a1 w1 hi=>?_;obtain⟨s1,rL,H1,G1,hi,RB,Tf,hs1,MK⟩:=hi;refine wpIn_mono (ih ro ax vf BW s1 rL G1 H1 w1 a1 _ (hI n s1 rL H1 hi) RB hs1 MK) fun e a' w' hq=>?_;obtain⟨ae,s',fQ,H',G',q,lM,he,BX,rM,hx⟩:=hq
  cases e with
  |normal=>
   cases ae with
   |normal=>obtain⟨m,hm,gQ⟩:=q;exact⟨m,hm,s',fQ,H',G',gQ,lM,Tf.trans he,BX,rM⟩
   |_=>exact hx.elim
  |_=>
   cases ae with
   |normal=>exact hx.elim
   |_=>exact⟨_,s',fQ,H',G',q,lM,Tf.trans he,BX,rM,hx⟩
 |scope x ih=>intro ro ac hc BW s ds G H w a Q h hw hs hd;exact WG (ih ro ac hc BW s ds G H w a Q h hw hs hd) fun l a w=>QR.aGg
 |exit id=>intro ro ac hc BW s ds G H w a Q h hw hs hd;simp only[eV,Ae] at hc;subst hc;exact wpIn_exit ⟨.exit id,s,ds,H,G,h,hw,Ext.refl G H w,hs,hd,rfl⟩
 |ret=>intro ro ac hc BW s ds G H w a Q h hw hs hd;simp only[eV,Ae] at hc;subst hc;exact wpIn_ret ⟨.ret,s,ds,H,G,h,hw,Ext.refl G H w,hs,hd,trivial⟩
 |rangeFunc c ps x y ihx ihy=>
  intro ro ac hc BW s ds G H w a Q h hw hs hd;simp only[eV] at hc;split at hc
  . rename_i c' ax ay hc' vf hay;split at hc
    . rename_i Pm;obtain rfl:=Aa hc;rw[Al] at Pm
      obtain rfl:ro=none:=BW.resolve_right fun h=>by cases h
      obtain⟨fid,fs,cs,v,He,k',s',st,Hf,hcv,hS,gV,aJj,hQ⟩:=h;have hvc:=bM hw hs hc';rw[hcv] at hvc;obtain⟨fsv,csv,hfv,h1,h2⟩:=EJ (p:=(fid,fs,cs)) rfl hvc;refine wpIn_rangeFunc fun fn _=>?_;obtain⟨r,hr⟩:∃r:Loop,r={state:=.ready,pending:=none,fn,tmps:=a.tmps,params:=ps,assign:=x,body:=y,defers:=w.heap.size}:=⟨_,rfl⟩;have hrr:mY r .ready=r:=by rw[hr];rfl
      have fresh:∀{G:Gh} {H:aA} {w:World},WR g G H w->G.loc H.next=none:=fun {G H w} hw=>by
       cases hl:G.loc H.next with
       |none=>rfl
       |some l'=>exact absurd (hw.lt _ _ hl) (Ez _)
      have m1:=hw.CF H.next .SH (.deferred (some [])) rfl (fresh hw) (aA.aG H _) (Gn _) (Ex _) (w':=w.alloc (.deferred (some []))) ⟨rfl,.now⟩ (fun _=>by show(w.heap.push _)[w.heap.size]?=_;simp);have tR:SR (G.dY H.next ⟨w.heap.size,0,0,1⟩) (w.alloc (.deferred (some []))) s a:=hs.ext (m1.ext (Ext.refl G H w) (Ab _))
      have m2:=m1.rel.CF (H.alloc .SH).next (.loop ⟨ps.toList,ax,ay⟩ s .ready) (.loop r) rfl (fresh m1.rel) (aA.aG _ _) (Gn _) (Ex _) (w':=(w.alloc (.deferred (some []))).alloc (.loop r)) ⟨rfl,.now⟩ (fun Zo=>by
       refine⟨r,(hm.lok _ _).2 ⟨by rw[hr],mu,by rw[hr];exact vf,by rw[hr];exact hay,Pm.1,Pm.2⟩,by rw[hrr];exact CS (w.heap.push (.deferred (some []))) (.loop r),?_⟩;have hrt:r.tmps=a.tmps:=(by rw[hr]);rw[hrt]
       exact⟨tR.1,fun j hj=>Zo _ _ (tR.2 j hj)⟩)
      have e2:=m2.ext (m1.ext (Ext.refl G H w) (Ab _)) (Gn _);obtain⟨G2,hG2⟩:∃G2,G2=(G.dY H.next ⟨w.heap.size,0,0,1⟩).dY (H.alloc .SH).next ⟨(w.alloc (.deferred (some []))).heap.size,0,0,1⟩:=⟨_,rfl⟩
      have hL:G2.loc (H.next+1)=some ⟨w.heap.size+1,0,0,1⟩:=by rw[hG2];show(if H.next+1=H.next+1 then some (⟨(w.heap.push _).size,0,0,1⟩:Loc) else _)=_;simp
      have hD:G2.loc H.next=some ⟨w.heap.size,0,0,1⟩:=by rw[hG2];show(if H.next=H.next+1 then _ else if H.next=H.next then some (⟨w.heap.size,0,0,1⟩:Loc) else _)=_;rw[if_neg (by omega),if_pos rfl]
      have BY:=m2.rel;rw[<-hG2] at BY e2;have bFb:True:=trivial
      refine⟨w.heap.size+1,[{target:=.collected w.heap.size,args:= #[]}],_,{target:=.fn (.func fid) csv.toArray,args:=fsv.toArray++ #[.func (.yield (w.heap.size+1)) #[] #[]]},(w.alloc (.deferred (some []))).alloc (.loop {state:=.ready,pending:=none,fn,tmps:=a.tmps,params:=ps,assign:=x,body:=y,defers:=w.heap.size}),fid,_,_,
       run_enterLoop_outer _ _ _ _ _,?_,fun _ _=>trivial,nX hS.1 _ _ _,AS,?_⟩
      . simp only[resolve,rangeCall,hfv];simp[Deferred.ofValue,Act.eval]
      rw[<-hr]
      have oU:iO G2 ((w.alloc (.deferred (some []))).alloc (.loop r)) (fs++[.yield (H.next+1)]++cs) (fsv++[.func (.yield (w.heap.size+1)) #[] #[]]++csv):=
       ((h1.ext e2).append ((VR.yield (H.next+1) _ hL).cons (iO.nil _ _))).append (h2.ext e2)
      have DM:=hS.2 G2 _ _ BY oU;rw[show(fsv++[Value.func (.yield (w.heap.size+1)) #[] #[]]++csv).toArray=(fsv.toArray++ #[.func (.yield (w.heap.size+1)) #[] #[]])++csv.toArray by apply Fk;simp] at DM;refine(NH DM).mono fun e w3 he=>?_;obtain⟨G3,MS,jt,qG⟩:=he
      cases e with
      |panicked _=>exact qG.elim
      |outgrown=>exact qG.elim
      |returned u=>
       have Zn:=jt.loc _ _ hL;obtain⟨_,_,r3,bFq,KH,aWh⟩:=MS.iV _ _ _ Zn gV rfl;have aRq:=e2.trans jt
       have fin:∀(p:Option LEx),(mY r3 st).pending=p.map LEx.code->(mY r3 st).state≠ .busy->∃w4,(Instr.endLoop (w.heap.size+1)).run P w3=.ok (p.map LEx.code) w4/\
        WR g G3 Hf w4/\Ext G H w G3 Hf w4:=by
        intro p hp hb
        have h5:(Instr.endLoop (w.heap.size+1)).run P w3=.ok (p.map LEx.code) (w3.putObj (w.heap.size+1) (.loop {mY r3 st with state:=.exhausted})):=by have h5:=run_endLoop (P:=P) KH hb;rw[h5];exact Bn (fun q=>Result.ok q _) hp
        obtain⟨q1,q2⟩:=MS.FU (o':=.loop k' s' (.over p)) (x:=.loop {mY r3 st with state:=.exhausted}) (w':=w3.putObj (w.heap.size+1) (.loop {mY r3 st with state:=.exhausted})) Zn gV rfl rfl rfl .now (fun Zo wG=>⟨r3,bFq,by
         rw[wG];congr 2
         cases st<;>simp only[mY] at hp ⊢ <;>rw[hp],⟨aWh.1,fun j hj=>Zo _ _ (aWh.2 j hj)⟩⟩)
        have hg:∀m,Hf.get m=((He.set (H.next+1) (.loop k' s' (.over p))).set (H.next+1) .dead).get m:=fun m=>by rw[aJj.2,aA.aC,aA.aC];split<;>rfl
        have hn:Hf.next=((He.set (H.next+1) (.loop k' s' (.over p))).set (H.next+1) .dead).next:=aJj.1;exact⟨_,h5,(q1.kill (H.next+1)).oE (fun m _ _=>hg m) (by omega),((aRq.trans q2).kill (H.next+1)).oE (fun m _ _=>hg m) (by omega)⟩
       have Pd:∀{H4:aA} {w4:World},Ext G H w G3 H4 w4->SR G3 w4 s {a with defers:=[{target:=.collected w.heap.size,args:= #[]}]++a.defers}/\
        Rt G3 w4 (.mark H.next::ds) ([{target:=.collected w.heap.size,args:= #[]}]++a.defers):=fun {H4 w4} ex=>
        ⟨hs.ext ex,⟨_,jt.loc _ _ hD,rfl⟩,hd.ext ex⟩
       cases st with
       |ready=>obtain⟨w4,h5,q1,q2⟩:=fin none rfl (by simp[mY]);exact⟨none,w4,h5,.normal,s,_,_,G3,hQ,q1,q2,(Pd q2).1,(Pd q2).2,trivial⟩
       |done e=>
        obtain⟨w4,h5,q1,q2⟩:=fin (some e) rfl (by simp[mY]);refine⟨_,w4,h5,?_⟩
        cases e with
        |ret=>exact wpIn_ret ⟨.ret,s,_,_,G3,hQ,q1,q2,(Pd q2).1,(Pd q2).2,trivial⟩
        |exit i=>exact wpIn_exit ⟨.exit i,s,_,_,G3,hQ,q1,q2,(Pd q2).1,(Pd q2).2,rfl⟩
       |busy=>exact hQ.elim
       |over _=>exact hQ.elim
    cases hc
  cases hc
 |_=>intro ro ac hc;simp[eV] at hc
theorem QL {P:Program} {g:bG} (hm:Fit P g) {id:Nat} {k:Mq} {s args:List AV} {H2 H3:aA} {out:Out} (cY:H2.get id=some (.loop k s .ready)) (hlen:args.length=k.ps.length)
 (hA:Rp P g k s id args H2 out H3):EG P g id args H2 out H3:=by
 intro G' w' vs l' lM hv pA;obtain⟨_,_,r,hlk,hblk,hsn⟩:=lM.iV _ l' _ pA cY rfl;obtain⟨hrp,mu,vf,hay,Pm⟩:=(hm.lok _ _).1 hlk;have Ps:=hv.1;have hy:=run_yield (P:=P) (args:=vs.toArray) hblk (by rw[<-Ps] at hlen;show vs.toArray.size=r.params.size;rw[<-Dc (xs:=r.params),hrp];simpa using hlen);refine⟨_,_,_,_,hy,roundIn_of_wpIn trivial ?_⟩
 have hS1:SR G' w' (qI s (k.ps.zip args)) {tmps:=(r.params.zip vs.toArray).foldl (fun tmps (t,a)=>tmps.setIfInBounds t a) r.tmps,defers:=[]}:=by
  have key:∀(l:List Nat) (azs:List AV) (us:List Value) (s0:List AV) (tm:Array Value),iO G' w' azs us->iO G' w' s0 tm.toList->
   iO G' w' (qI s0 (l.zip azs)) ((l.zip us).foldl (fun tmps (t,a)=>tmps.setIfInBounds t a) tm).toList:=by
   intro l
   induction l with
   |nil=>intro azs us s0 tm _ h0;simpa [qI] using h0
   |cons t l ih=>
    intro azs us s0 tm ha h0
    cases azs with
    |nil=>have :=ha.1;simp only[Bm,Hw] at this;subst this;simpa [qI] using h0
    |cons v azs=>
     cases us with
     |nil=>have :=ha.1;simp at this
     |cons u us=>have PQ:=ha.2 0 (by simp);simp only[Dy] at PQ;have ta:iO G' w' azs us:=⟨by have :=ha.1;simpa using this,fun j hj=>by have :=ha.2 (j+1) ZaC;simpa using this⟩;simp only[List.zip_cons_cons,qI,Ho];refine ih azs us _ _ ta ?_;exact(SR.put (a:={tmps:=tm,defers:=[]}) h0 (some t) PQ:_)
  have :=key k.ps args vs s r.tmps hv hsn;show iO G' w' _ _;rw[<-Array.foldl_toList,Array.toList_zip,hrp];exact this
 refine wpIn_mono (GB hm _ (some l'.dB) _ vf (.inr Pm.1) _ [] G' H2 w' _ _ hA lM hS1 trivial) fun e a1 w1 hq=>?_;obtain⟨ae,s1,rL,H1,G1,q,RB,Tf,hs1,MK,hx⟩:=hq
 cases ae with
 |normal=>
  cases e with
  |normal=>
   obtain⟨hds,k1,sn1,aJg,Zc⟩:=q;subst hds;have yV:=Tf.loc _ _ pA;obtain⟨_,_,r1,bFp,eQ,aWg⟩:=RB.iV _ _ _ yV aJg rfl;obtain⟨q1,q2⟩:=RB.FU (o':=.loop k1 sn1 .busy) (x:=.loop {mY r1 .ready with state:=.busy}) (w':=w1.putObj l'.dB (.loop {mY r1 .ready with state:=.busy})) yV aJg rfl rfl rfl .now (fun Zo wG=>⟨r1,bFp,wG,⟨aWg.1,fun j hj=>Zo _ _ (aWg.2 j hj)⟩⟩);refine⟨_,run_beginRound eQ rfl,?_⟩
   have bEz:a1.defers=[]:=by
    cases vm:a1.defers with
    |nil=>rfl
    |cons d r=>rw[vm] at MK;exact MK.elim
   refine wpIn_mono (GB hm _ (some l'.dB) _ hay (.inr Pm.2) s1 [] G1 _ _ a1 _ Zc q1 (hs1.ext q2) (by rw[bEz];trivial)) fun e a2 w3 hq=>?_;obtain⟨ae,s2,Te,H4,G4,q,hw4,he4,hs4,hd4,hx⟩:=hq;have aRq:=(Tf.trans q2).trans he4;have xd:=(q2.trans he4).loc _ _ yV
   have fin:∀(st:LSt) (b:Bool) (jump:Option Code),(∃k4 sn4,H4.get id=some (.loop k4 sn4 .busy)/\H3=H4.set id (.loop k4 sn4 st))->out=.ret (.bool b)->jump.isNone=b->
    (∀r q:Loop,q=mY r .busy->{q with state:=if jump.isNone then .ready else .done,pending:=jump}=mY r st)->
    ∃v w5,(Instr.endRound l'.dB jump).run P w3=.ok v w5/\∃G'',WR g G'' H3 w5/\Ext G' H2 w' G'' H3 w5/\Wj G'' w5 out (.returned v):=by
    intro st b jump ⟨k4,sn4,wg,h3⟩ ho hj hla;obtain⟨_,_,r4,bFr,MJ,aWi⟩:=hw4.iV _ _ _ xd wg rfl;have h6:=run_endRound (P:=P) jump MJ;rw[hla r4 _ rfl] at h6;obtain⟨p1,p2⟩:=hw4.FU (o':=.loop k4 sn4 st) (x:=.loop (mY r4 st)) (w':=w3.putObj l'.dB (.loop (mY r4 st))) xd wg rfl rfl rfl .now (fun Zo wG=>⟨r4,bFr,wG,⟨aWi.1,fun j hj=>Zo _ _ (aWi.2 j hj)⟩⟩);refine⟨_,_,h6,G4,by rw[h3];exact p1,by rw[h3];exact aRq.trans p2,?_⟩;rw[ho,hj];exact .bool b
   cases ae with
   |normal=>
    cases e with
    |normal=>obtain⟨_,ho,wg⟩:=q;exact fin .ready true none wg ho rfl (fun r q hq=>by subst hq;rfl)
    |_=>exact hx.elim
   |ret=>
    cases e with
    |ret=>obtain⟨_,ho,wg⟩:=q;exact fin (.done .ret) false (some .ret) wg ho rfl (fun r q hq=>by subst hq;rfl)
    |_=>exact hx.elim
   |exit i=>
    cases e with
    |exit j=>obtain rfl:i=j:=hx;obtain⟨_,ho,wg⟩:=q;exact fin (.done (.exit i)) false (some (.exit i)) wg ho rfl (fun r q hq=>by subst hq;rfl)
    |_=>exact hx.elim
   |panic v=>exact q.elim
  |_=>exact hx.elim
 |_=>exact q.elim
inductive GD where
 |tmp (t:Nat)
 |cell (a:Nat) (agg:Bool) (n:Nat)
def rz (P:Program):ResultVar->Option GD
 |.tmp t=>some (.tmp t)
 |.cell a t=>match fT P t,kG P t with
  |some agg,some n=>some (.cell a agg n)
  |_,_=>none
def uJ (P:Program):List ResultVar->Option (List GD)
 |[]=>some []
 |x::r=>match rz P x,uJ P r with
  |some y,some ys=>some (y::ys)
  |_,_=>none
def me (s:List AV) (H:aA):GD->Option AV
 |.tmp t=>some (s.getD t aD)
 |.cell a agg n=>match dA (Arg.eval g0 s) H (.load agg n (.tmp a)) with
  |some (v,_)=>some v
  |none=>none
def lY (s:List AV) (H:aA):List GD->Option (List AV)
 |[]=>some []
 |x::r=>match me s H x,lY s H r with
  |some v,some vs=>some (v::vs)
  |_,_=>none
def nB:List AV->AV
 |[v]=>v
 |vs=>.iA vs
structure BM where
 ntmps:Nat
 results:List GD
 body:cF
def kM (P:Program) (g:bG) (mu:Bool) (f:FuncId) (F:BM):Prop:=
 ∃fn c,P.funcs[f]?=some fn/\fn.body=some c/\(fn.name== "runtime.NumGoroutine")=false/\eV P g mu c=some F.body/\fn.ntmps=F.ntmps/\uJ P fn.results.toList=some F.results
theorem kM.ok {P:Program} {g:bG} {mu:Bool} {f:FuncId} {F:BM} (h:kM P g mu f F):Mp P f:=
 let⟨fn,c,h1,h2,h3,_⟩:=h
 ⟨fn,h1,by rw[h2];rfl,h3⟩
def iW (F:BM) (args:List AV):List AV:=args++List.replicate (F.ntmps -args.length) aD
def aHu (F:BM) (R:Out->aA->Prop):AQ
 |.normal,s,ds,H|.ret,s,ds,H=>ds=[]/\∃vs,lY s H F.results=some vs/\R (.ret (nB vs)) H
 |.panic v,_,ds,H=>ds=[]/\R (.JL v) H
 |.exit _,_,_,_=>False
theorem aAv {P:Program} {g:bG} {G:Gh} {H:aA} {w:World} {s:List AV} {a:Act} {x:Nat} {t:TypeId} {agg:Bool} {n:Nat} (hag:fT P t=some agg) (lE:kG P t=some n)
 {v:AV} {H':aA} (hw:WR g G H w) (hs:SR G w s a) (h:dA (Arg.eval g0 s) H (.load agg n (.tmp x))=some (v,H')):
 ∃ad u,a.tmps.getD x undef=.pointer (some ad)/\(loadVar t ad).run P w=.ok u w/\VR G w v u:=by
 have vx:=hs.getD x
 have fin:∀(b o':Nat) (cs:List AV),a.tmps.getD x undef=.pointer (some ⟨b,o',none⟩)->n=cs.length->(∀c∈cs,c.one=true)->(agg=false->n=1)->
  (∀j,j<n->∃u,w.cell? ⟨b,o'+j,none⟩=some u/\VR G w (cs.getD j aD) u)->
  ∃ad u,a.tmps.getD x undef=.pointer (some ad)/\(loadVar t ad).run P w=.ok u w/\VR G w (if agg then .agg cs else cs.getD 0 aD) u:=by
  intro b o' cs he hl h1 hn hc;obtain⟨u,hr,hv⟩:=IW (P:=P) hag lE hl h1 hn hc;exact⟨_,u,he,hr,hv⟩
 simp only[dA,Arg.eval] at h;generalize eG:a.tmps.getD x undef=xv at vx fin;split at h
 . rename_i id off dC;rw[dC] at vx;split at h
   . rename_i cs EW;obtain⟨eN,hg⟩:=aA.pF EW;split at h
     . rename_i gT
       cases vx with
       |ref _ _ l hl=>
        have h4:=(hw.cells id l cs eN hl hg).2.2.2.1;have kJ:=KY hw hl hg gT;have hlen:n=((cs.drop off).take n).length:=Zah;have xP:∀c∈(cs.drop off).take n,c.one=true:=fun c hc=>h4 c (Dt (By hc));split at h
        . exact Zbn
        rename_i qZ;split at h
        . rename_i hn;simp only[Ae,Ak] at h;obtain⟨rfl,rfl⟩:=h;have :=fin _ _ _ rfl hlen xP (fun _=>hn) kJ
          rwa [if_neg qZ,eY _ _ _ _ _ (by omega),Cw] at this
        cases h
     cases h
   cases h
 . rename_i cs dC;rw[dC] at vx;split at h
   . rename_i gT
     cases vx with
     |pl _ b o' us hh hv=>
      have kJ:∀j,j<n->∃u,w.cell? ⟨b,o'+j,none⟩=some u/\VR G w ((cs.take n).getD j aD) u:=fun j hj=>by rw[getD_take _ _ _ _ hj];exact⟨us j,(hh j (by omega)).2.1,hv j (by omega)⟩
      have hlen:n=(cs.take n).length:=by simp;omega
      have xP:∀c∈cs.take n,c.one=true:=fun c hc=>by obtain⟨j,hj,rfl⟩:=Hg.1 (By hc);have :=(hh j hj).2.2;simpa [getD_eq,Ad hj] using this
      split at h
      . exact Zbn
      rename_i qZ;split at h
      . rename_i hn;simp only[Ae,Ak] at h;obtain⟨rfl,rfl⟩:=h;have :=fin _ _ _ rfl hlen xP (fun _=>hn) kJ
        rwa [if_neg qZ,getD_take _ _ _ _ (by omega)] at this
      cases h
   cases h
 cases h
def TK (tmps:Array Value):ResultVar->Sem Value
 |.tmp t=>pure (tmps.getD t undef)
 |.cell a t=>do loadVar t (←asAddr (tmps.getD a undef))
theorem IV {P:Program} {g:bG} {G:Gh} {H:aA} {w:World} {s:List AV} {a:Act} (hw:WR g G H w) (hs:SR G w s a):∀(l:List ResultVar) (rl:List GD) (vs:List AV),uJ P l=some rl->lY s H rl=some vs->
 ∃us:List Value,(l.mapM (TK a.tmps)).run P w=Result.ok us w/\iO G w vs us
 |[],rl,vs,hr,h=>by obtain rfl:=Aa hr;obtain rfl:=Aa h;exact⟨[],by simp,iO.nil G w⟩
 |x::l,rl,vs,hr,h=>by
  unfold uJ at hr;split at hr
  . rename_i y ys hy MU;obtain rfl:=Aa hr;unfold lY at h;split at h
    . rename_i v WZ hv oU;obtain rfl:=Aa h;obtain⟨us,h1,h2⟩:=IV hw hs l ys WZ MU oU
      cases x with
      |tmp t=>obtain rfl:=Aa hy;obtain rfl:=Aa hv;exact⟨a.tmps.getD t undef::us,by simp[h1,TK],iO.cons (hs.getD t) h2⟩
      |cell b t=>
       simp only[rz] at hy;split at hy
       . rename_i agg n hag lE;obtain rfl:=Aa hy;simp only[me] at hv;split at hv
         . rename_i v' H' mX;obtain rfl:=Aa hv;obtain⟨ad,u,e1,e2,e3⟩:=aAv hag lE hw hs mX;refine⟨u::us,?_,iO.cons e3 h2⟩;simp only[List.mapM_cons,TK,Sem.run_bind,e1,asAddr,Sem.run_pure,Result.andThen_ok,e2,h1]
         cases hv
       cases hy
    cases h
  cases hr
theorem Lj {P:Program} {g:bG} {G:Gh} {H:aA} {w:World} {s:List AV} {a:Act} {fn:Func} {rl:List GD} {vs:List AV} (hw:WR g G H w) (hs:SR G w s a) (hr:uJ P fn.results.toList=some rl) (h:lY s H rl=some vs):
 ∃u,(results fn a.tmps).run P w=.ok u w/\VR G w (nB vs) u:=by
 obtain⟨us,h1,h2⟩:=IV hw hs _ _ _ hr h
 have key:(results fn a.tmps).run P w=.ok (if h:us.toArray.size=1 then us.toArray[0] else .tuple us.toArray) w:=by
  have aFm:results fn a.tmps=(fn.results.mapM (TK a.tmps)>>= fun vs=>pure (if h:vs.size=1 then vs[0] else .tuple vs)):=by unfold results;congr 1
  rw[aFm];rw[Array.mapM_eq_mapM_toList];simp only[map_eq_pure_bind,Sem.run_bind];rw[h1];simp
 refine⟨_,key,?_⟩;have hl:=h2.1
 cases vs with
 |nil=>obtain rfl:us=[]:=Hw.1 hl;exact VR.oK G w
 |cons v vs=>
  cases us with
  |nil=>simp at hl
  |cons u us=>
   cases vs with
   |nil=>simp at hl;subst hl;have :=h2.2 0 (by simp);simpa [nB] using this
   |cons v2 vs=>
    cases us with
    |nil=>simp at hl
    |cons u2 us=>rw[dif_neg (by simp)];exact VR.iA _ _ h2.1 h2.2
def JR (P:Program) (g:bG) (f:FuncId) (args:List AV) (H:aA) (R:Out->aA->Prop):Prop:=
 Mp P f/\∀(G:Gh) (w:World) (vs:List Value),WR g G H w->iO G w args vs->
  Calls P f vs.toArray w fun e w'=>∃out H' G',R out H'/\WR g G' H' w'/\Ext G H w G' H' w'/\Wj G' w' out e
theorem GN {P:Program} {g:bG} {mu:Bool} (hm:Fit P g) {f:FuncId} {F:BM} (hF:kM P g mu f F) {args:List AV} {H:aA} {R:Out->aA->Prop}
 (h:AC P g F.body (iW F args) [] H (aHu F R)):JR P g f args H R:=by
 refine⟨hF.ok,fun G w vs hw hv=>?_⟩;obtain⟨fn,c,h1,h2,_,h3,h4,h5⟩:=hF;refine calls_of_wp h1 h2 (wp_mono (wpIn_wide.1 (GB hm c none F.body h3 (.inl rfl) _ [] G H w _ _ h hw ?_ trivial)) fun e a w' hq=>?_)
 . have hlen:=hv.1;show iO G w _ _;exact Za0
 obtain⟨ae,s',fQ,H1,G',q,lM,he,BX,rM,hx⟩:=hq
 have jy:fQ=[]->a.defers=[]:=fun hh=>by
  subst hh
  cases vm:a.defers with
  |nil=>rfl
  |cons d r=>rw[vm] at rM;exact rM.elim
 have fin:∀e',(fQ=[]/\∃vs,lY s' H1 F.results=some vs/\R (.ret (nB vs)) H1)->
  (e'=Exit.normal\/e'=Exit.ret)->bodyPost P fn (fun e w'=>∃out H' G',R out H'/\WR g G' H' w'/\Ext G H w G' H' w'/\Wj G' w' out e) e' a w':=by
  rintro e' ⟨hds,WZ,oU,hR⟩ xN;obtain⟨u,hu,Lw⟩:=Lj lM BX h5 oU
  rcases xN with rfl|rfl
  all_goals exact⟨jy hds,u,hu,_,_,G',hR,lM,he,Lw⟩
 cases ae with
 |normal=>
  cases e with
  |normal=>exact fin _ q (.inl rfl)
  |_=>exact hx.elim
 |ret=>
  cases e with
  |ret=>exact fin _ q (.inr rfl)
  |_=>exact hx.elim
 |exit id=>exact q.elim
 |panic v=>
  cases e with
  |panic ch=>obtain⟨hds,hR⟩:=q;exact⟨jy hds,_,_,G',hR,lM,he,hx⟩
  |_=>exact hx.elim
theorem JR.exact {P:Program} {g:bG} {f:FuncId} {args:List AV} {H H':aA} {out:Out} (h:JR P g f args H fun o h=>o=out/\h=H'):Sound P g f args H out H':=
 ⟨h.1,fun G w vs hw hv=>(h.2 G w vs hw hv).mono fun e w' ⟨_,_,G',⟨e1,e2⟩,h1,h2,h3⟩=>⟨G',e2▸h1,e2▸h2,e1▸h3⟩⟩
theorem Sound.open {P:Program} {g:bG} {f:FuncId} {args:List AV} {H H':aA} {out:Out} (h:Sound P g f args H out H'):JR P g f args H fun o h=>o=out/\h=H':=
 ⟨h.1,fun G w vs hw hv=>(h.2 G w vs hw hv).mono fun e w' ⟨G',h1,h2,h3⟩=>⟨_,_,G',⟨rfl,rfl⟩,h1,h2,h3⟩⟩
theorem UB {P:Program} {g:bG} {mu:Bool} (hm:Fit P g) {f:FuncId} {F:BM} (hF:kM P g mu f F) {args:List AV} {H H':aA} {out:Out}
 (h:AC P g F.body (iW F args) [] H (aHu F fun o h=>o=out/\h=H')):Sound P g f args H out H':=(GN hm hF h).exact
end Go.Av
