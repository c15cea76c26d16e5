/-
  Part of the proof of statement 11
-/
import Derived.Test.YtgggiembljfnhaaGreatDoorA03
import Derived.Laws.Sem
set_option linter.unusedVariables false
set_option linter.unusedSimpArgs false
set_option linter.unusedSectionVars false
namespace Go.Av
open Go
def GQ (P:Program) (g:bG) (r:bK) (s:List AV) (H:aA) (v:AV) (H':aA):Prop:=
 match r.op with
 |.call f azs=>∃p,mE (f.eval g s)=some p/\Sound P g p.1 (p.2.1++azs.map (Arg.eval g s)++p.2.2) H (.ret v) H'
 |.panic _|.kY _ _=>False
 |op=>dA (Arg.eval g s) H op=some (v,H')
def Ti (P:Program) (g:bG) (pairs:List (Nat×Nat)) (base:Nat):Nat->Nat->List bK->List (Nat×Nat)->List (Nat×aA×aA)->List AV->aA->(List AV->aA->Prop)->Prop
 |_,_,[],_,_,s,H,Q=>Q s H
 |i,k,r::rs,rd,ef,s,H,Q=>
  if bU s r then
   if r.op.fresh then
    ∃ob val,xQ (Arg.eval g s) r.op=some (ob,val)/\(∀x∈ef,(i,x.1)∈pairs->x.2.1.get (base+k)=x.2.2.get (base+k))/\
     Ti P g pairs base (i+1) (k+1) rs ((i,base+k)::rd) ef (mZ s r.dst (val (base+k))) (H.set (base+k) ob) Q
   else if r.op.pK then
    ∃v H',GQ P g r s H v H'/\H.next<=H'.next/\(∀x∈rd,(x.1,i)∈pairs->H.get x.2=H'.get x.2)/\
     Ti P g pairs base (i+1) k rs rd ((i,H,H')::ef) (mZ s r.dst v) H' Q
   else
    ∃v,GQ P g r s H v H/\(∀id,r.op.dJ (Arg.eval g s)=some id->∀x∈ef,(i,x.1)∈pairs->x.2.1.get id=x.2.2.get id)/\
     Ti P g pairs base (i+1) k rs (match r.op.dJ (Arg.eval g s) with|some id=>(i,id)::rd|none=>rd) ef (mZ s r.dst v) H Q
  else Ti P g pairs base (i+1) (if r.op.fresh then k+1 else k) rs rd ef (mZ s r.dst aC) H Q
structure Tm (P:Program) (g:bG) (pairs:List (Nat×Nat)) (base i k:Nat) (rs:List bK) (rd:List (Nat×Nat)) (ef:List (Nat×aA×aA)) (s:List AV) (H:aA) (Q:List AV->aA->Prop)
 (Hs:Nat->aA) (ss:Nat->List AV) (vs:Nat->AV):Prop where
 h0:Hs 0=H
 s0:ss 0=s
 fin:Q (ss rs.length) (Hs rs.length)
 step:∀(j:Nat) (r:bK),rs[j]?=some r->DStep P g false (base+(k+gS rs j)) r (ss j) (Hs j) (vs j) (Hs (j+1))/\ss (j+1)=mZ (ss j) r.dst (vs j)
 mono:∀(j:Nat) (r:bK),rs[j]?=some r->r.op.pK=true->(Hs j).next<=(Hs (j+1)).next
 CI:∀x∈rd,∀(e:Nat) (re:bK),rs[e]?=some re->re.op.pK=true->bU (ss e) re=true->(x.1,i+e)∈pairs->(Hs e).get x.2=(Hs (e+1)).get x.2
 new:∀x∈ef,∀(j:Nat) (r:bK),rs[j]?=some r->bU (ss j) r=true->(i+j,x.1)∈pairs->
  ∀id,(r.op.dJ (Arg.eval g (ss j))=some id\/(r.op.fresh=true/\id=base+(k+gS rs j)))->x.2.1.get id=x.2.2.get id
 both:∀(j e:Nat) (rj re:bK),rs[j]?=some rj->rs[e]?=some re->re.op.pK=true->bU (ss j) rj=true->bU (ss e) re=true->(i+j,i+e)∈pairs->
  ∀id,(rj.op.dJ (Arg.eval g (ss j))=some id\/(rj.op.fresh=true/\id=base+(k+gS rs j)))->(Hs e).get id=(Hs (e+1)).get id
theorem Pb (r:bK) (rs:List bK) (j:Nat):gS (r::rs) (j+1)=(if r.op.fresh then 1 else 0)+gS rs j:=by unfold gS;simp only[Dp,Gl];omega
def sx {α:Type} (x:α) (f:Nat->α):Nat->α
 |0=>x
 |n+1=>f n
theorem Tm.cons {P:Program} {g:bG} {pairs:List (Nat×Nat)} {base i k:Nat} {r:bK} {rs:List bK} {rd rd':List (Nat×Nat)} {ef ef':List (Nat×aA×aA)} {s:List AV} {H H':aA} {Q:List AV->aA->Prop}
 {Hs:Nat->aA} {ss:Nat->List AV} {vs:Nat->AV} {v:AV}
 (R:Tm P g pairs base (i+1) (if r.op.fresh then k+1 else k) rs rd' ef' (mZ s r.dst v) H' Q Hs ss vs)
 (fQ:DStep P g false (base+k) r s H v H') (yO:r.op.pK=true->H.next<=H'.next)
 (hrd:∀x∈rd,x∈rd') (hef:∀x∈ef,x∈ef')
 (bFq:bU s r=true->∀id,(r.op.dJ (Arg.eval g s)=some id\/(r.op.fresh=true/\id=base+k))->(i,id)∈rd')
 (bEk:bU s r=true->r.op.pK=true->(i,H,H')∈ef')
 (hold:∀x∈rd,r.op.pK=true->bU s r=true->(x.1,i)∈pairs->H.get x.2=H'.get x.2)
 (KO:∀x∈ef,bU s r=true->(i,x.1)∈pairs->∀id,(r.op.dJ (Arg.eval g s)=some id\/(r.op.fresh=true/\id=base+k))->x.2.1.get id=x.2.2.get id):
 Tm P g pairs base i k (r::rs) rd ef s H Q (sx H Hs) (sx s ss) (sx v vs):=by
 have hk:∀j,base+((if r.op.fresh then k+1 else k)+gS rs j)=base+(k+gS (r::rs) (j+1)):=fun j=>by rw[Pb];split<;>omega
 have hi:∀j,i+1+j=i+(j+1):=fun j=>by omega
 refine⟨rfl,rfl,R.fin,fun j q hq=>?_,fun j q hq he=>?_,fun x hx e re he JM hw hp=>?_,fun x hx j q hq hw hp id dB=>?_,fun j e rj re hj he JM hwj hwe hp id dB=>?_⟩
 . cases j with
   |zero=>simp at hq;subst hq;refine⟨?_,R.s0⟩;show DStep P g false (base+(k+gS (r::rs) 0)) r s H v (Hs 0);rw[R.h0];exact fQ
   |succ j=>have :=R.step j q (by simpa using hq);rw[hk] at this;exact this
 . cases j with
   |zero=>simp at hq;subst hq;show H.next<=(Hs 0).next;rw[R.h0];exact yO he
   |succ j=>exact R.mono j q (by simpa using hq) he
 . cases e with
   |zero=>simp at he;subst he;show H.get x.2=(Hs 0).get x.2;rw[R.h0];exact hold x hx JM hw hp
   |succ e=>exact R.CI x (hrd x hx) e re (by simpa using he) JM hw (by rw[hi];exact hp)
 . cases j with
   |zero=>simp at hq;subst hq;exact KO x hx hw hp id dB
   |succ j=>refine R.new x (hef x hx) j q (by simpa using hq) hw (by rw[hi];exact hp) id ?_;rw[hk];exact dB
 cases j with
 |zero=>
  simp at hj;subst hj
  cases e with
  |zero=>
   simp at he;subst he
   rcases dB with h|h
   . rw[vP (kU h)] at JM;cases JM
   rw[nD h.1] at JM;cases JM
  |succ e=>exact R.CI (i,id) (bFq hwj id dB) e re (by simpa using he) JM hwe (by rw[hi];exact hp)
 |succ j=>
  have FD:rj.op.dJ (Arg.eval g (ss j))=some id\/(rj.op.fresh=true/\id=base+((if r.op.fresh then k+1 else k)+gS rs j)):=by rw[hk];exact dB
  cases e with
  |zero=>simp at he;subst he;show H.get id=(Hs 0).get id;rw[R.h0];exact R.new (i,H,H') (bEk hwe JM) j rj ZaC hwj (by rw[hi];exact hp) id FD
  |succ e=>exact R.both j e rj re ZaC (by simpa using he) JM hwj hwe (by rw[hi,hi];exact hp) id FD
theorem GQ.aIj {P:Program} {g:bG} {r:bK} {s:List AV} {H H':aA} {v:AV} {id:Nat} (h:GQ P g r s H v H') (hw:bU s r=true) (hf:r.op.fresh=false):DStep P g false id r s H v H':=by unfold DStep;rw[if_pos hw,if_neg (by simp[hf])];exact h
theorem GI {P:Program} {g:bG} {pairs:List (Nat×Nat)} {base:Nat} {Q:List AV->aA->Prop}:∀(rs:List bK) (i k:Nat) (rd:List (Nat×Nat)) (ef:List (Nat×aA×aA)) (s:List AV) (H:aA),
 Ti P g pairs base i k rs rd ef s H Q->∃Hs ss vs,Tm P g pairs base i k rs rd ef s H Q Hs ss vs
 |[],i,k,rd,ef,s,H,h=>⟨fun _=>H,fun _=>s,fun _=>aC,rfl,rfl,h,fun j r hj=>by simp at hj,fun j r hj=>by simp at hj,fun x hx e re he=>by simp at he,fun x hx e re he=>by simp at he,fun j e rj re hj=>by simp at hj⟩
 |r::rs,i,k,rd,ef,s,H,h=>by
  unfold Ti at h;by_cases hw:bU s r=true
  . rw[if_pos hw] at h;by_cases hf:r.op.fresh=true
    . rw[if_pos hf] at h;obtain⟨ob,val,h1,h2,h3⟩:=h;obtain⟨Hs,ss,vs,R⟩:=GI rs _ _ _ _ _ _ h3;have hk:(if r.op.fresh then k+1 else k)=k+1:=(by rw[if_pos hf]);refine⟨_,_,_,Tm.cons (v:=val (base+k)) (by rw[hk];exact R) ?_ (fun he=>by rw[nD hf] at he;cases he) (fun x hx=>Aw _ hx) (fun x hx=>hx) (fun _ id dB=>?_) (fun _ he=>by rw[nD hf] at he;cases he) (fun x _ he=>by rw[nD hf] at he;cases he) (fun x hx _ hp id dB=>?_)⟩
      . unfold DStep;rw[if_pos hw,if_pos hf];exact⟨ob,val,h1,rfl,rfl⟩
      . rcases dB with dB|dB
        . have :=kU dB;rw[yS this] at hf;cases hf
        rw[dB.2];exact Ar
      rcases dB with dB|dB
      . have :=kU dB;rw[yS this] at hf;cases hf
      rw[dB.2];exact h2 x hx hp
    rw[if_neg hf] at h;have hf':r.op.fresh=false:=(by simpa using hf);have hk:(if r.op.fresh then k+1 else k)=k:=(by rw[if_neg hf]);by_cases he:r.op.pK=true
    . rw[if_pos he] at h;obtain⟨v,H',h1,h2,h3,h4⟩:=h;obtain⟨Hs,ss,vs,R⟩:=GI rs _ _ _ _ _ _ h4;refine⟨_,_,_,Tm.cons (v:=v) (by rw[hk];exact R) (h1.aIj hw hf') (fun _=>h2) (fun x hx=>hx) (fun x hx=>Aw _ hx) (fun _ id dB=>?_) (fun _ _=>Ar) (fun x hx _ _ hp=>h3 x hx hp) (fun x hx _ hp id dB=>?_)⟩
      all_goals
       rcases dB with dB|dB
       . rw[vP (kU dB)] at he;cases he
       exact absurd dB.1 hf
    rw[if_neg he] at h;obtain⟨v,h1,h2,h3⟩:=h;obtain⟨Hs,ss,vs,R⟩:=GI rs _ _ _ _ _ _ h3;refine⟨_,_,_,Tm.cons (v:=v) (by rw[hk];exact R) (h1.aIj hw hf') (fun xS=>absurd xS he) (fun x hx=>?_) (fun x hx=>hx) (fun _ id dB=>?_) (fun _ xS=>absurd xS he) (fun x _ xS=>absurd xS he) (fun x hx _ hp id dB=>?_)⟩
    . split
      . exact Aw _ hx
      exact hx
    . rcases dB with dB|dB
      . rw[dB];exact Ar
      exact absurd dB.1 hf
    rcases dB with dB|dB
    . exact h2 id dB x hx hp
    exact absurd dB.1 hf
  rw[if_neg hw] at h;obtain⟨Hs,ss,vs,R⟩:=GI rs _ _ _ _ _ _ h;refine⟨_,_,_,Tm.cons (v:=aC) R ?_ (fun _=>Ab _) (fun x hx=>hx) (fun x hx=>hx) (fun lI=>absurd lI hw) (fun lI=>absurd lI hw) (fun x _ _ lI=>absurd lI hw) (fun x _ lI=>absurd lI hw)⟩;unfold DStep;rw[if_neg hw];exact⟨rfl,rfl⟩
def pB (H:aA):Nat->Bool
 |0=>true
 |n+1=>pB H n&&(H.get (H.next+n)).isNone
theorem Nd {H:aA}:∀{n:Nat},pB H n=true->∀k,k<n->H.get (H.next+k)=none
 |0,_,k,hk=>absurd hk (An k)
 |n+1,h,k,hk=>by
  simp only[pB,Al,Option.isNone_iff_eq_none] at h;by_cases vz:k=n
  . rw[vz];exact h.2
  exact Nd h.1 k (by omega)
def Yx (P:Program) (g:bG) (rl:List bK) (pairs:List (Nat×Nat)) (s:List AV) (H:aA) (Q:List AV->aA->Prop):Prop:=
 pB H (rl.countP (·.op.fresh))=true/\Ti P g pairs H.next 0 0 rl [] [] s {H with next:=H.next+rl.countP (·.op.fresh)} Q
theorem Yx.run {P:Program} {g:bG} {rl:List bK} {pairs:List (Nat×Nat)} {s:List AV} {H:aA} {Q:List AV->aA->Prop} (h:Yx P g rl pairs s H Q)
 (hp:∀i e,(i,e)∈pairs->∀re,rl[e]?=some re->re.op.pK=true):
 ∃Hs ss vs,dS P g rl none pairs s H Hs ss vs/\Q (ss rl.length) (Hs rl.length):=by
 obtain⟨Hs,ss,vs,R⟩:=GI _ _ _ _ _ _ _ h.2;refine⟨Hs,ss,vs,⟨R.s0,R.h0,Nd h.1,fun i r hi=>?_,R.mono,fun i e hie ri re hi he hwi hwe id dB=>?_⟩,R.fin⟩
 . have :=R.step i r hi;rw[Cs] at this;exact this
 refine R.both i e ri re hi he (hp i e hie re he) hwi hwe (by simpa using hie) id ?_;rw[Cs];exact dB
def Mj (P:Program) (g:bG) (rl:List bK) (pairs:List (Nat×Nat)) (s:List AV) (H:aA) (E:AV->List AV->aA->Prop):Prop:=
 ∃j Hs ss vs,(j,rl.length)∈pairs/\dS P g rl (some j) pairs s H Hs ss vs/\
 ∃r f azs p x H1,rl[j]?=some r/\r.op=.call f azs/\bU (ss j) r=true/\mE (f.eval g (ss j))=some p/\
  Sound P g p.1 (p.2.1++azs.map (Arg.eval g (ss j))++p.2.2) (Hs j) (.JP x) H1/\E x (ss j) H1
theorem Mj.mono {P:Program} {g:bG} {rl:List bK} {pairs:List (Nat×Nat)} {s:List AV} {H:aA} {E E':AV->List AV->aA->Prop} (h:Mj P g rl pairs s H E) (he:∀x s H,E x s H->E' x s H):Mj P g rl pairs s H E':=
 let⟨j,Hs,ss,vs,h1,h2,r,f,azs,p,x,H1,e1,e2,e3,e4,e5,e6⟩:=h
 ⟨j,Hs,ss,vs,h1,h2,r,f,azs,p,x,H1,e1,e2,e3,e4,e5,he _ _ _ e6⟩
def zK (n:Nat) (gT:List Nat) (i j:Nat):Bool:=decide (i<j)&&decide (j<n)&&(gT.getD j 0).testBit i
def Rw (ri rj:bK):Bool:=
 (!ri.op.pK|| !rj.op.pK)&&
 (match ri.dst with|some d=> !(BL rj).contains d&&rj.dst != some d|none=>true)&&
 (match rj.dst with|some d=> !(BL ri).contains d|none=>true)
def yh (r:bK):Bool:= !r.op.reads||r.op.args.all fun |.const v=>(AO v).isNone|_=>true
def SF (ops:Array Oper) (rl:List bK) (gT:List Nat):Bool:=
 (List.range rl.length).all fun j=>
   match ops[j]?,rl[j]? with
   |some o,some rj=>
    o.after.toList.all (fun e=> !Region.binds .any e||decide (e.on<j))&&yh rj&&
    (List.range j).all fun i=>
      if zK rl.length gT i j then o.after.toList.any fun e=>Region.binds .any e&&(e.on==i||zK rl.length gT i e.on)
      else match rl[i]? with
       |some ri=>Rw ri rj
       |none=>false
   |_,_=>false
def RL (rl:List bK) (gT:List Nat) (a b:Nat):Bool:=
 match rl[a]?,rl[b]? with
 |some ra,some rb=>rb.op.pK&&
  ((decide (a<b)&& !zK rl.length gT a b&&(ra.op.reads||ra.op.fresh))||(decide (b<a)&&(ra.op.fresh||(!zK rl.length gT b a&&ra.op.reads))))
 |_,_=>false
def yj (rl:List bK) (gT:List Nat) (j:Nat):Bool:=
 match rl[j]? with
 |some r=>match r.op with
  |.call _ _=>(List.range rl.length).all fun k=>k==j||zK rl.length gT k j||zK rl.length gT j k
  |_=>false
 |none=>false
def sM (rl:List bK) (gT:List Nat):List (Nat×Nat):=
 (((List.range rl.length).flatMap fun a=>(List.range rl.length).map fun b=>(a,b)).filter fun p=>RL rl gT p.1 p.2)++
 ((List.range rl.length).filter (yj rl gT)).map fun j=>(j,rl.length)
theorem rB {rl:List bK} {gT:List Nat} {a b:Nat}:(a,b)∈sM rl gT↔(a<rl.length/\b<rl.length/\RL rl gT a b=true)\/(b=rl.length/\yj rl gT a=true/\a<rl.length):=by
 unfold sM;simp only[Ap,Fg,Fq,Au,Bj,Ai];constructor
 . rintro(⟨⟨x,hx,y,hy,rfl,rfl⟩,h⟩|⟨x,⟨h1,h2⟩,rfl,rfl⟩)
   . exact .inl ⟨hx,hy,h⟩
   exact .inr ⟨rfl,h2,h1⟩
 rintro(⟨h1,h2,h3⟩|⟨rfl,h2,h3⟩)
 . exact .inl ⟨⟨a,h1,b,h2,rfl,rfl⟩,h3⟩
 exact .inr ⟨a,⟨h3,h2⟩,rfl,rfl⟩
theorem YD {rl:List bK} {gT:List Nat} {j:Nat} (h:(j,rl.length)∈sM rl gT):∀k,k<rl.length->(k<j->zK rl.length gT k j=true)/\(j<k->zK rl.length gT j k=true):=by
 rcases rB.1 h with ⟨_,h,_⟩|⟨_,h,_⟩
 . exact absurd h (Ez _)
 intro k hk;unfold yj at h
 have h:(List.range rl.length).all (fun k=>k==j||zK rl.length gT k j||zK rl.length gT j k)=true:=by
  split at h
  . split at h
    . exact h
    cases h
  cases h
 have :=Ax.1 h k (Au.2 hk);simp only[Dm,Ca] at this
 have ho:∀{a b:Nat},zK rl.length gT a b=true->a<b:=fun {a b} h=>by unfold zK at h;simp only[Al,Bd] at h;exact h.1.1
 constructor
 . intro hkj
   rcases this with (rfl|h)|h
   . omega
   . exact h
   have :=ho h;omega
 intro hkj
 rcases this with (rfl|h)|h
 . omega
 . have :=ho h;omega
 exact h
theorem QW {ops:Array Oper} {rl:List bK} {gT:List Nat} (hn:rl.length=ops.size) (h:SF ops rl gT=true):sZ ops rl (sM rl gT) (zK rl.length gT):=by
 unfold SF at h;rw[Ax] at h
 have hj:∀(j:Nat) (o:Oper) (rj:bK),ops[j]?=some o->rl[j]?=some rj->
  (o.after.toList.all (fun e=> !Region.binds .any e||decide (e.on<j))&&yh rj&&
  (List.range j).all fun i=>
    if zK rl.length gT i j then o.after.toList.any fun e=>Region.binds .any e&&(e.on==i||zK rl.length gT i e.on)
    else match rl[i]? with
     |some ri=>Rw ri rj
     |none=>false)=true:=fun j o rj ho hr=>by
  have :=h j (Au.2 (Bk.1 hr).1);rw[ho,hr] at this;exact this
 have CB:∀(j:Nat),j<rl.length->∃o rj,ops[j]?=some o/\rl[j]?=some rj:=fun j hj=>⟨ops[j]'(by omega),rl[j],by simp[show j<ops.size by omega],by simp[hj]⟩
 have bEg:∀i j ri rj,i<j->rl[i]?=some ri->rl[j]?=some rj->zK rl.length gT i j=false->Rw ri rj=true:=fun i j ri rj yN hi ou ha=>by obtain⟨o,rj',ho,hr'⟩:=CB j (Bk.1 ou).1;have :=hj j o rj ho ou;simp only[Al] at this;have :=Ax.1 this.2 i (Au.2 yN);rw[ha,hi] at this;exact this
 refine⟨fun j o ho e he hb=>?_,fun i j ha=>?_,fun i j ri rj yN hi ou ha=>?_,fun i j ri rj yN hi ou he hf=>?_,fun j r hr hrd v hv=>?_⟩
 . obtain⟨o',rj,o8,hr⟩:=CB j (by rw[hn];exact(Cf.1 ho).1);have :=hj j o rj ho hr;simp only[Al] at this;have :=Ax.1 this.1.1 e (by simpa using he);rw[hb] at this;simpa using this
 . have ha':=ha;unfold zK at ha;simp only[Al,Bd] at ha;obtain⟨o,rj,ho,hr⟩:=CB j ha.1.2;have :=hj j o rj ho hr;simp only[Al] at this;have :=Ax.1 this.2 i (Au.2 ha.1.1);rw[if_pos ha'] at this;obtain⟨e,he,hc⟩:=Bw.1 this;simp only[Al,Dm,Ca] at hc;exact⟨o,ho,e,by simpa using he,hc.1,hc.2⟩
 . have hap:=bEg i j ri rj yN hi ou ha;have oz:=(Bk.1 hi).1;have hlj:=(Bk.1 ou).1;unfold Rw at hap;simp only[Al] at hap;obtain⟨⟨h1,h2⟩,h3⟩:=hap;refine⟨fun he=>?_,fun d hd=>?_,fun d hd=>?_,fun he hr=>?_,fun he hr=>?_⟩
   . rw[he] at h1;simpa using h1
   . rw[hd] at h2;simp only[Al,Cn,De] at h2;exact⟨fun hm=>by have :=h2.1;simp[hm] at this,h2.2⟩
   . rw[hd] at h3;simp only[Cn] at h3;exact fun hm=>by simp[hm] at h3
   . refine rB.2 (.inl ⟨oz,hlj,?_⟩);unfold RL;rw[hi,ou];simp only[he,yN,ha,Gm,Gb,Cv,Co,Dm];exact .inl hr
   refine rB.2 (.inl ⟨hlj,oz,?_⟩);unfold RL;rw[hi,ou];simp[he,yN,ha,hr]
 . have oz:=(Bk.1 hi).1;have hlj:=(Bk.1 ou).1;refine rB.2 (.inl ⟨hlj,oz,?_⟩);unfold RL;rw[hi,ou];simp[he,yN,hf]
 obtain⟨o,rj',ho,_⟩:=CB j (Bk.1 hr).1;have :=hj j o r ho hr;simp only[Al] at this;have :=this.1.2;unfold yh at this;rw[hrd] at this;simp only[Gv,Kj] at this;have :=Ax.1 this _ hv;simpa using this
theorem kp {rl:List bK} {gT:List Nat}:∀i e,(i,e)∈sM rl gT->∀re,rl[e]?=some re->re.op.pK=true:=fun i e h re Zp=>by
 rcases rB.1 h with ⟨_,_,this⟩|⟨rfl,_⟩
 rotate_left
 . rw[Bu (Ab _)] at Zp;cases Zp
 unfold RL at this;rw[Zp] at this
 cases hi:rl[i]? with
 |none=>rw[hi] at this;cases this
 |some ri=>rw[hi] at this;simp only[Al] at this;exact this.1
def cG.nd:cG->Bool
 |.ops rl=>rl.all fun r=>match r.op with|.kY _ _=>false|_=>true
 |.seq a b|.cond _ a b=>a.nd&&b.nd
 |.block _ a|.loop a=>a.nd
 |.nY _ _ _ _=>false
 |_=>true
def eS (P:Program) (g:bG) (mu:Bool):Code->Option cG
 |.skip=>some .skip
 |.label _=>some .skip
 |.region _ ops false=>(lP P g mu ops ops.toList).map .ops
 |.region _ ops true=>match lP P g mu ops ops.toList with
  |some rl=>if SF ops rl (Region.before ops).toList then some (.draw rl (sM rl (Region.before ops).toList)) else none
  |none=>none
 |.seq a b=>match eS P g mu a,eS P g mu b with
  |some x,some y=>some (.seq x y)
  |_,_=>none
 |.cond c a b=>match bN g c,eS P g mu a,eS P g mu b with
  |some z,some x,some y=>some (.cond z x y)
  |_,_,_=>none
 |.block id a=>(eS P g mu a).map (.block id)
 |.loop a=>(eS P g mu a).map .loop
 |.scope a=>eS P g mu a
 |.exit id=>some (.exit id)
 |.ret=>some .ret
 |.rangeFunc c ps x y=>match bN g c,eS P g mu x,eS P g mu y with
  |some c',some x',some y'=>if x'.nd&&y'.nd then some (.nY c' ps.toList x' y') else none
  |_,_,_=>none
 |_=>none
def aKj (next:List AV->List gM->aA->Prop) (Q:AQ):AQ
 |.normal,s,ds,H=>next s ds H
 |e,s,ds,H=>Q e s ds H
def pH (id:Nat) (Q:AQ):AQ
 |.exit i,s,ds,H=>if i=id then Q .normal s ds H else Q (.exit i) s ds H
 |e,s,ds,H=>Q e s ds H
def qE (s:List AV):List (Nat×AV)->List AV
 |[]=>s
 |(t,v)::r=>qE (s.set t v) r
def aAo (id:Nat) (out:Out) (H3:aA):AQ
 |.normal,_,ds,H=>ds=[]/\out=.ret (.bool true)/\∃k sn,H.get id=some (.loop k sn .busy)/\H3=H.set id (.loop k sn .ready)
 |.ret,_,ds,H=>ds=[]/\out=.ret (.bool false)/\∃k sn,H.get id=some (.loop k sn .busy)/\H3=H.set id (.loop k sn (.done .ret))
 |.exit i,_,ds,H=>ds=[]/\out=.ret (.bool false)/\∃k sn,H.get id=some (.loop k sn .busy)/\H3=H.set id (.loop k sn (.done (.exit i)))
 |.panic _,_,_,_=>False
def aFm (st:LSt) (sn:List AV) (ds:List gM) (H:aA) (Q:AQ):Prop:=
 match st with
 |.ready=>Q .normal sn ds H
 |.done .ret=>Q .ret sn ds H
 |.done (.exit i)=>Q (.exit i) sn ds H
 |_=>False
def wR (He:aA) (id:Nat) (Hf:aA):Prop:=Hf.next=He.next/\∀m,Hf.get m=if m=id then some .dead else He.get m
def AC (P:Program) (g:bG):cG->List AV->List gM->aA->AQ->Prop
 |.skip,s,ds,H,Q=>Q .normal s ds H
 |.ops rl,s,ds,H,Q=>uH P g rl s ds H Q
 |.draw rl pairs,s,ds,H,Q=>(Yx P g rl pairs s H fun s' H'=>Q .normal s' ds H')\/Mj P g rl pairs s H fun x s' H'=>Q (.panic x) s' ds H'
 |.seq a b,s,ds,H,Q=>AC P g a s ds H (aKj (fun s ds H=>AC P g b s ds H Q) Q)
 |.cond c a b,s,ds,H,Q=>∃t,c.eval g s=.bool t/\if t then AC P g a s ds H Q else AC P g b s ds H Q
 |.block id a,s,ds,H,Q=>AC P g a s ds H (pH id Q)
 |.loop a,s,ds,H,Q=>∃(I:Nat->List AV->List gM->aA->Prop) (n:Nat),I n s ds H/\
   ∀n s ds H,I n s ds H->AC P g a s ds H (aKj (fun s ds H=>∃m,m<n/\I m s ds H) Q)
 |.exit id,s,ds,H,Q=>Q (.exit id) s ds H
 |.ret,s,ds,H,Q=>Q .ret s ds H
 |.nY c ps PJ body,s,ds,H,Q=>∃fid fs cs v He k' s' st Hf,c.eval g s=.func (.func fid) fs cs/\
   Sound P g fid (fs++[.yield (H.next+1)]++cs) ((H.alloc .SD).alloc (.loop ⟨ps,PJ,body⟩ s .ready)) (.ret v) He/\He.get (H.next+1)=some (.loop k' s' st)/\wR He (H.next+1) Hf/\
   aFm st s (.mark H.next::ds) Hf Q
def Rk (P:Program) (g:bG) (k:Mo) (s:List AV) (id:Nat) (args:List AV) (H2:aA) (out:Out) (H3:aA):Prop:=
 AC P g k.PJ (qE s (k.ps.zip args)) [] H2 fun e s1 rI H1=>match e with
  |.normal=>rI=[]/\∃k1 sn1,H1.get id=some (.loop k1 sn1 .ready)/\AC P g k.body s1 [] (H1.set id (.loop k1 sn1 .busy)) (aAo id out H3)
  |_=>False
structure Fit (P:Program) (g:bG):Prop where
 mixed:P.follows .mixedOrders=true
 lok:∀k r,g.lok k r↔(r.params.toList=k.ps/\∃mu,eS P g mu r.assign=some k.PJ/\eS P g mu r.body=some k.body/\k.PJ.nd=true/\k.body.nd=true)
noncomputable def Sq (p:Nat->Prop) (h:∃n,p n):Nat:=
 Classical.choose (show ∃n,p n/\∀m,p m->n<=m from by
  obtain⟨n,hn⟩:=h
  induction n using Nat.strongRecOn with
  |_ n ih=>
   by_cases hc:∃m,m<n/\p m
   . obtain⟨m,hm,hp⟩:=hc;exact ih m hm hp
   exact⟨n,hn,fun m hm=>Ig fun fF=>hc ⟨m,fF,hm⟩⟩)
theorem LR (p:Nat->Prop) (h:∃n,p n):p (Sq p h)/\∀m,p m->Sq p h<=m:=Ie (Sq._proof_1 p h)
theorem WA {F:Fence} {n:Nat} {P:Program} {c:Code} {Q:Exit->Act->World->Prop} {a:Act} {w:World} (h:c.wpIn F n P Q a w) (hg:∀l a w,¬Q (.goto l) a w):(Code.scope c).wpIn F n P Q a w:=by
 intro b k cs CB hb hr;obtain⟨e,a',w',hq,jm⟩:=h b (.inScope c::k) cs CB hb hr;have h1:step P (lone (b.atR a (.code (.scope c)::k)) cs w)=.next (lone (b.atR a (.code c::.inScope c::k)) cs w):=step_lone_go (by simp[stepG,stepG.exec,Frame.atR]);have h2:∀a w,step P (lone (b.atR a (.inScope c::k)) cs w)=.next (lone (b.atR a k) cs w):=fun a w=>step_lone_go (by simp[stepG,stepG.exec,Frame.atR]);refine⟨e,a',w',hq,.of_steps (.one (fenced_calm hb hr rfl) h1) ?_⟩
 cases e with
 |normal=>exact StepsIn.trans jm (.one (fenced_calm hb hr rfl) (h2 a' w'))
 |exit id=>exact⟨fun k' hk=>jm.1 k' (by simpa [exitTo] using hk),fun hr hk=>jm.2 hr (by simpa [exitTo] using hk)⟩
 |goto l=>exact(hg l a' w' hq).elim
 |ret=>exact jm
 |panic ch=>exact jm
 |outgrown=>exact jm
theorem Vz {F:Fence} {n0:Nat} {P:Program} {Q:Exit->Act->World->Prop} {c:Code} (I:Nat->Act->World->Prop) {n:Nat} {a:Act} {w:World} (h0:I n a w)
 (round:∀n a w,I n a w->c.wpIn F n0 P (Exit.then (fun a' w'=>∃m,m<n/\I m a' w') Q) a w):(Code.loop c).wpIn F n0 P Q a w:=by
 classical
 refine wpIn_loop (fun a' w'=>∃m,I m a' w') (fun a' w'=>if h:∃m,I m a' w' then Sq (fun m=>I m a' w') h else 0) ⟨n,h0⟩ fun a' w' hI=>?_;have xk:=LR (fun m=>I m a' w') hI;refine wpIn_mono (round _ a' w' xk.1) fun e a1 w1 hq=>?_
 cases e with
 |normal=>obtain⟨m,hm,h1⟩:=hq;have hI1:∃m,I m a1 w1:=⟨m,h1⟩;refine⟨hI1,?_⟩;rw[dif_pos hI1,dif_pos hI];exact Iz ((LR (fun m=>I m a1 w1) hI1).2 m h1) hm
 |_=>exact hq
theorem QR.aFq {g:bG} {G:Gh} {H:aA} {w:World} {Q:AQ} {l:Nat} {a:Act} {w':World}:¬QR g G H w Q (.goto l) a w':=by rintro⟨ae,s',fN,H',G',_,_,_,_,_,hx⟩;cases ae<;>exact hx.elim
theorem GH {P:Program} {g:bG} {mu:Bool} (hm:Fit P g):∀(c:Code) (ro:Option Nat) (ac:cG),eS P g mu c=some ac->(ro=none\/ac.nd=true)->∀(s:List AV) (ds:List gM) (G:Gh) (H:aA) (w:World) (a:Act) (Q:AQ),
 AC P g ac s ds H Q->WR g G H w->SR G w s a->Ro G w ds a.defers->c.wpIn (Fw ro) 0 P (QR g G H w Q) a w:=by
 intro c
 induction c with
 |skip=>intro ro ac hc CB s ds G H w a Q h hw hs hd;simp only[eS,Ae] at hc;subst hc;exact wpIn_skip ⟨.normal,s,ds,H,G,h,hw,Ext.refl G H w,hs,hd,trivial⟩
 |label l=>intro ro ac hc CB s ds G H w a Q h hw hs hd;simp only[eS,Ae] at hc;subst hc;exact wpIn_label ⟨.normal,s,ds,H,G,h,hw,Ext.refl G H w,hs,hd,trivial⟩
 |region id ops draw=>
  intro ro ac hc CB s ds G H w a Q h hw hs hd
  cases draw with
  |false=>
   simp only[eS,Ah] at hc;obtain⟨rl,FJ,rfl⟩:=hc;refine wpIn_region ?_
   have :=Mk (ro:=ro) ops.toList rl 0 FJ (fun j hj=>by simp) (CB.imp (fun h=>h) fun h r hr f azs e=>by
    have :=Ax.1 h r hr
    rw[e] at this;cases this) s ds G H w a Q h hw hs hd
   rw[Cu] at this
   rwa [List.range_eq_range']
  |true=>
   simp only[eS] at hc;split at hc
   . rename_i rl FJ;split at hc
     . rename_i rO;obtain rfl:=Aa hc;have hn:rl.length=ops.size:=by simpa using(xN _ _ FJ).1
       rcases h with h|⟨j,Hs,ss,vs,h1,D,h2⟩
       . obtain⟨Hs,ss,vs,D,hQ⟩:=Yx.run h kp;exact NT hm.mixed FJ D (QW hn rO) hw hs hd (fun _=>hQ) (fun j h=>by cases h)
       exact NT hm.mixed FJ D (QW hn rO) hw hs hd (fun h=>by cases h) (fun k hk=>by cases hk;exact⟨YD h1,h2⟩)
     cases hc
   cases hc
 |seq x y ihx ihy=>
  intro ro ac hc CB s ds G H w a Q h hw hs hd;simp only[eS] at hc;split at hc
  . rename_i ax ay ux hay;obtain rfl:=Aa hc;refine wpIn_seq (wpIn_mono (ihx ro ax ux (CB.imp (fun h=>h) fun h=>(Al _ _▸h).1) s ds G H w a _ h hw hs hd) fun e a' w' hq=>?_);obtain⟨ae,s',fN,H',G',q,lI,he,CC,sF,hx⟩:=hq
    cases e with
    |normal=>
     cases ae with
     |normal=>exact wpIn_mono (ihy ro ay hay (CB.imp (fun h=>h) fun h=>(Al _ _▸h).2) s' fN G' H' w' a' Q q lI CC sF) fun _ _ _ hq=>QR.trans he hq
     |_=>exact hx.elim
    |_=>
     cases ae with
     |normal=>exact hx.elim
     |_=>exact⟨_,s',fN,H',G',q,lI,he,CC,sF,hx⟩
  cases hc
 |cond c x y ihx ihy=>
  intro ro ac hc CB s ds G H w a Q h hw hs hd;simp only[eS] at hc;split at hc
  . rename_i az ax ay haz ux hay;obtain rfl:=Aa hc;obtain⟨t,ht,h⟩:=h;have hv:=bM hw hs haz;rw[ht] at hv;refine wpIn_cond hv.jT ?_
    cases t with
    |true=>exact ihx ro ax ux (CB.imp (fun h=>h) fun h=>(Al _ _▸h).1) s ds G H w a Q h hw hs hd
    |false=>exact ihy ro ay hay (CB.imp (fun h=>h) fun h=>(Al _ _▸h).2) s ds G H w a Q h hw hs hd
  cases hc
 |block id x ih=>
  intro ro ac hc CB s ds G H w a Q h hw hs hd;simp only[eS,Ah] at hc;obtain⟨ax,ux,rfl⟩:=hc;refine wpIn_block (wpIn_mono (ih ro ax ux CB s ds G H w a _ h hw hs hd) fun e a' w' hq=>?_);obtain⟨ae,s',fN,H',G',q,lI,he,CC,sF,hx⟩:=hq
  cases ae with
  |exit i=>
   cases e with
   |exit i'=>
    obtain rfl:i=i':=hx;simp only[pH] at q;simp only[Exit.inBlock];split
    . rename_i hi;rw[if_pos hi] at q;exact⟨.normal,s',fN,H',G',q,lI,he,CC,sF,trivial⟩
    rename_i hi;rw[if_neg hi] at q;exact⟨.exit i,s',fN,H',G',q,lI,he,CC,sF,rfl⟩
   |_=>exact hx.elim
  |normal=>
   cases e with
   |normal=>exact⟨.normal,s',fN,H',G',q,lI,he,CC,sF,trivial⟩
   |_=>exact hx.elim
  |ret=>
   cases e with
   |ret=>exact⟨.ret,s',fN,H',G',q,lI,he,CC,sF,trivial⟩
   |_=>exact hx.elim
  |panic v=>
   cases e with
   |panic ch=>exact⟨.panic v,s',fN,H',G',q,lI,he,CC,sF,hx⟩
   |_=>exact hx.elim
 |loop x ih=>
  intro ro ac hc CB s ds G H w a Q h hw hs hd;simp only[eS,Ah] at hc;obtain⟨ax,ux,rfl⟩:=hc;obtain⟨I,n,h0,hI⟩:=h;refine Vz (fun n a' w'=>∃s' fN H' G',I n s' fN H'/\WR g G' H' w'/\Ext G H w G' H' w'/\SR G' w' s' a'/\Ro G' w' fN a'.defers) ⟨s,ds,H,G,h0,hw,Ext.refl G H w,hs,hd⟩ fun n a1 w1 hi=>?_;obtain⟨s1,rI,H1,G1,hi,Qx,TY,hs1,MJ⟩:=hi;refine wpIn_mono (ih ro ax ux CB s1 rI G1 H1 w1 a1 _ (hI n s1 rI H1 hi) Qx hs1 MJ) fun e a' w' hq=>?_;obtain⟨ae,s',fN,H',G',q,lI,he,CC,sF,hx⟩:=hq
  cases e with
  |normal=>
   cases ae with
   |normal=>obtain⟨m,hm,gO⟩:=q;exact⟨m,hm,s',fN,H',G',gO,lI,TY.trans he,CC,sF⟩
   |_=>exact hx.elim
  |_=>
   cases ae with
   |normal=>exact hx.elim
   |_=>exact⟨_,s',fN,H',G',q,lI,TY.trans he,CC,sF,hx⟩
 |scope x ih=>intro ro ac hc CB s ds G H w a Q h hw hs hd;exact WA (ih ro ac hc CB s ds G H w a Q h hw hs hd) fun l a w=>QR.aFq
 |exit id=>intro ro ac hc CB s ds G H w a Q h hw hs hd;simp only[eS,Ae] at hc;subst hc;exact wpIn_exit ⟨.exit id,s,ds,H,G,h,hw,Ext.refl G H w,hs,hd,rfl⟩
 |ret=>intro ro ac hc CB s ds G H w a Q h hw hs hd;simp only[eS,Ae] at hc;subst hc;exact wpIn_ret ⟨.ret,s,ds,H,G,h,hw,Ext.refl G H w,hs,hd,trivial⟩
 |rangeFunc c ps x y ihx ihy=>
  intro ro ac hc CB s ds G H w a Q h hw hs hd;simp only[eS] at hc;split at hc
  . rename_i c' ax ay hc' ux hay;split at hc
    . rename_i Pj;obtain rfl:=Aa hc;rw[Al] at Pj
      obtain rfl:ro=none:=CB.resolve_right fun h=>by cases h
      obtain⟨fid,fs,cs,v,He,k',s',st,Hf,hcv,hS,fQ,aIu,hQ⟩:=h;have hvc:=bM hw hs hc';rw[hcv] at hvc;obtain⟨fsv,csv,hfv,h1,h2⟩:=EL (p:=(fid,fs,cs)) rfl hvc;refine wpIn_rangeFunc fun fn _=>?_;obtain⟨r,hr⟩:∃r:Loop,r={state:=.ready,pending:=none,fn,tmps:=a.tmps,params:=ps,assign:=x,body:=y,defers:=w.heap.size}:=⟨_,rfl⟩;have hrr:mX r .ready=r:=by rw[hr];rfl
      have fresh:∀{G:Gh} {H:aA} {w:World},WR g G H w->G.loc H.next=none:=fun {G H w} hw=>by
       cases hl:G.loc H.next with
       |none=>rfl
       |some l'=>exact absurd (hw.lt _ _ hl) (Ez _)
      have m1:=hw.CJ H.next .SD (.deferred (some [])) rfl (fresh hw) (aA.aG H _) (Gn _) (Ew _) (w':=w.alloc (.deferred (some []))) ⟨rfl,.now⟩ (fun _=>by show(w.heap.push _)[w.heap.size]?=_;simp);have tR:SR (G.dX H.next ⟨w.heap.size,0,0,1⟩) (w.alloc (.deferred (some []))) s a:=hs.ext (m1.ext (Ext.refl G H w) (Ab _))
      have m2:=m1.rel.CJ (H.alloc .SD).next (.loop ⟨ps.toList,ax,ay⟩ s .ready) (.loop r) rfl (fresh m1.rel) (aA.aG _ _) (Gn _) (Ew _) (w':=(w.alloc (.deferred (some []))).alloc (.loop r)) ⟨rfl,.now⟩ (fun Zm=>by
       refine⟨r,(hm.lok _ _).2 ⟨by rw[hr],mu,by rw[hr];exact ux,by rw[hr];exact hay,Pj.1,Pj.2⟩,by rw[hrr];exact CU (w.heap.push (.deferred (some []))) (.loop r),?_⟩;have hrt:r.tmps=a.tmps:=(by rw[hr]);rw[hrt]
       exact⟨tR.1,fun j hj=>Zm _ _ (tR.2 j hj)⟩)
      have e2:=m2.ext (m1.ext (Ext.refl G H w) (Ab _)) (Gn _);obtain⟨G2,hG2⟩:∃G2,G2=(G.dX H.next ⟨w.heap.size,0,0,1⟩).dX (H.alloc .SD).next ⟨(w.alloc (.deferred (some []))).heap.size,0,0,1⟩:=⟨_,rfl⟩
      have hL:G2.loc (H.next+1)=some ⟨w.heap.size+1,0,0,1⟩:=by rw[hG2];show(if H.next+1=H.next+1 then some (⟨(w.heap.push _).size,0,0,1⟩:Loc) else _)=_;simp
      have hD:G2.loc H.next=some ⟨w.heap.size,0,0,1⟩:=by rw[hG2];show(if H.next=H.next+1 then _ else if H.next=H.next then some (⟨w.heap.size,0,0,1⟩:Loc) else _)=_;rw[if_neg (by omega),if_pos rfl]
      have CD:=m2.rel;rw[<-hG2] at CD e2;have bEj:True:=trivial
      refine⟨w.heap.size+1,[{target:=.collected w.heap.size,args:= #[]}],_,{target:=.fn (.func fid) csv.toArray,args:=fsv.toArray++ #[.func (.yield (w.heap.size+1)) #[] #[]]},(w.alloc (.deferred (some []))).alloc (.loop {state:=.ready,pending:=none,fn,tmps:=a.tmps,params:=ps,assign:=x,body:=y,defers:=w.heap.size}),fid,_,_,
       run_enterLoop_outer _ _ _ _ _,?_,fun _ _=>trivial,nL hS.1 _ _ _,AX,?_⟩
      . simp only[resolve,rangeCall,hfv];simp[Deferred.ofValue,Act.eval]
      rw[<-hr]
      have oP:iK G2 ((w.alloc (.deferred (some []))).alloc (.loop r)) (fs++[.yield (H.next+1)]++cs) (fsv++[.func (.yield (w.heap.size+1)) #[] #[]]++csv):=
       ((h1.ext e2).append ((VR.yield (H.next+1) _ hL).cons (iK.nil _ _))).append (h2.ext e2)
      have DO:=hS.2 G2 _ _ CD oP;rw[show(fsv++[Value.func (.yield (w.heap.size+1)) #[] #[]]++csv).toArray=(fsv.toArray++ #[.func (.yield (w.heap.size+1)) #[] #[]])++csv.toArray by apply Fj;simp] at DO;refine(NF DO).mono fun e w3 he=>?_;obtain⟨G3,MP,jo,qC⟩:=he
      cases e with
      |panicked _=>exact qC.elim
      |outgrown=>exact qC.elim
      |returned u=>
       have TZ:=jo.loc _ _ hL;obtain⟨_,_,r3,bEy,CA,aVr⟩:=MP.iS _ _ _ TZ fQ rfl;have aRb:=e2.trans jo
       have fin:∀(p:Option LEx),(mX r3 st).pending=p.map LEx.code->(mX r3 st).state≠ .busy->∃w4,(Instr.endLoop (w.heap.size+1)).run P w3=.ok (p.map LEx.code) w4/\
        WR g G3 Hf w4/\Ext G H w G3 Hf w4:=by
        intro p hp hb
        have h5:(Instr.endLoop (w.heap.size+1)).run P w3=.ok (p.map LEx.code) (w3.putObj (w.heap.size+1) (.loop {mX r3 st with state:=.exhausted})):=by have h5:=run_endLoop (P:=P) CA hb;rw[h5];exact Bn (fun q=>Result.ok q _) hp
        obtain⟨q1,q2⟩:=MP.FZ (o':=.loop k' s' (.over p)) (x:=.loop {mX r3 st with state:=.exhausted}) (w':=w3.putObj (w.heap.size+1) (.loop {mX r3 st with state:=.exhausted})) TZ fQ rfl rfl rfl .now (fun Zm wN=>⟨r3,bEy,by
         rw[wN];congr 2
         cases st<;>simp only[mX] at hp ⊢ <;>rw[hp],⟨aVr.1,fun j hj=>Zm _ _ (aVr.2 j hj)⟩⟩)
        have hg:∀m,Hf.get m=((He.set (H.next+1) (.loop k' s' (.over p))).set (H.next+1) .dead).get m:=fun m=>by rw[aIu.2,aA.aD,aA.aD];split<;>rfl
        have hn:Hf.next=((He.set (H.next+1) (.loop k' s' (.over p))).set (H.next+1) .dead).next:=aIu.1;exact⟨_,h5,(q1.kill (H.next+1)).nV (fun m _ _=>hg m) (by omega),((aRb.trans q2).kill (H.next+1)).nV (fun m _ _=>hg m) (by omega)⟩
       have Pa:∀{H4:aA} {w4:World},Ext G H w G3 H4 w4->SR G3 w4 s {a with defers:=[{target:=.collected w.heap.size,args:= #[]}]++a.defers}/\
        Ro G3 w4 (.mark H.next::ds) ([{target:=.collected w.heap.size,args:= #[]}]++a.defers):=fun {H4 w4} ex=>
        ⟨hs.ext ex,⟨_,jo.loc _ _ hD,rfl⟩,hd.ext ex⟩
       cases st with
       |ready=>obtain⟨w4,h5,q1,q2⟩:=fin none rfl (by simp[mX]);exact⟨none,w4,h5,.normal,s,_,_,G3,hQ,q1,q2,(Pa q2).1,(Pa q2).2,trivial⟩
       |done e=>
        obtain⟨w4,h5,q1,q2⟩:=fin (some e) rfl (by simp[mX]);refine⟨_,w4,h5,?_⟩
        cases e with
        |ret=>exact wpIn_ret ⟨.ret,s,_,_,G3,hQ,q1,q2,(Pa q2).1,(Pa q2).2,trivial⟩
        |exit i=>exact wpIn_exit ⟨.exit i,s,_,_,G3,hQ,q1,q2,(Pa q2).1,(Pa q2).2,rfl⟩
       |busy=>exact hQ.elim
       |over _=>exact hQ.elim
    cases hc
  cases hc
 |_=>intro ro ac hc;simp[eS] at hc
theorem QI {P:Program} {g:bG} (hm:Fit P g) {id:Nat} {k:Mo} {s args:List AV} {H2 H3:aA} {out:Out} (cW:H2.get id=some (.loop k s .ready)) (hlen:args.length=k.ps.length)
 (hA:Rk P g k s id args H2 out H3):EI P g id args H2 out H3:=by
 intro G' w' vs l' lI hv oU;obtain⟨_,_,r,hlk,hblk,hsn⟩:=lI.iS _ l' _ oU cW rfl;obtain⟨hrp,mu,ux,hay,Pj⟩:=(hm.lok _ _).1 hlk;have Lu:=hv.1;have hy:=run_yield (P:=P) (args:=vs.toArray) hblk (by rw[<-Lu] at hlen;show vs.toArray.size=r.params.size;rw[<-Cu (xs:=r.params),hrp];simpa using hlen);refine⟨_,_,_,_,hy,roundIn_of_wpIn trivial ?_⟩
 have hS1:SR G' w' (qE s (k.ps.zip args)) {tmps:=(r.params.zip vs.toArray).foldl (fun tmps (t,a)=>tmps.setIfInBounds t a) r.tmps,defers:=[]}:=by
  have key:∀(l:List Nat) (azs:List AV) (us:List Value) (s0:List AV) (tm:Array Value),iK G' w' azs us->iK G' w' s0 tm.toList->
   iK G' w' (qE s0 (l.zip azs)) ((l.zip us).foldl (fun tmps (t,a)=>tmps.setIfInBounds t a) tm).toList:=by
   intro l
   induction l with
   |nil=>intro azs us s0 tm _ h0;simpa [qE] using h0
   |cons t l ih=>
    intro azs us s0 tm ha h0
    cases azs with
    |nil=>have :=ha.1;simp only[Bm,Hu] at this;subst this;simpa [qE] using h0
    |cons v azs=>
     cases us with
     |nil=>have :=ha.1;simp at this
     |cons u us=>have PN:=ha.2 0 (by simp);simp only[Dw] at PN;have ta:iK G' w' azs us:=⟨by have :=ha.1;simpa using this,fun j hj=>by have :=ha.2 (j+1) ZaC;simpa using this⟩;simp only[List.zip_cons_cons,qE,Hl];refine ih azs us _ _ ta ?_;exact(SR.put (a:={tmps:=tm,defers:=[]}) h0 (some t) PN:_)
  have :=key k.ps args vs s r.tmps hv hsn;show iK G' w' _ _;rw[<-Array.foldl_toList,Array.toList_zip,hrp];exact this
 refine wpIn_mono (GH hm _ (some l'.cZ) _ ux (.inr Pj.1) _ [] G' H2 w' _ _ hA lI hS1 trivial) fun e a1 w1 hq=>?_;obtain⟨ae,s1,rI,H1,G1,q,Qx,TY,hs1,MJ,hx⟩:=hq
 cases ae with
 |normal=>
  cases e with
  |normal=>
   obtain⟨hds,k1,sn1,aIr,Zb⟩:=q;subst hds;have yY:=TY.loc _ _ oU;obtain⟨_,_,r1,bEx,eC,aVq⟩:=Qx.iS _ _ _ yY aIr rfl;obtain⟨q1,q2⟩:=Qx.FZ (o':=.loop k1 sn1 .busy) (x:=.loop {mX r1 .ready with state:=.busy}) (w':=w1.putObj l'.cZ (.loop {mX r1 .ready with state:=.busy})) yY aIr rfl rfl rfl .now (fun Zm wN=>⟨r1,bEx,wN,⟨aVq.1,fun j hj=>Zm _ _ (aVq.2 j hj)⟩⟩);refine⟨_,run_beginRound eC rfl,?_⟩
   have bEh:a1.defers=[]:=by
    cases vd:a1.defers with
    |nil=>rfl
    |cons d r=>rw[vd] at MJ;exact MJ.elim
   refine wpIn_mono (GH hm _ (some l'.cZ) _ hay (.inr Pj.2) s1 [] G1 _ _ a1 _ Zb q1 (hs1.ext q2) (by rw[bEh];trivial)) fun e a2 w3 hq=>?_;obtain⟨ae,s2,TX,H4,G4,q,hw4,he4,hs4,hd4,hx⟩:=hq;have aRb:=(TY.trans q2).trans he4;have Zl:=(q2.trans he4).loc _ _ yY
   have fin:∀(st:LSt) (b:Bool) (jump:Option Code),(∃k4 sn4,H4.get id=some (.loop k4 sn4 .busy)/\H3=H4.set id (.loop k4 sn4 st))->out=.ret (.bool b)->jump.isNone=b->
    (∀r q:Loop,q=mX r .busy->{q with state:=if jump.isNone then .ready else .done,pending:=jump}=mX r st)->
    ∃v w5,(Instr.endRound l'.cZ jump).run P w3=.ok v w5/\∃G'',WR g G'' H3 w5/\Ext G' H2 w' G'' H3 w5/\We G'' w5 out (.returned v):=by
    intro st b jump ⟨k4,sn4,Zh,h3⟩ ho hj hla;obtain⟨_,_,r4,bEz,GD,aVs⟩:=hw4.iS _ _ _ Zl Zh rfl;have h6:=run_endRound (P:=P) jump GD;rw[hla r4 _ rfl] at h6;obtain⟨p1,p2⟩:=hw4.FZ (o':=.loop k4 sn4 st) (x:=.loop (mX r4 st)) (w':=w3.putObj l'.cZ (.loop (mX r4 st))) Zl Zh rfl rfl rfl .now (fun Zm wN=>⟨r4,bEz,wN,⟨aVs.1,fun j hj=>Zm _ _ (aVs.2 j hj)⟩⟩);refine⟨_,_,h6,G4,by rw[h3];exact p1,by rw[h3];exact aRb.trans p2,?_⟩;rw[ho,hj];exact .bool b
   cases ae with
   |normal=>
    cases e with
    |normal=>obtain⟨_,ho,Zh⟩:=q;exact fin .ready true none Zh ho rfl (fun r q hq=>by subst hq;rfl)
    |_=>exact hx.elim
   |ret=>
    cases e with
    |ret=>obtain⟨_,ho,Zh⟩:=q;exact fin (.done .ret) false (some .ret) Zh ho rfl (fun r q hq=>by subst hq;rfl)
    |_=>exact hx.elim
   |exit i=>
    cases e with
    |exit j=>obtain rfl:i=j:=hx;obtain⟨_,ho,Zh⟩:=q;exact fin (.done (.exit i)) false (some (.exit i)) Zh ho rfl (fun r q hq=>by subst hq;rfl)
    |_=>exact hx.elim
   |panic v=>exact q.elim
  |_=>exact hx.elim
 |_=>exact q.elim
inductive GJ where
 |tmp (t:Nat)
 |cell (a:Nat) (agg:Bool) (n:Nat)
def ru (P:Program):ResultVar->Option GJ
 |.tmp t=>some (.tmp t)
 |.cell a t=>match fO P t,kB P t with
  |some agg,some n=>some (.cell a agg n)
  |_,_=>none
def uM (P:Program):List ResultVar->Option (List GJ)
 |[]=>some []
 |x::r=>match ru P x,uM P r with
  |some y,some ys=>some (y::ys)
  |_,_=>none
def l8 (s:List AV) (H:aA):GJ->Option AV
 |.tmp t=>some (s.getD t aC)
 |.cell a agg n=>match dA (Arg.eval g0 s) H (.load agg n (.tmp a)) with
  |some (v,_)=>some v
  |none=>none
def lT (s:List AV) (H:aA):List GJ->Option (List AV)
 |[]=>some []
 |x::r=>match l8 s H x,lT s H r with
  |some v,some vs=>some (v::vs)
  |_,_=>none
def nZ:List AV->AV
 |[v]=>v
 |vs=>.iA vs
structure BR where
 ntmps:Nat
 results:List GJ
 body:cG
def kH (P:Program) (g:bG) (mu:Bool) (f:FuncId) (F:BR):Prop:=
 ∃fn c,P.funcs[f]?=some fn/\fn.body=some c/\(fn.name== "runtime.NumGoroutine")=false/\eS P g mu c=some F.body/\fn.ntmps=F.ntmps/\uM P fn.results.toList=some F.results
theorem kH.ok {P:Program} {g:bG} {mu:Bool} {f:FuncId} {F:BR} (h:kH P g mu f F):Mn P f:=
 let⟨fn,c,h1,h2,h3,_⟩:=h
 ⟨fn,h1,by rw[h2];rfl,h3⟩
def qI (F:BR) (args:List AV):List AV:=args++List.replicate (F.ntmps -args.length) aC
def aHf (F:BR) (R:Out->aA->Prop):AQ
 |.normal,s,ds,H|.ret,s,ds,H=>ds=[]/\∃vs,lT s H F.results=some vs/\R (.ret (nZ vs)) H
 |.panic v,_,ds,H=>ds=[]/\R (.JP v) H
 |.exit _,_,_,_=>False
theorem aAg {P:Program} {g:bG} {G:Gh} {H:aA} {w:World} {s:List AV} {a:Act} {x:Nat} {t:TypeId} {agg:Bool} {n:Nat} (hag:fO P t=some agg) (kZ:kB P t=some n)
 {v:AV} {H':aA} (hw:WR g G H w) (hs:SR G w s a) (h:dA (Arg.eval g0 s) H (.load agg n (.tmp x))=some (v,H')):
 ∃ad u,a.tmps.getD x undef=.pointer (some ad)/\(loadVar t ad).run P w=.ok u w/\VR G w v u:=by
 have vx:=hs.getD x
 have fin:∀(b o':Nat) (cs:List AV),a.tmps.getD x undef=.pointer (some ⟨b,o',none⟩)->n=cs.length->(∀c∈cs,c.one=true)->(agg=false->n=1)->
  (∀j,j<n->∃u,w.cell? ⟨b,o'+j,none⟩=some u/\VR G w (cs.getD j aC) u)->
  ∃ad u,a.tmps.getD x undef=.pointer (some ad)/\(loadVar t ad).run P w=.ok u w/\VR G w (if agg then .agg cs else cs.getD 0 aC) u:=by
  intro b o' cs he hl h1 hn hc;obtain⟨u,hr,hv⟩:=JA (P:=P) hag kZ hl h1 hn hc;exact⟨_,u,he,hr,hv⟩
 simp only[dA,Arg.eval] at h;generalize eF:a.tmps.getD x undef=xv at vx fin;split at h
 . rename_i id off dB;rw[dB] at vx;split at h
   . rename_i cs MI;obtain⟨eM,hg⟩:=aA.oZ MI;split at h
     . rename_i gR
       cases vx with
       |ref _ _ l hl=>
        have h4:=(hw.cells id l cs eM hl hg).2.2.2.1;have kE:=KZ hw hl hg gR;have hlen:n=((cs.drop off).take n).length:=Zai;have xU:∀c∈(cs.drop off).take n,c.one=true:=fun c hc=>h4 c (Dt (Bz hc));split at h
        . rename_i qW;simp only[Ae,Ai] at h;obtain⟨rfl,rfl⟩:=h;have :=fin _ _ _ rfl hlen xU (fun hf=>by rw[qW] at hf;cases hf) kE
          rwa [if_pos qW] at this
        rename_i qW;split at h
        . rename_i hn;simp only[Ae,Ai] at h;obtain⟨rfl,rfl⟩:=h;have :=fin _ _ _ rfl hlen xU (fun _=>hn) kE
          rwa [if_neg qW,eX _ _ _ _ _ (by omega),Cy] at this
        cases h
     cases h
   cases h
 . rename_i cs dB;rw[dB] at vx;split at h
   . rename_i gR
     cases vx with
     |pl _ b o' us hh hv=>
      have kE:∀j,j<n->∃u,w.cell? ⟨b,o'+j,none⟩=some u/\VR G w ((cs.take n).getD j aC) u:=fun j hj=>by rw[getD_take _ _ _ _ hj];exact⟨us j,(hh j (by omega)).2.1,hv j (by omega)⟩
      have hlen:n=(cs.take n).length:=by simp;omega
      have xU:∀c∈cs.take n,c.one=true:=fun c hc=>by obtain⟨j,hj,rfl⟩:=Hd.1 (Bz hc);have :=(hh j hj).2.2;simpa [getD_eq,Ad hj] using this
      split at h
      . rename_i qW;simp only[Ae,Ai] at h;obtain⟨rfl,rfl⟩:=h;have :=fin _ _ _ rfl hlen xU (fun hf=>by rw[qW] at hf;cases hf) kE
        rwa [if_pos qW] at this
      rename_i qW;split at h
      . rename_i hn;simp only[Ae,Ai] at h;obtain⟨rfl,rfl⟩:=h;have :=fin _ _ _ rfl hlen xU (fun _=>hn) kE
        rwa [if_neg qW,getD_take _ _ _ _ (by omega)] at this
      cases h
   cases h
 cases h
def TD (tmps:Array Value):ResultVar->Sem Value
 |.tmp t=>pure (tmps.getD t undef)
 |.cell a t=>do loadVar t (←asAddr (tmps.getD a undef))
theorem IY {P:Program} {g:bG} {G:Gh} {H:aA} {w:World} {s:List AV} {a:Act} (hw:WR g G H w) (hs:SR G w s a):∀(l:List ResultVar) (rl:List GJ) (vs:List AV),uM P l=some rl->lT s H rl=some vs->
 ∃us:List Value,(l.mapM (TD a.tmps)).run P w=Result.ok us w/\iK G w vs us
 |[],rl,vs,hr,h=>by obtain rfl:=Aa hr;obtain rfl:=Aa h;exact⟨[],by simp,iK.nil G w⟩
 |x::l,rl,vs,hr,h=>by
  unfold uM at hr;split at hr
  . rename_i y ys hy MR;obtain rfl:=Aa hr;unfold lT at h;split at h
    . rename_i v WV hv oP;obtain rfl:=Aa h;obtain⟨us,h1,h2⟩:=IY hw hs l ys WV MR oP
      cases x with
      |tmp t=>obtain rfl:=Aa hy;obtain rfl:=Aa hv;exact⟨a.tmps.getD t undef::us,by simp[h1,TD],iK.cons (hs.getD t) h2⟩
      |cell b t=>
       simp only[ru] at hy;split at hy
       . rename_i agg n hag kZ;obtain rfl:=Aa hy;simp only[l8] at hv;split at hv
         . rename_i v' H' mT;obtain rfl:=Aa hv;obtain⟨ad,u,e1,e2,e3⟩:=aAg hag kZ hw hs mT;refine⟨u::us,?_,iK.cons e3 h2⟩;simp only[List.mapM_cons,TD,Sem.run_bind,e1,asAddr,Sem.run_pure,Result.andThen_ok,e2,h1]
         cases hv
       cases hy
    cases h
  cases hr
theorem Lg {P:Program} {g:bG} {G:Gh} {H:aA} {w:World} {s:List AV} {a:Act} {fn:Func} {rl:List GJ} {vs:List AV} (hw:WR g G H w) (hs:SR G w s a) (hr:uM P fn.results.toList=some rl) (h:lT s H rl=some vs):
 ∃u,(results fn a.tmps).run P w=.ok u w/\VR G w (nZ vs) u:=by
 obtain⟨us,h1,h2⟩:=IY hw hs _ _ _ hr h
 have key:(results fn a.tmps).run P w=.ok (if h:us.toArray.size=1 then us.toArray[0] else .tuple us.toArray) w:=by
  have aEx:results fn a.tmps=(fn.results.mapM (TD a.tmps)>>= fun vs=>pure (if h:vs.size=1 then vs[0] else .tuple vs)):=by unfold results;congr 1
  rw[aEx];rw[Array.mapM_eq_mapM_toList];simp only[map_eq_pure_bind,Sem.run_bind];rw[h1];simp
 refine⟨_,key,?_⟩;have hl:=h2.1
 cases vs with
 |nil=>obtain rfl:us=[]:=Hu.1 hl;exact VR.oG G w
 |cons v vs=>
  cases us with
  |nil=>simp at hl
  |cons u us=>
   cases vs with
   |nil=>simp at hl;subst hl;have :=h2.2 0 (by simp);simpa [nZ] using this
   |cons v2 vs=>
    cases us with
    |nil=>simp at hl
    |cons u2 us=>rw[dif_neg (by simp)];exact VR.iA _ _ h2.1 h2.2
def JV (P:Program) (g:bG) (f:FuncId) (args:List AV) (H:aA) (R:Out->aA->Prop):Prop:=
 Mn P f/\∀(G:Gh) (w:World) (vs:List Value),WR g G H w->iK G w args vs->
  Calls P f vs.toArray w fun e w'=>∃out H' G',R out H'/\WR g G' H' w'/\Ext G H w G' H' w'/\We G' w' out e
theorem GR {P:Program} {g:bG} {mu:Bool} (hm:Fit P g) {f:FuncId} {F:BR} (hF:kH P g mu f F) {args:List AV} {H:aA} {R:Out->aA->Prop}
 (h:AC P g F.body (qI F args) [] H (aHf F R)):JV P g f args H R:=by
 refine⟨hF.ok,fun G w vs hw hv=>?_⟩;obtain⟨fn,c,h1,h2,_,h3,h4,h5⟩:=hF;refine calls_of_wp h1 h2 (wp_mono (wpIn_wide.1 (GH hm c none F.body h3 (.inl rfl) _ [] G H w _ _ h hw ?_ trivial)) fun e a w' hq=>?_)
 . have hlen:=hv.1;show iK G w _ _;simp only[qI,Array.toList_append,Array.toList_replicate,Gy,hlen,h4];refine hv.append ⟨by simp,fun j hj=>?_⟩;simp only[List.length_replicate] at hj;simp only[Bf,Gi,hj,if_true,Bi];exact VR.oG G w
 obtain⟨ae,s',fN,H1,G',q,lI,he,CC,sF,hx⟩:=hq
 have jv:fN=[]->a.defers=[]:=fun hh=>by
  subst hh
  cases vd:a.defers with
  |nil=>rfl
  |cons d r=>rw[vd] at sF;exact sF.elim
 have fin:∀e',(fN=[]/\∃vs,lT s' H1 F.results=some vs/\R (.ret (nZ vs)) H1)->
  (e'=Exit.normal\/e'=Exit.ret)->bodyPost P fn (fun e w'=>∃out H' G',R out H'/\WR g G' H' w'/\Ext G H w G' H' w'/\We G' w' out e) e' a w':=by
  rintro e' ⟨hds,WV,oP,hR⟩ xS;obtain⟨u,hu,Lv⟩:=Lg lI CC h5 oP
  rcases xS with rfl|rfl
  all_goals exact⟨jv hds,u,hu,_,_,G',hR,lI,he,Lv⟩
 cases ae with
 |normal=>
  cases e with
  |normal=>exact fin _ q (.inl rfl)
  |_=>exact hx.elim
 |ret=>
  cases e with
  |ret=>exact fin _ q (.inr rfl)
  |_=>exact hx.elim
 |exit id=>exact q.elim
 |panic v=>
  cases e with
  |panic ch=>obtain⟨hds,hR⟩:=q;exact⟨jv hds,_,_,G',hR,lI,he,hx⟩
  |_=>exact hx.elim
theorem JV.exact {P:Program} {g:bG} {f:FuncId} {args:List AV} {H H':aA} {out:Out} (h:JV P g f args H fun o h=>o=out/\h=H'):Sound P g f args H out H':=
 ⟨h.1,fun G w vs hw hv=>(h.2 G w vs hw hv).mono fun e w' ⟨_,_,G',⟨e1,e2⟩,h1,h2,h3⟩=>⟨G',e2▸h1,e2▸h2,e1▸h3⟩⟩
theorem Sound.open {P:Program} {g:bG} {f:FuncId} {args:List AV} {H H':aA} {out:Out} (h:Sound P g f args H out H'):JV P g f args H fun o h=>o=out/\h=H':=
 ⟨h.1,fun G w vs hw hv=>(h.2 G w vs hw hv).mono fun e w' ⟨G',h1,h2,h3⟩=>⟨_,_,G',⟨rfl,rfl⟩,h1,h2,h3⟩⟩
theorem Tt {P:Program} {g:bG} {mu:Bool} (hm:Fit P g) {f:FuncId} {F:BR} (hF:kH P g mu f F) {args:List AV} {H H':aA} {out:Out}
 (h:AC P g F.body (qI F args) [] H (aHf F fun o h=>o=out/\h=H')):Sound P g f args H out H':=(GR hm hF h).exact
end Go.Av
