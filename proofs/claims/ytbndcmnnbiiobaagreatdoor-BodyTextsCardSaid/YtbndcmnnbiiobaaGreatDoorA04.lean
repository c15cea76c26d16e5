/-
  Part of the proof of statement 5
-/
import Derived.Test.YtbndcmnnbiiobaaGreatDoorA03
import Derived.Laws.Sem
set_option linter.unusedVariables false
set_option linter.unusedSimpArgs false
set_option linter.unusedSectionVars false
namespace Go.Av
open Go
def HW (P:Program) (g:bB) (r:bC) (s:List AV) (H:aA) (v:AV) (H':aA):Prop:=
 match r.op with
 |.call f azs=>∃p,lL (f.eval g s)=some p/\Sound P g p.1 (p.2.1++azs.map (Arg.eval g s)++p.2.2) H (.ret v) H'
 |.panic _|.jY _ _=>False
 |op=>dK (Arg.eval g s) H op=some (v,H')
def VQ (P:Program) (g:bB) (pairs:List (Nat×Nat)) (base:Nat):Nat->Nat->List bC->List (Nat×Nat)->List (Nat×aA×aA)->List AV->aA->(List AV->aA->Prop)->Prop
 |_,_,[],_,_,s,H,Q=>Q s H
 |i,k,r::rs,rd,ef,s,H,Q=>
  if bH s r then
   if r.op.fresh then
    ∃ob val,yQ (Arg.eval g s) r.op=some (ob,val)/\(∀x∈ef,(i,x.1)∈pairs->x.2.1.get (base+k)=x.2.2.get (base+k))/\
     VQ P g pairs base (i+1) (k+1) rs ((i,base+k)::rd) ef (mE s r.dst (val (base+k))) (H.set (base+k) ob) Q
   else if r.op.qE then
    ∃v H',HW P g r s H v H'/\H.next<=H'.next/\(∀x∈rd,(x.1,i)∈pairs->H.get x.2=H'.get x.2)/\
     VQ P g pairs base (i+1) k rs rd ((i,H,H')::ef) (mE s r.dst v) H' Q
   else
    ∃v,HW P g r s H v H/\(∀id,r.op.cY (Arg.eval g s)=some id->∀x∈ef,(i,x.1)∈pairs->x.2.1.get id=x.2.2.get id)/\
     VQ P g pairs base (i+1) k rs (match r.op.cY (Arg.eval g s) with|some id=>(i,id)::rd|none=>rd) ef (mE s r.dst v) H Q
  else VQ P g pairs base (i+1) (if r.op.fresh then k+1 else k) rs rd ef (mE s r.dst aD) H Q
structure VX (P:Program) (g:bB) (pairs:List (Nat×Nat)) (base i k:Nat) (rs:List bC) (rd:List (Nat×Nat)) (ef:List (Nat×aA×aA)) (s:List AV) (H:aA) (Q:List AV->aA->Prop)
 (Hs:Nat->aA) (ss:Nat->List AV) (vs:Nat->AV):Prop where
 h0:Hs 0=H
 s0:ss 0=s
 fin:Q (ss rs.length) (Hs rs.length)
 step:∀(j:Nat) (r:bC),rs[j]?=some r->DStep P g false (base+(k+eY rs j)) r (ss j) (Hs j) (vs j) (Hs (j+1))/\ss (j+1)=mE (ss j) r.dst (vs j)
 mono:∀(j:Nat) (r:bC),rs[j]?=some r->r.op.qE=true->(Hs j).next<=(Hs (j+1)).next
 VN:∀x∈rd,∀(e:Nat) (re:bC),rs[e]?=some re->re.op.qE=true->bH (ss e) re=true->(x.1,i+e)∈pairs->(Hs e).get x.2=(Hs (e+1)).get x.2
 new:∀x∈ef,∀(j:Nat) (r:bC),rs[j]?=some r->bH (ss j) r=true->(i+j,x.1)∈pairs->
  ∀id,(r.op.cY (Arg.eval g (ss j))=some id\/(r.op.fresh=true/\id=base+(k+eY rs j)))->x.2.1.get id=x.2.2.get id
 both:∀(j e:Nat) (rj re:bC),rs[j]?=some rj->rs[e]?=some re->re.op.qE=true->bH (ss j) rj=true->bH (ss e) re=true->(i+j,i+e)∈pairs->
  ∀id,(rj.op.cY (Arg.eval g (ss j))=some id\/(rj.op.fresh=true/\id=base+(k+eY rs j)))->(Hs e).get id=(Hs (e+1)).get id
theorem RE (r:bC) (rs:List bC) (j:Nat):eY (r::rs) (j+1)=(if r.op.fresh then 1 else 0)+eY rs j:=by unfold eY;simp only[Dn,Gz];omega
def zu {α:Type} (x:α) (f:Nat->α):Nat->α
 |0=>x
 |n+1=>f n
theorem VX.cons {P:Program} {g:bB} {pairs:List (Nat×Nat)} {base i k:Nat} {r:bC} {rs:List bC} {rd rd':List (Nat×Nat)} {ef ef':List (Nat×aA×aA)} {s:List AV} {H H':aA} {Q:List AV->aA->Prop}
 {Hs:Nat->aA} {ss:Nat->List AV} {vs:Nat->AV} {v:AV}
 (R:VX P g pairs base (i+1) (if r.op.fresh then k+1 else k) rs rd' ef' (mE s r.dst v) H' Q Hs ss vs)
 (HJ:DStep P g false (base+k) r s H v H') (xF:r.op.qE=true->H.next<=H'.next)
 (hrd:∀x∈rd,x∈rd') (hef:∀x∈ef,x∈ef')
 (bFz:bH s r=true->∀id,(r.op.cY (Arg.eval g s)=some id\/(r.op.fresh=true/\id=base+k))->(i,id)∈rd')
 (bEt:bH s r=true->r.op.qE=true->(i,H,H')∈ef')
 (hold:∀x∈rd,r.op.qE=true->bH s r=true->(x.1,i)∈pairs->H.get x.2=H'.get x.2)
 (Ln:∀x∈ef,bH s r=true->(i,x.1)∈pairs->∀id,(r.op.cY (Arg.eval g s)=some id\/(r.op.fresh=true/\id=base+k))->x.2.1.get id=x.2.2.get id):
 VX P g pairs base i k (r::rs) rd ef s H Q (zu H Hs) (zu s ss) (zu v vs):=by
 have hk:∀j,base+((if r.op.fresh then k+1 else k)+eY rs j)=base+(k+eY (r::rs) (j+1)):=fun j=>by rw[RE];split<;>omega
 have hi:∀j,i+1+j=i+(j+1):=fun j=>by omega
 refine⟨rfl,rfl,R.fin,fun j q hq=>?_,fun j q hq he=>?_,fun x hx e re he Md hw hp=>?_,fun x hx j q hq hw hp id hid=>?_,fun j e rj re hj he Md hwj hwe hp id hid=>?_⟩
 · cases j with
   |zero=>simp at hq;subst hq;refine⟨?_,R.s0⟩;show DStep P g false (base+(k+eY (r::rs) 0)) r s H v (Hs 0);rw[R.h0];exact HJ
   |succ j=>have :=R.step j q (by simpa using hq);rw[hk] at this;exact this
 · cases j with
   |zero=>simp at hq;subst hq;show H.next<=(Hs 0).next;rw[R.h0];exact xF he
   |succ j=>exact R.mono j q (by simpa using hq) he
 · cases e with
   |zero=>simp at he;subst he;show H.get x.2=(Hs 0).get x.2;rw[R.h0];exact hold x hx Md hw hp
   |succ e=>exact R.VN x (hrd x hx) e re (by simpa using he) Md hw (by rw[hi];exact hp)
 · cases j with
   |zero=>simp at hq;subst hq;exact Ln x hx hw hp id hid
   |succ j=>refine R.new x (hef x hx) j q (by simpa using hq) hw (by rw[hi];exact hp) id ?_;rw[hk];exact hid
 cases j with
 |zero=>
  simp at hj;subst hj
  cases e with
  |zero=>
   simp at he;subst he
   rcases hid with h|h
   · rw[wJ (lG h)] at Md;cases Md
   rw[nI h.1] at Md;cases Md
  |succ e=>exact R.VN (i,id) (bFz hwj id hid) e re (by simpa using he) Md hwe (by rw[hi];exact hp)
 |succ j=>
  have GD:rj.op.cY (Arg.eval g (ss j))=some id\/(rj.op.fresh=true/\id=base+((if r.op.fresh then k+1 else k)+eY rs j)):=by rw[hk];exact hid
  cases e with
  |zero=>simp at he;subst he;show H.get id=(Hs 0).get id;rw[R.h0];exact R.new (i,H,H') (bEt hwe Md) j rj (by simpa using hj) hwj (by rw[hi];exact hp) id GD
  |succ e=>exact R.both j e rj re (by simpa using hj) (by simpa using he) Md hwj hwe (by rw[hi,hi];exact hp) id GD
theorem HW.aKt {P:Program} {g:bB} {r:bC} {s:List AV} {H H':aA} {v:AV} {id:Nat} (h:HW P g r s H v H') (hw:bH s r=true) (hf:r.op.fresh=false):DStep P g false id r s H v H':=by unfold DStep;rw[if_pos hw,if_neg (by simp[hf])];exact h
theorem HL {P:Program} {g:bB} {pairs:List (Nat×Nat)} {base:Nat} {Q:List AV->aA->Prop}:∀(rs:List bC) (i k:Nat) (rd:List (Nat×Nat)) (ef:List (Nat×aA×aA)) (s:List AV) (H:aA),
 VQ P g pairs base i k rs rd ef s H Q->∃Hs ss vs,VX P g pairs base i k rs rd ef s H Q Hs ss vs
 |[],i,k,rd,ef,s,H,h=>⟨fun _=>H,fun _=>s,fun _=>aD,rfl,rfl,h,fun j r hj=>by simp at hj,fun j r hj=>by simp at hj,fun x hx e re he=>by simp at he,fun x hx e re he=>by simp at he,fun j e rj re hj=>by simp at hj⟩
 |r::rs,i,k,rd,ef,s,H,h=>by
  unfold VQ at h;by_cases hw:bH s r=true
  · rw[if_pos hw] at h;by_cases hf:r.op.fresh=true
    · rw[if_pos hf] at h;obtain⟨ob,val,h1,h2,h3⟩:=h;obtain⟨Hs,ss,vs,R⟩:=HL rs _ _ _ _ _ _ h3;have hk:(if r.op.fresh then k+1 else k)=k+1:=(by rw[if_pos hf]);refine⟨_,_,_,VX.cons (v:=val (base+k)) (by rw[hk];exact R) ?_ (fun he=>by rw[nI hf] at he;cases he) (fun x hx=>Aw _ hx) (fun x hx=>hx) (fun _ id hid=>?_) (fun _ he=>by rw[nI hf] at he;cases he) (fun x _ he=>by rw[nI hf] at he;cases he) (fun x hx _ hp id hid=>?_)⟩
      · unfold DStep;rw[if_pos hw,if_pos hf];exact⟨ob,val,h1,rfl,rfl⟩
      · rcases hid with hid|hid
        · have :=lG hid;rw[AG this] at hf;cases hf
        rw[hid.2];exact Au
      rcases hid with hid|hid
      · have :=lG hid;rw[AG this] at hf;cases hf
      rw[hid.2];exact h2 x hx hp
    rw[if_neg hf] at h;have hf':r.op.fresh=false:=(by simpa using hf);have hk:(if r.op.fresh then k+1 else k)=k:=(by rw[if_neg hf]);by_cases he:r.op.qE=true
    · rw[if_pos he] at h;obtain⟨v,H',h1,h2,h3,h4⟩:=h;obtain⟨Hs,ss,vs,R⟩:=HL rs _ _ _ _ _ _ h4;refine⟨_,_,_,VX.cons (v:=v) (by rw[hk];exact R) (h1.aKt hw hf') (fun _=>h2) (fun x hx=>hx) (fun x hx=>Aw _ hx) (fun _ id hid=>?_) (fun _ _=>Au) (fun x hx _ _ hp=>h3 x hx hp) (fun x hx _ hp id hid=>?_)⟩
      all_goals
       rcases hid with hid|hid
       · rw[wJ (lG hid)] at he;cases he
       exact absurd hid.1 hf
    rw[if_neg he] at h;obtain⟨v,h1,h2,h3⟩:=h;obtain⟨Hs,ss,vs,R⟩:=HL rs _ _ _ _ _ _ h3;refine⟨_,_,_,VX.cons (v:=v) (by rw[hk];exact R) (h1.aKt hw hf') (fun yT=>absurd yT he) (fun x hx=>?_) (fun x hx=>hx) (fun _ id hid=>?_) (fun _ yT=>absurd yT he) (fun x _ yT=>absurd yT he) (fun x hx _ hp id hid=>?_)⟩
    · split
      · exact Aw _ hx
      exact hx
    · rcases hid with hid|hid
      · rw[hid];exact Au
      exact absurd hid.1 hf
    rcases hid with hid|hid
    · exact h2 id hid x hx hp
    exact absurd hid.1 hf
  rw[if_neg hw] at h;obtain⟨Hs,ss,vs,R⟩:=HL rs _ _ _ _ _ _ h;refine⟨_,_,_,VX.cons (v:=aD) R ?_ (fun _=>Ak _) (fun x hx=>hx) (fun x hx=>hx) (fun jS=>absurd jS hw) (fun jS=>absurd jS hw) (fun x _ _ jS=>absurd jS hw) (fun x _ jS=>absurd jS hw)⟩;unfold DStep;rw[if_neg hw];exact⟨rfl,rfl⟩
def nZ (H:aA):Nat->Bool
 |0=>true
 |n+1=>nZ H n&&(H.get (H.next+n)).isNone
theorem Oo {H:aA}:∀{n:Nat},nZ H n=true->∀k,k<n->H.get (H.next+k)=none
 |0,_,k,hk=>absurd hk (Ax k)
 |n+1,h,k,hk=>by
  simp only[nZ,Am,Option.isNone_iff_eq_none] at h;by_cases hkn:k=n
  · rw[hkn];exact h.2
  exact Oo h.1 k (by omega)
def VU (P:Program) (g:bB) (rl:List bC) (pairs:List (Nat×Nat)) (s:List AV) (H:aA) (Q:List AV->aA->Prop):Prop:=
 nZ H (rl.countP (·.op.fresh))=true/\VQ P g pairs H.next 0 0 rl [] [] s {H with next:=H.next+rl.countP (·.op.fresh)} Q
theorem VU.run {P:Program} {g:bB} {rl:List bC} {pairs:List (Nat×Nat)} {s:List AV} {H:aA} {Q:List AV->aA->Prop} (h:VU P g rl pairs s H Q)
 (hp:∀i e,(i,e)∈pairs->∀re,rl[e]?=some re->re.op.qE=true):
 ∃Hs ss vs,cV P g rl none pairs s H Hs ss vs/\Q (ss rl.length) (Hs rl.length):=by
 obtain⟨Hs,ss,vs,R⟩:=HL _ _ _ _ _ _ _ h.2;refine⟨Hs,ss,vs,⟨R.s0,R.h0,Oo h.1,fun i r hi=>?_,R.mono,fun i e hie ri re hi he hwi hwe id hid=>?_⟩,R.fin⟩
 · have :=R.step i r hi;rw[Df] at this;exact this
 refine R.both i e ri re hi he (hp i e hie re he) hwi hwe (by simpa using hie) id ?_;rw[Df];exact hid
def Nw (P:Program) (g:bB) (rl:List bC) (pairs:List (Nat×Nat)) (s:List AV) (H:aA) (E:AV->List AV->aA->Prop):Prop:=
 ∃j Hs ss vs,(j,rl.length)∈pairs/\cV P g rl (some j) pairs s H Hs ss vs/\
 ∃r f azs p x H1,rl[j]?=some r/\r.op=.call f azs/\bH (ss j) r=true/\lL (f.eval g (ss j))=some p/\
  Sound P g p.1 (p.2.1++azs.map (Arg.eval g (ss j))++p.2.2) (Hs j) (.CD x) H1/\E x (ss j) H1
theorem Nw.mono {P:Program} {g:bB} {rl:List bC} {pairs:List (Nat×Nat)} {s:List AV} {H:aA} {E E':AV->List AV->aA->Prop} (h:Nw P g rl pairs s H E) (he:∀x s H,E x s H->E' x s H):Nw P g rl pairs s H E':=
 let⟨j,Hs,ss,vs,h1,h2,r,f,azs,p,x,H1,e1,e2,e3,e4,e5,e6⟩:=h
 ⟨j,Hs,ss,vs,h1,h2,r,f,azs,p,x,H1,e1,e2,e3,e4,e5,he _ _ _ e6⟩
def AW (n:Nat) (gK:List Nat) (i j:Nat):Bool:=decide (i<j)&&decide (j<n)&&(gK.getD j 0).testBit i
def TY (ri rj:bC):Bool:=
 (!ri.op.qE|| !rj.op.qE)&&
 (match ri.dst with|some d=> !(CQ rj).contains d&&rj.dst != some d|none=>true)&&
 (match rj.dst with|some d=> !(CQ ri).contains d|none=>true)
def aCi (r:bC):Bool:= !r.op.reads||r.op.args.all fun |.const v=>(BQ v).isNone|_=>true
def Th (ops:Array Oper) (rl:List bC) (gK:List Nat):Bool:=
 (List.range rl.length).all fun j=>
   match ops[j]?,rl[j]? with
   |some o,some rj=>
    o.after.toList.all (fun e=> !Region.binds .any e||decide (e.on<j))&&aCi rj&&
    (List.range j).all fun i=>
      if AW rl.length gK i j then o.after.toList.any fun e=>Region.binds .any e&&(e.on==i||AW rl.length gK i e.on)
      else match rl[i]? with
       |some ri=>TY ri rj
       |none=>false
   |_,_=>false
def Sm (rl:List bC) (gK:List Nat) (a b:Nat):Bool:=
 match rl[a]?,rl[b]? with
 |some ra,some rb=>rb.op.qE&&
  ((decide (a<b)&& !AW rl.length gK a b&&(ra.op.reads||ra.op.fresh))||(decide (b<a)&&(ra.op.fresh||(!AW rl.length gK b a&&ra.op.reads))))
 |_,_=>false
def aCj (rl:List bC) (gK:List Nat) (j:Nat):Bool:=
 match rl[j]? with
 |some r=>match r.op with
  |.call _ _=>(List.range rl.length).all fun k=>k==j||AW rl.length gK k j||AW rl.length gK j k
  |_=>false
 |none=>false
def kK (rl:List bC) (gK:List Nat):List (Nat×Nat):=
 (((List.range rl.length).flatMap fun a=>(List.range rl.length).map fun b=>(a,b)).filter fun p=>Sm rl gK p.1 p.2)++
 ((List.range rl.length).filter (aCj rl gK)).map fun j=>(j,rl.length)
theorem rX {rl:List bC} {gK:List Nat} {a b:Nat}:(a,b)∈kK rl gK↔(a<rl.length/\b<rl.length/\Sm rl gK a b=true)\/(b=rl.length/\aCj rl gK a=true/\a<rl.length):=by
 unfold kK;simp only[As,Ga,En,Bi,Bf,Aj];constructor
 · rintro(⟨⟨x,hx,y,hy,rfl,rfl⟩,h⟩|⟨x,⟨h1,h2⟩,rfl,rfl⟩)
   · exact .inl ⟨hx,hy,h⟩
   exact .inr ⟨rfl,h2,h1⟩
 rintro(⟨h1,h2,h3⟩|⟨rfl,h2,h3⟩)
 · exact .inl ⟨⟨a,h1,b,h2,rfl,rfl⟩,h3⟩
 exact .inr ⟨a,⟨h3,h2⟩,rfl,rfl⟩
theorem aa {rl:List bC} {gK:List Nat} {j:Nat} (h:(j,rl.length)∈kK rl gK):∀k,k<rl.length->(k<j->AW rl.length gK k j=true)/\(j<k->AW rl.length gK j k=true):=by
 rcases rX.1 h with ⟨_,h,_⟩|⟨_,h,_⟩
 · exact absurd h (Fe _)
 intro k hk;unfold aCj at h
 have h:(List.range rl.length).all (fun k=>k==j||AW rl.length gK k j||AW rl.length gK j k)=true:=by
  split at h
  · split at h
    · exact h
    cases h
  cases h
 have :=Ba.1 h k (Bi.2 hk);simp only[Dt,Dc] at this
 have ho:∀{a b:Nat},AW rl.length gK a b=true->a<b:=fun {a b} h=>by unfold AW at h;simp only[Am,Bh] at h;exact h.1.1
 constructor
 · intro hkj
   rcases this with (rfl|h)|h
   · omega
   · exact h
   have :=ho h;omega
 intro hkj
 rcases this with (rfl|h)|h
 · omega
 · have :=ho h;omega
 exact h
theorem Ro {ops:Array Oper} {rl:List bC} {gK:List Nat} (hn:rl.length=ops.size) (h:Th ops rl gK=true):tX ops rl (kK rl gK) (AW rl.length gK):=by
 unfold Th at h;rw[Ba] at h
 have hj:∀(j:Nat) (o:Oper) (rj:bC),ops[j]?=some o->rl[j]?=some rj->
  (o.after.toList.all (fun e=> !Region.binds .any e||decide (e.on<j))&&aCi rj&&
  (List.range j).all fun i=>
    if AW rl.length gK i j then o.after.toList.any fun e=>Region.binds .any e&&(e.on==i||AW rl.length gK i e.on)
    else match rl[i]? with
     |some ri=>TY ri rj
     |none=>false)=true:=fun j o rj ho hr=>by
  have :=h j (Bi.2 (Be.1 hr).1);rw[ho,hr] at this;exact this
 have AM:∀(j:Nat),j<rl.length->∃o rj,ops[j]?=some o/\rl[j]?=some rj:=fun j hj=>⟨ops[j]'(by omega),rl[j],by simp[show j<ops.size by omega],by simp[hj]⟩
 have bEn:∀i j ri rj,i<j->rl[i]?=some ri->rl[j]?=some rj->AW rl.length gK i j=false->TY ri rj=true:=fun i j ri rj AE hi wh ha=>by obtain⟨o,rj',ho,hr'⟩:=AM j (Be.1 wh).1;have :=hj j o rj ho wh;simp only[Am] at this;have :=Ba.1 this.2 i (Bi.2 AE);rw[ha,hi] at this;exact this
 refine⟨fun j o ho e he hb=>?_,fun i j ha=>?_,fun i j ri rj AE hi wh ha=>?_,fun i j ri rj AE hi wh he hf=>?_,fun j r hr hrd v hv=>?_⟩
 · obtain⟨o',rj,ho',hr⟩:=AM j (by rw[hn];exact(Cd.1 ho).1);have :=hj j o rj ho hr;simp only[Am] at this;have :=Ba.1 this.1.1 e (by simpa using he);rw[hb] at this;simpa using this
 · have ha':=ha;unfold AW at ha;simp only[Am,Bh] at ha;obtain⟨o,rj,ho,hr⟩:=AM j ha.1.2;have :=hj j o rj ho hr;simp only[Am] at this;have :=Ba.1 this.2 i (Bi.2 ha.1.1);rw[if_pos ha'] at this;obtain⟨e,he,hc⟩:=Cz.1 this;simp only[Am,Dt,Dc] at hc;exact⟨o,ho,e,by simpa using he,hc.1,hc.2⟩
 · have hap:=bEn i j ri rj AE hi wh ha;have wo:=(Be.1 hi).1;have hlj:=(Be.1 wh).1;unfold TY at hap;simp only[Am] at hap;obtain⟨⟨h1,h2⟩,h3⟩:=hap;refine⟨fun he=>?_,fun d hd=>?_,fun d hd=>?_,fun he hr=>?_,fun he hr=>?_⟩
   · rw[he] at h1;simpa using h1
   · rw[hd] at h2;simp only[Am,Ct,El] at h2;exact⟨fun hm=>by have :=h2.1;simp[hm] at this,h2.2⟩
   · rw[hd] at h3;simp only[Ct] at h3;exact fun hm=>by simp[hm] at h3
   · refine rX.2 (.inl ⟨wo,hlj,?_⟩);unfold Sm;rw[hi,wh];simp only[he,AE,ha,Gp,Fv,Ds,Cq,Dt];exact .inl hr
   refine rX.2 (.inl ⟨hlj,wo,?_⟩);unfold Sm;rw[hi,wh];simp[he,AE,ha,hr]
 · have wo:=(Be.1 hi).1;have hlj:=(Be.1 wh).1;refine rX.2 (.inl ⟨hlj,wo,?_⟩);unfold Sm;rw[hi,wh];simp[he,AE,hf]
 obtain⟨o,rj',ho,_⟩:=AM j (Be.1 hr).1;have :=hj j o r ho hr;simp only[Am] at this;have :=this.1.2;unfold aCi at this;rw[hrd] at this;simp only[Hq,Bool.false_or] at this;have :=Ba.1 this _ hv;simpa using this
theorem sj {rl:List bC} {gK:List Nat}:∀i e,(i,e)∈kK rl gK->∀re,rl[e]?=some re->re.op.qE=true:=fun i e h re wu=>by
 rcases rX.1 h with ⟨_,_,this⟩|⟨rfl,_⟩
 rotate_left
 · rw[Bw (Ak _)] at wu;cases wu
 unfold Sm at this;rw[wu] at this
 cases hi:rl[i]? with
 |none=>rw[hi] at this;cases this
 |some ri=>rw[hi] at this;simp only[Am] at this;exact this.1
def bV.nd:bV->Bool
 |.ops rl=>rl.all fun r=>match r.op with|.jY _ _=>false|_=>true
 |.seq a b|.cond _ a b=>a.nd&&b.nd
 |.block _ a|.loop a=>a.nd
 |.oE _ _ _ _=>false
 |_=>true
def eD (P:Program) (g:bB) (mu:Bool):Code->Option bV
 |.skip=>some .skip
 |.label _=>some .skip
 |.region _ ops false=>(gM P g mu ops ops.toList).map .ops
 |.region _ ops true=>match gM P g mu ops ops.toList with
  |some rl=>if Th ops rl (Region.before ops).toList then some (.draw rl (kK rl (Region.before ops).toList)) else none
  |none=>none
 |.seq a b=>match eD P g mu a,eD P g mu b with
  |some x,some y=>some (.seq x y)
  |_,_=>none
 |.cond c a b=>match bE g c,eD P g mu a,eD P g mu b with
  |some z,some x,some y=>some (.cond z x y)
  |_,_,_=>none
 |.block id a=>(eD P g mu a).map (.block id)
 |.loop a=>(eD P g mu a).map .loop
 |.scope a=>eD P g mu a
 |.exit id=>some (.exit id)
 |.ret=>some .ret
 |.rangeFunc c ps x y=>match bE g c,eD P g mu x,eD P g mu y with
  |some c',some x',some y'=>if x'.nd&&y'.nd then some (.oE c' ps.toList x' y') else none
  |_,_,_=>none
 |_=>none
def aEu (next:List AV->List fY->aA->Prop) (Q:AQ):AQ
 |.normal,s,ds,H=>next s ds H
 |e,s,ds,H=>Q e s ds H
def pS (id:Nat) (Q:AQ):AQ
 |.exit i,s,ds,H=>if i=id then Q .normal s ds H else Q (.exit i) s ds H
 |e,s,ds,H=>Q e s ds H
def pX (s:List AV):List (Nat×AV)->List AV
 |[]=>s
 |(t,v)::r=>pX (s.set t v) r
def Xa (id:Nat) (out:Out) (H3:aA):AQ
 |.normal,_,ds,H=>ds=[]/\out=.ret (.bool true)/\∃k sn,H.get id=some (.loop k sn .busy)/\H3=H.set id (.loop k sn .ready)
 |.ret,_,ds,H=>ds=[]/\out=.ret (.bool false)/\∃k sn,H.get id=some (.loop k sn .busy)/\H3=H.set id (.loop k sn (.done .ret))
 |.exit i,_,ds,H=>ds=[]/\out=.ret (.bool false)/\∃k sn,H.get id=some (.loop k sn .busy)/\H3=H.set id (.loop k sn (.done (.exit i)))
 |.panic _,_,_,_=>False
def aHq (st:LSt) (sn:List AV) (ds:List fY) (H:aA) (Q:AQ):Prop:=
 match st with
 |.ready=>Q .normal sn ds H
 |.done .ret=>Q .ret sn ds H
 |.done (.exit i)=>Q (.exit i) sn ds H
 |_=>False
def xN (He:aA) (id:Nat) (Hf:aA):Prop:=Hf.next=He.next/\∀m,Hf.get m=if m=id then some .dead else He.get m
def AC (P:Program) (g:bB):bV->List AV->List fY->aA->AQ->Prop
 |.skip,s,ds,H,Q=>Q .normal s ds H
 |.ops rl,s,ds,H,Q=>tW P g rl s ds H Q
 |.draw rl pairs,s,ds,H,Q=>(VU P g rl pairs s H fun s' H'=>Q .normal s' ds H')\/Nw P g rl pairs s H fun x s' H'=>Q (.panic x) s' ds H'
 |.seq a b,s,ds,H,Q=>AC P g a s ds H (aEu (fun s ds H=>AC P g b s ds H Q) Q)
 |.cond c a b,s,ds,H,Q=>∃t,c.eval g s=.bool t/\if t then AC P g a s ds H Q else AC P g b s ds H Q
 |.block id a,s,ds,H,Q=>AC P g a s ds H (pS id Q)
 |.loop a,s,ds,H,Q=>∃(I:Nat->List AV->List fY->aA->Prop) (n:Nat),I n s ds H/\
   ∀n s ds H,I n s ds H->AC P g a s ds H (aEu (fun s ds H=>∃m,m<n/\I m s ds H) Q)
 |.exit id,s,ds,H,Q=>Q (.exit id) s ds H
 |.ret,s,ds,H,Q=>Q .ret s ds H
 |.oE c ps MK body,s,ds,H,Q=>∃fid fs cs v He k' s' st Hf,c.eval g s=.func (.func fid) fs cs/\
   Sound P g fid (fs++[.yield (H.next+1)]++cs) ((H.alloc .MO).alloc (.loop ⟨ps,MK,body⟩ s .ready)) (.ret v) He/\He.get (H.next+1)=some (.loop k' s' st)/\xN He (H.next+1) Hf/\
   aHq st s (.mark H.next::ds) Hf Q
def Nx (P:Program) (g:bB) (k:LD) (s:List AV) (id:Nat) (args:List AV) (H2:aA) (out:Out) (H3:aA):Prop:=
 AC P g k.MK (pX s (k.ps.zip args)) [] H2 fun e s1 pQ H1=>match e with
  |.normal=>pQ=[]/\∃k1 jz,H1.get id=some (.loop k1 jz .ready)/\AC P g k.body s1 [] (H1.set id (.loop k1 jz .busy)) (Xa id out H3)
  |_=>False
structure Fit (P:Program) (g:bB):Prop where
 mixed:P.follows .mixedOrders=true
 lok:∀k r,g.lok k r↔(r.params.toList=k.ps/\∃mu,eD P g mu r.assign=some k.MK/\eD P g mu r.body=some k.body/\k.MK.nd=true/\k.body.nd=true)
noncomputable def UM (p:Nat->Prop) (h:∃n,p n):Nat:=
 Classical.choose (show ∃n,p n/\∀m,p m->n<=m from by
  obtain⟨n,hn⟩:=h
  induction n using Nat.strongRecOn with
  |_ n ih=>
   by_cases hc:∃m,m<n/\p m
   · obtain⟨m,hm,hp⟩:=hc;exact ih m hm hp
   exact⟨n,hn,fun m hm=>Jd fun eQ=>hc ⟨m,eQ,hm⟩⟩)
theorem Mq (p:Nat->Prop) (h:∃n,p n):p (UM p h)/\∀m,p m->UM p h<=m:=Jb (UM._proof_1 p h)
theorem Xw {F:Fence} {n:Nat} {P:Program} {c:Code} {Q:Exit->Act->World->Prop} {a:Act} {w:World} (h:c.wpIn F n P Q a w) (hg:∀l a w,¬Q (.goto l) a w):(Code.scope c).wpIn F n P Q a w:=by
 intro b k cs AM hb hr;obtain⟨e,a',w',hq,GB⟩:=h b (.inScope c::k) cs AM hb hr;have h1:step P (lone (b.atR a (.code (.scope c)::k)) cs w)=.next (lone (b.atR a (.code c::.inScope c::k)) cs w):=step_lone_go (by simp[stepG,stepG.exec,Frame.atR]);have h2:∀a w,step P (lone (b.atR a (.inScope c::k)) cs w)=.next (lone (b.atR a k) cs w):=fun a w=>step_lone_go (by simp[stepG,stepG.exec,Frame.atR]);refine⟨e,a',w',hq,.of_steps (.one (fenced_calm hb hr rfl) h1) ?_⟩
 cases e with
 |normal=>exact StepsIn.trans GB (.one (fenced_calm hb hr rfl) (h2 a' w'))
 |exit id=>exact⟨fun k' hk=>GB.1 k' (by simpa [exitTo] using hk),fun hr hk=>GB.2 hr (by simpa [exitTo] using hk)⟩
 |goto l=>exact(hg l a' w' hq).elim
 |ret=>exact GB
 |panic ch=>exact GB
 |outgrown=>exact GB
theorem Xv {F:Fence} {n0:Nat} {P:Program} {Q:Exit->Act->World->Prop} {c:Code} (I:Nat->Act->World->Prop) {n:Nat} {a:Act} {w:World} (h0:I n a w)
 (round:∀n a w,I n a w->c.wpIn F n0 P (Exit.then (fun a' w'=>∃m,m<n/\I m a' w') Q) a w):(Code.loop c).wpIn F n0 P Q a w:=by
 classical
 refine wpIn_loop (fun a' w'=>∃m,I m a' w') (fun a' w'=>if h:∃m,I m a' w' then UM (fun m=>I m a' w') h else 0) ⟨n,h0⟩ fun a' w' hI=>?_;have NP:=Mq (fun m=>I m a' w') hI;refine wpIn_mono (round _ a' w' NP.1) fun e a1 w1 hq=>?_
 cases e with
 |normal=>obtain⟨m,hm,h1⟩:=hq;have hI1:∃m,I m a1 w1:=⟨m,h1⟩;refine⟨hI1,?_⟩;rw[dif_pos hI1,dif_pos hI];exact Er ((Mq (fun m=>I m a1 w1) hI1).2 m h1) hm
 |_=>exact hq
theorem QR.aHt {g:bB} {G:Gh} {H:aA} {w:World} {Q:AQ} {l:Nat} {a:Act} {w':World}:¬QR g G H w Q (.goto l) a w':=by rintro⟨ae,s',fC,H',G',_,_,_,_,_,hx⟩;cases ae<;>exact hx.elim
theorem AN {P:Program} {g:bB} {mu:Bool} (hm:Fit P g):∀(c:Code) (ro:Option Nat) (ac:bV),eD P g mu c=some ac->(ro=none\/ac.nd=true)->∀(s:List AV) (ds:List fY) (G:Gh) (H:aA) (w:World) (a:Act) (Q:AQ),
 AC P g ac s ds H Q->WR g G H w->SR G w s a->TO G w ds a.defers->c.wpIn (Fw ro) 0 P (QR g G H w Q) a w:=by
 intro c
 induction c with
 |skip=>intro ro ac hc AM s ds G H w a Q h hw hs hd;simp only[eD,Ac] at hc;subst hc;exact wpIn_skip ⟨.normal,s,ds,H,G,h,hw,Ext.refl G H w,hs,hd,trivial⟩
 |label l=>intro ro ac hc AM s ds G H w a Q h hw hs hd;simp only[eD,Ac] at hc;subst hc;exact wpIn_label ⟨.normal,s,ds,H,G,h,hw,Ext.refl G H w,hs,hd,trivial⟩
 |region id ops draw=>
  intro ro ac hc AM s ds G H w a Q h hw hs hd
  cases draw with
  |false=>
   simp only[eD,Ag] at hc;obtain⟨rl,Wf,rfl⟩:=hc;refine wpIn_region ?_
   have :=FF (ro:=ro) ops.toList rl 0 Wf (fun j hj=>by simp) (AM.imp (fun h=>h) fun h r hr f azs e=>by
    have :=Ba.1 h r hr
    rw[e] at this;cases this) s ds G H w a Q h hw hs hd
   rw[Dh] at this
   rwa [Kv]
  |true=>
   simp only[eD] at hc;split at hc
   · rename_i rl Wf;split at hc
     · rename_i HI;obtain rfl:=Aa hc;have hn:rl.length=ops.size:=by simpa using(yN _ _ Wf).1
       rcases h with h|⟨j,Hs,ss,vs,h1,D,h2⟩
       · obtain⟨Hs,ss,vs,D,hQ⟩:=VU.run h sj;exact Of hm.mixed Wf D (Ro hn HI) hw hs hd (fun _=>hQ) (fun j h=>by cases h)
       exact Of hm.mixed Wf D (Ro hn HI) hw hs hd (fun h=>by cases h) (fun k hk=>by cases hk;exact⟨aa h1,h2⟩)
     cases hc
   cases hc
 |seq x y ihx ihy=>
  intro ro ac hc AM s ds G H w a Q h hw hs hd;simp only[eD] at hc;split at hc
  · rename_i ax ay hax hay;obtain rfl:=Aa hc;refine wpIn_seq (wpIn_mono (ihx ro ax hax (AM.imp (fun h=>h) fun h=>(Am _ _▸h).1) s ds G H w a _ h hw hs hd) fun e a' w' hq=>?_);obtain⟨ae,s',fC,H',G',q,jS,he,EG,rR,hx⟩:=hq
    cases e with
    |normal=>
     cases ae with
     |normal=>exact wpIn_mono (ihy ro ay hay (AM.imp (fun h=>h) fun h=>(Am _ _▸h).2) s' fC G' H' w' a' Q q jS EG rR) fun _ _ _ hq=>QR.trans he hq
     |_=>exact hx.elim
    |_=>
     cases ae with
     |normal=>exact hx.elim
     |_=>exact⟨_,s',fC,H',G',q,jS,he,EG,rR,hx⟩
  cases hc
 |cond c x y ihx ihy=>
  intro ro ac hc AM s ds G H w a Q h hw hs hd;simp only[eD] at hc;split at hc
  · rename_i az ax ay haz hax hay;obtain rfl:=Aa hc;obtain⟨t,ht,h⟩:=h;have hv:=bD hw hs haz;rw[ht] at hv;refine wpIn_cond hv.jJ ?_
    cases t with
    |true=>exact ihx ro ax hax (AM.imp (fun h=>h) fun h=>(Am _ _▸h).1) s ds G H w a Q h hw hs hd
    |false=>exact ihy ro ay hay (AM.imp (fun h=>h) fun h=>(Am _ _▸h).2) s ds G H w a Q h hw hs hd
  cases hc
 |block id x ih=>
  intro ro ac hc AM s ds G H w a Q h hw hs hd;simp only[eD,Ag] at hc;obtain⟨ax,hax,rfl⟩:=hc;refine wpIn_block (wpIn_mono (ih ro ax hax AM s ds G H w a _ h hw hs hd) fun e a' w' hq=>?_);obtain⟨ae,s',fC,H',G',q,jS,he,EG,rR,hx⟩:=hq
  cases ae with
  |exit i=>
   cases e with
   |exit i'=>
    obtain rfl:i=i':=hx;simp only[pS] at q;simp only[Exit.inBlock];split
    · rename_i hi;rw[if_pos hi] at q;exact⟨.normal,s',fC,H',G',q,jS,he,EG,rR,trivial⟩
    rename_i hi;rw[if_neg hi] at q;exact⟨.exit i,s',fC,H',G',q,jS,he,EG,rR,rfl⟩
   |_=>exact hx.elim
  |normal=>
   cases e with
   |normal=>exact⟨.normal,s',fC,H',G',q,jS,he,EG,rR,trivial⟩
   |_=>exact hx.elim
  |ret=>
   cases e with
   |ret=>exact⟨.ret,s',fC,H',G',q,jS,he,EG,rR,trivial⟩
   |_=>exact hx.elim
  |panic v=>
   cases e with
   |panic ch=>exact⟨.panic v,s',fC,H',G',q,jS,he,EG,rR,hx⟩
   |_=>exact hx.elim
 |loop x ih=>
  intro ro ac hc AM s ds G H w a Q h hw hs hd;simp only[eD,Ag] at hc;obtain⟨ax,hax,rfl⟩:=hc;obtain⟨I,n,h0,hI⟩:=h;refine Xv (fun n a' w'=>∃s' fC H' G',I n s' fC H'/\WR g G' H' w'/\Ext G H w G' H' w'/\SR G' w' s' a'/\TO G' w' fC a'.defers) ⟨s,ds,H,G,h0,hw,Ext.refl G H w,hs,hd⟩ fun n a1 w1 hi=>?_;obtain⟨s1,pQ,H1,G1,hi,Nd,VG,hs1,ow⟩:=hi;refine wpIn_mono (ih ro ax hax AM s1 pQ G1 H1 w1 a1 _ (hI n s1 pQ H1 hi) Nd hs1 ow) fun e a' w' hq=>?_;obtain⟨ae,s',fC,H',G',q,jS,he,EG,rR,hx⟩:=hq
  cases e with
  |normal=>
   cases ae with
   |normal=>obtain⟨m,hm,oY⟩:=q;exact⟨m,hm,s',fC,H',G',oY,jS,VG.trans he,EG,rR⟩
   |_=>exact hx.elim
  |_=>
   cases ae with
   |normal=>exact hx.elim
   |_=>exact⟨_,s',fC,H',G',q,jS,VG.trans he,EG,rR,hx⟩
 |scope x ih=>intro ro ac hc AM s ds G H w a Q h hw hs hd;exact Xw (ih ro ac hc AM s ds G H w a Q h hw hs hd) fun l a w=>QR.aHt
 |exit id=>intro ro ac hc AM s ds G H w a Q h hw hs hd;simp only[eD,Ac] at hc;subst hc;exact wpIn_exit ⟨.exit id,s,ds,H,G,h,hw,Ext.refl G H w,hs,hd,rfl⟩
 |ret=>intro ro ac hc AM s ds G H w a Q h hw hs hd;simp only[eD,Ac] at hc;subst hc;exact wpIn_ret ⟨.ret,s,ds,H,G,h,hw,Ext.refl G H w,hs,hd,trivial⟩
 |rangeFunc c ps x y ihx ihy=>
  intro ro ac hc AM s ds G H w a Q h hw hs hd;simp only[eD] at hc;split at hc
  · rename_i c' ax ay hc' hax hay;split at hc
    · rename_i RM;obtain rfl:=Aa hc;rw[Am] at RM
      obtain rfl:ro=none:=AM.resolve_right fun h=>by cases h
      obtain⟨fid,fs,cs,v,He,k',s',st,Hf,hcv,hS,HJ,aLg,hQ⟩:=h;have hvc:=bD hw hs hc';rw[hcv] at hvc;obtain⟨fsv,csv,hfv,h1,h2⟩:=FP (p:=(fid,fs,cs)) rfl hvc;refine wpIn_rangeFunc fun fn _=>?_;obtain⟨r,hr⟩:∃r:Loop,r={state:=.ready,pending:=none,fn,tmps:=a.tmps,params:=ps,assign:=x,body:=y,defers:=w.heap.size}:=⟨_,rfl⟩;have hrr:nA r .ready=r:=by rw[hr];rfl
      have fresh:∀{G:Gh} {H:aA} {w:World},WR g G H w->G.loc H.next=none:=fun {G H w} hw=>by
       cases hl:G.loc H.next with
       |none=>rfl
       |some l'=>exact absurd (hw.lt _ _ hl) (Fe _)
      have m1:=hw.DP H.next .MO (.deferred (some [])) rfl (fresh hw) (aA.aF H _) (Hb _) (Ew _) (w':=w.alloc (.deferred (some []))) ⟨rfl,.now⟩ (fun _=>by show(w.heap.push _)[w.heap.size]?=_;simp);have sR:SR (G.dS H.next ⟨w.heap.size,0,0,1⟩) (w.alloc (.deferred (some []))) s a:=hs.ext (m1.ext (Ext.refl G H w) (Ak _))
      have m2:=m1.rel.DP (H.alloc .MO).next (.loop ⟨ps.toList,ax,ay⟩ s .ready) (.loop r) rfl (fresh m1.rel) (aA.aF _ _) (Hb _) (Ew _) (w':=(w.alloc (.deferred (some []))).alloc (.loop r)) ⟨rfl,.now⟩ (fun hmv=>by
       refine⟨r,(hm.lok _ _).2 ⟨by rw[hr],mu,by rw[hr];exact hax,by rw[hr];exact hay,RM.1,RM.2⟩,by rw[hrr];exact EA (w.heap.push (.deferred (some []))) (.loop r),?_⟩;have hrt:r.tmps=a.tmps:=(by rw[hr]);rw[hrt]
       exact⟨sR.1,fun j hj=>hmv _ _ (sR.2 j hj)⟩)
      have e2:=m2.ext (m1.ext (Ext.refl G H w) (Ak _)) (Hb _);obtain⟨G2,hG2⟩:∃G2,G2=(G.dS H.next ⟨w.heap.size,0,0,1⟩).dS (H.alloc .MO).next ⟨(w.alloc (.deferred (some []))).heap.size,0,0,1⟩:=⟨_,rfl⟩
      have hL:G2.loc (H.next+1)=some ⟨w.heap.size+1,0,0,1⟩:=by rw[hG2];show(if H.next+1=H.next+1 then some (⟨(w.heap.push _).size,0,0,1⟩:Loc) else _)=_;simp
      have hD:G2.loc H.next=some ⟨w.heap.size,0,0,1⟩:=by rw[hG2];show(if H.next=H.next+1 then _ else if H.next=H.next then some (⟨w.heap.size,0,0,1⟩:Loc) else _)=_;rw[if_neg (by omega),if_pos rfl]
      have uY:=m2.rel;rw[<-hG2] at uY e2;have bEs:True:=trivial
      refine⟨w.heap.size+1,[{target:=.collected w.heap.size,args:= #[]}],_,{target:=.fn (.func fid) csv.toArray,args:=fsv.toArray++ #[.func (.yield (w.heap.size+1)) #[] #[]]},(w.alloc (.deferred (some []))).alloc (.loop {state:=.ready,pending:=none,fn,tmps:=a.tmps,params:=ps,assign:=x,body:=y,defers:=w.heap.size}),fid,_,_,
       run_enterLoop_outer _ _ _ _ _,?_,fun _ _=>trivial,nR hS.1 _ _ _,BZ,?_⟩
      · simp only[resolve,rangeCall,hfv];simp[Deferred.ofValue,Act.eval]
      rw[<-hr]
      have fP:gI G2 ((w.alloc (.deferred (some []))).alloc (.loop r)) (fs++[.yield (H.next+1)]++cs) (fsv++[.func (.yield (w.heap.size+1)) #[] #[]]++csv):=
       ((h1.ext e2).append ((VR.yield (H.next+1) _ hL).cons (gI.nil _ _))).append (h2.ext e2)
      have ES:=hS.2 G2 _ _ uY fP;rw[show(fsv++[Value.func (.yield (w.heap.size+1)) #[] #[]]++csv).toArray=(fsv.toArray++ #[.func (.yield (w.heap.size+1)) #[] #[]])++csv.toArray by apply Fq;simp] at ES;refine(OQ ES).mono fun e w3 he=>?_;obtain⟨G3,hw3,o6,tI⟩:=he
      cases e with
      |panicked _=>exact tI.elim
      |outgrown=>exact tI.elim
      |returned u=>
       have hl3:=o6.loc _ _ hL;obtain⟨_,_,r3,bFg,hb3,aXf⟩:=hw3.gZ _ _ _ hl3 HJ rfl;have aQz:=e2.trans o6
       have fin:∀(p:Option LEx),(nA r3 st).pending=p.map LEx.code->(nA r3 st).state≠ .busy->∃w4,(Instr.endLoop (w.heap.size+1)).run P w3=.ok (p.map LEx.code) w4/\
        WR g G3 Hf w4/\Ext G H w G3 Hf w4:=by
        intro p hp hb
        have h5:(Instr.endLoop (w.heap.size+1)).run P w3=.ok (p.map LEx.code) (w3.putObj (w.heap.size+1) (.loop {nA r3 st with state:=.exhausted})):=by have h5:=run_endLoop (P:=P) hb3 hb;rw[h5];exact Ao (fun q=>Result.ok q _) hp
        obtain⟨q1,q2⟩:=hw3.GW (o':=.loop k' s' (.over p)) (x:=.loop {nA r3 st with state:=.exhausted}) (w':=w3.putObj (w.heap.size+1) (.loop {nA r3 st with state:=.exhausted})) hl3 HJ rfl rfl rfl .now (fun hmv xI=>⟨r3,bFg,by
         rw[xI];congr 2
         cases st<;>simp only[nA] at hp ⊢ <;>rw[hp],⟨aXf.1,fun j hj=>hmv _ _ (aXf.2 j hj)⟩⟩)
        have hg:∀m,Hf.get m=((He.set (H.next+1) (.loop k' s' (.over p))).set (H.next+1) .dead).get m:=fun m=>by rw[aLg.2,aA.aC,aA.aC];split<;>rfl
        have hn:Hf.next=((He.set (H.next+1) (.loop k' s' (.over p))).set (H.next+1) .dead).next:=aLg.1;exact⟨_,h5,(q1.kill (H.next+1)).oC (fun m _ _=>hg m) (by omega),((aQz.trans q2).kill (H.next+1)).oC (fun m _ _=>hg m) (by omega)⟩
       have nv:∀{H4:aA} {w4:World},Ext G H w G3 H4 w4->SR G3 w4 s {a with defers:=[{target:=.collected w.heap.size,args:= #[]}]++a.defers}/\
        TO G3 w4 (.mark H.next::ds) ([{target:=.collected w.heap.size,args:= #[]}]++a.defers):=fun {H4 w4} ex=>
        ⟨hs.ext ex,⟨_,o6.loc _ _ hD,rfl⟩,hd.ext ex⟩
       cases st with
       |ready=>obtain⟨w4,h5,q1,q2⟩:=fin none rfl (by simp[nA]);exact⟨none,w4,h5,.normal,s,_,_,G3,hQ,q1,q2,(nv q2).1,(nv q2).2,trivial⟩
       |done e=>
        obtain⟨w4,h5,q1,q2⟩:=fin (some e) rfl (by simp[nA]);refine⟨_,w4,h5,?_⟩
        cases e with
        |ret=>exact wpIn_ret ⟨.ret,s,_,_,G3,hQ,q1,q2,(nv q2).1,(nv q2).2,trivial⟩
        |exit i=>exact wpIn_exit ⟨.exit i,s,_,_,G3,hQ,q1,q2,(nv q2).1,(nv q2).2,rfl⟩
       |busy=>exact hQ.elim
       |over _=>exact hQ.elim
    cases hc
  cases hc
 |_=>intro ro ac hc;simp[eD] at hc
theorem LL {P:Program} {g:bB} (hm:Fit P g) {id:Nat} {k:LD} {s args:List AV} {H2 H3:aA} {out:Out} (cG:H2.get id=some (.loop k s .ready)) (hlen:args.length=k.ps.length)
 (hA:Nx P g k s id args H2 out H3):sK P g id args H2 out H3:=by
 intro G' w' vs l' jS hv oS;obtain⟨_,_,r,hlk,hblk,hsn⟩:=jS.gZ _ l' _ oS cG rfl;obtain⟨hrp,mu,hax,hay,RM⟩:=(hm.lok _ _).1 hlk;have p9:=hv.1;have hy:=run_yield (P:=P) (args:=vs.toArray) hblk (by rw[<-p9] at hlen;show vs.toArray.size=r.params.size;rw[<-Dh (xs:=r.params),hrp];simpa using hlen);refine⟨_,_,_,_,hy,roundIn_of_wpIn trivial ?_⟩
 have hS1:SR G' w' (pX s (k.ps.zip args)) {tmps:=(r.params.zip vs.toArray).foldl (fun tmps (t,a)=>tmps.setIfInBounds t a) r.tmps,defers:=[]}:=by
  have key:∀(l:List Nat) (azs:List AV) (us:List Value) (s0:List AV) (tm:Array Value),gI G' w' azs us->gI G' w' s0 tm.toList->
   gI G' w' (pX s0 (l.zip azs)) ((l.zip us).foldl (fun tmps (t,a)=>tmps.setIfInBounds t a) tm).toList:=by
   intro l
   induction l with
   |nil=>intro azs us s0 tm _ h0;simpa [pX] using h0
   |cons t l ih=>
    intro azs us s0 tm ha h0
    cases azs with
    |nil=>have :=ha.1;simp only[Ay,Fy] at this;subst this;simpa [pX] using h0
    |cons v azs=>
     cases us with
     |nil=>have :=ha.1;simp at this
     |cons u us=>have Qq:=ha.2 0 (by simp);simp only[Ci] at Qq;have ta:gI G' w' azs us:=⟨by have :=ha.1;simpa using this,fun j hj=>by have :=ha.2 (j+1) (by simpa using hj);simpa using this⟩;simp only[List.zip_cons_cons,pX,Jm];refine ih azs us _ _ ta ?_;exact(SR.put (a:={tmps:=tm,defers:=[]}) h0 (some t) Qq:_)
  have :=key k.ps args vs s r.tmps hv hsn;show gI G' w' _ _;rw[<-Array.foldl_toList,Array.toList_zip,hrp];exact this
 refine wpIn_mono (AN hm _ (some l'.cS) _ hax (.inr RM.1) _ [] G' H2 w' _ _ hA jS hS1 trivial) fun e a1 w1 hq=>?_;obtain⟨ae,s1,pQ,H1,G1,q,Nd,VG,hs1,ow,hx⟩:=hq
 cases ae with
 |normal=>
  cases e with
  |normal=>
   obtain⟨VF,k1,jz,aLb,Ot⟩:=q;subst VF;have xE:=VG.loc _ _ oS;obtain⟨_,_,r1,bFf,tR,aXe⟩:=Nd.gZ _ _ _ xE aLb rfl;obtain⟨q1,q2⟩:=Nd.GW (o':=.loop k1 jz .busy) (x:=.loop {nA r1 .ready with state:=.busy}) (w':=w1.putObj l'.cS (.loop {nA r1 .ready with state:=.busy})) xE aLb rfl rfl rfl .now (fun hmv xI=>⟨r1,bFf,xI,⟨aXe.1,fun j hj=>hmv _ _ (aXe.2 j hj)⟩⟩);refine⟨_,run_beginRound tR rfl,?_⟩
   have bEp:a1.defers=[]:=by
    cases oz:a1.defers with
    |nil=>rfl
    |cons d r=>rw[oz] at ow;exact ow.elim
   refine wpIn_mono (AN hm _ (some l'.cS) _ hay (.inr RM.2) s1 [] G1 _ _ a1 _ Ot q1 (hs1.ext q2) (by rw[bEp];trivial)) fun e a2 w3 hq=>?_;obtain⟨ae,s2,RD,H4,G4,q,hw4,he4,hs4,hd4,hx⟩:=hq;have aQz:=(VG.trans q2).trans he4;have hl4:=(q2.trans he4).loc _ _ xE
   have fin:∀(st:LSt) (b:Bool) (jump:Option Code),(∃k4 sn4,H4.get id=some (.loop k4 sn4 .busy)/\H3=H4.set id (.loop k4 sn4 st))->out=.ret (.bool b)->jump.isNone=b->
    (∀r q:Loop,q=nA r .busy->{q with state:=if jump.isNone then .ready else .done,pending:=jump}=nA r st)->
    ∃v w5,(Instr.endRound l'.cS jump).run P w3=.ok v w5/\∃G'',WR g G'' H3 w5/\Ext G' H2 w' G'' H3 w5/\YU G'' w5 out (.returned v):=by
    intro st b jump ⟨k4,sn4,hg4,h3⟩ ho hj RJ;obtain⟨_,_,r4,bFh,hb4,aXg⟩:=hw4.gZ _ _ _ hl4 hg4 rfl;have h6:=run_endRound (P:=P) jump hb4;rw[RJ r4 _ rfl] at h6;obtain⟨p1,p2⟩:=hw4.GW (o':=.loop k4 sn4 st) (x:=.loop (nA r4 st)) (w':=w3.putObj l'.cS (.loop (nA r4 st))) hl4 hg4 rfl rfl rfl .now (fun hmv xI=>⟨r4,bFh,xI,⟨aXg.1,fun j hj=>hmv _ _ (aXg.2 j hj)⟩⟩);refine⟨_,_,h6,G4,by rw[h3];exact p1,by rw[h3];exact aQz.trans p2,?_⟩;rw[ho,hj];exact .bool b
   cases ae with
   |normal=>
    cases e with
    |normal=>obtain⟨_,ho,hg4⟩:=q;exact fin .ready true none hg4 ho rfl (fun r q hq=>by subst hq;rfl)
    |_=>exact hx.elim
   |ret=>
    cases e with
    |ret=>obtain⟨_,ho,hg4⟩:=q;exact fin (.done .ret) false (some .ret) hg4 ho rfl (fun r q hq=>by subst hq;rfl)
    |_=>exact hx.elim
   |exit i=>
    cases e with
    |exit j=>obtain rfl:i=j:=hx;obtain⟨_,ho,hg4⟩:=q;exact fin (.done (.exit i)) false (some (.exit i)) hg4 ho rfl (fun r q hq=>by subst hq;rfl)
    |_=>exact hx.elim
   |panic v=>exact q.elim
  |_=>exact hx.elim
 |_=>exact q.elim
inductive HM where
 |tmp (t:Nat)
 |cell (a:Nat) (agg:Bool) (n:Nat)
def zg (P:Program):ResultVar->Option HM
 |.tmp t=>some (.tmp t)
 |.cell a t=>match fG P t,jV P t with
  |some agg,some n=>some (.cell a agg n)
  |_,_=>none
def yJ (P:Program):List ResultVar->Option (List HM)
 |[]=>some []
 |x::r=>match zg P x,yJ P r with
  |some y,some ys=>some (y::ys)
  |_,_=>none
def tw (s:List AV) (H:aA):HM->Option AV
 |.tmp t=>some (s.getD t aD)
 |.cell a agg n=>match dK (Arg.eval g0 s) H (.load agg n (.tmp a)) with
  |some (v,_)=>some v
  |none=>none
def mF (s:List AV) (H:aA):List HM->Option (List AV)
 |[]=>some []
 |x::r=>match tw s H x,mF s H r with
  |some v,some vs=>some (v::vs)
  |_,_=>none
def pY:List AV->AV
 |[v]=>v
 |vs=>.gP vs
structure DY where
 ntmps:Nat
 results:List HM
 body:bV
def fN (P:Program) (g:bB) (mu:Bool) (f:FuncId) (F:DY):Prop:=
 ∃fn c,P.funcs[f]?=some fn/\fn.body=some c/\(fn.name== "runtime.NumGoroutine")=false/\eD P g mu c=some F.body/\fn.ntmps=F.ntmps/\yJ P fn.results.toList=some F.results
theorem fN.ok {P:Program} {g:bB} {mu:Bool} {f:FuncId} {F:DY} (h:fN P g mu f F):tZ P f:=
 let⟨fn,c,h1,h2,h3,_⟩:=h
 ⟨fn,h1,by rw[h2];rfl,h3⟩
def sW (F:DY) (args:List AV):List AV:=args++List.replicate (F.ntmps -args.length) aD
def aJl (F:DY) (R:Out->aA->Prop):AQ
 |.normal,s,ds,H|.ret,s,ds,H=>ds=[]/\∃vs,mF s H F.results=some vs/\R (.ret (pY vs)) H
 |.panic v,_,ds,H=>ds=[]/\R (.CD v) H
 |.exit _,_,_,_=>False
theorem aDu {P:Program} {g:bB} {G:Gh} {H:aA} {w:World} {s:List AV} {a:Act} {x:Nat} {t:TypeId} {agg:Bool} {n:Nat} (hag:fG P t=some agg) (jA:jV P t=some n)
 {v:AV} {H':aA} (hw:WR g G H w) (hs:SR G w s a) (h:dK (Arg.eval g0 s) H (.load agg n (.tmp x))=some (v,H')):
 ∃ad u,a.tmps.getD x undef=.pointer (some ad)/\(loadVar t ad).run P w=.ok u w/\VR G w v u:=by
 have vx:=hs.getD x
 have fin:∀(b o':Nat) (cs:List AV),a.tmps.getD x undef=.pointer (some ⟨b,o',none⟩)->n=cs.length->(∀c∈cs,c.one=true)->(agg=false->n=1)->
  (∀j,j<n->∃u,w.cell? ⟨b,o'+j,none⟩=some u/\VR G w (cs.getD j aD) u)->
  ∃ad u,a.tmps.getD x undef=.pointer (some ad)/\(loadVar t ad).run P w=.ok u w/\VR G w (if agg then .agg cs else cs.getD 0 aD) u:=by
  intro b o' cs he hl h1 hn hc;obtain⟨u,hr,hv⟩:=KG (P:=P) hag jA hl h1 hn hc;exact⟨_,u,he,hr,hv⟩
 simp only[dK,Arg.eval] at h;generalize eB:a.tmps.getD x undef=xv at vx fin;split at h
 · rename_i id off hid;rw[hid] at vx;split at h
   · rename_i cs KT;obtain⟨opn,hg⟩:=aA.pK KT;split at h
     · rename_i gD
       cases vx with
       |ref _ _ l hl=>
        have h4:=(hw.cells id l cs opn hl hg).2.2.2.1;have iB:=Lz hw hl hg gD;have hlen:n=((cs.drop off).take n).length:=(by simp;omega);have sP:∀c∈(cs.drop off).take n,c.one=true:=fun c hc=>h4 c (Es (Cx hc));split at h
        · rename_i rQ;simp only[Ac,Aj] at h;obtain⟨rfl,rfl⟩:=h;have :=fin _ _ _ rfl hlen sP (fun hf=>by rw[rQ] at hf;cases hf) iB
          rwa [if_pos rQ] at this
        rename_i rQ;split at h
        · rename_i hn;simp only[Ac,Aj] at h;obtain⟨rfl,rfl⟩:=h;have :=fin _ _ _ rfl hlen sP (fun _=>hn) iB
          rwa [if_neg rQ,eM _ _ _ _ _ (by omega),Di] at this
        cases h
     cases h
   cases h
 · rename_i cs hid;rw[hid] at vx;split at h
   · rename_i gD
     cases vx with
     |pl _ b o' us hh hv=>
      have iB:∀j,j<n->∃u,w.cell? ⟨b,o'+j,none⟩=some u/\VR G w ((cs.take n).getD j aD) u:=fun j hj=>by rw[getD_take _ _ _ _ hj];exact⟨us j,(hh j (by omega)).2.1,hv j (by omega)⟩
      have hlen:n=(cs.take n).length:=by simp;omega
      have sP:∀c∈cs.take n,c.one=true:=fun c hc=>by obtain⟨j,hj,rfl⟩:=Ia.1 (Cx hc);have :=(hh j hj).2.2;simpa [getD_eq,Ab hj] using this
      split at h
      · rename_i rQ;simp only[Ac,Aj] at h;obtain⟨rfl,rfl⟩:=h;have :=fin _ _ _ rfl hlen sP (fun hf=>by rw[rQ] at hf;cases hf) iB
        rwa [if_pos rQ] at this
      rename_i rQ;split at h
      · rename_i hn;simp only[Ac,Aj] at h;obtain⟨rfl,rfl⟩:=h;have :=fin _ _ _ rfl hlen sP (fun _=>hn) iB
        rwa [if_neg rQ,getD_take _ _ _ _ (by omega)] at this
      cases h
   cases h
 cases h
def UX (tmps:Array Value):ResultVar->Sem Value
 |.tmp t=>pure (tmps.getD t undef)
 |.cell a t=>do loadVar t (←asAddr (tmps.getD a undef))
theorem KE {P:Program} {g:bB} {G:Gh} {H:aA} {w:World} {s:List AV} {a:Act} (hw:WR g G H w) (hs:SR G w s a):∀(l:List ResultVar) (rl:List HM) (vs:List AV),yJ P l=some rl->mF s H rl=some vs->
 ∃us:List Value,(l.mapM (UX a.tmps)).run P w=Result.ok us w/\gI G w vs us
 |[],rl,vs,hr,h=>by obtain rfl:=Aa hr;obtain rfl:=Aa h;exact⟨[],by simp,gI.nil G w⟩
 |x::l,rl,vs,hr,h=>by
  unfold yJ at hr;split at hr
  · rename_i y ys hy Ml;obtain rfl:=Aa hr;unfold mF at h;split at h
    · rename_i v vm hv fP;obtain rfl:=Aa h;obtain⟨us,h1,h2⟩:=KE hw hs l ys vm Ml fP
      cases x with
      |tmp t=>obtain rfl:=Aa hy;obtain rfl:=Aa hv;exact⟨a.tmps.getD t undef::us,by simp[h1,UX],gI.cons (hs.getD t) h2⟩
      |cell b t=>
       simp only[zg] at hy;split at hy
       · rename_i agg n hag jA;obtain rfl:=Aa hy;simp only[tw] at hv;split at hv
         · rename_i v' H' lP;obtain rfl:=Aa hv;obtain⟨ad,u,e1,e2,e3⟩:=aDu hag jA hw hs lP;refine⟨u::us,?_,gI.cons e3 h2⟩;simp only[List.mapM_cons,UX,Sem.run_bind,e1,asAddr,Sem.run_pure,Result.andThen_ok,e2,h1]
         cases hv
       cases hy
    cases h
  cases hr
theorem ND {P:Program} {g:bB} {G:Gh} {H:aA} {w:World} {s:List AV} {a:Act} {fn:Func} {rl:List HM} {vs:List AV} (hw:WR g G H w) (hs:SR G w s a) (hr:yJ P fn.results.toList=some rl) (h:mF s H rl=some vs):
 ∃u,(results fn a.tmps).run P w=.ok u w/\VR G w (pY vs) u:=by
 obtain⟨us,h1,h2⟩:=KE hw hs _ _ _ hr h
 have key:(results fn a.tmps).run P w=.ok (if h:us.toArray.size=1 then us.toArray[0] else .tuple us.toArray) w:=by
  have Zd:results fn a.tmps=(fn.results.mapM (UX a.tmps)>>= fun vs=>pure (if h:vs.size=1 then vs[0] else .tuple vs)):=by unfold results;congr 1
  rw[Zd];rw[Array.mapM_eq_mapM_toList];simp only[map_eq_pure_bind,Sem.run_bind];rw[h1];simp
 refine⟨_,key,?_⟩;have hl:=h2.1
 cases vs with
 |nil=>obtain rfl:us=[]:=Fy.1 hl;exact VR.nD G w
 |cons v vs=>
  cases us with
  |nil=>simp at hl
  |cons u us=>
   cases vs with
   |nil=>simp at hl;subst hl;have :=h2.2 0 (by simp);simpa [pY] using this
   |cons v2 vs=>
    cases us with
    |nil=>simp at hl
    |cons u2 us=>rw[dif_neg (by simp)];exact VR.gP _ _ h2.1 h2.2
def LK (P:Program) (g:bB) (f:FuncId) (args:List AV) (H:aA) (R:Out->aA->Prop):Prop:=
 tZ P f/\∀(G:Gh) (w:World) (vs:List Value),WR g G H w->gI G w args vs->
  Calls P f vs.toArray w fun e w'=>∃out H' G',R out H'/\WR g G' H' w'/\Ext G H w G' H' w'/\YU G' w' out e
theorem yH {P:Program} {g:bB} {mu:Bool} (hm:Fit P g) {f:FuncId} {F:DY} (hF:fN P g mu f F) {args:List AV} {H:aA} {R:Out->aA->Prop}
 (h:AC P g F.body (sW F args) [] H (aJl F R)):LK P g f args H R:=by
 refine⟨hF.ok,fun G w vs hw hv=>?_⟩;obtain⟨fn,c,h1,h2,_,h3,h4,h5⟩:=hF;refine calls_of_wp h1 h2 (wp_mono (wpIn_wide.1 (AN hm c none F.body h3 (.inl rfl) _ [] G H w _ _ h hw ?_ trivial)) fun e a w' hq=>?_)
 · have hlen:=hv.1;show gI G w _ _;simp only[sW,Lg,Kh,Gr,hlen,h4];refine hv.append ⟨by simp,fun j hj=>?_⟩;simp only[Gl] at hj;simp only[Ck,Fz,hj,if_true,Bc];exact VR.nD G w
 obtain⟨ae,s',fC,H1,G',q,jS,he,EG,rR,hx⟩:=hq
 have Tu:fC=[]->a.defers=[]:=fun hh=>by
  subst hh
  cases oz:a.defers with
  |nil=>rfl
  |cons d r=>rw[oz] at rR;exact rR.elim
 have fin:∀e',(fC=[]/\∃vs,mF s' H1 F.results=some vs/\R (.ret (pY vs)) H1)->
  (e'=Exit.normal\/e'=Exit.ret)->bodyPost P fn (fun e w'=>∃out H' G',R out H'/\WR g G' H' w'/\Ext G H w G' H' w'/\YU G' w' out e) e' a w':=by
  rintro e' ⟨VF,vm,fP,hR⟩ yT;obtain⟨u,hu,KU⟩:=ND jS EG h5 fP
  rcases yT with rfl|rfl
  all_goals exact⟨Tu VF,u,hu,_,_,G',hR,jS,he,KU⟩
 cases ae with
 |normal=>
  cases e with
  |normal=>exact fin _ q (.inl rfl)
  |_=>exact hx.elim
 |ret=>
  cases e with
  |ret=>exact fin _ q (.inr rfl)
  |_=>exact hx.elim
 |exit id=>exact q.elim
 |panic v=>
  cases e with
  |panic ch=>obtain⟨VF,hR⟩:=q;exact⟨Tu VF,_,_,G',hR,jS,he,hx⟩
  |_=>exact hx.elim
theorem LK.exact {P:Program} {g:bB} {f:FuncId} {args:List AV} {H H':aA} {out:Out} (h:LK P g f args H fun o h=>o=out/\h=H'):Sound P g f args H out H':=
 ⟨h.1,fun G w vs hw hv=>(h.2 G w vs hw hv).mono fun e w' ⟨_,_,G',⟨e1,e2⟩,h1,h2,h3⟩=>⟨G',e2▸h1,e2▸h2,e1▸h3⟩⟩
theorem Sound.open {P:Program} {g:bB} {f:FuncId} {args:List AV} {H H':aA} {out:Out} (h:Sound P g f args H out H'):LK P g f args H fun o h=>o=out/\h=H':=
 ⟨h.1,fun G w vs hw hv=>(h.2 G w vs hw hv).mono fun e w' ⟨G',h1,h2,h3⟩=>⟨_,_,G',⟨rfl,rfl⟩,h1,h2,h3⟩⟩
theorem Vh {P:Program} {g:bB} {mu:Bool} (hm:Fit P g) {f:FuncId} {F:DY} (hF:fN P g mu f F) {args:List AV} {H H':aA} {out:Out}
 (h:AC P g F.body (sW F args) [] H (aJl F fun o h=>o=out/\h=H')):Sound P g f args H out H':=(yH hm hF h).exact
end Go.Av
