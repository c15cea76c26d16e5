/-
  Parts of the proof of statement 4: AvCode
-/
import Derived.Test.YtjiignefffdelaaGreatDoorA12
set_option linter.unusedVariables false
set_option linter.unusedSimpArgs false
set_option linter.unusedSectionVars false
namespace Go.Av
open Go
def QStep (P:Program) (g:Genv) (r:ROper) (s:List AV) (H:Heap) (v:AV) (H':Heap):Prop:=
 match r.op with
 |.call f azs=>∃p,calleeA (f.eval g s)=some p∧Sound P g p.1 (p.2.1++azs.map (Arg.eval g s)++p.2.2) H (.ret v) H'
 |.panic _|.deferc _ _=>False
 |op=>aop (Arg.eval g s) H op=some (v,H')
def ADr (P:Program) (g:Genv) (pairs:List (Nat×Nat)) (base:Nat):Nat→Nat→List ROper→List (Nat×Nat)→List (Nat×Heap×Heap)→List AV→Heap→(List AV→Heap→Prop)→Prop
 |_,_,[],_,_,s,H,Q=>Q s H
 |i,k,r::rs,rd,ef,s,H,Q=>
  if wantedA s r then
   if r.op.fresh then
    ∃ob val,fop (Arg.eval g s) r.op=some (ob,val)∧(∀x∈ef,(i,x.1)∈pairs→x.2.1.get (base+k)=x.2.2.get (base+k))∧
     ADr P g pairs base (i+1) (k+1) rs ((i,base+k)::rd) ef (putA s r.dst (val (base+k))) (H.set (base+k) ob) Q
   else if r.op.eff then
    ∃v H',QStep P g r s H v H'∧H.next≤H'.next∧(∀x∈rd,(x.1,i)∈pairs→H.get x.2=H'.get x.2)∧
     ADr P g pairs base (i+1) k rs rd ((i,H,H')::ef) (putA s r.dst v) H' Q
   else
    ∃v,QStep P g r s H v H∧(∀id,r.op.readsId (Arg.eval g s)=some id→∀x∈ef,(i,x.1)∈pairs→x.2.1.get id=x.2.2.get id)∧
     ADr P g pairs base (i+1) k rs (match r.op.readsId (Arg.eval g s) with|some id=>(i,id)::rd|none=>rd) ef (putA s r.dst v) H Q
  else ADr P g pairs base (i+1) (if r.op.fresh then k+1 else k) rs rd ef (putA s r.dst undefA) H Q
structure DRun (P:Program) (g:Genv) (pairs:List (Nat×Nat)) (base i k:Nat) (rs:List ROper) (rd:List (Nat×Nat)) (ef:List (Nat×Heap×Heap)) (s:List AV) (H:Heap) (Q:List AV→Heap→Prop)
 (Hs:Nat→Heap) (ss:Nat→List AV) (vs:Nat→AV):Prop where
 h0:Hs 0=H
 s0:ss 0=s
 fin:Q (ss rs.length) (Hs rs.length)
 step:∀(j:Nat) (r:ROper),rs[j]?=some r→DStep P g (base+(k+freshIdx rs j)) r (ss j) (Hs j) (vs j) (Hs (j+1))∧ss (j+1)=putA (ss j) r.dst (vs j)
 mono:∀(j:Nat) (r:ROper),rs[j]?=some r→r.op.eff=true→(Hs j).next≤(Hs (j+1)).next
 old:∀x∈rd,∀(e:Nat) (re:ROper),rs[e]?=some re→re.op.eff=true→wantedA (ss e) re=true→(x.1,i+e)∈pairs→(Hs e).get x.2=(Hs (e+1)).get x.2
 new:∀x∈ef,∀(j:Nat) (r:ROper),rs[j]?=some r→wantedA (ss j) r=true→(i+j,x.1)∈pairs→
  ∀id,(r.op.readsId (Arg.eval g (ss j))=some id∨(r.op.fresh=true∧id=base+(k+freshIdx rs j)))→x.2.1.get id=x.2.2.get id
 both:∀(j e:Nat) (rj re:ROper),rs[j]?=some rj→rs[e]?=some re→re.op.eff=true→wantedA (ss j) rj=true→wantedA (ss e) re=true→(i+j,i+e)∈pairs→
  ∀id,(rj.op.readsId (Arg.eval g (ss j))=some id∨(rj.op.fresh=true∧id=base+(k+freshIdx rs j)))→(Hs e).get id=(Hs (e+1)).get id
theorem wN (r:ROper) (rs:List ROper) (j:Nat):freshIdx (r::rs) (j+1)=(if r.op.fresh then 1 else 0)+freshIdx rs j:=by
 unfold freshIdx;simp only[List.take_succ_cons,List.countP_cons];omega
def cons' {α:Type} (x:α) (f:Nat→α):Nat→α
 |0=>x
 |n+1=>f n
theorem DRun.cons {P:Program} {g:Genv} {pairs:List (Nat×Nat)} {base i k:Nat} {r:ROper} {rs:List ROper} {rd rd':List (Nat×Nat)} {ef ef':List (Nat×Heap×Heap)} {s:List AV} {H H':Heap} {Q:List AV→Heap→Prop}
 {Hs:Nat→Heap} {ss:Nat→List AV} {vs:Nat→AV} {v:AV}
 (R:DRun P g pairs base (i+1) (if r.op.fresh then k+1 else k) rs rd' ef' (putA s r.dst v) H' Q Hs ss vs)
 (hst:DStep P g (base+k) r s H v H') (hmono:r.op.eff=true→H.next≤H'.next)
 (hrd:∀x∈rd,x∈rd') (hef:∀x∈ef,x∈ef')
 (hrd':wantedA s r=true→∀id,(r.op.readsId (Arg.eval g s)=some id∨(r.op.fresh=true∧id=base+k))→(i,id)∈rd')
 (hef':wantedA s r=true→r.op.eff=true→(i,H,H')∈ef')
 (hold:∀x∈rd,r.op.eff=true→wantedA s r=true→(x.1,i)∈pairs→H.get x.2=H'.get x.2)
 (hnew:∀x∈ef,wantedA s r=true→(i,x.1)∈pairs→∀id,(r.op.readsId (Arg.eval g s)=some id∨(r.op.fresh=true∧id=base+k))→x.2.1.get id=x.2.2.get id):
 DRun P g pairs base i k (r::rs) rd ef s H Q (cons' H Hs) (cons' s ss) (cons' v vs):=by
 have hk:∀j,base+((if r.op.fresh then k+1 else k)+freshIdx rs j)=base+(k+freshIdx (r::rs) (j+1)):=fun j=>by
  rw[wN];split<;>omega
 have hi:∀j,i+1+j=i+(j+1):=fun j=>by omega
 refine⟨rfl,rfl,R.fin,fun j q hq=>?_,fun j q hq he=>?_,fun x hx e re he hee hw hp=>?_,fun x hx j q hq hw hp id hid=>?_,fun j e rj re hj he hee hwj hwe hp id hid=>?_⟩
 · cases j with
   |zero=>
    simp at hq;subst hq;refine⟨?_,R.s0⟩;show DStep P g (base+(k+freshIdx (r::rs) 0)) r s H v (Hs 0);rw[R.h0];exact hst
   |succ j=>
    have :=R.step j q (by simpa using hq);rw[hk] at this;exact this
 · cases j with
   |zero=>
    simp at hq;subst hq;show H.next≤(Hs 0).next;rw[R.h0];exact hmono he
   |succ j=>exact R.mono j q (by simpa using hq) he
 · cases e with
   |zero=>
    simp at he;subst he;show H.get x.2=(Hs 0).get x.2;rw[R.h0];exact hold x hx hee hw hp
   |succ e=>exact R.old x (hrd x hx) e re (by simpa using he) hee hw (by rw[hi];exact hp)
 · cases j with
   |zero=>
    simp at hq;subst hq;exact hnew x hx hw hp id hid
   |succ j=>
    refine R.new x (hef x hx) j q (by simpa using hq) hw (by rw[hi];exact hp) id ?_;rw[hk];exact hid
 · cases j with
   |zero=>
    simp at hj;subst hj
    cases e with
    |zero=>
     simp at he;subst he
     rcases hid with h|h
     · rw[iZ (dQ h)] at hee;cases hee
     · rw[eJ h.1] at hee;cases hee
    |succ e=>exact R.old (i,id) (hrd' hwj id hid) e re (by simpa using he) hee hwe (by rw[hi];exact hp)
   |succ j=>
    have hid':rj.op.readsId (Arg.eval g (ss j))=some id∨(rj.op.fresh=true∧id=base+((if r.op.fresh then k+1 else k)+freshIdx rs j)):=by rw[hk];exact hid
    cases e with
    |zero=>
     simp at he;subst he;show H.get id=(Hs 0).get id;rw[R.h0];exact R.new (i,H,H') (hef' hwe hee) j rj (by simpa using hj) hwj (by rw[hi];exact hp) id hid'
    |succ e=>exact R.both j e rj re (by simpa using hj) (by simpa using he) hee hwj hwe (by rw[hi,hi];exact hp) id hid'
theorem QStep.aTu {P:Program} {g:Genv} {r:ROper} {s:List AV} {H H':Heap} {v:AV} {id:Nat} (h:QStep P g r s H v H') (hw:wantedA s r=true) (hf:r.op.fresh=false):DStep P g id r s H v H':=by
 unfold DStep;rw[if_pos hw,if_neg (by simp[hf])];exact h
theorem oQ {P:Program} {g:Genv} {pairs:List (Nat×Nat)} {base:Nat} {Q:List AV→Heap→Prop}:∀(rs:List ROper) (i k:Nat) (rd:List (Nat×Nat)) (ef:List (Nat×Heap×Heap)) (s:List AV) (H:Heap),
 ADr P g pairs base i k rs rd ef s H Q→∃Hs ss vs,DRun P g pairs base i k rs rd ef s H Q Hs ss vs
 |[],i,k,rd,ef,s,H,h=>⟨fun _=>H,fun _=>s,fun _=>undefA,rfl,rfl,h,fun j r hj=>by simp at hj,fun j r hj=>by simp at hj,fun x hx e re he=>by simp at he,fun x hx e re he=>by simp at he,fun j e rj re hj=>by simp at hj⟩
 |r::rs,i,k,rd,ef,s,H,h=>by
  unfold ADr at h;by_cases hw:wantedA s r=true
  · rw[if_pos hw] at h
    by_cases hf:r.op.fresh=true
    · rw[if_pos hf] at h
      obtain⟨ob,val,h1,h2,h3⟩:=h;obtain⟨Hs,ss,vs,R⟩:=oQ rs _ _ _ _ _ _ h3
      have hk:(if r.op.fresh then k+1 else k)=k+1:=by rw[if_pos hf]
      refine⟨_,_,_,DRun.cons (v:=val (base+k)) (by rw[hk];exact R) ?_ (fun he=>by rw[eJ hf] at he;cases he) (fun x hx=>List.mem_cons_of_mem _ hx) (fun x hx=>hx) (fun _ id hid=>?_) (fun _ he=>by rw[eJ hf] at he;cases he) (fun x _ he=>by rw[eJ hf] at he;cases he) (fun x hx _ hp id hid=>?_)⟩
      · unfold DStep
        rw[if_pos hw,if_pos hf];exact⟨ob,val,h1,rfl,rfl⟩
      · rcases hid with hid|hid
        · have :=dQ hid
          rw[kZ this] at hf;cases hf
        · rw[hid.2];exact List.mem_cons_self
      · rcases hid with hid|hid
        · have :=dQ hid
          rw[kZ this] at hf;cases hf
        · rw[hid.2];exact h2 x hx hp
    · rw[if_neg hf] at h
      have hf':r.op.fresh=false:=by simpa using hf
      have hk:(if r.op.fresh then k+1 else k)=k:=by rw[if_neg hf]
      by_cases he:r.op.eff=true
      · rw[if_pos he] at h
        obtain⟨v,H',h1,h2,h3,h4⟩:=h;obtain⟨Hs,ss,vs,R⟩:=oQ rs _ _ _ _ _ _ h4;refine⟨_,_,_,DRun.cons (v:=v) (by rw[hk];exact R) (h1.aTu hw hf') (fun _=>h2) (fun x hx=>hx) (fun x hx=>List.mem_cons_of_mem _ hx) (fun _ id hid=>?_) (fun _ _=>List.mem_cons_self) (fun x hx _ _ hp=>h3 x hx hp) (fun x hx _ hp id hid=>?_)⟩
        all_goals
         rcases hid with hid|hid
         · rw[iZ (dQ hid)] at he;cases he
         · exact absurd hid.1 hf
      · rw[if_neg he] at h
        obtain⟨v,h1,h2,h3⟩:=h;obtain⟨Hs,ss,vs,R⟩:=oQ rs _ _ _ _ _ _ h3;refine⟨_,_,_,DRun.cons (v:=v) (by rw[hk];exact R) (h1.aTu hw hf') (fun he'=>absurd he' he) (fun x hx=>?_) (fun x hx=>hx) (fun _ id hid=>?_) (fun _ he'=>absurd he' he) (fun x _ he'=>absurd he' he) (fun x hx _ hp id hid=>?_)⟩
        · split
          · exact List.mem_cons_of_mem _ hx
          · exact hx
        · rcases hid with hid|hid
          · rw[hid];exact List.mem_cons_self
          · exact absurd hid.1 hf
        · rcases hid with hid|hid
          · exact h2 id hid x hx hp
          · exact absurd hid.1 hf
  · rw[if_neg hw] at h
    obtain⟨Hs,ss,vs,R⟩:=oQ rs _ _ _ _ _ _ h;refine⟨_,_,_,DRun.cons (v:=undefA) R ?_ (fun _=>Nat.le_refl _) (fun x hx=>hx) (fun x hx=>hx) (fun hw'=>absurd hw' hw) (fun hw'=>absurd hw' hw) (fun x _ _ hw'=>absurd hw' hw) (fun x _ hw'=>absurd hw' hw)⟩;unfold DStep;rw[if_neg hw];exact⟨rfl,rfl⟩
def freeAt (H:Heap):Nat→Bool
 |0=>true
 |n+1=>freeAt H n&&(H.get (H.next+n)).isNone
theorem uA {H:Heap}:∀{n:Nat},freeAt H n=true→∀k,k<n→H.get (H.next+k)=none
 |0,_,k,hk=>absurd hk (Nat.not_lt_zero k)
 |n+1,h,k,hk=>by
  simp only[freeAt,Bool.and_eq_true,Option.isNone_iff_eq_none] at h;by_cases hkn:k=n
  · rw[hkn];exact h.2
  · exact uA h.1 k (by omega)
def ADraw (P:Program) (g:Genv) (rl:List ROper) (pairs:List (Nat×Nat)) (s:List AV) (H:Heap) (Q:List AV→Heap→Prop):Prop:=
 freeAt H (rl.countP (·.op.fresh))=true∧ADr P g pairs H.next 0 0 rl [] [] s {H with next:=H.next+rl.countP (·.op.fresh)} Q
theorem ADraw.run {P:Program} {g:Genv} {rl:List ROper} {pairs:List (Nat×Nat)} {s:List AV} {H:Heap} {Q:List AV→Heap→Prop} (h:ADraw P g rl pairs s H Q)
 (hp:∀i e,(i,e)∈pairs→∀re,rl[e]?=some re→re.op.eff=true):
 ∃Hs ss vs,DrawRun P g rl pairs s H Hs ss vs∧Q (ss rl.length) (Hs rl.length):=by
 obtain⟨Hs,ss,vs,R⟩:=oQ _ _ _ _ _ _ _ h.2;refine⟨Hs,ss,vs,⟨R.s0,R.h0,uA h.1,fun i r hi=>?_,R.mono,fun i e hie ri re hi he hwi hwe id hid=>?_⟩,R.fin⟩
 · have :=R.step i r hi
   rw[Nat.zero_add] at this;exact this
 · refine R.both i e ri re hi he (hp i e hie re he) hwi hwe (by simpa using hie) id ?_
   rw[Nat.zero_add];exact hid
def ancB (n:Nat) (masks:List Nat) (i j:Nat):Bool:=decide (i<j)&&decide (j<n)&&(masks.getD j 0).testBit i
def apartB (ri rj:ROper):Bool:=
 (!ri.op.eff|| !rj.op.eff)&&
 (match ri.dst with|some d=> !(usesOf rj).contains d&&rj.dst != some d|none=>true)&&
 (match rj.dst with|some d=> !(usesOf ri).contains d|none=>true)
def litsB (r:ROper):Bool:= !r.op.reads||r.op.args.all fun |.const v=>(idOf v).isNone|_=>true
def drawOKb (ops:Array Oper) (rl:List ROper) (masks:List Nat):Bool:=
 (List.range rl.length).all fun j=>
   match ops[j]?,rl[j]? with
   |some o,some rj=>
    o.after.toList.all (fun e=> !Region.binds .any e||decide (e.on<j))&&litsB rj&&
    (List.range j).all fun i=>
      if ancB rl.length masks i j then o.after.toList.any fun e=>Region.binds .any e&&(e.on==i||ancB rl.length masks i e.on)
      else match rl[i]? with
       |some ri=>apartB ri rj
       |none=>false
   |_,_=>false
def pairB (rl:List ROper) (masks:List Nat) (a b:Nat):Bool:=
 match rl[a]?,rl[b]? with
 |some ra,some rb=>rb.op.eff&&
  ((decide (a<b)&& !ancB rl.length masks a b&&(ra.op.reads||ra.op.fresh))||(decide (b<a)&&(ra.op.fresh||(!ancB rl.length masks b a&&ra.op.reads))))
 |_,_=>false
def pairsOf (rl:List ROper) (masks:List Nat):List (Nat×Nat):=
 ((List.range rl.length).flatMap fun a=>(List.range rl.length).map fun b=>(a,b)).filter fun p=>pairB rl masks p.1 p.2
theorem iP {rl:List ROper} {masks:List Nat} {a b:Nat}:(a,b)∈pairsOf rl masks↔a<rl.length∧b<rl.length∧pairB rl masks a b=true:=by
 unfold pairsOf;simp only[List.mem_filter,List.mem_flatMap,List.mem_range,List.mem_map,Prod.mk.injEq];constructor
 · rintro⟨⟨x,hx,y,hy,rfl,rfl⟩,h⟩
   exact⟨hx,hy,h⟩
 · rintro⟨h1,h2,h3⟩
   exact⟨⟨a,h1,b,h2,rfl,rfl⟩,h3⟩
theorem aKn {ops:Array Oper} {rl:List ROper} {masks:List Nat} (hn:rl.length=ops.size) (h:drawOKb ops rl masks=true):DrawOK ops rl (pairsOf rl masks) (ancB rl.length masks):=by
 unfold drawOKb at h;rw[List.all_eq_true] at h
 have hj:∀(j:Nat) (o:Oper) (rj:ROper),ops[j]?=some o→rl[j]?=some rj→
  (o.after.toList.all (fun e=> !Region.binds .any e||decide (e.on<j))&&litsB rj&&
  (List.range j).all fun i=>
    if ancB rl.length masks i j then o.after.toList.any fun e=>Region.binds .any e&&(e.on==i||ancB rl.length masks i e.on)
    else match rl[i]? with
     |some ri=>apartB ri rj
     |none=>false)=true:=fun j o rj ho hr=>by
  have :=h j (List.mem_range.2 (List.getElem?_eq_some_iff.1 hr).1);rw[ho,hr] at this;exact this
 have hro:∀(j:Nat),j<rl.length→∃o rj,ops[j]?=some o∧rl[j]?=some rj:=fun j hj=>⟨ops[j]'(by omega),rl[j],by simp[show j<ops.size by omega],by simp[hj]⟩
 have hcmp:∀i j ri rj,i<j→rl[i]?=some ri→rl[j]?=some rj→ancB rl.length masks i j=false→apartB ri rj=true:=fun i j ri rj hij hi hjj ha=>by
  obtain⟨o,rj',ho,hr'⟩:=hro j (List.getElem?_eq_some_iff.1 hjj).1;have :=hj j o rj ho hjj;simp only[Bool.and_eq_true] at this;have :=List.all_eq_true.1 this.2 i (List.mem_range.2 hij);rw[ha,hi] at this;exact this
 refine⟨fun j o ho e he hb=>?_,fun i j ha=>?_,fun i j ri rj hij hi hjj ha=>?_,fun i j ri rj hij hi hjj he hf=>?_,fun j r hr hrd v hv=>?_⟩
 · obtain⟨o',rj,ho',hr⟩:=hro j (by rw[hn];exact(Array.getElem?_eq_some_iff.1 ho).1)
   have :=hj j o rj ho hr;simp only[Bool.and_eq_true] at this;have :=List.all_eq_true.1 this.1.1 e (by simpa using he);rw[hb] at this;simpa using this
 · have ha':=ha
   unfold ancB at ha;simp only[Bool.and_eq_true,decide_eq_true_eq] at ha;obtain⟨o,rj,ho,hr⟩:=hro j ha.1.2;have :=hj j o rj ho hr;simp only[Bool.and_eq_true] at this;have :=List.all_eq_true.1 this.2 i (List.mem_range.2 ha.1.1);rw[if_pos ha'] at this;obtain⟨e,he,hc⟩:=List.any_eq_true.1 this;simp only[Bool.and_eq_true,Bool.or_eq_true,beq_iff_eq] at hc;exact⟨o,ho,e,by simpa using he,hc.1,hc.2⟩
 · have hap:=hcmp i j ri rj hij hi hjj ha
   have hli:=(List.getElem?_eq_some_iff.1 hi).1;have hlj:=(List.getElem?_eq_some_iff.1 hjj).1;unfold apartB at hap;simp only[Bool.and_eq_true] at hap;obtain⟨⟨h1,h2⟩,h3⟩:=hap;refine⟨fun he=>?_,fun d hd=>?_,fun d hd=>?_,fun he hr=>?_,fun he hr=>?_⟩
   · rw[he] at h1;simpa using h1
   · rw[hd] at h2
     simp only[Bool.and_eq_true,Bool.not_eq_true',bne_iff_ne] at h2;exact⟨fun hm=>by have :=h2.1;simp[hm] at this,h2.2⟩
   · rw[hd] at h3
     simp only[Bool.not_eq_true'] at h3
     exact fun hm=>by simp[hm] at h3
   · refine iP.2 ⟨hli,hlj,?_⟩
     unfold pairB;rw[hi,hjj];simp only[he,hij,ha,decide_true,Bool.not_false,Bool.and_self,Bool.true_and,Bool.or_eq_true];exact .inl hr
   · refine iP.2 ⟨hlj,hli,?_⟩
     unfold pairB;rw[hi,hjj];simp[he,hij,ha,hr]
 · have hli:=(List.getElem?_eq_some_iff.1 hi).1
   have hlj:=(List.getElem?_eq_some_iff.1 hjj).1;refine iP.2 ⟨hlj,hli,?_⟩;unfold pairB;rw[hi,hjj];simp[he,hij,hf]
 · obtain⟨o,rj',ho,_⟩:=hro j (List.getElem?_eq_some_iff.1 hr).1
   have :=hj j o r ho hr;simp only[Bool.and_eq_true] at this;have :=this.1.2;unfold litsB at this;rw[hrd] at this;simp only[Bool.not_true,Bool.false_or] at this;have :=List.all_eq_true.1 this _ hv;simpa using this
theorem aLh {rl:List ROper} {masks:List Nat}:∀i e,(i,e)∈pairsOf rl masks→∀re,rl[e]?=some re→re.op.eff=true:=fun i e h re hre=>by
 have :=(iP.1 h).2.2;unfold pairB at this;rw[hre] at this
 cases hi:rl[i]? with
 |none=>rw[hi] at this;cases this
 |some ri=>
  rw[hi] at this;simp only[Bool.and_eq_true] at this;exact this.1
def ACode.nd:ACode→Bool
 |.ops rl=>rl.all fun r=>match r.op with|.deferc _ _=>false|_=>true
 |.seq a b|.cond _ a b=>a.nd&&b.nd
 |.block _ a|.loop a=>a.nd
 |.rangeF _ _ _ _=>false
 |_=>true
def acode (P:Program) (g:Genv) (mu:Bool):Code→Option ACode
 |.skip=>some .skip
 |.label _=>some .skip
 |.region _ ops false=>(copers P g mu ops ops.toList).map .ops
 |.region _ ops true=>match copers P g mu ops ops.toList with
  |some rl=>if drawOKb ops rl (Region.before ops).toList then some (.draw rl (pairsOf rl (Region.before ops).toList)) else none
  |none=>none
 |.seq a b=>match acode P g mu a,acode P g mu b with
  |some x,some y=>some (.seq x y)
  |_,_=>none
 |.cond c a b=>match argOf g c,acode P g mu a,acode P g mu b with
  |some z,some x,some y=>some (.cond z x y)
  |_,_,_=>none
 |.block id a=>(acode P g mu a).map (.block id)
 |.loop a=>(acode P g mu a).map .loop
 |.scope a=>acode P g mu a
 |.exit id=>some (.exit id)
 |.ret=>some .ret
 |.rangeFunc c ps x y=>match argOf g c,acode P g mu x,acode P g mu y with
  |some c',some x',some y'=>if x'.nd&&y'.nd then some (.rangeF c' ps.toList x' y') else none
  |_,_,_=>none
 |_=>none
def thenA (next:List AV→List Dfr→Heap→Prop) (Q:AQ):AQ
 |.normal,s,ds,H=>next s ds H
 |e,s,ds,H=>Q e s ds H
def inBlockA (id:Nat) (Q:AQ):AQ
 |.exit i,s,ds,H=>if i=id then Q .normal s ds H else Q (.exit i) s ds H
 |e,s,ds,H=>Q e s ds H
def putAll (s:List AV):List (Nat×AV)→List AV
 |[]=>s
 |(t,v)::r=>putAll (s.set t v) r
def roundEnd (id:Nat) (out:Out) (H3:Heap):AQ
 |.normal,_,ds,H=>ds=[]∧out=.ret (.bool true)∧∃k sn,H.get id=some (.loop k sn .busy)∧H3=H.set id (.loop k sn .ready)
 |.ret,_,ds,H=>ds=[]∧out=.ret (.bool false)∧∃k sn,H.get id=some (.loop k sn .busy)∧H3=H.set id (.loop k sn (.done .ret))
 |.exit i,_,ds,H=>ds=[]∧out=.ret (.bool false)∧∃k sn,H.get id=some (.loop k sn .busy)∧H3=H.set id (.loop k sn (.done (.exit i)))
 |.panic _,_,_,_=>False
def loopEnd (st:LSt) (sn:List AV) (ds:List Dfr) (H:Heap) (Q:AQ):Prop:=
 match st with
 |.ready=>Q .normal sn ds H
 |.done .ret=>Q .ret sn ds H
 |.done (.exit i)=>Q (.exit i) sn ds H
 |_=>False
def lessLoop (He:Heap) (id:Nat) (Hf:Heap):Prop:=Hf.next=He.next∧∀m,Hf.get m=if m=id then some .dead else He.get m
def AC (P:Program) (g:Genv):ACode→List AV→List Dfr→Heap→AQ→Prop
 |.skip,s,ds,H,Q=>Q .normal s ds H
 |.ops rl,s,ds,H,Q=>AOps P g rl s ds H Q
 |.draw rl pairs,s,ds,H,Q=>ADraw P g rl pairs s H fun s' H'=>Q .normal s' ds H'
 |.seq a b,s,ds,H,Q=>AC P g a s ds H (thenA (fun s ds H=>AC P g b s ds H Q) Q)
 |.cond c a b,s,ds,H,Q=>∃t,c.eval g s=.bool t∧if t then AC P g a s ds H Q else AC P g b s ds H Q
 |.block id a,s,ds,H,Q=>AC P g a s ds H (inBlockA id Q)
 |.loop a,s,ds,H,Q=>∃(I:Nat→List AV→List Dfr→Heap→Prop) (n:Nat),I n s ds H∧
   ∀n s ds H,I n s ds H→AC P g a s ds H (thenA (fun s ds H=>∃m,m<n∧I m s ds H) Q)
 |.exit id,s,ds,H,Q=>Q (.exit id) s ds H
 |.ret,s,ds,H,Q=>Q .ret s ds H
 |.rangeF c ps asg body,s,ds,H,Q=>∃fid fs cs v He k' s' st Hf,c.eval g s=.func (.func fid) fs cs∧
   Sound P g fid (fs++[.yield (H.next+1)]++cs) ((H.alloc .dfd).alloc (.loop ⟨ps,asg,body⟩ s .ready)) (.ret v) He∧He.get (H.next+1)=some (.loop k' s' st)∧lessLoop He (H.next+1) Hf∧
   loopEnd st s (.mark H.next::ds) Hf Q
def ARound (P:Program) (g:Genv) (k:LKey) (s:List AV) (id:Nat) (args:List AV) (H2:Heap) (out:Out) (H3:Heap):Prop:=
 AC P g k.asg (putAll s (k.ps.zip args)) [] H2 fun e s1 ds1 H1=>match e with
  |.normal=>ds1=[]∧∃k1 sn1,H1.get id=some (.loop k1 sn1 .ready)∧AC P g k.body s1 [] (H1.set id (.loop k1 sn1 .busy)) (roundEnd id out H3)
  |_=>False
structure Fit (P:Program) (g:Genv):Prop where
 mixed:P.follows .mixedOrders=true
 lok:∀k r,g.lok k r↔(r.params.toList=k.ps∧∃mu,acode P g mu r.assign=some k.asg∧acode P g mu r.body=some k.body∧k.asg.nd=true∧k.body.nd=true)
noncomputable def leastN (p:Nat→Prop) (h:∃n,p n):Nat:=
 Classical.choose (show ∃n,p n∧∀m,p m→n≤m from by
  obtain⟨n,hn⟩:=h
  induction n using Nat.strongRecOn with
  |_ n ih=>
   by_cases hc:∃m,m<n∧p m
   · obtain⟨m,hm,hp⟩:=hc
     exact ih m hm hp
   · exact⟨n,hn,fun m hm=>Nat.le_of_not_lt fun hlt=>hc ⟨m,hlt,hm⟩⟩)
theorem rZ (p:Nat→Prop) (h:∃n,p n):p (leastN p h)∧∀m,p m→leastN p h≤m:=Classical.choose_spec (leastN._proof_1 p h)
theorem aDz {F:Fence} {n:Nat} {P:Program} {c:Code} {Q:Exit→Act→World→Prop} {a:Act} {w:World} (h:c.wpIn F n P Q a w) (hg:∀l a w,¬Q (.goto l) a w):(Code.scope c).wpIn F n P Q a w:=by
 intro b k cs hro hb hr;obtain⟨e,a',w',hq,harr⟩:=h b (.inScope c::k) cs hro hb hr;have h1:step P (lone (b.atR a (.code (.scope c)::k)) cs w)=.next (lone (b.atR a (.code c::.inScope c::k)) cs w):=step_lone_go (by simp[stepG,stepG.exec,Frame.atR]);have h2:∀a w,step P (lone (b.atR a (.inScope c::k)) cs w)=.next (lone (b.atR a k) cs w):=fun a w=>step_lone_go (by simp[stepG,stepG.exec,Frame.atR]);refine⟨e,a',w',hq,.of_steps (.one (fenced_calm hb hr rfl) h1) ?_⟩
 cases e with
 |normal=>exact StepsIn.trans harr (.one (fenced_calm hb hr rfl) (h2 a' w'))
 |exit id=>exact⟨fun k' hk=>harr.1 k' (by simpa [exitTo] using hk),fun hr hk=>harr.2 hr (by simpa [exitTo] using hk)⟩
 |goto l=>exact(hg l a' w' hq).elim
 |ret=>exact harr
 |panic ch=>exact harr
 |outgrown=>exact harr
theorem aDy {F:Fence} {n0:Nat} {P:Program} {Q:Exit→Act→World→Prop} {c:Code} (I:Nat→Act→World→Prop) {n:Nat} {a:Act} {w:World} (h0:I n a w)
 (round:∀n a w,I n a w→c.wpIn F n0 P (Exit.then (fun a' w'=>∃m,m<n∧I m a' w') Q) a w):(Code.loop c).wpIn F n0 P Q a w:=by
 classical
 refine wpIn_loop (fun a' w'=>∃m,I m a' w') (fun a' w'=>if h:∃m,I m a' w' then leastN (fun m=>I m a' w') h else 0) ⟨n,h0⟩ fun a' w' hI=>?_;have hsp:=rZ (fun m=>I m a' w') hI;refine wpIn_mono (round _ a' w' hsp.1) fun e a1 w1 hq=>?_
 cases e with
 |normal=>
  obtain⟨m,hm,h1⟩:=hq;have hI1:∃m,I m a1 w1:=⟨m,h1⟩;refine⟨hI1,?_⟩;rw[dif_pos hI1,dif_pos hI];exact Nat.lt_of_le_of_lt ((rZ (fun m=>I m a1 w1) hI1).2 m h1) hm
 |_=>exact hq
theorem QR.aRq {g:Genv} {G:Gh} {H:Heap} {w:World} {Q:AQ} {l:Nat} {a:Act} {w':World}:¬QR g G H w Q (.goto l) a w':=by
 rintro⟨ae,s',ds',H',G',_,_,_,_,_,hx⟩;cases ae<;>exact hx.elim
theorem lA {P:Program} {g:Genv} {mu:Bool} (hm:Fit P g):∀(c:Code) (ro:Option Nat) (ac:ACode),acode P g mu c=some ac→(ro=none∨ac.nd=true)→∀(s:List AV) (ds:List Dfr) (G:Gh) (H:Heap) (w:World) (a:Act) (Q:AQ),
 AC P g ac s ds H Q→WR g G H w→SR G w s a→DsR G w ds a.defers→c.wpIn (Fw ro) 0 P (QR g G H w Q) a w:=by
 intro c
 induction c with
 |skip=>
  intro ro ac hc hro s ds G H w a Q h hw hs hd;simp only[acode,Option.some.injEq] at hc;subst hc;exact wpIn_skip ⟨.normal,s,ds,H,G,h,hw,Ext.refl G H w,hs,hd,trivial⟩
 |label l=>
  intro ro ac hc hro s ds G H w a Q h hw hs hd;simp only[acode,Option.some.injEq] at hc;subst hc;exact wpIn_label ⟨.normal,s,ds,H,G,h,hw,Ext.refl G H w,hs,hd,trivial⟩
 |region id ops draw=>
  intro ro ac hc hro s ds G H w a Q h hw hs hd
  cases draw with
  |false=>
   simp only[acode,Option.map_eq_some_iff] at hc;obtain⟨rl,hrl,rfl⟩:=hc;refine wpIn_region ?_
   have :=nK (ro:=ro) ops.toList rl 0 hrl (fun j hj=>by simp) (hro.imp (fun h=>h) fun h r hr f azs e=>by
    have :=List.all_eq_true.1 h r hr
    rw[e] at this;cases this) s ds G H w a Q h hw hs hd
   rw[Array.length_toList] at this
   rwa [List.range_eq_range']
  |true=>
   simp only[acode] at hc;split at hc
   · rename_i rl hrl
     split at hc
     · rename_i hok
       obtain rfl:=Option.some.inj hc
       have hn:rl.length=ops.size:=by simpa using(jT _ _ hrl).1
       obtain⟨Hs,ss,vs,D,hQ⟩:=ADraw.run h aLh;exact aFc hm.mixed hrl D (aKn hn hok) hw hs hd hQ
     · cases hc
   · cases hc
 |seq x y ihx ihy=>
  intro ro ac hc hro s ds G H w a Q h hw hs hd;simp only[acode] at hc;split at hc
  · rename_i ax ay hax hay
    obtain rfl:=Option.some.inj hc;refine wpIn_seq (wpIn_mono (ihx ro ax hax (hro.imp (fun h=>h) fun h=>(Bool.and_eq_true _ _▸h).1) s ds G H w a _ h hw hs hd) fun e a' w' hq=>?_);obtain⟨ae,s',ds',H',G',q,hw',he,hs',hd',hx⟩:=hq
    cases e with
    |normal=>
     cases ae with
     |normal=>exact wpIn_mono (ihy ro ay hay (hro.imp (fun h=>h) fun h=>(Bool.and_eq_true _ _▸h).2) s' ds' G' H' w' a' Q q hw' hs' hd') fun _ _ _ hq=>QR.trans he hq
     |_=>exact hx.elim
    |_=>
     cases ae with
     |normal=>exact hx.elim
     |_=>exact⟨_,s',ds',H',G',q,hw',he,hs',hd',hx⟩
  · cases hc
 |cond c x y ihx ihy=>
  intro ro ac hc hro s ds G H w a Q h hw hs hd;simp only[acode] at hc;split at hc
  · rename_i az ax ay haz hax hay
    obtain rfl:=Option.some.inj hc;obtain⟨t,ht,h⟩:=h;have hv:=aV hw hs haz;rw[ht] at hv;refine wpIn_cond hv.dE ?_
    cases t with
    |true=>exact ihx ro ax hax (hro.imp (fun h=>h) fun h=>(Bool.and_eq_true _ _▸h).1) s ds G H w a Q h hw hs hd
    |false=>exact ihy ro ay hay (hro.imp (fun h=>h) fun h=>(Bool.and_eq_true _ _▸h).2) s ds G H w a Q h hw hs hd
  · cases hc
 |block id x ih=>
  intro ro ac hc hro s ds G H w a Q h hw hs hd;simp only[acode,Option.map_eq_some_iff] at hc;obtain⟨ax,hax,rfl⟩:=hc;refine wpIn_block (wpIn_mono (ih ro ax hax hro s ds G H w a _ h hw hs hd) fun e a' w' hq=>?_);obtain⟨ae,s',ds',H',G',q,hw',he,hs',hd',hx⟩:=hq
  cases ae with
  |exit i=>
   cases e with
   |exit i'=>
    obtain rfl:i=i':=hx;simp only[inBlockA] at q;simp only[Exit.inBlock];split
    · rename_i hi
      rw[if_pos hi] at q;exact⟨.normal,s',ds',H',G',q,hw',he,hs',hd',trivial⟩
    · rename_i hi
      rw[if_neg hi] at q;exact⟨.exit i,s',ds',H',G',q,hw',he,hs',hd',rfl⟩
   |_=>exact hx.elim
  |normal=>
   cases e with
   |normal=>exact⟨.normal,s',ds',H',G',q,hw',he,hs',hd',trivial⟩
   |_=>exact hx.elim
  |ret=>
   cases e with
   |ret=>exact⟨.ret,s',ds',H',G',q,hw',he,hs',hd',trivial⟩
   |_=>exact hx.elim
  |panic v=>
   cases e with
   |panic ch=>exact⟨.panic v,s',ds',H',G',q,hw',he,hs',hd',hx⟩
   |_=>exact hx.elim
 |loop x ih=>
  intro ro ac hc hro s ds G H w a Q h hw hs hd;simp only[acode,Option.map_eq_some_iff] at hc;obtain⟨ax,hax,rfl⟩:=hc;obtain⟨I,n,h0,hI⟩:=h;refine aDy (fun n a' w'=>∃s' ds' H' G',I n s' ds' H'∧WR g G' H' w'∧Ext G H w G' H' w'∧SR G' w' s' a'∧DsR G' w' ds' a'.defers) ⟨s,ds,H,G,h0,hw,Ext.refl G H w,hs,hd⟩ fun n a1 w1 hi=>?_;obtain⟨s1,ds1,H1,G1,hi,hw1,he1,hs1,hd1⟩:=hi;refine wpIn_mono (ih ro ax hax hro s1 ds1 G1 H1 w1 a1 _ (hI n s1 ds1 H1 hi) hw1 hs1 hd1) fun e a' w' hq=>?_;obtain⟨ae,s',ds',H',G',q,hw',he,hs',hd',hx⟩:=hq
  cases e with
  |normal=>
   cases ae with
   |normal=>
    obtain⟨m,hm,hi'⟩:=q;exact⟨m,hm,s',ds',H',G',hi',hw',he1.trans he,hs',hd'⟩
   |_=>exact hx.elim
  |_=>
   cases ae with
   |normal=>exact hx.elim
   |_=>exact⟨_,s',ds',H',G',q,hw',he1.trans he,hs',hd',hx⟩
 |scope x ih=>
  intro ro ac hc hro s ds G H w a Q h hw hs hd;exact aDz (ih ro ac hc hro s ds G H w a Q h hw hs hd) fun l a w=>QR.aRq
 |exit id=>
  intro ro ac hc hro s ds G H w a Q h hw hs hd;simp only[acode,Option.some.injEq] at hc;subst hc;exact wpIn_exit ⟨.exit id,s,ds,H,G,h,hw,Ext.refl G H w,hs,hd,rfl⟩
 |ret=>
  intro ro ac hc hro s ds G H w a Q h hw hs hd;simp only[acode,Option.some.injEq] at hc;subst hc;exact wpIn_ret ⟨.ret,s,ds,H,G,h,hw,Ext.refl G H w,hs,hd,trivial⟩
 |rangeFunc c ps x y ihx ihy=>
  intro ro ac hc hro s ds G H w a Q h hw hs hd;simp only[acode] at hc;split at hc
  · rename_i c' ax ay hc' hax hay
    split at hc
    · rename_i hnd
      obtain rfl:=Option.some.inj hc;rw[Bool.and_eq_true] at hnd
      obtain rfl:ro=none:=hro.resolve_right fun h=>by cases h
      obtain⟨fid,fs,cs,v,He,k',s',st,Hf,hcv,hS,hst,hless,hQ⟩:=h;have hvc:=aV hw hs hc';rw[hcv] at hvc;obtain⟨fsv,csv,hfv,h1,h2⟩:=nQ (p:=(fid,fs,cs)) rfl hvc;refine wpIn_rangeFunc fun fn _=>?_;obtain⟨r,hr⟩:∃r:Loop,r={state:=.ready,pending:=none,fn,tmps:=a.tmps,params:=ps,assign:=x,body:=y,defers:=w.heap.size}:=⟨_,rfl⟩
      have hrr:loopAt r .ready=r:=by rw[hr];rfl
      have fresh:∀{G:Gh} {H:Heap} {w:World},WR g G H w→G.loc H.next=none:=fun {G H w} hw=>by
       cases hl:G.loc H.next with
       |none=>rfl
       |some l'=>exact absurd (hw.lt _ _ hl) (Nat.lt_irrefl _)
      have m1:=hw.mQ H.next .dfd (.deferred (some [])) rfl (fresh hw) (Heap.aH H _) (Nat.le_succ _) (Nat.lt_succ_self _) (w':=w.alloc (.deferred (some []))) ⟨rfl,.now⟩ (fun _=>by show(w.heap.push _)[w.heap.size]?=_;simp);have hv1:SR (G.addLoc H.next ⟨w.heap.size,0,0,1⟩) (w.alloc (.deferred (some []))) s a:=hs.ext (m1.ext (Ext.refl G H w) (Nat.le_refl _))
      have m2:=m1.rel.mQ (H.alloc .dfd).next (.loop ⟨ps.toList,ax,ay⟩ s .ready) (.loop r) rfl (fresh m1.rel) (Heap.aH _ _) (Nat.le_succ _) (Nat.lt_succ_self _) (w':=(w.alloc (.deferred (some []))).alloc (.loop r)) ⟨rfl,.now⟩ (fun hmv=>by
       refine⟨r,(hm.lok _ _).2 ⟨by rw[hr],mu,by rw[hr];exact hax,by rw[hr];exact hay,hnd.1,hnd.2⟩,by rw[hrr];exact nA (w.heap.push (.deferred (some []))) (.loop r),?_⟩
       have hrt:r.tmps=a.tmps:=by rw[hr]
       rw[hrt]
       exact⟨hv1.1,fun j hj=>hmv _ _ (hv1.2 j hj)⟩)
      have e2:=m2.ext (m1.ext (Ext.refl G H w) (Nat.le_refl _)) (Nat.le_succ _);obtain⟨G2,hG2⟩:∃G2,G2=(G.addLoc H.next ⟨w.heap.size,0,0,1⟩).addLoc (H.alloc .dfd).next ⟨(w.alloc (.deferred (some []))).heap.size,0,0,1⟩:=⟨_,rfl⟩
      have hL:G2.loc (H.next+1)=some ⟨w.heap.size+1,0,0,1⟩:=by
       rw[hG2];show(if H.next+1=H.next+1 then some (⟨(w.heap.push _).size,0,0,1⟩:Loc) else _)=_;simp
      have hD:G2.loc H.next=some ⟨w.heap.size,0,0,1⟩:=by
       rw[hG2];show(if H.next=H.next+1 then _ else if H.next=H.next then some (⟨w.heap.size,0,0,1⟩:Loc) else _)=_;rw[if_neg (by omega),if_pos rfl]
      have hw2:=m2.rel;rw[←hG2] at hw2 e2;have hdummy:True:=trivial
      ·
       refine⟨w.heap.size+1,[{target:=.collected w.heap.size,args:= #[]}],_,{target:=.fn (.func fid) csv.toArray,args:=fsv.toArray++ #[.func (.yield (w.heap.size+1)) #[] #[]]},(w.alloc (.deferred (some []))).alloc (.loop {state:=.ready,pending:=none,fn,tmps:=a.tmps,params:=ps,assign:=x,body:=y,defers:=w.heap.size}),fid,_,_,
        run_enterLoop_outer _ _ _ _ _,?_,fun _ _=>trivial,eO hS.1 _ _ _,lR,?_⟩
       · simp only[resolve,rangeCall,hfv]
         simp[Deferred.ofValue,Act.eval]
       rw[←hr]
       have hvs:VRs G2 ((w.alloc (.deferred (some []))).alloc (.loop r)) (fs++[.yield (H.next+1)]++cs) (fsv++[.func (.yield (w.heap.size+1)) #[] #[]]++csv):=
        ((h1.ext e2).append ((VR.yield (H.next+1) _ hL).cons (VRs.nil _ _))).append (h2.ext e2)
       have hcall:=hS.2 G2 _ _ hw2 hvs;rw[show(fsv++[Value.func (.yield (w.heap.size+1)) #[] #[]]++csv).toArray=(fsv.toArray++ #[.func (.yield (w.heap.size+1)) #[] #[]])++csv.toArray by apply Array.ext';simp] at hcall;refine(tQ hcall).mono fun e w3 he=>?_;obtain⟨G3,hw3,he3,hout⟩:=he
       cases e with
       |panicked _=>exact hout.elim
       |outgrown=>exact hout.elim
       |returned u=>
        have hl3:=he3.loc _ _ hL;obtain⟨_,_,r3,hlk3,hb3,hsn3⟩:=hw3.mapr _ _ _ hl3 hst rfl;have eAll:=e2.trans he3
        have fin:∀(p:Option LEx),(loopAt r3 st).pending=p.map LEx.code→(loopAt r3 st).state≠ .busy→∃w4,(Instr.endLoop (w.heap.size+1)).run P w3=.ok (p.map LEx.code) w4∧
         WR g G3 Hf w4∧Ext G H w G3 Hf w4:=by
         intro p hp hb
         have h5:(Instr.endLoop (w.heap.size+1)).run P w3=.ok (p.map LEx.code) (w3.putObj (w.heap.size+1) (.loop {loopAt r3 st with state:=.exhausted})):=by
          have h5:=run_endLoop (P:=P) hb3 hb;rw[h5];exact congrArg (fun q=>Result.ok q _) hp
         obtain⟨q1,q2⟩:=hw3.oM (o':=.loop k' s' (.over p)) (x:=.loop {loopAt r3 st with state:=.exhausted}) (w':=w3.putObj (w.heap.size+1) (.loop {loopAt r3 st with state:=.exhausted})) hl3 hst rfl rfl rfl .now (fun hmv hself=>⟨r3,hlk3,by
          rw[hself];congr 2
          cases st<;>simp only[loopAt] at hp ⊢ <;>rw[hp],⟨hsn3.1,fun j hj=>hmv _ _ (hsn3.2 j hj)⟩⟩)
         have hg:∀m,Hf.get m=((He.set (H.next+1) (.loop k' s' (.over p))).set (H.next+1) .dead).get m:=fun m=>by
          rw[hless.2,Heap.aB,Heap.aB];split<;>rfl
         have hn:Hf.next=((He.set (H.next+1) (.loop k' s' (.over p))).set (H.next+1) .dead).next:=hless.1;exact⟨_,h5,(q1.kill (H.next+1)).eQ (fun m _ _=>hg m) (by omega),((eAll.trans q2).kill (H.next+1)).eQ (fun m _ _=>hg m) (by omega)⟩
        have fin2:∀{H4:Heap} {w4:World},Ext G H w G3 H4 w4→SR G3 w4 s {a with defers:=[{target:=.collected w.heap.size,args:= #[]}]++a.defers}∧
         DsR G3 w4 (.mark H.next::ds) ([{target:=.collected w.heap.size,args:= #[]}]++a.defers):=fun {H4 w4} ex=>
         ⟨hs.ext ex,⟨_,he3.loc _ _ hD,rfl⟩,hd.ext ex⟩
        cases st with
        |ready=>
         obtain⟨w4,h5,q1,q2⟩:=fin none rfl (by simp[loopAt]);exact⟨none,w4,h5,.normal,s,_,_,G3,hQ,q1,q2,(fin2 q2).1,(fin2 q2).2,trivial⟩
        |done e=>
         obtain⟨w4,h5,q1,q2⟩:=fin (some e) rfl (by simp[loopAt]);refine⟨_,w4,h5,?_⟩
         cases e with
         |ret=>exact wpIn_ret ⟨.ret,s,_,_,G3,hQ,q1,q2,(fin2 q2).1,(fin2 q2).2,trivial⟩
         |exit i=>exact wpIn_exit ⟨.exit i,s,_,_,G3,hQ,q1,q2,(fin2 q2).1,(fin2 q2).2,rfl⟩
        |busy=>exact hQ.elim
        |over _=>exact hQ.elim
    · cases hc
  · cases hc
 |_=>
  intro ro ac hc;simp[acode] at hc
theorem qZ {P:Program} {g:Genv} (hm:Fit P g) {id:Nat} {k:LKey} {s args:List AV} {H2 H3:Heap} {out:Out} (hget:H2.get id=some (.loop k s .ready)) (hlen:args.length=k.ps.length)
 (hA:ARound P g k s id args H2 out H3):YSound P g id args H2 out H3:=by
 intro G' w' vs l' hw' hv hl';obtain⟨_,_,r,hlk,hblk,hsn⟩:=hw'.mapr _ l' _ hl' hget rfl;obtain⟨hrp,mu,hax,hay,hnd⟩:=(hm.lok _ _).1 hlk;have hvl:=hv.1;have hy:=run_yield (P:=P) (args:=vs.toArray) hblk (by rw[←hvl] at hlen;show vs.toArray.size=r.params.size;rw[←Array.length_toList (xs:=r.params),hrp];simpa using hlen);refine⟨_,_,_,_,hy,roundIn_of_wpIn trivial ?_⟩
 have hS1:SR G' w' (putAll s (k.ps.zip args)) {tmps:=(r.params.zip vs.toArray).foldl (fun tmps (t,a)=>tmps.setIfInBounds t a) r.tmps,defers:=[]}:=by
  have key:∀(l:List Nat) (azs:List AV) (us:List Value) (s0:List AV) (tm:Array Value),VRs G' w' azs us→VRs G' w' s0 tm.toList→
   VRs G' w' (putAll s0 (l.zip azs)) ((l.zip us).foldl (fun tmps (t,a)=>tmps.setIfInBounds t a) tm).toList:=by
   intro l
   induction l with
   |nil=>intro azs us s0 tm _ h0;simpa [putAll] using h0
   |cons t l ih=>
    intro azs us s0 tm ha h0
    cases azs with
    |nil=>
     have :=ha.1;simp only[List.length_nil,List.length_eq_zero_iff] at this;subst this;simpa [putAll] using h0
    |cons v azs=>
     cases us with
     |nil=>have :=ha.1;simp at this
     |cons u us=>
      have hv0:=ha.2 0 (by simp);simp only[List.getD_cons_zero] at hv0;have ta:VRs G' w' azs us:=⟨by have :=ha.1;simpa using this,fun j hj=>by have :=ha.2 (j+1) (by simpa using hj);simpa using this⟩;simp only[List.zip_cons_cons,putAll,List.foldl_cons];refine ih azs us _ _ ta ?_;exact(SR.put (a:={tmps:=tm,defers:=[]}) h0 (some t) hv0:_)
  have :=key k.ps args vs s r.tmps hv hsn;show VRs G' w' _ _;rw[←Array.foldl_toList,Array.toList_zip,hrp];exact this
 refine wpIn_mono (lA hm _ (some l'.blk) _ hax (.inr hnd.1) _ [] G' H2 w' _ _ hA hw' hS1 trivial) fun e a1 w1 hq=>?_;obtain⟨ae,s1,ds1,H1,G1,q,hw1,he1,hs1,hd1,hx⟩:=hq
 cases ae with
 |normal=>
  cases e with
  |normal=>
   obtain⟨hds,k1,sn1,hget1,hbody⟩:=q;subst hds;have hl1:=he1.loc _ _ hl';obtain⟨_,_,r1,hlk1,hb1,hsn1⟩:=hw1.mapr _ _ _ hl1 hget1 rfl;obtain⟨q1,q2⟩:=hw1.oM (o':=.loop k1 sn1 .busy) (x:=.loop {loopAt r1 .ready with state:=.busy}) (w':=w1.putObj l'.blk (.loop {loopAt r1 .ready with state:=.busy})) hl1 hget1 rfl rfl rfl .now (fun hmv hself=>⟨r1,hlk1,hself,⟨hsn1.1,fun j hj=>hmv _ _ (hsn1.2 j hj)⟩⟩);refine⟨_,run_beginRound hb1 rfl,?_⟩
   have hd1':a1.defers=[]:=by
    cases hda:a1.defers with
    |nil=>rfl
    |cons d r=>rw[hda] at hd1;exact hd1.elim
   refine wpIn_mono (lA hm _ (some l'.blk) _ hay (.inr hnd.2) s1 [] G1 _ _ a1 _ hbody q1 (hs1.ext q2) (by rw[hd1'];trivial)) fun e a2 w3 hq=>?_;obtain⟨ae,s2,ds2,H4,G4,q,hw4,he4,hs4,hd4,hx⟩:=hq;have eAll:=(he1.trans q2).trans he4;have hl4:=(q2.trans he4).loc _ _ hl1
   have fin:∀(st:LSt) (b:Bool) (jump:Option Code),(∃k4 sn4,H4.get id=some (.loop k4 sn4 .busy)∧H3=H4.set id (.loop k4 sn4 st))→out=.ret (.bool b)→jump.isNone=b→
    (∀r q:Loop,q=loopAt r .busy→{q with state:=if jump.isNone then .ready else .done,pending:=jump}=loopAt r st)→
    ∃v w5,(Instr.endRound l'.blk jump).run P w3=.ok v w5∧∃G'',WR g G'' H3 w5∧Ext G' H2 w' G'' H3 w5∧OutR G'' w5 out (.returned v):=by
    intro st b jump ⟨k4,sn4,hg4,h3⟩ ho hj hla;obtain⟨_,_,r4,hlk4,hb4,hsn4⟩:=hw4.mapr _ _ _ hl4 hg4 rfl;have h6:=run_endRound (P:=P) jump hb4;rw[hla r4 _ rfl] at h6;obtain⟨p1,p2⟩:=hw4.oM (o':=.loop k4 sn4 st) (x:=.loop (loopAt r4 st)) (w':=w3.putObj l'.blk (.loop (loopAt r4 st))) hl4 hg4 rfl rfl rfl .now (fun hmv hself=>⟨r4,hlk4,hself,⟨hsn4.1,fun j hj=>hmv _ _ (hsn4.2 j hj)⟩⟩);refine⟨_,_,h6,G4,by rw[h3];exact p1,by rw[h3];exact eAll.trans p2,?_⟩;rw[ho,hj];exact .bool b
   cases ae with
   |normal=>
    cases e with
    |normal=>
     obtain⟨_,ho,hg4⟩:=q;exact fin .ready true none hg4 ho rfl (fun r q hq=>by subst hq;rfl)
    |_=>exact hx.elim
   |ret=>
    cases e with
    |ret=>
     obtain⟨_,ho,hg4⟩:=q;exact fin (.done .ret) false (some .ret) hg4 ho rfl (fun r q hq=>by subst hq;rfl)
    |_=>exact hx.elim
   |exit i=>
    cases e with
    |exit j=>
     obtain rfl:i=j:=hx;obtain⟨_,ho,hg4⟩:=q;exact fin (.done (.exit i)) false (some (.exit i)) hg4 ho rfl (fun r q hq=>by subst hq;rfl)
    |_=>exact hx.elim
   |panic v=>exact q.elim
  |_=>exact hx.elim
 |_=>exact q.elim
end Go.Av
