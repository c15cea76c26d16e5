/-
  Parts of the proof of statement 4: AvDraw, AvDrawB, AvDrawC
-/
import Derived.Test.YtjiignefffdelaaGreatDoorA10
set_option linter.unusedVariables false
set_option linter.unusedSimpArgs false
set_option linter.unusedSectionVars false
namespace Go.Av
open Go
def ROp.eff:ROp→Bool
 |.store _ _ _|.append _ _ _ _ _|.clr _ _ _|.mapup _ _ _ _|.call _ _=>true
 |_=>false
def ROp.reads:ROp→Bool
 |.load _ _ _|.slarr _ _ _ _ _ _|.b2str _|.lookup _ _ _ _ _=>true
 |_=>false
def idOf:AV→Option Nat
 |.ref id _=>some id
 |.sl id _ _ _ _=>some id
 |.map id=>some id
 |_=>none
def ROp.readsId (ev:Arg→AV):ROp→Option Nat
 |.load _ _ a=>idOf (ev a)
 |.slarr _ _ x _ _ _=>idOf (ev x)
 |.b2str x=>idOf (ev x)
 |.lookup _ _ _ x _=>idOf (ev x)
 |_=>none
def Arg.tmps:Arg→List Nat
 |.tmp t=>[t]
 |_=>[]
def ROp.args:ROp→List Arg
 |.mov x|.box x|.un _ x|.convi _ x|.str2b x|.b2str x|.s2ap _ x|.mkif _ x|.fadr _ x|.tass _ _ _ x|.extr x _|.lens x|.lenl x|.load _ _ x|.panic x|.clr _ _ x=>[x]
 |.pick a b c=>[a,b,c]
 |.alloc _|.mkmap=>[]
 |.build _ ps=>ps.map (·.2.2)
 |.mklit _ xs=>xs
 |.store _ a x=>[a,x]
 |.bin _ x y|.eqb _ x y|.eqf _ _ x y|.eqn _ _ _ x y=>[x,y]
 |.mkfn _ a b=>a++b
 |.mkslice _ _ _ l c=>[l,c]
 |.slstr x l h=>x::(l.toList++h.toList)
 |.slsl _ x l h m|.slarr _ _ x l h m=>x::(l.toList++(h.toList++m.toList))
 |.iadr _ _ x i|.idx _ _ _ x i|.idxs x i|.maxi x i|.mini x i=>[x,i]
 |.append _ _ _ x y=>[x,y]
 |.lookup _ _ _ x i=>[x,i]
 |.mapup _ m k v=>[m,k,v]
 |.call f azs|.deferc f azs=>f::azs
 |.mrange x|.mnext x|.mentry x=>[x]
theorem cW {ev ev':Arg→AV} {x:Option Arg} (h:∀y∈x.toList,ev y=ev' y):optNat ev x=optNat ev' x:=by
 cases x with
 |none=>rfl
 |some y=>simp[optNat,h y (by simp)]
theorem rS {ev ev':Arg→AV}:∀(ps:List (Nat×Nat×Arg)) (cs:List AV),(∀y∈ps.map (·.2.2),ev y=ev' y)→fillA ev cs ps=fillA ev' cs ps
 |[],cs,h=>rfl
 |(o,n,x)::r,cs,h=>by
  have hx:=h x (by simp);simp only[fillA,hx];split
  · exact rS r _ (fun y hy=>h y (by simp at hy ⊢;exact .inr hy))
  · rfl
theorem uL {ev ev':Arg→AV} (sz:Nat):∀(xs:List Arg),(∀y∈xs,ev y=ev' y)→litA ev sz xs=litA ev' sz xs
 |[],h=>rfl
 |x::r,h=>by
  have hx:=h x (by simp);simp only[litA,hx,uL sz r (fun y hy=>h y (by simp[hy]))]
theorem gO {ev ev':Arg→AV} {r:ROp} (h:∀y∈r.args,ev y=ev' y):fop ev r=fop ev' r:=by
 cases r<;>simp only[fop]<;>first
  |rfl
  |(have h1:=h _ (List.mem_cons_self);simp only[ROp.args] at h;simp only[h1])
  |skip
 case mkslice sz b z l c=>
  have h2:=h c (by simp);rw[h2]
theorem aJt {ev ev':Arg→AV} {r:ROp} (H:Heap) (h:∀y∈r.args,ev y=ev' y):aop ev H r=aop ev' H r:=by
 have hm:∀l:List Arg,(∀y∈l,y∈r.args)→l.map ev=l.map ev':=fun l hl=>List.map_congr_left fun y hy=>h y (hl y hy)
 cases r with
 |build z ps=>simp only[aop];rw[rS ps z h]
 |mklit sz xs=>simp only[aop];rw[uL sz xs h]
 |mkfn fn a b=>
  simp only[aop];rw[hm a (fun y hy=>by simp[ROp.args,hy]),hm b (fun y hy=>by simp[ROp.args,hy])]
 |slstr x l hh=>
  have h1:=h x (by simp[ROp.args]);have h2:optNat ev l=optNat ev' l:=cW fun y hy=>h y (by simp only[ROp.args,List.mem_cons,List.mem_append];exact .inr (.inl hy));have h3:optNat ev hh=optNat ev' hh:=cW fun y hy=>h y (by simp only[ROp.args,List.mem_cons,List.mem_append];exact .inr (.inr hy));simp only[aop,h1,h2,h3]
 |slsl sz x l hh m=>
  have h1:=h x (by simp[ROp.args]);have h2:optNat ev l=optNat ev' l:=cW fun y hy=>h y (by simp only[ROp.args,List.mem_cons,List.mem_append];exact .inr (.inl hy));have h3:optNat ev hh=optNat ev' hh:=cW fun y hy=>h y (by simp only[ROp.args,List.mem_cons,List.mem_append];exact .inr (.inr (.inl hy)));have h4:optNat ev m=optNat ev' m:=cW fun y hy=>h y (by simp only[ROp.args,List.mem_cons,List.mem_append];exact .inr (.inr (.inr hy)));simp only[aop,h1,h2,h3,h4]
 |slarr n sz x l hh m=>
  have h1:=h x (by simp[ROp.args]);have h2:optNat ev l=optNat ev' l:=cW fun y hy=>h y (by simp only[ROp.args,List.mem_cons,List.mem_append];exact .inr (.inl hy));have h3:optNat ev hh=optNat ev' hh:=cW fun y hy=>h y (by simp only[ROp.args,List.mem_cons,List.mem_append];exact .inr (.inr (.inl hy)));have h4:optNat ev m=optNat ev' m:=cW fun y hy=>h y (by simp only[ROp.args,List.mem_cons,List.mem_append];exact .inr (.inr (.inr hy)));simp only[aop,h1,h2,h3,h4]
 |alloc z=>simp only[aop,gO (r:=.alloc z) h]
 |box x=>simp only[aop,gO (r:=.box x) h]
 |mkmap=>simp only[aop,gO (r:=.mkmap) h]
 |mkslice a b c d e=>simp only[aop,gO (r:=.mkslice a b c d e) h]
 |str2b x=>simp only[aop,gO (r:=.str2b x) h]
 |pick a b c=>
  have h1:=h a (by simp[ROp.args]);have h2:=h b (by simp[ROp.args]);have h3:=h c (by simp[ROp.args]);simp only[aop,h1,h2,h3]
 |mapup k m i v=>
  have h1:=h m (by simp[ROp.args]);have h2:=h i (by simp[ROp.args]);have h3:=h v (by simp[ROp.args]);simp only[aop,h1,h2,h3]
 |call f azs=>rfl
 |deferc f azs=>rfl
 |panic x=>rfl
 |mrange x=>rfl
 |mnext x=>rfl
 |mentry x=>rfl
 |store n a b=>have h1:=h a (by simp[ROp.args]);have h2:=h b (by simp[ROp.args]);simp only[aop,h1,h2]
 |bin op a b=>have h1:=h a (by simp[ROp.args]);have h2:=h b (by simp[ROp.args]);simp only[aop,h1,h2]
 |eqb op a b=>have h1:=h a (by simp[ROp.args]);have h2:=h b (by simp[ROp.args]);simp only[aop,h1,h2]
 |eqf op s a b=>have h1:=h a (by simp[ROp.args]);have h2:=h b (by simp[ROp.args]);simp only[aop,h1,h2]
 |eqn op k l a b=>have h1:=h a (by simp[ROp.args]);have h2:=h b (by simp[ROp.args]);simp only[aop,h1,h2]
 |iadr n sz a b=>have h1:=h a (by simp[ROp.args]);have h2:=h b (by simp[ROp.args]);simp only[aop,h1,h2]
 |idx n sz g a b=>have h1:=h a (by simp[ROp.args]);have h2:=h b (by simp[ROp.args]);simp only[aop,h1,h2]
 |idxs a b=>have h1:=h a (by simp[ROp.args]);have h2:=h b (by simp[ROp.args]);simp only[aop,h1,h2]
 |append s b m x y=>have h1:=h x (by simp[ROp.args]);have h2:=h y (by simp[ROp.args]);simp only[aop,h1,h2]
 |lookup k z ok x y=>have h1:=h x (by simp[ROp.args]);have h2:=h y (by simp[ROp.args]);simp only[aop,h1,h2]
 |mov x=>have h1:=h x (by simp[ROp.args]);simp only[aop,h1]
 |maxi x y=>have h1:=h x (by simp[ROp.args]);have h2:=h y (by simp[ROp.args]);simp only[aop,h1,h2]
 |mini x y=>have h1:=h x (by simp[ROp.args]);have h2:=h y (by simp[ROp.args]);simp only[aop,h1,h2]
 |clr n z x=>have h1:=h x (by simp[ROp.args]);simp only[aop,h1]
 |un o x=>have h1:=h x (by simp[ROp.args]);simp only[aop,h1]
 |convi k x=>have h1:=h x (by simp[ROp.args]);simp only[aop,h1]
 |b2str x=>have h1:=h x (by simp[ROp.args]);simp only[aop,h1]
 |s2ap n x=>have h1:=h x (by simp[ROp.args]);simp only[aop,h1]
 |mkif t x=>have h1:=h x (by simp[ROp.args]);simp only[aop,h1]
 |fadr n x=>have h1:=h x (by simp[ROp.args]);simp only[aop,h1]
 |tass t ok z x=>have h1:=h x (by simp[ROp.args]);simp only[aop,h1]
 |extr x i=>have h1:=h x (by simp[ROp.args]);simp only[aop,h1]
 |lens x=>have h1:=h x (by simp[ROp.args]);simp only[aop,h1]
 |lenl x=>have h1:=h x (by simp[ROp.args]);simp only[aop,h1]
 |load g n x=>have h1:=h x (by simp[ROp.args]);simp only[aop,h1]
theorem rB {ev:Arg→AV} {r:ROp} (he:r.eff=false) (hf:r.fresh=false) {H H1:Heap} {v:AV} {H':Heap} (h:aop ev H r=some (v,H'))
 (hr:∀id,r.readsId ev=some id→H1.get id=H.get id):H'=H∧aop ev H1 r=some (v,H1):=by
 have hca:∀{id:Nat},H1.get id=H.get id→H1.cellsAt id=H.cellsAt id:=fun hh=>by simp[Heap.cellsAt,hh]
 cases r<;>first
  |(cases he;done)
  |(cases hf;done)
  |skip
 case load agg n a=>
  simp only[aop] at h ⊢;simp only[ROp.readsId] at hr;split at h
  · rename_i id off hid
    have :=hca (hr id (by rw[hid];rfl));simp only[this];split at h
    · split at h
      · split at h
        · simp only[Option.some.injEq,Prod.mk.injEq] at h ⊢;simp_all
        · split at h
          · simp only[Option.some.injEq,Prod.mk.injEq] at h ⊢;simp_all
          · cases h
      · cases h
    · cases h
  · rename_i cs hid
    split at h
    · split at h
      · simp only[Option.some.injEq,Prod.mk.injEq] at h ⊢;simp_all
      · split at h
        · simp only[Option.some.injEq,Prod.mk.injEq] at h ⊢;simp_all
        · cases h
    · cases h
  · cases h
 case slarr n sz x lo hi mx=>
  simp only[aop] at h ⊢;simp only[ROp.readsId] at hr;split at h
  · simp only[Option.map_eq_some_iff,Prod.mk.injEq] at h ⊢
    obtain⟨v',h,rfl,rfl⟩:=h;refine⟨rfl,v',?_,by simp⟩;unfold sliceArrA at h ⊢;simp only at h ⊢;split at h
    · rename_i hc
      rw[if_pos hc];split at h
      · rename_i id o hid
        have :=hca (hr id (by rw[hid];rfl));simp only[this];exact h
      · exact h
      · cases h
    · cases h
  · cases h
 case b2str x=>
  simp only[aop] at h ⊢;simp only[ROp.readsId] at hr
  have hel:elemsOf H1 1 (ev x)=elemsOf H 1 (ev x):=by
   cases hx:ev x<;>simp only[elemsOf];rename_i id sz off len cap;have :=hca (hr id (by rw[hx];rfl));simp only[this]
  split at h
  · cases h
  · rename_i hns
    rw[hel];split at h
    · simp only[Option.map_eq_some_iff,Prod.mk.injEq] at h ⊢
      obtain⟨bs,h1,rfl,rfl⟩:=h;exact⟨rfl,bs,h1,by simp⟩
    · cases h
 case lookup k z ok x i=>
  simp only[aop] at h ⊢;simp only[ROp.readsId] at hr;split at h
  · rename_i hk
    rw[if_pos hk];split at h
    · simp only[Option.some.injEq,Prod.mk.injEq] at h ⊢;simp_all
    · rename_i id hid
      have :=hr id (by rw[hid];rfl);simp only[this];split at h
      · split at h
        · simp only[Option.some.injEq,Prod.mk.injEq] at h ⊢;simp_all
        · simp only[Option.some.injEq,Prod.mk.injEq] at h ⊢;simp_all
        · cases h
      · cases h
    · cases h
  · cases h
 case maxi x y=>
  simp only[aop] at h ⊢;split at h
  · rename_i h1 h2
    simp only[Option.some.injEq,Prod.mk.injEq] at h;obtain⟨rfl,rfl⟩:=h;exact⟨rfl,rfl⟩
  · cases h
 case mini x y=>
  simp only[aop] at h ⊢;split at h
  · rename_i h1 h2
    simp only[Option.some.injEq,Prod.mk.injEq] at h;obtain⟨rfl,rfl⟩:=h;exact⟨rfl,rfl⟩
  · cases h
 all_goals
  simp only[aop] at h ⊢
  repeat' (split at h)
  all_goals first
   |(cases h;done)
   |(simp only[Option.some.injEq,Prod.mk.injEq] at h
     obtain⟨rfl,rfl⟩:=h
     exact⟨rfl,by simp_all⟩)
   |(simp only[Option.map_eq_some_iff,Prod.mk.injEq] at h
     obtain⟨q,h1,rfl,rfl⟩:=h
     exact⟨rfl,by simp_all⟩)
section
def usesOf (r:ROper):List Nat:=r.op.args.flatMap Arg.tmps++(match r.guard with|some (d,_)=>[d]|none=>[])
def freshIdx (rl:List ROper) (i:Nat):Nat:=(rl.take i).countP (·.op.fresh)
def DStep (P:Program) (g:Genv) (id:Nat) (r:ROper) (s:List AV) (H:Heap) (v:AV) (H':Heap):Prop:=
 if wantedA s r then
  if r.op.fresh then ∃ob val,fop (Arg.eval g s) r.op=some (ob,val)∧v=val id∧H'=H.set id ob
  else match r.op with
   |.call f azs=>∃p,calleeA (f.eval g s)=some p∧Sound P g p.1 (p.2.1++azs.map (Arg.eval g s)++p.2.2) H (.ret v) H'
   |.panic _|.deferc _ _=>False
   |op=>aop (Arg.eval g s) H op=some (v,H')
 else v=undefA∧H'=H
structure DrawRun (P:Program) (g:Genv) (rl:List ROper) (pairs:List (Nat×Nat)) (s0:List AV) (H0:Heap) (Hs:Nat→Heap) (ss:Nat→List AV) (vs:Nat→AV):Prop where
 s0:ss 0=s0
 h0:Hs 0={H0 with next:=H0.next+rl.countP (·.op.fresh)}
 free:∀k,k<rl.countP (·.op.fresh)→H0.get (H0.next+k)=none
 step:∀i r,rl[i]?=some r→DStep P g (H0.next+freshIdx rl i) r (ss i) (Hs i) (vs i) (Hs (i+1))∧ss (i+1)=putA (ss i) r.dst (vs i)
 mono:∀i r,rl[i]?=some r→r.op.eff=true→(Hs i).next≤(Hs (i+1)).next
 stable:∀i e,(i,e)∈pairs→∀ri re,rl[i]?=some ri→rl[e]?=some re→wantedA (ss i) ri=true→wantedA (ss e) re=true→
  ∀id,(ri.op.readsId (Arg.eval g (ss i))=some id∨(ri.op.fresh=true∧id=H0.next+freshIdx rl i))→(Hs e).get id=(Hs (e+1)).get id
structure DrawOK (ops:Array Oper) (rl:List ROper) (pairs:List (Nat×Nat)) (anc:Nat→Nat→Bool):Prop where
 edges:∀j o,ops[j]?=some o→∀e∈o.after,Region.binds .any e=true→e.on<j
 wit:∀i j,anc i j=true→∃o,ops[j]?=some o∧∃e∈o.after,Region.binds .any e=true∧(e.on=i∨anc i e.on=true)
 cmp:∀i j ri rj,i<j→rl[i]?=some ri→rl[j]?=some rj→anc i j=false→
  (ri.op.eff=true→rj.op.eff=false)∧(∀d,ri.dst=some d→d∉usesOf rj∧rj.dst≠some d)∧(∀d,rj.dst=some d→d∉usesOf ri)∧
  (rj.op.eff=true→(ri.op.reads=true∨ri.op.fresh=true)→(i,j)∈pairs)∧(ri.op.eff=true→rj.op.reads=true→(j,i)∈pairs)
 early:∀i j ri rj,i<j→rl[i]?=some ri→rl[j]?=some rj→ri.op.eff=true→rj.op.fresh=true→(j,i)∈pairs
 lits:∀(i:Nat) (r:ROper),rl[i]?=some r→r.op.reads=true→∀v,Arg.const v∈r.op.args→idOf v=none
theorem eJ {r:ROp} (h:r.fresh=true):r.eff=false:=by cases r<;>first|rfl|cases h
theorem dQ {r:ROp} {ev:Arg→AV} {id:Nat} (h:r.readsId ev=some id):r.reads=true:=by
 cases r<;>first|rfl|cases h
theorem tL {ev:Arg→AV} {r:ROp} {H:Heap} {x:AV×Heap} {id:Nat} (h:aop ev H r=some x) (hr:r.readsId ev=some id):H.get id≠none:=by
 intro hn
 have hc:H.cellsAt id=none:=by simp[Heap.cellsAt,hn]
 cases r<;>simp only[ROp.readsId] at hr<;>try (cases hr;done)
 · rename_i agg n a
   simp only[aop] at h
   cases ha:ev a<;>rw[ha] at hr<;>simp only[idOf] at hr<;>try (cases hr;done)
   all_goals (obtain rfl:=Option.some.inj hr;simp[ha,hc] at h)
 · rename_i x
   simp only[aop] at h
   cases ha:ev x<;>rw[ha] at hr<;>simp only[idOf] at hr<;>try (cases hr;done)
   all_goals (obtain rfl:=Option.some.inj hr;simp[ha,elemsOf,hc] at h)
 · rename_i n sz x lo hi mx
   simp only[aop] at h;split at h
   · unfold sliceArrA at h
     cases ha:ev x<;>rw[ha] at hr<;>simp only[idOf] at hr<;>try (cases hr;done)
     all_goals (obtain rfl:=Option.some.inj hr;simp[ha,hc] at h)
   · cases h
 · rename_i k z ok x i
   simp only[aop] at h;split at h
   · cases ha:ev x<;>rw[ha] at hr<;>simp only[idOf] at hr<;>try (cases hr;done)
     all_goals (obtain rfl:=Option.some.inj hr;simp[ha,hn] at h)
   · cases h
section
variable {P:Program} {g:Genv} {rl:List ROper} {pairs:List (Nat×Nat)} {s0:List AV} {H0:Heap} {Hs:Nat→Heap} {ss:Nat→List AV} {vs:Nat→AV}
abbrev kept (H0:Heap) (rl:List ROper) (i:Nat):Nat:=H0.next+freshIdx rl i
theorem lH {α:Type} (p:α→Bool):∀(l:List α) (i:Nat) (x:α),l[i]?=some x→p x=true→(l.take i).countP p<l.countP p
 |[],i,x,h,_=>by simp at h
 |y::l,0,x,h,hp=>by
  simp at h;subst h;simp[List.countP_cons,hp]
 |y::l,i+1,x,h,hp=>by
  have :=lH p l i x (by simpa using h) hp;simp only[List.take_succ_cons,List.countP_cons];omega
theorem jF {α:Type} (p:α→Bool):∀(l:List α) (i j:Nat) (x:α),l[i]?=some x→p x=true→i<j→(l.take i).countP p<(l.take j).countP p
 |[],i,j,x,h,_,_=>by simp at h
 |y::l,0,j+1,x,h,hp,_=>by
  simp at h;subst h;simp[List.countP_cons,hp]
 |y::l,i+1,j+1,x,h,hp,hij=>by
  have :=jF p l i j x (by simpa using h) hp (by omega);simp only[List.take_succ_cons,List.countP_cons];omega
theorem eN {i j:Nat} {ri rj:ROper} (hi:rl[i]?=some ri) (hj:rl[j]?=some rj) (fi:ri.op.fresh=true) (fj:rj.op.fresh=true) (hne:i≠j):kept H0 rl i≠kept H0 rl j:=by
 have key:∀{i j:Nat} {ri:ROper},rl[i]?=some ri→ri.op.fresh=true→i<j→freshIdx rl i<freshIdx rl j:=fun h f hij=>jF (fun r:ROper=>r.op.fresh) rl _ _ _ h f hij
 unfold kept
 rcases Nat.lt_or_gt_of_ne hne with h|h
 · have :=key hi fi h;omega
 · have :=key hj fj h;omega
theorem aHy {i:Nat} {ri:ROper} (hi:rl[i]?=some ri) (fi:ri.op.fresh=true):freshIdx rl i<rl.countP (·.op.fresh):=
 lH (fun r:ROper=>r.op.fresh) rl i ri hi fi
theorem DrawRun.eP (D:DrawRun P g rl pairs s0 H0 Hs ss vs) {i:Nat} {r:ROper} (hi:rl[i]?=some r) (hf:r.op.fresh=true) (hw:wantedA (ss i) r=true):
 ∃ob val,fop (Arg.eval g (ss i)) r.op=some (ob,val)∧vs i=val (kept H0 rl i)∧Hs (i+1)=(Hs i).set (kept H0 rl i) ob:=by
 have :=(D.step i r hi).1;unfold DStep at this;rw[if_pos hw,if_pos hf] at this;exact this
theorem DrawRun.oH (D:DrawRun P g rl pairs s0 H0 Hs ss vs) {i:Nat} {r:ROper} (hi:rl[i]?=some r) (hf:r.op.fresh=false) (he:r.op.eff=false):Hs (i+1)=Hs i:=by
 have :=(D.step i r hi).1;unfold DStep at this;split at this
 · rw[if_neg (by simp[hf])] at this
   split at this
   · rename_i hop
     rw[hop] at he;cases he
   · exact this.elim
   · exact this.elim
   · exact(rB (H1:=Hs i) he hf this (fun id _=>rfl)).1
 · exact this.2
theorem DrawRun.jC (D:DrawRun P g rl pairs s0 H0 Hs ss vs) {i:Nat} {r:ROper} (hi:rl[i]?=some r) (hw:wantedA (ss i) r=false):Hs (i+1)=Hs i∧vs i=undefA:=by
 have :=(D.step i r hi).1;unfold DStep at this;rw[if_neg (by simp[hw])] at this;exact⟨this.2,this.1⟩
theorem DrawRun.lS {ops:Array Oper} {anc:Nat→Nat→Bool} (D:DrawRun P g rl pairs s0 H0 Hs ss vs) (K:DrawOK ops rl pairs anc) {i:Nat} {r:ROper} (hi:rl[i]?=some r) (hf:r.op.fresh=true) (hw:wantedA (ss i) r=true):
 ∀k,k≤i→(Hs k).get (kept H0 rl i)=none:=by
 intro k
 induction k with
 |zero=>
  intro _;rw[D.h0];exact D.free _ (aHy hi hf)
 |succ k ih=>
  intro hk;have ihk:=ih (by omega);have hlt:=(List.getElem?_eq_some_iff.1 hi).1
  obtain⟨rk,hrk⟩:∃rk,rl[k]?=some rk:=⟨rl[k]'(by omega),List.getElem?_eq_getElem (by omega)⟩
  by_cases hwk:wantedA (ss k) rk=true
  · by_cases hek:rk.op.eff=true
    · rw[←D.stable i k (K.early k i rk r (by omega) hrk hi hek hf) r rk hi hrk hw hwk _ (.inr ⟨hf,rfl⟩)]
      exact ihk
    · by_cases hfk:rk.op.fresh=true
      · obtain⟨ob,val,_,_,h3⟩:=D.eP hrk hfk hwk
        rw[h3,Heap.aB,if_neg (eN hi hrk hf hfk (by omega))];exact ihk
      · rw[D.oH hrk (by simpa using hfk) (by simpa using hek)]
        exact ihk
  · rw[(D.jC hrk (by simpa using hwk)).1]
    exact ihk
theorem DrawRun.gC (D:DrawRun P g rl pairs s0 H0 Hs ss vs) {id:Nat} {p q:Nat} (hq:q≤rl.length)
 (heff:∀e r,p≤e→e<q→rl[e]?=some r→r.op.eff=true→wantedA (ss e) r=true→(Hs e).get id=(Hs (e+1)).get id)
 (hfr:∀i r,p≤i→i<q→rl[i]?=some r→r.op.fresh=true→wantedA (ss i) r=true→id≠kept H0 rl i):
 ∀k,p≤k→k≤q→(Hs k).get id=(Hs p).get id:=by
 intro k
 induction k with
 |zero=>intro h1 _;obtain rfl:p=0:=(by omega);rfl
 |succ k ih=>
  intro h1 h2;by_cases hp:p=k+1
  · rw[hp]
  · rw[←ih (by omega) (by omega)]
    obtain⟨rk,hrk⟩:∃rk,rl[k]?=some rk:=⟨rl[k]'(by omega),List.getElem?_eq_getElem (by omega)⟩
    by_cases hwk:wantedA (ss k) rk=true
    · by_cases hek:rk.op.eff=true
      · exact(heff k rk (by omega) (by omega) hrk hek hwk).symm
      · by_cases hfk:rk.op.fresh=true
        · obtain⟨ob,val,_,_,h3⟩:=D.eP hrk hfk hwk
          rw[h3,Heap.aB,if_neg (hfr k rk (by omega) (by omega) hrk hfk hwk)]
        · rw[D.oH hrk (by simpa using hfk) (by simpa using hek)]
    · rw[(D.jC hrk (by simpa using hwk)).1]
theorem DrawRun.yL (D:DrawRun P g rl pairs s0 H0 Hs ss vs) {p q:Nat} (hq:q≤rl.length) (heff:∀e r,p≤e→e<q→rl[e]?=some r→r.op.eff=false):
 ∀k,p≤k→k≤q→(Hs k).next=(Hs p).next:=by
 intro k
 induction k with
 |zero=>intro h1 _;obtain rfl:p=0:=(by omega);rfl
 |succ k ih=>
  intro h1 h2;by_cases hp:p=k+1
  · rw[hp]
  · rw[←ih (by omega) (by omega)]
    obtain⟨rk,hrk⟩:∃rk,rl[k]?=some rk:=⟨rl[k]'(by omega),List.getElem?_eq_getElem (by omega)⟩
    have hek:=heff k rk (by omega) (by omega) hrk;by_cases hwk:wantedA (ss k) rk=true
    · by_cases hfk:rk.op.fresh=true
      · obtain⟨ob,val,_,_,h3⟩:=D.eP hrk hfk hwk
        rw[h3];rfl
      · rw[D.oH hrk (by simpa using hfk) hek]
    · rw[(D.jC hrk (by simpa using hwk)).1]
theorem DrawRun.mP (D:DrawRun P g rl pairs s0 H0 Hs ss vs) {p:Nat}:∀k,p≤k→k≤rl.length→(Hs p).next≤(Hs k).next:=by
 intro k
 induction k with
 |zero=>intro h1 _;obtain rfl:p=0:=(by omega);exact Nat.le_refl _
 |succ k ih=>
  intro h1 h2;by_cases hp:p=k+1
  · rw[hp];exact Nat.le_refl _
  · refine Nat.le_trans (ih (by omega) (by omega)) ?_
    obtain⟨rk,hrk⟩:∃rk,rl[k]?=some rk:=⟨rl[k]'(by omega),List.getElem?_eq_getElem (by omega)⟩
    by_cases hek:rk.op.eff=true
    · exact D.mono k rk hrk hek
    · have :=D.yL (p:=k) (q:=k+1) h2 (fun e r h3 h4 h5=>by
       obtain rfl:e=k:=by omega
       rw[hrk] at h5;cases h5
       simpa using hek) (k+1) (by omega) (Nat.le_refl _)
      omega
def writes (rl:List ROper) (s0:List AV) (t i:Nat):Bool:=
 match rl[i]? with
 |some r=>r.dst==some t&&decide (t<s0.length)
 |none=>false
def lastv (S:Nat→Bool) (rl:List ROper) (s0:List AV) (vs:Nat→AV) (t:Nat):Nat→AV
 |0=>s0.getD t undefA
 |i+1=>if(S i&&writes rl s0 t i)=true then vs i else lastv S rl s0 vs t i
theorem xQ (s:List AV) (dst:Option Nat) (v:AV) (t:Nat):(putA s dst v).getD t undefA=if dst=some t∧t<s.length then v else s.getD t undefA:=by
 cases dst with
 |none=>simp[putA]
 |some d=>
  simp only[putA,Option.some.injEq];rw[getD_eq,getD_eq,List.getElem?_set];by_cases hd:d=t
  · subst hd
    by_cases hl:d<s.length
    · simp[hl]
    · simp[hl]
  · simp[hd]
theorem sA (s:List AV) (dst:Option Nat) (v:AV):(putA s dst v).length=s.length:=by
 cases dst<;>simp[putA]
theorem DrawRun.xU (D:DrawRun P g rl pairs s0 H0 Hs ss vs):∀j,j≤rl.length→(ss j).length=s0.length:=by
 intro j
 induction j with
 |zero=>intro _;rw[D.s0]
 |succ j ih=>
  intro hj
  obtain⟨r,hr⟩:∃r,rl[j]?=some r:=⟨rl[j]'(by omega),List.getElem?_eq_getElem (by omega)⟩
  rw[(D.step j r hr).2,sA,ih (by omega)]
theorem DrawRun.aDs (D:DrawRun P g rl pairs s0 H0 Hs ss vs) (t:Nat):∀j,j≤rl.length→(ss j).getD t undefA=lastv (fun _=>true) rl s0 vs t j:=by
 intro j
 induction j with
 |zero=>intro _;rw[D.s0];rfl
 |succ j ih=>
  intro hj
  obtain⟨r,hr⟩:∃r,rl[j]?=some r:=⟨rl[j]'(by omega),List.getElem?_eq_getElem (by omega)⟩
  rw[(D.step j r hr).2,xQ,D.xU j (by omega),ih (by omega)];simp only[lastv,writes,hr,Bool.true_and,Bool.and_eq_true,beq_iff_eq,decide_eq_true_eq]
end
end
section
def doneB (listed:Array Bool) (i:Nat):Bool:=listed.getD i false
structure DInv (P:Program) (g:Genv) (ops:Array Oper) (rl:List ROper) (pairs:List (Nat×Nat)) (anc:Nat→Nat→Bool) (s0:List AV) (H0:Heap) (Hs:Nat→Heap) (ss:Nat→List AV) (vs:Nat→AV)
 (G0:Gh) (w0:World) (dl:List Deferred) (listed:Array Bool) (p:Nat) (G:Gh) (HS:Heap) (w:World) (a:Act) (sS:List AV):Prop where
 size:listed.size=rl.length
 closed:∀i j,doneB listed j=true→anc i j=true→doneB listed i=true
 ple:p≤rl.length
 pos:∀i r,rl[i]?=some r→r.op.eff=true→(doneB listed i=true↔i<p)
 rel:WR g G HS w
 nxt:HS.next=(Hs p).next
 domS:∀i r,rl[i]?=some r→r.op.fresh=true→(∃l,G.loc (kept H0 rl i)=some l)→doneB listed i=true∧wantedA (ss i) r=true
 cont:∀id l,G.loc id=some l→
  (∃i r,rl[i]?=some r∧r.op.fresh=true∧doneB listed i=true∧wantedA (ss i) r=true∧p≤i∧id=kept H0 rl i∧HS.get id=(Hs (i+1)).get id)∨
  ((∀i r,p≤i→rl[i]?=some r→r.op.fresh=true→wantedA (ss i) r=true→id≠kept H0 rl i)∧HS.get id=(Hs p).get id)
 excl:∀i r,p≤i→rl[i]?=some r→r.op.fresh=true→doneB listed i=true→wantedA (ss i) r=true→∀l,G.loc (kept H0 rl i)=some l→
  ∀id' l',id'≠kept H0 rl i→G.loc id'=some l'→HS.live id'→l'.blk≠l.blk
 ext:Ext G0 H0 w0 G HS w
 temps:SR G w sS a
 last:∀t,sS.getD t undefA=lastv (doneB listed) rl s0 vs t rl.length
 len:sS.length=s0.length
 dfr:a.defers=dl
section
variable {P:Program} {g:Genv} {ops:Array Oper} {rl:List ROper} {pairs:List (Nat×Nat)} {anc:Nat→Nat→Bool} {s0:List AV} {H0:Heap} {Hs:Nat→Heap} {ss:Nat→List AV} {vs:Nat→AV}
variable {G0:Gh} {w0:World} {dl:List Deferred} {listed:Array Bool} {p:Nat} {G:Gh} {HS:Heap} {w:World} {a:Act} {sS:List AV}
theorem iO {S S':Nat→Bool} {t:Nat}:∀m,(∀i,i<m→(S i&&writes rl s0 t i)=(S' i&&writes rl s0 t i))→lastv S rl s0 vs t m=lastv S' rl s0 vs t m
 |0,_=>rfl
 |m+1,h=>by
  simp only[lastv];rw[h m (by omega),iO m (fun i hi=>h i (by omega))]
theorem oB {S:Nat→Bool} {t k:Nat}:∀m,k≤m→(∀i,k≤i→i<m→(S i&&writes rl s0 t i)=false)→lastv S rl s0 vs t m=lastv S rl s0 vs t k
 |0,hk,_=>by obtain rfl:k=0:=(by omega);rfl
 |m+1,hk,h=>by
  by_cases he:k=m+1
  · rw[he]
  · simp only[lastv]
    rw[h m (by omega) (by omega)];simp only[Bool.false_eq_true,if_false];exact oB m (by omega) (fun i h1 h2=>h i h1 (by omega))
theorem mD {t i:Nat} (h:writes rl s0 t i=true):∃r,rl[i]?=some r∧r.dst=some t∧t<s0.length:=by
 unfold writes at h;split at h
 · rename_i r hr
   simp only[Bool.and_eq_true,beq_iff_eq,decide_eq_true_eq] at h;exact⟨r,hr,h.1,h.2⟩
 · cases h
structure Rdy (ops:Array Oper) (listed:Array Bool) (j:Nat):Prop where
 lt:j<ops.size
 not:doneB listed j=false
 deps:∀o,ops[j]?=some o→∀e∈o.after,Region.binds .any e=true→doneB listed e.on=true
variable (I:DInv P g ops rl pairs anc s0 H0 Hs ss vs G0 w0 dl listed p G HS w a sS) (D:DrawRun P g rl pairs s0 H0 Hs ss vs) (K:DrawOK ops rl pairs anc)
include I K
theorem DInv.pA {j:Nat} (hj:Rdy ops listed j) {i:Nat} (h:anc i j=true):doneB listed i=true:=by
 obtain⟨o,ho,e,he,hb,hc⟩:=K.wit i j h;have hd:=hj.deps o ho e he hb
 rcases hc with rfl|hc
 · exact hd
 · exact I.closed _ _ hd hc
theorem DInv.bCx {j:Nat} {r:ROper} (hj:Rdy ops listed j) (hr:rl[j]?=some r) {t:Nat} (ht:t∈usesOf r) (D:DrawRun P g rl pairs s0 H0 Hs ss vs):sS.getD t undefA=(ss j).getD t undefA:=by
 have hlt:=(List.getElem?_eq_some_iff.1 hr).1;rw[I.last t,D.aDs t j (by omega)];rw[oB (k:=j) rl.length (by omega) (fun i h1 h2=>?_)]
 · refine iO j (fun i hi=>?_)
   by_cases hw:writes rl s0 t i=true
   · obtain⟨ri,hri,hd,_⟩:=mD hw
     have :anc i j=true:=by
      cases hc:anc i j with
      |true=>rfl
      |false=>exact absurd ht ((K.cmp i j ri r hi hri hr hc).2.1 t hd).1
     rw[I.pA K hj this]
   · simp[hw]
 · cases hs:doneB listed i with
   |false=>rfl
   |true=>
    cases hw:writes rl s0 t i with
    |false=>rfl
    |true=>
     obtain⟨ri,hri,hd,_⟩:=mD hw
     have hne:i≠j:=fun he=>by rw[he,hj.not] at hs;cases hs
     have :anc j i=true:=by
      cases hc:anc j i with
      |true=>rfl
      |false=>exact absurd ht ((K.cmp j i r ri (by omega) hr hri hc).2.2.1 t hd)
     have :=I.closed j i hs this;rw[hj.not] at this;cases this
theorem DInv.eval_eq {j:Nat} {r:ROper} (hj:Rdy ops listed j) (hr:rl[j]?=some r) (D:DrawRun P g rl pairs s0 H0 Hs ss vs):∀y∈r.op.args,Arg.eval g sS y=Arg.eval g (ss j) y:=by
 intro y hy
 cases y with
 |tmp t=>
  have :t∈usesOf r:=by
   unfold usesOf;refine List.mem_append.2 (.inl (List.mem_flatMap.2 ⟨_,hy,?_⟩));simp[Arg.tmps]
  exact I.bCx K hj hr this D
 |const v=>rfl
 |glob n=>rfl
theorem DInv.aMl {j:Nat} {r:ROper} (hj:Rdy ops listed j) (hr:rl[j]?=some r) (D:DrawRun P g rl pairs s0 H0 Hs ss vs):wantedA sS r=wantedA (ss j) r:=by
 unfold wantedA;split
 · rfl
 · rename_i d b hg
   rw[I.bCx K hj hr (t:=d) (by unfold usesOf;rw[hg];simp) D]
theorem aKm {listed:Array Bool} {j:Nat} (hj:j<listed.size) (i:Nat):doneB (listed.setIfInBounds j true) i=if i=j then true else doneB listed i:=by
 unfold doneB;rw[Array.getD_eq_getD_getElem?,Array.getD_eq_getD_getElem?,Array.getElem?_setIfInBounds];by_cases h:j=i
 · subst h
   simp[hj]
 · rw[if_neg h,if_neg (Ne.symm h)]
theorem DInv.aAb {j:Nat} {r:ROper} (hj:Rdy ops listed j) (hr:rl[j]?=some r) (he:r.op.eff=true):p≤j∧∀e re,p≤e→e<j→rl[e]?=some re→re.op.eff=false:=by
 have hpj:p≤j:=by
  refine Nat.le_of_not_lt fun hlt=>?_;have :=(I.pos j r hr he).2 hlt;rw[hj.not] at this;cases this
 refine⟨hpj,fun e re h1 h2 hre=>?_⟩
 cases hee:re.op.eff with
 |false=>rfl
 |true=>
  have :anc e j=true:=by
   cases hc:anc e j with
   |true=>rfl
   |false=>
    have :=(K.cmp e j re r h2 hre hr hc).1 hee;rw[he] at this;cases this
  have :=(I.pos e re hre hee).1 (I.pA K hj this);omega
theorem DInv.next {j:Nat} {r:ROper} (hj:Rdy ops listed j) (hr:rl[j]?=some r) {p':Nat} {G':Gh} {HS':Heap} {w':World} {u:Value} (hp':p'=if r.op.eff=true then j+1 else p)
 (rel':WR g G' HS' w') (nxt':HS'.next=(Hs p').next)
 (domS':∀i r',rl[i]?=some r'→r'.op.fresh=true→(∃l,G'.loc (kept H0 rl i)=some l)→(i=j∨doneB listed i=true)∧wantedA (ss i) r'=true)
 (cont':∀id l,G'.loc id=some l→
   (∃i r,rl[i]?=some r∧r.op.fresh=true∧(i=j∨doneB listed i=true)∧wantedA (ss i) r=true∧p'≤i∧id=kept H0 rl i∧HS'.get id=(Hs (i+1)).get id)∨
   ((∀i r,p'≤i→rl[i]?=some r→r.op.fresh=true→wantedA (ss i) r=true→id≠kept H0 rl i)∧HS'.get id=(Hs p').get id))
 (excl':∀i r,p'≤i→rl[i]?=some r→r.op.fresh=true→(i=j∨doneB listed i=true)→wantedA (ss i) r=true→∀l,G'.loc (kept H0 rl i)=some l→
   ∀id' l',id'≠kept H0 rl i→G'.loc id'=some l'→HS'.live id'→l'.blk≠l.blk)
 (ext':Ext G0 H0 w0 G' HS' w') (hv:VR G' w' (vs j) u) (hs':SR G' w' sS a):
 DInv P g ops rl pairs anc s0 H0 Hs ss vs G0 w0 dl (listed.setIfInBounds j true) p' G' HS' w' (a.put r.dst u) (putA sS r.dst (vs j)):=by
 have hlt:=(List.getElem?_eq_some_iff.1 hr).1
 have hset:∀i,doneB (listed.setIfInBounds j true) i=if i=j then true else doneB listed i:=aKm I K (by rw[I.size];exact hlt)
 have hor:∀i,(i=j∨doneB listed i=true)↔doneB (listed.setIfInBounds j true) i=true:=fun i=>by
  rw[hset];by_cases hi:i=j<;>simp[hi]
 refine⟨by simp[I.size],fun i k h1 h2=>?_,?_,fun i ri hri hei=>?_,rel',nxt',fun i r' h1 h2 h3=>?_,fun id l hl=>?_,fun i r' h1 h2 h3 h4 h5=>?_,ext',hs'.put r.dst hv,fun t=>?_,?_,?_⟩
 · rw[←hor] at h1 ⊢
   rcases h1 with rfl|h1
   · exact .inr (I.pA K hj h2)
   · exact .inr (I.closed i k h1 h2)
 · rw[hp']
   split
   · omega
   · exact I.ple
 · rw[←hor]
   by_cases he:r.op.eff=true
   · rw[hp',if_pos he]
     obtain⟨h1,h2⟩:=I.aAb K hj hr he;constructor
     · rintro(rfl|h)
       · omega
       · have :=(I.pos i ri hri hei).1 h;omega
     · intro h
       by_cases hi:i=j
       · exact .inl hi
       · refine .inr ((I.pos i ri hri hei).2 (Nat.lt_of_not_le fun hle=>?_))
         have :=h2 i ri hle (by omega) hri;rw[hei] at this;cases this
   · rw[hp',if_neg he]
     rw[←I.pos i ri hri hei];constructor
     · rintro(rfl|h)
       · rw[hr] at hri
         cases hri;exact absurd hei he
       · exact h
     · exact .inr
 · have :=domS' i r' h1 h2 h3
   exact⟨(hor i).1 this.1,this.2⟩
 · rcases cont' id l hl with ⟨i,ri,c1,c2,c3,c4⟩|h
   · exact .inl ⟨i,ri,c1,c2,(hor i).1 c3,c4⟩
   · exact .inr h
 · exact excl' i r' h1 h2 h3 ((hor i).2 h4) h5
 · rw[xQ,I.len,I.last t]
   by_cases hw:r.dst=some t∧t<s0.length
   · rw[if_pos hw]
     have hwr:writes rl s0 t j=true:=by simp[writes,hr,hw]
     rw[oB (k:=j+1) rl.length (by omega) (fun i h1 h2=>?_)]
     · simp only[lastv,hset j,if_true,hwr,Bool.and_self]
     · rw[hset,if_neg (by omega)]
       cases hs:doneB listed i with
       |false=>rfl
       |true=>
        cases hwi:writes rl s0 t i with
        |false=>rfl
        |true=>
         obtain⟨ri,hri,hd,_⟩:=mD hwi
         have :anc j i=true:=by
          cases hc:anc j i with
          |true=>rfl
          |false=>exact absurd hd ((K.cmp j i r ri (by omega) hr hri hc).2.1 t hw.1).2
         have :=I.closed j i hs this;rw[hj.not] at this;cases this
   · rw[if_neg hw]
     refine iO rl.length (fun i hi=>?_);rw[hset];by_cases hij:i=j
     · subst hij
       have :writes rl s0 t i=false:=by
        simp only[writes,hr];simpa using hw
       rw[this];simp
     · rw[if_neg hij]
 · rw[sA,I.len]
 · cases r.dst<;>exact I.dfr
end
end
end Go.Av
