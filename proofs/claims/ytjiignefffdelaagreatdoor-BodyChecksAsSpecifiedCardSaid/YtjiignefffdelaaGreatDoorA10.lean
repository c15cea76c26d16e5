/-
  Parts of the proof of statement 4: AvRun
-/
import Derived.Test.YtjiignefffdelaaGreatDoorA09
import Derived.Maps.RangeRun
import Derived.RangeFuncLeaves
import Derived.RangeFuncSeq
import Derived.OrdersIn
set_option linter.unusedVariables false
set_option linter.unusedSimpArgs false
namespace Go.Av
open Go
inductive Out where
 |ret (v:AV)
 |pan (v:AV)
def OutR (G:Gh) (w:World):Out→Ending→Prop
 |.ret v,.returned u=>VR G w v u
 |.pan v,.panicked chain=>∃u,chain=[{v:=u,recovered:=false}]∧VR G w v u
 |_,_=>False
def FnOK (P:Program) (f:FuncId):Prop:=∃fn,P.funcs[f]?=some fn∧fn.body.isSome=true∧(fn.name== "runtime.NumGoroutine")=false
def Sound (P:Program) (g:Genv) (f:FuncId) (args:List AV) (H:Heap) (out:Out) (H':Heap):Prop:=
 FnOK P f∧∀(G:Gh) (w:World) (vs:List Value),WR g G H w→VRs G w args vs→
  Calls P f vs.toArray w fun e w'=>∃G',WR g G' H' w'∧Ext G H w G' H' w'∧OutR G' w' out e
def Fw (ro:Option Nat):Fence:={Fence.wide with round:=ro}
def YSound (P:Program) (g:Genv) (id:Nat) (args:List AV) (H:Heap) (out:Out) (H':Heap):Prop:=
 ∀(G:Gh) (w:World) (vs:List Value) (l:Loc),WR g G H w→VRs G w args vs→G.loc id=some l→
  YieldAt Fence.wide 0 P l.blk vs.toArray w fun e w'=>∃G',WR g G' H' w'∧Ext G H w G' H' w'∧OutR G' w' out e
inductive Dfr where
 |call (f:FuncId) (azs:List AV)
 |mark (id:Nat)
inductive AEx where
 |normal
 |exit (id:Nat)
 |ret
 |panic (v:AV)
def wantedA (s:List AV) (o:ROper):Bool:=
 match o.guard with
 |none=>true
 |some (d,b)=>match s.getD d undefA with
  |.bool c=>c==b
  |_=>false
def putA (s:List AV) (dst:Option Nat) (v:AV):List AV:=
 match dst with
 |none=>s
 |some d=>s.set d v
def calleeA:AV→Option (FuncId×List AV×List AV)
 |.func (.func f) fs cs=>some (f,fs,cs)
 |_=>none
def CallS (P:Program) (g:Genv) (fv:AV) (args:List AV) (H:Heap) (out:Out) (H':Heap):Prop:=
 (∃p,calleeA fv=some p∧Sound P g p.1 (p.2.1++args++p.2.2) H out H')∨(∃id,fv=.yield id∧YSound P g id args H out H')
abbrev AQ:=AEx→List AV→List Dfr→Heap→Prop
def AOps (P:Program) (g:Genv):List ROper→List AV→List Dfr→Heap→AQ→Prop
 |[],s,ds,H,Q=>Q .normal s ds H
 |o::r,s,ds,H,Q=>
  if wantedA s o then
   match o.op with
   |.call f azs=>∃out H',CallS P g (f.eval g s) (azs.map (Arg.eval g s)) H out H'∧
     match out with
     |.ret v=>AOps P g r (putA s o.dst v) ds H' Q
     |.pan v=>Q (.panic v) s ds H'
   |.panic x=>∃t v,x.eval g s=.iface t v∧Q (.panic (.iface t v)) s ds H
   |.deferc f azs=>∃p,calleeA (f.eval g s)=some p∧AOps P g r (putA s o.dst undefA) (.call p.1 (p.2.1++azs.map (Arg.eval g s)++p.2.2)::ds) H Q
   |.mrange x=>∃m es,x.eval g s=.map m∧H.get m=some (.map es)∧∀bs c mb,bs.length=es.length→bs.Nodup→
     AOps P g r (putA s o.dst (.ref H.next 0)) ds ((H.set m (.mapf es bs c mb)).alloc (.iter m mb c [])) Q
   |.mnext x=>∃it m mb c seen es bs,x.eval g s=.ref it 0∧H.get it=some (.iter m mb c seen)∧H.get m=some (.mapf es bs c mb)∧
     ((∀b∈bs,b∈seen)→AOps P g r (putA s o.dst (.tup [.bool false])) ds H Q)∧
     ∀j,j<bs.length→bs.getD j 0∉seen→AOps P g r (putA s o.dst (.tup [.bool true,(es.getD j (undefA,undefA)).1,(es.getD j (undefA,undefA)).2])) ds (H.set it (.iter m mb c (seen++[bs.getD j 0]))) Q
   |.mentry x=>∃it m mb c seen es bs j,x.eval g s=.ref it 0∧H.get it=some (.iter m mb c (seen++[bs.getD j 0]))∧H.get m=some (.mapf es bs c mb)∧j<bs.length∧
     AOps P g r (putA s o.dst (.tup [(es.getD j (undefA,undefA)).1,(es.getD j (undefA,undefA)).2])) ds H Q
   |op=>∃v H',aop (Arg.eval g s) H op=some (v,H')∧AOps P g r (putA s o.dst v) ds H' Q
  else AOps P g r (putA s o.dst undefA) ds H Q
def DsR (G:Gh) (w:World):List Dfr→List Deferred→Prop
 |[],[]=>True
 |.call f azs::ds,d::r=>(∃cap:List Value,d.target=.fn (.func f) cap.toArray∧VRs G w azs (d.args.toList++cap))∧DsR G w ds r
 |.mark id::ds,d::r=>(∃l,G.loc id=some l∧d.target=.collected l.blk)∧DsR G w ds r
 |_,_=>False
theorem DsR.ext {G G':Gh} {H H':Heap} {w w':World} (e:Ext G H w G' H' w'):∀{ds:List Dfr} {l:List Deferred},DsR G w ds l→DsR G' w' ds l
 |[],[],_=>trivial
 |.call f azs::ds,d::r,h=>⟨let⟨cap,h1,h2⟩:=h.1;⟨cap,h1,h2.ext e⟩,DsR.ext e h.2⟩
 |.mark id::ds,d::r,h=>⟨let⟨l,h1,h2⟩:=h.1;⟨l,e.loc _ _ h1,h2⟩,DsR.ext e h.2⟩
 |[],_::_,h=>h.elim
 |.call _ _::_,[],h=>h.elim
 |.mark _::_,[],h=>h.elim
def ExR (G:Gh) (w:World):AEx→Exit→Prop
 |.normal,.normal=>True
 |.exit i,.exit j=>i=j
 |.ret,.ret=>True
 |.panic v,.panic chain=>∃u,chain=[{v:=u,recovered:=false}]∧VR G w v u
 |_,_=>False
def QR (g:Genv) (G:Gh) (H:Heap) (w:World) (Q:AQ):Exit→Act→World→Prop:=fun e a' w'=>
 ∃ae s' ds' H' G',Q ae s' ds' H'∧WR g G' H' w'∧Ext G H w G' H' w'∧SR G' w' s' a'∧DsR G' w' ds' a'.defers∧ExR G' w' ae e
theorem QR.trans {g:Genv} {G G1:Gh} {H H1:Heap} {w w1:World} {Q:AQ} (e:Ext G H w G1 H1 w1) {x:Exit} {a:Act} {w':World} (h:QR g G1 H1 w1 Q x a w'):QR g G H w Q x a w':=
 let⟨ae,s',ds',H',G',q,hw,he,hs,hd,hx⟩:=h
 ⟨ae,s',ds',H',G',q,hw,e.trans he,hs,hd,hx⟩
def coper (P:Program) (g:Genv) (mu:Bool) (ops:Array Oper) (o:Oper):Option ROper:=
 match cop P g mu o with
 |some r=>
  match o.guard with
  |none=>some ⟨o.dst,r,none⟩
  |some (j,b)=>match (ops[j]?).bind (·.dst) with
   |some d=>some ⟨o.dst,r,some (d,b)⟩
   |none=>none
 |none=>none
def copers (P:Program) (g:Genv) (mu:Bool) (ops:Array Oper):List Oper→Option (List ROper)
 |[]=>some []
 |o::r=>match coper P g mu ops o,copers P g mu ops r with
  |some x,some xs=>some (x::xs)
  |_,_=>none
theorem nS {P:Program} {g:Genv} {mu:Bool} {ops:Array Oper} {o:Oper} {r:ROper} (h:coper P g mu ops o=some r):r.dst=o.dst∧cop P g mu o=some r.op∧
 ((o.guard=none∧r.guard=none)∨∃j b d,o.guard=some (j,b)∧(ops[j]?).bind (·.dst)=some d∧r.guard=some (d,b)):=by
 unfold coper at h;split at h
 · rename_i r' hr
   split at h
   · rename_i hg
     obtain rfl:=Option.some.inj h;exact⟨rfl,hr,.inl ⟨hg,rfl⟩⟩
   · rename_i j b hg
     split at h
     · rename_i d hd
       obtain rfl:=Option.some.inj h;exact⟨rfl,hr,.inr ⟨j,b,d,hg,hd,rfl⟩⟩
     · cases h
 · cases h
theorem VR.aNe {G:Gh} {w:World} {v:AV} {u:Value} (h:VR G w v u) (b:Bool):v=.bool b↔u=.bool b:=by
 constructor
 · rintro rfl;exact h.dE
 · rintro rfl;cases h;rfl
theorem mZ (a:Array Value) (d:Nat) (b:Bool):a[d]?=some (.bool b)↔a.getD d undef=.bool b:=by
 rw[Array.getD_eq_getD_getElem?]
 cases h:a[d]? with
 |none=>simp[undef]
 |some v=>simp
theorem vZ {P:Program} {g:Genv} {mu:Bool} {ops:Array Oper} {o:Oper} {r:ROper} (h:coper P g mu ops o=some r) {G:Gh} {w:World} {s:List AV} {a:Act} (hs:SR G w s a):
 Region.wanted o (yielded ops a.tmps)=wantedA s r:=by
 obtain⟨_,_,hg⟩:=nS h
 rcases hg with ⟨h1,h2⟩|⟨j,b,d,h1,h2,h3⟩
 · simp[Region.wanted,wantedA,h1,h2]
 · simp only[Region.wanted,wantedA,h1,h3,yielded,h2,Option.bind_some]
   have hv:=hs.getD d
   have key:∀c,s.getD d undefA=.bool c↔a.tmps[d]?=some (.bool c):=fun c=>by
    rw[mZ];exact hv.aNe c
   cases hsd:s.getD d undefA with
   |bool c=>rw[(key c).1 hsd];simp
   |_=>
    have :∀c,a.tmps[d]?≠some (.bool c):=fun c hc=>by
     have :=(key c).2 hc;rw[hsd] at this;cases this
    split
    · rename_i c hc
      exact absurd hc (this c)
    · rfl
theorem SR.put {G:Gh} {w:World} {s:List AV} {a:Act} (h:SR G w s a) (dst:Option Nat) {v:AV} {u:Value} (hv:VR G w v u):SR G w (putA s dst v) (a.put dst u):=by
 cases dst with
 |none=>exact h
 |some d=>
  have hl:=h.1;refine⟨by simpa [putA,Act.put] using hl,fun j hj=>?_⟩;simp only[putA,List.length_set] at hj;simp only[Array.length_toList] at hl
  have hj':j<a.tmps.size:=by omega
  simp only[putA,Act.put];rw[cP,getD_eq,List.getElem?_set,Array.getElem?_setIfInBounds];by_cases hd:d=j
  · subst hd
    simp only[if_true,hj,hj',Option.getD_some];exact hv
  · rw[if_neg hd,if_neg hd]
    have :=h.2 j hj
    rwa [cP] at this
theorem SR.ext {G G':Gh} {H H':Heap} {w w':World} {s:List AV} {a:Act} (h:SR G w s a) (e:Ext G H w G' H' w'):SR G' w' s a:=VRs.ext h e
theorem nQ {G:Gh} {w:World} {v:AV} {u:Value} {p:FuncId×List AV×List AV} (h:calleeA v=some p) (hv:VR G w v u):
 ∃azs bs:List Value,u=.func (.func p.1) azs.toArray bs.toArray∧VRs G w p.2.1 azs∧VRs G w p.2.2 bs:=by
 cases v<;>simp only[calleeA] at h<;>try (cases h;done)
 rename_i fn fs cs
 cases fn<;>simp only[] at h<;>first|(cases h;done)|skip
 obtain rfl:=Option.some.inj h
 cases hv with
 |func _ _ _ azs bs ha hb hav hbv=>exact⟨azs,bs,rfl,⟨ha,hav⟩,⟨hb,hbv⟩⟩
theorem jJ {P:Program} {ρ:Operand→Value} {c:Call} {t:TypeId} {f:Operand} {fid:FuncId} {azs bs:List Value} (hc:c.callee=.value f) (hf:ρ f=.func (.func fid) azs.toArray bs.toArray) (w:World):
 (resolve ρ c t).run P w=.ok {target:=.fn (.func fid) bs.toArray,args:=azs.toArray++c.args.map ρ} w:=by
 simp[resolve,hc,hf,Deferred.ofValue]
theorem eO {P:Program} {fid:FuncId} (hok:FnOK P fid) (args:Array Value) (cap:Array Value) (w:World):(invoke (.fn (.func fid) cap) args).run P w=.ok (.enter fid (args++cap)) w:=by
 obtain⟨fn,h1,h2,h3⟩:=hok
 have hb:¬fn.body=none:=fun hh=>by rw[hh] at h2;cases h2
 have h3':¬fn.name= "runtime.NumGoroutine" :=by simpa using h3
 simp[invoke,callFunc,program,Sem.run,h1,h3',hb]
theorem tQ {ro:Option Nat} {n:Nat} {P:Program} {f:FuncId} {args:Array Value} {w:World} {R:Ending→World→Prop} (h:Calls P f args w R):CallsIn (Fw ro) n P f args w R:=
 (callsIn_wide (n:=n)).2 h
theorem lR {ro:Option Nat} {n:Nat}:(Fw ro).depth.isSome=true→1≤n:=fun h=>by cases h
def callK (next:Act→World→Prop) (Q:Exit→Act→World→Prop) (a:Act) (d:Option Nat):Ending→World→Prop
 |.returned v,w=>next (a.put d v) w
 |.panicked chain,w=>Q (.panic chain) a w
 |.outgrown,_=>LetsOut Q
theorem wY {g:Genv} {o:Oper} {G:Gh} {H H':Heap} {w:World} {a:Act} {out:Out} {next:Act→World→Prop} {Q:Exit→Act→World→Prop}
 (hn:∀v,out=.ret v→∀u w' G',WR g G' H' w'→Ext G H w G' H' w'→VR G' w' v u→next (a.put o.dst u) w')
 (hx:∀v,out=.pan v→∀u w' G',WR g G' H' w'→Ext G H w G' H' w'→VR G' w' v u→Q (.panic [{v:=u,recovered:=false}]) a w') (e:Ending) (w':World)
 (he:∃G',WR g G' H' w'∧Ext G H w G' H' w'∧OutR G' w' out e):
 callK next Q a o.dst e w':=by
 obtain⟨G',hw',hext,hout⟩:=he
 cases out with
 |ret v=>
  cases e with
  |returned u=>exact hn v rfl u w' G' hw' hext hout
  |panicked _=>exact hout.elim
  |outgrown=>exact hout.elim
 |pan v=>
  cases e with
  |returned _=>exact hout.elim
  |panicked chain=>
   obtain⟨u,rfl,hv⟩:=hout;exact hx v rfl u w' G' hw' hext hv
  |outgrown=>exact hout.elim
theorem aQl {G:Gh} {w:World} {id:Nat} {u:Value} (h:VR G w (.yield id) u):∃l,G.loc id=some l∧u=.func (.yield l.blk) #[] #[]:=by
 cases h with
 |yield _ l hl=>exact⟨l,hl,rfl⟩
theorem aJa {P:Program} {g:Genv} {ro:Option Nat} {o:Oper} {c:Call} {f:Operand} {f':Arg} {as':List Arg} (ho:o.op=.call c) (hc:c.callee=.value f) (hf:argOf g f=some f') (has:argsOf g c.args.toList=some as')
 {G:Gh} {H H':Heap} {w:World} {s:List AV} {a:Act} {out:Out} (hw:WR g G H w) (hs:SR G w s a)
 (hS:CallS P g (f'.eval g s) (as'.map (Arg.eval g s)) H out H') {next:Act→World→Prop} {Q:Exit→Act→World→Prop}
 (hn:∀v,out=.ret v→∀u w' G',WR g G' H' w'→Ext G H w G' H' w'→VR G' w' v u→next (a.put o.dst u) w')
 (hx:∀v,out=.pan v→∀u w' G',WR g G' H' w'→Ext G H w G' H' w'→VR G' w' v u→Q (.panic [{v:=u,recovered:=false}]) a w'):
 o.wpIn (Fw ro) 0 P a w next Q:=by
 have hargs:=gS hw hs has
 have hsem:o.semAt (Fw ro).round a.eval=execOp a.eval o:=Oper.semAt_eq _ _ _ fun c' h=>by rw[ho] at h;cases h
 refine⟨fun _ _=>trivial,?_⟩;rw[hsem];have hfv0:=aV hw hs hf
 rcases hS with ⟨p,hp,hS⟩|⟨id,hp,hS⟩
 · obtain⟨us,bs,hfv,h1,h2⟩:=nQ hp hfv0
   have hrun:(execOp a.eval o).run P w=.ok (.enter p.1 (us++c.args.toList.map a.eval++bs).toArray) w:=by
    simp only[execOp,ho,Sem.run_bind,jJ hc hfv,Result.andThen_ok,eO hS.1];congr 2;apply Array.ext';simp
   have hcall:=hS.2 G w _ hw ((h1.append hargs).append h2);rw[hrun];exact⟨lR,(tQ hcall).mono fun e w' he=>by have :=wY hn hx e w' he;cases e<;>exact this⟩
 · rw[hp] at hfv0
   obtain⟨l,hl,hfv⟩:=aQl hfv0;obtain⟨fn,tmps,assign,body,hy,hR⟩:=hS G w _ l hw hargs hl
   have hrun:(execOp a.eval o).run P w=.ok (.round l.blk fn tmps assign body) w:=by
    have hy':(Instr.yield l.blk (c.args.map a.eval)).run P w=.ok (.round l.blk fn tmps assign body) w:=by
     rw[←hy];congr 2;apply Array.ext';simp
    simp[execOp,ho,resolve,hc,hfv,Deferred.ofValue,invoke,hy']
   rw[hrun];exact⟨lR,RoundIn.mono (show RoundIn (Fw ro) 0 P l.blk fn tmps assign body w _ from hR) fun e w' he=>by have :=wY hn hx e w' he;cases e<;>exact this⟩
theorem wA {P:Program} {g:Genv} {ro:Option Nat} {o:Oper} {r:ROp} (hok:OpOK P g o r) (hnd:∀c,o.op≠ .defer c) {G:Gh} {H H':Heap} {w:World} {s:List AV} {a:Act} {v:AV} (hw:WR g G H w) (hs:SR G w s a)
 (h:aop (Arg.eval g s) H r=some (v,H')) {next:Act→World→Prop} {Q:Exit→Act→World→Prop}
 (hn:∀u w' G',WR g G' H' w'→Ext G H w G' H' w'→VR G' w' v u→next (a.put o.dst u) w'):o.wpIn (Fw ro) 0 P a w next Q:=by
 obtain⟨n,u,w',G',hr,hnv,r1,r2,r3⟩:=hok s a G H w v H' hw hs h;refine⟨fun _ _=>trivial,?_⟩;rw[show o.semAt (Fw ro).round a.eval=execOp a.eval o from Oper.semAt_eq _ _ _ hnd,hr]
 rcases hnv with rfl|⟨rfl,rfl⟩
 · exact hn u w' G' r1 r2 r3
 · exact hn undef w' G' r1 r2 r3
theorem jS {P:Program} {g:Genv} {mu:Bool} {o:Oper} {r:ROp} (h:cop P g mu o=some r) (hr:∀f azs,r≠ .deferc f azs):∀c,o.op≠ .defer c:=by
 intro c ho;unfold cop at h;rw[ho] at h;simp only at h;split at h
 · split at h
   · obtain rfl:=Option.some.inj h
     exact hr _ _ rfl
   · cases h
 · cases h
theorem aBp {P:Program} {g:Genv} {mu:Bool} {o:Oper} {f':Arg} {as':List Arg} (h:cop P g mu o=some (.call f' as')):
 ∃c f,o.op=.call c∧c.callee=.value f∧argOf g f=some f'∧argsOf g c.args.toList=some as':=by
 unfold cop at h;split at h
 case h_30=>
  rename_i c ho;unfold copCall at h;split at h
  case h_3=>
   rename_i f hc;split at h
   · rename_i f2 as2 hf has
     cases h;exact⟨c,f,ho,hc,hf,has⟩
   · cases h
  all_goals exfalso
  all_goals (try unfold copLen at h)
  all_goals (try unfold copAppend at h)
  all_goals repeat' (split at h)
  all_goals first
   |(cases h;done)
   |(simp only[Option.map_eq_some_iff] at h;obtain⟨_,_,h⟩:=h;cases h;done)
 all_goals exfalso
 all_goals (try unfold copBin at h)
 all_goals (try unfold copSlice at h)
 all_goals (try unfold copConv at h)
 all_goals repeat' (split at h)
 all_goals first
  |(cases h;done)
  |(simp only[Option.map_eq_some_iff] at h;obtain⟨_,_,h⟩:=h;cases h;done)
theorem aKf {P:Program} {g:Genv} {mu:Bool} {o:Oper} {x':Arg} (h:cop P g mu o=some (.panic x')):∃x,o.op=.panic x∧argOf g x=some x':=by
 unfold cop at h;split at h
 case h_31=>
  rename_i x ho;simp only[Option.map_eq_some_iff] at h;obtain⟨y,hy,he⟩:=h;cases he;exact⟨x,ho,hy⟩
 all_goals exfalso
 all_goals (try unfold copBin at h)
 all_goals (try unfold copSlice at h)
 all_goals (try unfold copConv at h)
 all_goals (try unfold copCall at h)
 all_goals (try unfold copLen at h)
 all_goals (try unfold copAppend at h)
 all_goals repeat' (split at h)
 all_goals first
  |(cases h;done)
  |(simp only[Option.map_eq_some_iff] at h;obtain⟨_,_,h⟩:=h;cases h;done)
theorem aKd {P:Program} {g:Genv} {mu:Bool} {o:Oper} {f':Arg} {as':List Arg} (h:cop P g mu o=some (.deferc f' as')):
 ∃c f,o.op=.defer c∧c.callee=.value f∧argOf g f=some f'∧argsOf g c.args.toList=some as':=by
 unfold cop at h;split at h
 case h_32=>
  rename_i c ho;split at h
  · rename_i f hc
    split at h
    · rename_i f2 as2 hf has
      cases h;exact⟨c,f,ho,hc,hf,has⟩
    · cases h
  · cases h
 all_goals exfalso
 all_goals (try unfold copBin at h)
 all_goals (try unfold copSlice at h)
 all_goals (try unfold copConv at h)
 all_goals (try unfold copCall at h)
 all_goals (try unfold copLen at h)
 all_goals (try unfold copAppend at h)
 all_goals repeat' (split at h)
 all_goals first
  |(cases h;done)
  |(simp only[Option.map_eq_some_iff] at h;obtain⟨_,_,h⟩:=h;cases h;done)
theorem qR {P:Program} {ops:Array Oper} {ro:Option Nat} {Q Q':Exit→Act→World→Prop} (hq:∀e a w,Q e a w→Q' e a w):∀(l:List Nat) (a:Act) (w2:World),wpOpsIn (Fw ro) 0 P ops Q l a w2→wpOpsIn (Fw ro) 0 P ops Q' l a w2:=by
 intro l
 induction l with
 |nil=>exact fun a w2 hh=>hq _ _ _ hh
 |cons i l ih=>
  intro a w2 hh;rw[wpOpsIn_cons] at hh ⊢;unfold wpOpIn at hh ⊢;split
  · rename_i hi
    simp only[hi] at hh;exact ih _ _ hh
  · rename_i x hi
    simp only[hi] at hh;split
    · rename_i hwa
      simp only[hwa,if_true] at hh;unfold Oper.wpIn at *;refine⟨hh.1,?_⟩;have hh:=hh.2;generalize (x.semAt (Fw ro).round a.eval).run P w2=rr at *
      have eq:∀(e:Ending) (w4:World),callK (wpOpsIn (Fw ro) 0 P ops Q l) Q a x.dst e w4→callK (wpOpsIn (Fw ro) 0 P ops Q' l) Q' a x.dst e w4:=fun e w4 he'=>by
       cases e with
       |returned v=>exact ih _ _ he'
       |panicked ch=>exact hq _ _ _ he'
       |outgrown=>exact let⟨a0,w0,q⟩:=he';⟨a0,w0,hq _ _ _ q⟩
      cases rr with
      |ok n w3=>
       cases n<;>simp only[Oper.uponIn] at hh ⊢ <;>first
        |exact ih _ _ hh
        |exact hh
        |exact⟨hh.1,CallsIn.mono hh.2 (fun e w4 h=>by have :=eq e w4 (by cases e<;>exact h);cases e<;>exact this)⟩
        |exact⟨hh.1,RoundIn.mono hh.2 (fun e w4 h=>by have :=eq e w4 (by cases e<;>exact h);cases e<;>exact this)⟩
        |exact⟨hh.1,RowsIn.mono hh.2 (fun _ _ he'=>ih _ _ he')⟩
      |halt y w3=>cases y<;>simp only[Oper.uponIn] at hh ⊢ <;>first|exact hh|exact hq _ _ _ hh
    · rename_i hwa
      simp only[hwa] at hh;exact⟨hh.1,ih _ _ hh.2⟩
theorem aKg {P:Program} {g:Genv} {mu:Bool} {o:Oper} {x':Arg} (h:cop P g mu o=some (.mrange x')):∃t x k v,o.op=.range t x∧argOf g x=some x'∧P.underlying t=some (.map k v):=by
 unfold cop at h;split at h
 case h_27=>
  rename_i t x ho;split at h
  · rename_i y k v hy ht
    cases h;exact⟨t,x,k,v,ho,hy,ht⟩
  · cases h
 all_goals exfalso
 all_goals (try unfold copBin at h)
 all_goals (try unfold copSlice at h)
 all_goals (try unfold copConv at h)
 all_goals (try unfold copCall at h)
 all_goals (try unfold copLen at h)
 all_goals (try unfold copAppend at h)
 all_goals repeat' (split at h)
 all_goals first
  |(cases h;done)
  |(simp only[Option.map_eq_some_iff] at h;obtain⟨_,_,h⟩:=h;cases h;done)
theorem aNj {P:Program} {g:Genv} {mu:Bool} {o:Oper} {x':Arg} (h:cop P g mu o=some (.mnext x')):∃x,o.op=.next x false∧argOf g x=some x':=by
 unfold cop at h;split at h
 case h_28=>
  rename_i x s ho;split at h
  · rename_i y hy
    cases h;exact⟨x,ho,hy⟩
  · cases h
 all_goals exfalso
 all_goals (try unfold copBin at h)
 all_goals (try unfold copSlice at h)
 all_goals (try unfold copConv at h)
 all_goals (try unfold copCall at h)
 all_goals (try unfold copLen at h)
 all_goals (try unfold copAppend at h)
 all_goals repeat' (split at h)
 all_goals first
  |(cases h;done)
  |(simp only[Option.map_eq_some_iff] at h;obtain⟨_,_,h⟩:=h;cases h;done)
theorem aKe {P:Program} {g:Genv} {mu:Bool} {o:Oper} {x':Arg} (h:cop P g mu o=some (.mentry x')):∃x,o.op=.entry x∧argOf g x=some x':=by
 unfold cop at h;split at h
 case h_29=>
  rename_i x ho;simp only[Option.map_eq_some_iff] at h;obtain⟨y,hy,he⟩:=h;cases he;exact⟨x,ho,hy⟩
 all_goals exfalso
 all_goals (try unfold copBin at h)
 all_goals (try unfold copSlice at h)
 all_goals (try unfold copConv at h)
 all_goals (try unfold copCall at h)
 all_goals (try unfold copLen at h)
 all_goals (try unfold copAppend at h)
 all_goals repeat' (split at h)
 all_goals first
  |(cases h;done)
  |(simp only[Option.map_eq_some_iff] at h;obtain⟨_,_,h⟩:=h;cases h;done)
theorem aFo {G:Gh} {w:World} {id:Nat} {u:Value} (h:VR G w (.map id) u):∃l,G.loc id=some l∧u=.map (some l.blk):=by
 cases h with
 |map _ l hl=>exact⟨l,hl,rfl⟩
theorem aPj {G:Gh} {w:World} {id off:Nat} {u:Value} (h:VR G w (.ref id off) u):∃l,G.loc id=some l∧u=.pointer (some ⟨l.blk,l.base+off,none⟩):=by
 cases h with
 |ref _ _ l hl=>exact⟨l,hl,rfl⟩
theorem oN {α:Type} {a:Array α} {i:Nat} {x:α} (h:a[i]?=some x):a.setIfInBounds i x=a:=by
 apply Array.ext_getElem?;intro j;rw[Array.getElem?_setIfInBounds];split
 · rename_i hij
   subst hij;rw[if_pos (Array.getElem?_eq_some_iff.1 h).1,h]
 · rfl
theorem WR.fresh {g:Genv} {G:Gh} {H:Heap} {w:World} (hw:WR g G H w):G.loc H.next=none:=by
 cases hl:G.loc H.next with
 |none=>rfl
 |some l'=>exact absurd (hw.lt _ _ hl) (Nat.lt_irrefl _)
theorem aGh {P:Program} {g:Genv} {G:Gh} {H:Heap} {w:World} (hw:WR g G H w) {m:Nat} {es:List (AV×AV)} {u:Value} (hg:H.get m=some (.map es)) (hu:VR G w (.map m) u)
 {t k v:TypeId} (ht:P.underlying t=some (.map k v)):∃bs c mb u' w' G',bs.length=es.length∧bs.Nodup∧(Instr.range t u).run P w=.ok u' w'∧
   WR g G' ((H.set m (.mapf es bs c mb)).alloc (.iter m mb c [])) w'∧Ext G H w G' ((H.set m (.mapf es bs c mb)).alloc (.iter m mb c [])) w'∧VR G' w' (.ref H.next 0) u':=by
 obtain⟨l,hl,rfl⟩:=aFo hu;obtain⟨hb0,he1,ents,clock,h1,h2,h3,h4⟩:=hw.mapr _ _ _ hl hg rfl
 have hlen:(ents.toList.map (·.born)).length=es.length:=by simpa using h2
 have hnd:(ents.toList.map (·.born)).Nodup:=by
  rw[List.Nodup,List.pairwise_iff_getElem];intro i j hi hj hij he;simp only[List.length_map,Array.length_toList] at hi hj;simp only[List.getElem_map,Array.getElem_toList] at he;have :=h3.2 i j hi hj (by rw[Array.getD_eq_getD_getElem?,Array.getD_eq_getD_getElem?,Array.getElem?_eq_getElem hi,Array.getElem?_eq_getElem hj];exact he);omega
 have hlt:∀b∈ents.toList.map (·.born),b<clock:=by
  intro b hb;simp only[List.mem_map] at hb;obtain⟨x,hx,rfl⟩:=hb;obtain⟨i,hi,rfl⟩:=List.getElem_of_mem hx
  have hi':i<ents.size:=by simpa using hi
  have :=h3.1 i hi';rw[Array.getD_eq_getD_getElem?,Array.getElem?_eq_getElem hi'] at this;simpa using this
 refine⟨ents.toList.map (·.born),clock,l.blk,.pointer (some ⟨w.heap.size,0,none⟩),w.alloc (.mapIter (some l.blk) clock #[] clock),G.addLoc H.next ⟨w.heap.size,0,0,1⟩,hlen,hnd,?_,?_⟩
 · simp[Instr.range,underlying,program,ht,getObj,newObj,Sem.run,h1,Result.andThen]
 · obtain⟨q1,q2⟩:=hw.oM (o':=.mapf es (ents.toList.map (·.born)) clock l.blk) (x:=.map ents clock) (w':=w) hl hg rfl rfl (oN h1).symm .now
    (fun _ hself=>⟨rfl,hnd,hlt,ents,hself,rfl,hlen,h4⟩)
   have m1:=q1.mQ (H':=(H.set m (.mapf es (ents.toList.map (·.born)) clock l.blk)).alloc (.iter m l.blk clock [])) H.next (.iter m l.blk clock []) (.mapIter (some l.blk) clock #[] clock) rfl q1.fresh (Heap.aH _ _) (Nat.le_succ _) (Nat.lt_succ_self _) (w':=w.alloc (.mapIter (some l.blk) clock #[] clock)) ⟨rfl,.now⟩
    (fun hm=>⟨by show(w.heap.push _)[w.heap.size]?=_;simp,hm _ _ (.map m l hl)⟩)
   exact⟨m1.rel,m1.ext q2 (Nat.le_refl _),.ref H.next 0 ⟨w.heap.size,0,0,1⟩ (by show(if H.next=H.next then some (⟨w.heap.size,0,0,1⟩:Loc) else _)=_;simp)⟩
theorem aLa {P:Program} {g:Genv} {G:Gh} {H:Heap} {w:World} (hw:WR g G H w) {it m mb c:Nat} {seen bs:List Nat} {es:List (AV×AV)} {u:Value} (hgi:H.get it=some (.iter m mb c seen)) (hgm:H.get m=some (.mapf es bs c mb))
 (hu:VR G w (.ref it 0) u) (ty:TypeId):
 ((∀b∈bs,b∈seen)∧(Instr.next u false ty).run P w=.ok (.tuple #[.bool false]) w)∨
 ∃j u' w' G',j<bs.length∧bs.getD j 0∉seen∧(Instr.next u false ty).run P w=.ok u' w'∧WR g G' (H.set it (.iter m mb c (seen++[bs.getD j 0]))) w'∧Ext G H w G' (H.set it (.iter m mb c (seen++[bs.getD j 0]))) w'∧
  VR G' w' (.tup [.bool true,(es.getD j (undefA,undefA)).1,(es.getD j (undefA,undefA)).2]) u':=by
 obtain⟨li,hli,rfl⟩:=aPj hu;obtain⟨hb0,he1,hbi,hvm⟩:=hw.mapr _ _ _ hli hgi rfl;obtain⟨lm,hlm,hmb⟩:=aFo hvm;cases hmb;obtain⟨_,_,_,hnd,hlt,ents,hbm,hbs,hlen,hvs⟩:=hw.mapr _ _ _ hlm hgm rfl;rw[hb0];have hold:∀x∈ents.toList,x.born<c:=fun x hx=>hlt _ (by rw[←hbs];exact List.mem_map_of_mem hx)
 rcases run_next_at (P:=P) w ty li.blk lm.blk c c seen.toArray ents c hbi hbm hold (Nat.le_refl _) with ⟨h0,hr⟩|⟨e,he,w1,hw1,hr⟩
 · refine .inl ⟨fun b hb=>?_,hr⟩
   rw[←hbs] at hb;obtain⟨x,hx,rfl⟩:=List.mem_map.1 hb;have h0':=Array.eq_empty_of_size_eq_zero h0;unfold leftOf at h0';rw[Array.filter_eq_empty_iff] at h0';have :=h0' x (by simpa using hx);simpa using this
 · right
   unfold leftOf at he;simp only[Array.toList_filter,List.mem_filter,Bool.not_eq_true',List.contains_toArray] at he;obtain⟨hem,hns⟩:=he;obtain⟨j,hj,hje⟩:=List.getElem_of_mem hem
   have hjs:j<ents.size:=by simpa using hj
   have hjb:j<bs.length:=by rw[←hbs];simpa using hj
   have hbj:bs.getD j 0=e.born:=by
    subst hbs;simp[List.getD_eq_getElem?_getD,List.getElem?_map,List.getElem?_eq_getElem hj,hje]
   have hedj:ents.getD j default=e:=by
    rw[Array.getD_eq_getD_getElem?,Array.getElem?_eq_getElem hjs];simpa using hje
   have hheap:w1.heap=w.heap:=by rcases hw1 with rfl|rfl<;>rfl
   have hsame:Same w w1:=by rcases hw1 with rfl|rfl<;>exact .now
   obtain⟨q1,q2⟩:=hw.oM (o':=.iter m lm.blk c (seen++[bs.getD j 0])) (x:=.mapIter (some lm.blk) c (seen.toArray.push e.born) c)
    (w':=ChangeMaps.setBlock w1 li.blk (.mapIter (some lm.blk) c (seen.toArray.push e.born) c)) hli hgi rfl rfl (by show w1.heap.setIfInBounds _ _=_;rw[hheap]) ⟨hsame.os,hsame.output,hsame.tape,hsame.drawn⟩
    (fun hm hself=>⟨by rw[hself,hbj];simp,hm _ _ hvm⟩)
   obtain⟨vk,vv⟩:=hvs j (by omega);rw[hedj] at vk vv;refine⟨j,_,_,G,hjb,by rw[hbj];simpa using hns,hr,q1,q2,?_⟩;have hm':∀a u,VR G w a u→VR G (ChangeMaps.setBlock w1 li.blk (.mapIter (some lm.blk) c (seen.toArray.push e.born) c)) a u:=fun a u h=>h.ext q2;refine VR.tup _ [.bool true,e.key,e.val] rfl fun i hi=>?_
   match i,hi with
   |0,_=>exact .bool true
   |1,_=>exact hm' _ _ vk
   |2,_=>exact hm' _ _ vv
   |k+3,hi=>simp at hi;omega
theorem aFe {P:Program} {g:Genv} {G:Gh} {H:Heap} {w:World} (hw:WR g G H w) {it m mb c j:Nat} {seen bs:List Nat} {es:List (AV×AV)} {u:Value} (hgi:H.get it=some (.iter m mb c (seen++[bs.getD j 0])))
 (hgm:H.get m=some (.mapf es bs c mb)) (hj:j<bs.length) (hu:VR G w (.ref it 0) u):
 ∃u',(Instr.entry u).run P w=.ok u' w∧VR G w (.tup [(es.getD j (undefA,undefA)).1,(es.getD j (undefA,undefA)).2]) u':=by
 obtain⟨li,hli,rfl⟩:=aPj hu;obtain⟨hb0,he1,hbi,hvm⟩:=hw.mapr _ _ _ hli hgi rfl;obtain⟨lm,hlm,hmb⟩:=aFo hvm;cases hmb;obtain⟨_,_,_,hnd,hlt,ents,hbm,hbs,hlen,hvs⟩:=hw.mapr _ _ _ hlm hgm rfl;rw[hb0]
 have hje:j<ents.toList.length:=by rw[←hbs] at hj;simpa using hj
 have hjs:j<ents.size:=by simpa using hje
 have hbj:bs.getD j 0=ents.toList[j].born:=by
  subst hbs;simp[List.getD_eq_getElem?_getD,List.getElem?_map,List.getElem?_eq_getElem hje]
 have hedj:ents.getD j default=ents.toList[j]:=by
  rw[Array.getD_eq_getD_getElem?,Array.getElem?_eq_getElem hjs];simp
 have hr:=run_entry_at (P:=P) w li.blk lm.blk c seen.toArray ents c ents.toList[j] (by rw[hbi,hbj];simp) hbm (List.getElem_mem hje) (by rw[hbs];exact hnd);obtain⟨vk,vv⟩:=hvs j (by omega);rw[hedj] at vk vv;refine⟨_,hr,VR.tup _ [_,_] rfl fun i hi=>?_⟩
 match i,hi with
 |0,_=>exact vk
 |1,_=>exact vv
 |k+2,hi=>simp at hi;omega
theorem nK {P:Program} {g:Genv} {mu:Bool} {ro:Option Nat} {ops:Array Oper}:∀(l:List Oper) (rl:List ROper) (k:Nat),copers P g mu ops l=some rl→(∀j,(h:j<l.length)→ops[k+j]?=some l[j])→
 (ro=none∨∀r∈rl,∀f azs,r.op≠ .deferc f azs)→∀(s:List AV) (ds:List Dfr) (G:Gh) (H:Heap) (w:World) (a:Act) (Q:AQ),AOps P g rl s ds H Q→WR g G H w→SR G w s a→DsR G w ds a.defers→
   wpOpsIn (Fw ro) 0 P ops (QR g G H w Q) (List.range' k l.length) a w
 |[],rl,k,hc,hl,hro,s,ds,G,H,w,a,Q,h,hw,hs,hd=>by
  obtain rfl:=Option.some.inj hc;exact⟨.normal,s,ds,H,G,h,hw,Ext.refl G H w,hs,hd,trivial⟩
 |o::l,rl,k,hc,hl,hro,s,ds,G,H,w,a,Q,h,hw,hs,hd=>by
  unfold copers at hc;split at hc
  · rename_i r rs hr hrs
    obtain rfl:=Option.some.inj hc
    have ho:ops[k]?=some o:=hl 0 (by simp)
    have hl':∀j,(h:j<l.length)→ops[k+1+j]?=some l[j]:=fun j hj=>by
     have :=hl (j+1) (by simpa using hj);simpa [show k+(j+1)=k+1+j by omega] using this
    obtain⟨hdst,hcop,_⟩:=nS hr;have hwant:=vZ hr hs
    have next:∀{v:AV} {u:Value} {H1:Heap} {w1:World} {G1:Gh} {ds1:List Dfr} {a1:Act},AOps P g rs (putA s r.dst v) ds1 H1 Q→WR g G1 H1 w1→Ext G H w G1 H1 w1→VR G1 w1 v u→SR G w s a1→DsR G1 w1 ds1 a1.defers→
     wpOpsIn (Fw ro) 0 P ops (QR g G H w Q) (List.range' (k+1) l.length) (a1.put o.dst u) w1:=by
     intro v u H1 w1 G1 ds1 a1 hA hw1 he hv hs1 hd1;have hs':=(hs1.ext he).put r.dst hv;rw[hdst] at hs' hA
     have hdp:DsR G1 w1 ds1 (a1.put o.dst u).defers:=by
      cases o.dst<;>exact hd1
     have :=nK l rs (k+1) hrs hl' (hro.imp id fun h x hx=>h x (List.mem_cons_of_mem _ hx)) _ ds1 G1 H1 w1 _ Q hA hw1 hs' hdp;exact qR (fun _ _ _=>QR.trans he) _ _ _ this
    simp only[List.length_cons,List.range'_succ];rw[wpOpsIn_cons];unfold wpOpIn;simp only[ho];rw[hwant];unfold AOps at h;by_cases hwa:wantedA s r=true
    · rw[if_pos hwa] at h ⊢
      split at h
      · rename_i f azs hop
        obtain⟨out,H',hS,hout⟩:=h;rw[hop] at hcop;obtain⟨c,f0,e1,e2,e3,e4⟩:=aBp hcop;refine aJa e1 e2 e3 e4 hw hs hS (fun v hv u w' G' hw' he hvu=>?_) (fun v hv u w' G' hw' he hvu=>?_)
        · subst hv
          exact next hout hw' he hvu hs (hd.ext he)
        · subst hv
          exact⟨.panic v,s,ds,H',G',hout,hw',he,hs.ext he,hd.ext he,u,rfl,hvu⟩
      · rename_i x hop
        obtain⟨t,v,hx,hq⟩:=h;rw[hop] at hcop;obtain⟨x0,e1,e2⟩:=aKf hcop;have vx:=aV hw hs e2;rw[hx] at vx;generalize hxv:a.eval x0=u at vx
        have hrun:∀q,u=.iface t q→(execOp a.eval o).run P w=.halt (.panic u) w:=fun q hq=>by
         subst hq;simp[execOp,e1,hxv,Instr.panic,goPanic]
        have vx':=vx;refine⟨fun _ _=>trivial,?_⟩;rw[show o.semAt (Fw ro).round a.eval=execOp a.eval o from Oper.semAt_eq _ _ _ fun c' h=>by rw[e1] at h;cases h]
        cases vx with
        |iface _ _ q hqv=>
         rw[hrun q rfl];exact⟨.panic (.iface t v),s,ds,H,G,hq,hw,Ext.refl G H w,hs,hd,_,rfl,vx'⟩
      · rename_i f azs hop
        obtain⟨p,hp,hA⟩:=h;rw[hop] at hcop;obtain⟨c,f0,e1,e2,e3,e4⟩:=aKd hcop;obtain⟨us,bs,hfv,h1,h2⟩:=nQ hp (aV hw hs e3);have hargs:=gS hw hs e4
        have hrun:(execOp a.eval o).run P w=.ok (.defer {target:=.fn (.func p.1) bs.toArray,args:=us.toArray++c.args.map a.eval}) w:=by
         simp only[execOp,e1,Sem.run_bind,jJ e2 hfv,Result.andThen_ok,Sem.run_pure]
        have hro0:ro=none:=hro.resolve_right fun h=>h r (by simp) _ _ hop;subst hro0;refine⟨fun _ _=>trivial,?_⟩;rw[show o.semAt (Fw none).round a.eval=execOp a.eval o from rfl,hrun]
        exact next hA hw (Ext.refl G H w) (VR.eH G w) (a1:={a with defers:={target:=.fn (.func p.1) bs.toArray,args:=us.toArray++c.args.map a.eval}::a.defers}) hs
         ⟨⟨bs,rfl,by simpa using(h1.append hargs).append h2⟩,hd⟩
      · rename_i x hop
        obtain⟨m,es,hx,hg,hA⟩:=h;rw[hop] at hcop;obtain⟨t,x0,kt,vt,e1,e2,e3⟩:=aKg hcop;have vx:=aV hw hs e2;rw[hx] at vx;obtain⟨bs,c,mb,u',w',G',h1,h2,hr,q1,q2,q3⟩:=aGh (P:=P) hw hg vx e3;refine⟨fun _ _=>trivial,?_⟩;rw[show o.semAt (Fw ro).round a.eval=execOp a.eval o from Oper.semAt_eq _ _ _ fun c' h=>by rw[e1] at h;cases h];rw[show(execOp a.eval o).run P w=.ok (.value u') w' by simp[execOp,e1,hr]]
        exact next (hA _ _ _ h1 h2) q1 q2 q3 hs (hd.ext q2)
      · rename_i x hop
        obtain⟨it,m,mb,c,seen,es,bs,hx,hgi,hgm,hdone,hstep⟩:=h;rw[hop] at hcop;obtain⟨x0,e1,e2⟩:=aNj hcop;have vx:=aV hw hs e2;rw[hx] at vx;refine⟨fun _ _=>trivial,?_⟩;rw[show o.semAt (Fw ro).round a.eval=execOp a.eval o from Oper.semAt_eq _ _ _ fun c' h=>by rw[e1] at h;cases h]
        rcases aLa (P:=P) hw hgi hgm vx o.type with ⟨h1,hr⟩|⟨j,u',w',G',h1,h2,hr,q1,q2,q3⟩
        · rw[show(execOp a.eval o).run P w=.ok (.value (.tuple #[.bool false])) w by simp[execOp,e1,hr]]
          exact next (hdone h1) hw (Ext.refl G H w) (VR.tup [.bool false] [.bool false] rfl fun i hi=>by
           obtain rfl:i=0:=by simp at hi;exact hi
           exact .bool false) hs hd
        · rw[show(execOp a.eval o).run P w=.ok (.value u') w' by simp[execOp,e1,hr]]
          exact next (hstep j h1 h2) q1 q2 q3 hs (hd.ext q2)
      · rename_i x hop
        obtain⟨it,m,mb,c,seen,es,bs,j,hx,hgi,hgm,hj,hA⟩:=h;rw[hop] at hcop;obtain⟨x0,e1,e2⟩:=aKe hcop;have vx:=aV hw hs e2;rw[hx] at vx;obtain⟨u',hr,hv⟩:=aFe (P:=P) hw hgi hgm hj vx;refine⟨fun _ _=>trivial,?_⟩;rw[show o.semAt (Fw ro).round a.eval=execOp a.eval o from Oper.semAt_eq _ _ _ fun c' h=>by rw[e1] at h;cases h];rw[show(execOp a.eval o).run P w=.ok (.value u') w by simp[execOp,e1,hr]]
        exact next hA hw (Ext.refl G H w) hv hs hd
      · rename_i n1 n2 n3 n4 n5 n6
        obtain⟨v,H',hA,hn⟩:=h
        have hpl:r.op.plain=true:=by
         cases hrop:r.op<;>first|rfl|exact absurd hrop (n1 _ _)|exact absurd hrop (n2 _)|exact absurd hrop (n3 _ _)|exact absurd hrop (n4 _)|exact absurd hrop (n5 _)|exact absurd hrop (n6 _)
        refine wA (aEs hcop hpl) (jS hcop n3) hw hs hA (fun u w' G' hw' he hv=>?_)
        exact next hn hw' he hv hs (hd.ext he)
    · rw[if_neg hwa] at h ⊢
      exact⟨fun _ _=>trivial,next h hw (Ext.refl G H w) (VR.eH G w) hs hd⟩
  · cases hc
end Go.Av
