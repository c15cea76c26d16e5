/-
  Part of the proof of statement 9
-/
import Derived.Test.YtogfcjbgeebfkaaGreatDoorA02
import Derived.Maps.RangeRun
import Derived.RangeFuncLeaves
import Derived.RangeFuncSeq
import Derived.OrdersIn
import Derived.Orders
set_option linter.unusedVariables false
set_option linter.unusedSimpArgs false
set_option linter.unusedSectionVars false
namespace Go.Av
open Go
inductive Out where
 |ret (v:AV)
 |MD (v:AV)
def Zl(G:Gh)(w:World):Out->Ending->Prop
 |.ret v,.returned u=>VR G w v u
 |.MD v,.panicked chain=>∃u,chain=[{v:=u,recovered:=false}]/\VR G w v u
 |_,_=>False
def DH (P:Program) (f:FuncId):Prop:=∃fn,P.funcs[f]?=some fn/\fn.body.isSome=true/\(fn.name== "runtime.NumGoroutine")=false
def Sound(P:Program)(g:bL)(f:FuncId)(args:List AV)(H:aA)(out:Out)(H':aA):Prop:=
 DH P f/\∀(G:Gh) (w:World) (vs:List Value),WR g G H w->jH G w args vs->
  Calls P f vs.toArray w fun e w'=>∃E,WR g E H' w'/\Ext G H w E H' w'/\Zl E w' out e
def Fw(ro:Option Nat):Fence:={Fence.wide with round:=ro}
def tY(P:Program)(g:bL)(id:Nat)(args:List AV)(H:aA)(out:Out)(H':aA):Prop:=
 ∀(G:Gh) (w:World) (vs:List Value) (l:Loc),WR g G H w->jH G w args vs->G.loc id=some l->
  YieldAt Fence.wide 0 P l.dE vs.toArray w fun e w'=>∃E,WR g E H' w'/\Ext G H w E H' w'/\Zl E w' out e
inductive gX where
 |call (f:FuncId) (azs:List AV)
 |mark (id:Nat)
inductive tw where
 |normal
 |exit (id:Nat)
 |ret
 |panic (v:AV)
def bU(s:List AV)(o:bG):Bool:=
 match o.guard with
 |none=>true
 |some (d,b)=>match s.getD d aB with
  |.bool c=>c==b
  |_=>false
def oR(s:List AV)(A:Option Nat)(v:AV):List AV:=
 match A with
 |none=>s
 |some d=>s.set d v
def nH:AV->Option (FuncId×List AV×List AV)
 |.func (.func f) fs cs=>some (f,fs,cs)
 |_=>none
def Sn(P:Program)(g:bL)(a:AV)(args:List AV)(H:aA)(out:Out)(H':aA):Prop:=
 (∃p,nH a=some p/\Sound P g p.1 (p.2.1++args++p.2.2) H out H')\/(∃id,a=.yield id/\tY P g id args H out H')
abbrev AQ:=tw->List AV->List gX->aA->Prop
def vH(P:Program)(g:bL):List bG->List AV->List gX->aA->AQ->Prop
 |[],s,ds,H,Q=>Q .normal s ds H
 |o::r,s,ds,H,Q=>
  if bU s o then
   match o.op with
   |.call f azs=>∃out H',Sn P g (f.eval g s) (azs.map (Arg.eval g s)) H out H'/\
     match out with
     |.ret v=>vH P g r (oR s o.dst v) ds H' Q
     |.MD v=>Q (.panic v) s ds H'
   |.panic x=>∃t v,x.eval g s=.iface t v/\Q (.panic (.iface t v)) s ds H
   |.nD f azs=>∃p,nH (f.eval g s)=some p/\vH P g r (oR s o.dst aB) (.call p.1 (p.2.1++azs.map (Arg.eval g s)++p.2.2)::ds) H Q
   |.yK x=>∃m es,x.eval g s=.map m/\H.get m=some (.map es)/\∀N c A,N.length=es.length->N.Nodup->
     vH P g r (oR s o.dst (.ref H.next 0)) ds ((H.set m (.uW es N c A)).alloc (.iter m A c [])) Q
   |.HP x=>∃q m A c seen es N,x.eval g s=.ref q 0/\H.get q=some (.iter m A c seen)/\H.get m=some (.uW es N c A)/\
     ((∀b∈N,b∈seen)->vH P g r (oR s o.dst (.jS [.bool false])) ds H Q)/\
     ∀j,j<N.length->N.getD j 0∉seen->vH P g r (oR s o.dst (.jS [.bool true,(es.getD j (aB,aB)).1,(es.getD j (aB,aB)).2])) ds (H.set q (.iter m A c (seen++[N.getD j 0]))) Q
   |.BQ x=>∃q m A c seen es N j,x.eval g s=.ref q 0/\H.get q=some (.iter m A c (seen++[N.getD j 0]))/\H.get m=some (.uW es N c A)/\j<N.length/\
     vH P g r (oR s o.dst (.jS [(es.getD j (aB,aB)).1,(es.getD j (aB,aB)).2])) ds H Q
   |op=>∃v H',dS (Arg.eval g s) H op=some (v,H')/\vH P g r (oR s o.dst v) ds H' Q
  else vH P g r (oR s o.dst aB) ds H Q
def UQ(G:Gh)(w:World):List gX->List Deferred->Prop
 |[],[]=>True
 |.call f azs::ds,d::r=>(∃cap:List Value,d.target=.fn (.func f) cap.toArray/\jH G w azs (d.args.toList++cap))/\UQ G w ds r
 |.mark id::ds,d::r=>(∃l,G.loc id=some l/\d.target=.collected l.dE)/\UQ G w ds r
 |_,_=>False
theorem UQ.ext{G E:Gh}{H H':aA}{w w':World}(e:Ext G H w E H' w'):∀{a:List gX} {l:List Deferred},UQ G w a l->UQ E w' a l
 |[],[],_=>trivial
 |.call f azs::a,d::r,h=>⟨let⟨cap,O,Z⟩:=h.1;⟨cap,O,Z.ext e⟩,UQ.ext e h.2⟩
 |.mark id::a,d::r,h=>⟨let⟨l,O,Z⟩:=h.1;⟨l,e.loc _ _ O,Z⟩,UQ.ext e h.2⟩
 |[],_::_,h=>h.elim
 |.call _ _::_,[],h=>h.elim
 |.mark _::_,[],h=>h.elim
def ExR(G:Gh)(w:World):tw->Exit->Prop
 |.normal,.normal=>True
 |.exit i,.exit j=>i=j
 |.ret,.ret=>True
 |.panic v,.panic chain=>∃u,chain=[{v:=u,recovered:=false}]/\VR G w v u
 |_,_=>False
def QR(g:bL)(G:Gh)(H:aA)(w:World)(Q:AQ):Exit->Act->World->Prop:=fun e s w'=>∃l S V H' E,Q l S V H'/\WR g E H' w'/\Ext G H w E H' w'/\SR E w' S s/\UQ E w' V s.defers/\ExR E w' l e
theorem QR.trans{g:bL}{G G1:Gh}{H H1:aA}{w w1:World}{Q:AQ}(e:Ext G H w G1 H1 w1){x:Exit}{a:Act}{w':World}(h:QR g G1 H1 w1 Q x a w'):QR g G H w Q x a w':=
 let⟨l,S,V,H',E,q,L,B,M,hd,C⟩:=h
 ⟨l,S,V,H',E,q,L,e.trans B,M,hd,C⟩
def Nt(P:Program)(g:bL)(mu:Bool)(ops:Array Oper)(o:Oper):Option bG:=
 match Px P g mu o with
 |some r=>
  match o.guard with
  |none=>some ⟨o.dst,r,none⟩
  |some (j,b)=>match (ops[j]?).bind (·.dst) with
   |some d=>some ⟨o.dst,r,some (d,b)⟩
   |none=>none
 |none=>none
def nC(P:Program)(g:bL)(mu:Bool)(ops:Array Oper):List Oper->Option (List bG)
 |[]=>some []
 |o::r=>match Nt P g mu ops o,nC P g mu ops r with
  |some x,some xs=>some (x::xs)
  |_,_=>none
theorem IY{P:Program}{g:bL}{mu:Bool}{ops:Array Oper}{o:Oper}{r:bG}(h:Nt P g mu ops o=some r):r.dst=o.dst/\Px P g mu o=some r.op/\
 ((o.guard=none/\r.guard=none)\/∃j b d,o.guard=some (j,b)/\(ops[j]?).bind (·.dst)=some d/\r.guard=some (d,b)):=by
 grind[Nt]
variable{u:Value}
theorem VR.aDw{G:Gh}{w:World}{v:AV}(h:VR G w v u)(b:Bool):v=.bool b↔u=.bool b:=by
 constructor
 . rintro rfl;exact h.lM
 rintro rfl;cases h;rfl
theorem GO(a:Array Value)(d:Nat)(b:Bool):a[d]?=some (.bool b)↔a.getD d undef=.bool b:=by
 rw[Cs]
 grind[undef]
theorem Rq{P:Program}{g:bL}{mu:Bool}{ops:Array Oper}{o:Oper}{r:bG}(h:Nt P g mu ops o=some r){G:Gh}{w:World}{s:List AV}{a:Act}(M:SR G w s a):
 Region.wanted o (yielded ops a.tmps)=bU s r:=by
 obtain⟨_,_,t⟩:=IY h
 rcases t with ⟨O,Z⟩|⟨j,b,d,O,Z,W⟩
 . simp[Region.wanted,bU,O,Z]
 simp only[Region.wanted,bU,O,W,yielded,Z,Option.bind_some];have J:=M.getD d
 have key:∀c,s.getD d aB=.bool c↔a.tmps[d]?=some (.bool c):=fun c=>by rw[GO];exact J.aDw c
 grind
theorem SR.put{G:Gh}{w:World}{s:List AV}{a:Act}(h:SR G w s a)(A:Option Nat){v:AV}{u:Value}(J:VR G w v u):SR G w (oR s A v) (a.put A u):=by
 cases A with
 |none=>exact h
 |some d=>
  have U:=h.1;refine⟨by grind[oR,Act.put],fun j Y=>?_⟩;simp only[oR,Kc] at Y;simp only[oR,Act.put];by_cases hd:d=j
  . grind
  have :=h.2 j Y
  grind
theorem SR.ext{G E:Gh}{H H':aA}{w w':World}{s:List AV}{a:Act}(h:SR G w s a)(e:Ext G H w E H' w'):SR E w' s a:=jH.ext h e
theorem IS{G:Gh}{w:World}{v:AV}{p:FuncId×List AV×List AV}(h:nH v=some p)(J:VR G w v u):
 ∃K N:List Value,u=.func (.func p.1) K.toArray N.toArray/\jH G w p.2.1 K/\jH G w p.2.2 N:=by
 cases v<;>simp only[nH] at h<;>try (cases h)
 rename_i fn fs cs
 cases fn<;>simp only[] at h<;>first|(cases h;done)|skip
 obtain rfl:=Aa h
 cases J with
 |func _ _ _ K N I X c O=>exact⟨K,N,rfl,⟨I,c⟩,⟨X,O⟩⟩
variable{c:Call}{f:Operand}
theorem AK{P:Program}{Z:Operand->Value}{t:TypeId}{fid:FuncId}{K N:List Value}(R:c.callee=.value f)(a:Z f=.func (.func fid) K.toArray N.toArray)(w:World):
 (resolve Z c t).run P w=.ok {target:=.fn (.func fid) N.toArray,args:=K.toArray++c.args.map Z} w:=by
 simp[resolve,R,a,Deferred.ofValue]
theorem pJ{P:Program}{fid:FuncId}(PC:DH P fid)(args:Array Value)(cap:Array Value)(w:World):(invoke (.fn (.func fid) cap) args).run P w=.ok (.enter fid (args++cap)) w:=by
 obtain⟨fn,h1,h2,h3⟩:=PC;have hb:¬fn.body=none:=fun hh=>by grind
 have h3':¬fn.name= "runtime.NumGoroutine" :=by grind
 simp[invoke,callFunc,program,Sem.run,h1,h3',hb]
theorem Pr{ro:Option Nat}{n:Nat}{P:Program}{f:FuncId}{args:Array Value}{w:World}{R:Ending->World->Prop}(h:Calls P f args w R):CallsIn (Fw ro) n P f args w R:=
 (callsIn_wide (n:=n)).2 h
theorem EN{ro:Option Nat}{n:Nat}:(Fw ro).depth.isSome=true->1<=n:=fun h=>by cases h
def aDy(next:Act->World->Prop)(Q:Exit->Act->World->Prop)(a:Act)(d:Option Nat):Ending->World->Prop
 |.returned v,w=>next (a.put d v) w
 |.panicked chain,w=>Q (.panic chain) a w
 |.outgrown,_=>LetsOut Q
theorem Sv{g:bL}{o:Oper}{G:Gh}{H H':aA}{w:World}{a:Act}{out:Out}{next:Act->World->Prop}{Q:Exit->Act->World->Prop}
 (A:∀v,out=.ret v->∀u w' E,WR g E H' w'->Ext G H w E H' w'->VR E w' v u->next (a.put o.dst u) w')
 (C:∀v,out=.MD v->∀u w' E,WR g E H' w'->Ext G H w E H' w'->VR E w' v u->Q (.panic [{v:=u,recovered:=false}]) a w') (e:Ending) (w':World)
 (he:∃E,WR g E H' w'/\Ext G H w E H' w'/\Zl E w' out e):
 aDy next Q a o.dst e w':=by
 obtain⟨E,I,p,j⟩:=he
 cases out with
 |ret v=>
  cases e with
  |returned u=>exact A v rfl u w' E I p j
  |panicked _=>exact j.elim
  |outgrown=>exact j.elim
 |MD v=>
  cases e with
  |returned _=>exact j.elim
  |panicked d=>obtain⟨u,rfl,J⟩:=j;exact C v rfl u w' E I p J
  |outgrown=>exact j.elim
theorem aKp{G:Gh}{w:World}{id:Nat}(h:VR G w (.yield id) u):∃l,G.loc id=some l/\u=.func (.yield l.dE) #[] #[]:=by
 cases h with
 |yield _ l U=>grind
theorem WO{P:Program}{g:bL}{ro:Option Nat}{o:Oper}{x:Arg}{d:List Arg}(S:o.op=.call c)(R:c.callee=.value f)(N:bO g f=some x)(i:pL g c.args.toList=some d)
 {G:Gh} {H H':aA} {w:World} {s:List AV} {a:Act} {out:Out} (L:WR g G H w) (M:SR G w s a)
 (t:Sn P g (x.eval g s) (d.map (Arg.eval g s)) H out H') {next:Act->World->Prop} {Q:Exit->Act->World->Prop}
 (A:∀v,out=.ret v->∀u w' E,WR g E H' w'->Ext G H w E H' w'->VR E w' v u->next (a.put o.dst u) w')
 (C:∀v,out=.MD v->∀u w' E,WR g E H' w'->Ext G H w E H' w'->VR E w' v u->Q (.panic [{v:=u,recovered:=false}]) a w'):
 o.wpIn (Fw ro) 0 P a w next Q:=by
 have n:=vL L M i;have r:o.semAt (Fw ro).round a.eval=execOp a.eval o:=Oper.semAt_eq _ _ _ fun K h=>by grind
 refine⟨fun _ _=>trivial,?_⟩;rw[r];have j:=bM L M N
 rcases t with ⟨p,m,t⟩|⟨id,m,t⟩
 . obtain⟨us,F,b,O,Z⟩:=IS m j
   have z:(execOp a.eval o).run P w=.ok (.enter p.1 (us++c.args.toList.map a.eval++F).toArray) w:=by simp only[execOp,S,Sem.run_bind,AK R b,Result.andThen_ok,pJ t.1];simp
   have k:=t.2 G w _ L ((O.append n).append Z);rw[z];exact⟨EN,(Pr k).mono fun e w' B=>by have :=Sv A C e w' B;assumption⟩
 rw[m] at j;obtain⟨l,U,b⟩:=aKp j;obtain⟨fn,tmps,assign,body,y,D⟩:=t G w _ l L n U
 have z:(execOp a.eval o).run P w=.ok (.round l.dE fn tmps assign body) w:=by
  have q:(Instr.yield l.dE (c.args.map a.eval)).run P w=.ok (.round l.dE fn tmps assign body) w:=by rw[<-y];congr 2;grind
  simp[execOp,S,resolve,R,b,Deferred.ofValue,invoke,q]
 rw[z];exact⟨EN,RoundIn.mono (show RoundIn (Fw ro) 0 P l.dE fn tmps assign body w _ from D) fun e w' B=>by have :=Sv A C e w' B;assumption⟩
variable{r:eJ}
theorem Rr{P:Program}{g:bL}{ro:Option Nat}{o:Oper}(N:cV P g o r)(T:∀c,o.op≠ .defer c){G:Gh}{H H':aA}{w:World}{s:List AV}{a:Act}{v:AV}(L:WR g G H w)(M:SR G w s a)
 (h:dS (Arg.eval g s) H r=some (v,H')) {next:Act->World->Prop} {Q:Exit->Act->World->Prop}
 (A:∀u w' E,WR g E H' w'->Ext G H w E H' w'->VR E w' v u->next (a.put o.dst u) w'):o.wpIn (Fw ro) 0 P a w next Q:=by
 obtain⟨n,u,w',E,V,b,r1,r2,F⟩:=N s a G H w v H' L M h;refine⟨fun _ _=>trivial,?_⟩;rw[show o.semAt (Fw ro).round a.eval=execOp a.eval o from Oper.semAt_eq _ _ _ T,V]
 rcases b with rfl|⟨rfl,rfl⟩
 . exact A u w' E r1 r2 F
 exact A undef w' E r1 r2 F
theorem BC{P:Program}{g:bL}{mu:Bool}{o:Oper}(h:Px P g mu o=some r)(V:∀f K,r≠ .nD f K):∀c,o.op≠ .defer c:=by grind[Px]
theorem XH{P:Program}{g:bL}{mu:Bool}{o:Oper}{u:Arg}{d:List Arg}(h:Px P g mu o=some (.call u d)):
 ∃c f,o.op=.call c/\c.callee=.value f/\bO g f=some u/\pL g c.args.toList=some d:=by
 unfold Px at h;split at h
 case h_31=>
  rename_i c S;unfold pG at h;split at h
  case h_4=>
   exact ZbV
  all_goals exfalso
  all_goals (try unfold uB at h)
  all_goals (try unfold jX at h)
  all_goals repeat' (split at h)
  all_goals first
   |(cases h;done)
   |(simp only[Ad] at h;obtain⟨_,_,h⟩:=h;cases h;done)
 all_goals exfalso
 all_goals (try unfold uA at h)
 all_goals (try unfold mT at h)
 all_goals (try unfold pH at h)
 all_goals repeat' (split at h)
 all_goals first
  |(cases h;done)
  |(simp only[Ad] at h;obtain⟨_,_,h⟩:=h;cases h;done)
theorem xd{P:Program}{g:bL}{mu:Bool}{o:Oper}{D:Arg}(h:Px P g mu o=some (.panic D)):∃x,o.op=.panic x/\bO g x=some D:=by
 unfold Px at h;split at h
 case h_32=>rename_i x S;simp only[Ad] at h;obtain⟨y,Q,B⟩:=h;cases B;exact⟨x,S,Q⟩
 all_goals exfalso
 all_goals (try unfold uA at h)
 all_goals (try unfold mT at h)
 all_goals (try unfold pH at h)
 all_goals (try unfold pG at h)
 all_goals (try unfold uB at h)
 all_goals (try unfold jX at h)
 all_goals repeat' (split at h)
 all_goals first
  |(cases h;done)
  |(simp only[Ad] at h;obtain⟨_,_,h⟩:=h;cases h;done)
theorem wz{P:Program}{g:bL}{mu:Bool}{o:Oper}{u:Arg}{d:List Arg}(h:Px P g mu o=some (.nD u d)):
 ∃c f,o.op=.defer c/\c.callee=.value f/\bO g f=some u/\pL g c.args.toList=some d:=by
 unfold Px at h;split at h
 case h_33=>
  rename_i c S;split at h
  . exact ZbV
  cases h
 all_goals exfalso
 all_goals (try unfold uA at h)
 all_goals (try unfold mT at h)
 all_goals (try unfold pH at h)
 all_goals (try unfold pG at h)
 all_goals (try unfold uB at h)
 all_goals (try unfold jX at h)
 all_goals repeat' (split at h)
 all_goals first
  |(cases h;done)
  |(simp only[Ad] at h;obtain⟨_,_,h⟩:=h;cases h;done)
theorem Ma{P:Program}{ops:Array Oper}{ro:Option Nat}{Q C:Exit->Act->World->Prop}(D:∀e a w,Q e a w->C e a w):∀(l:List Nat) (a:Act) (w2:World),wpOpsIn (Fw ro) 0 P ops Q l a w2->wpOpsIn (Fw ro) 0 P ops C l a w2:=by
 intro l
 induction l with
 |nil=>exact fun a w2 X=>D _ _ _ X
 |cons i l z=>
  intro a w2 X;rw[wpOpsIn_cons] at X ⊢;unfold wpOpIn at X ⊢;split
  . grind
  rename_i x F;simp only[F] at X;split
  . rename_i s;simp only[s,if_true] at X;refine⟨X.1,?_⟩;have X:=X.2;generalize (x.semAt (Fw ro).round a.eval).run P w2=H at *
    have eq:∀(e:Ending) (t:World),aDy (wpOpsIn (Fw ro) 0 P ops Q l) Q a x.dst e t->aDy (wpOpsIn (Fw ro) 0 P ops C l) C a x.dst e t:=fun e t A=>by
     cases e with
     |returned v=>exact z _ _ A
     |panicked T=>exact D _ _ _ A
     |outgrown=>exact let⟨p,w0,q⟩:=A;⟨p,w0,D _ _ _ q⟩
    cases H with
    |ok n G=>
     cases n<;>simp only[Oper.uponIn] at X ⊢ <;>first
      |exact z _ _ X
      |exact X
      |exact⟨X.1,CallsIn.mono X.2 (fun e t h=>by have :=eq e t (by assumption);assumption)⟩
      |exact⟨X.1,RoundIn.mono X.2 (fun e t h=>by have :=eq e t (by assumption);assumption)⟩
      |exact⟨X.1,RowsIn.mono X.2 (fun _ _ A=>z _ _ A)⟩
    |halt y G=>cases y<;>simp only[Oper.uponIn] at X ⊢ <;>first|grind|grind
  grind
theorem xe{P:Program}{g:bL}{mu:Bool}{o:Oper}{D:Arg}(h:Px P g mu o=some (.yK D)):∃t x k v,o.op=.range t x/\bO g x=some D/\P.underlying t=some (.map k v):=by
 unfold Px at h;split at h
 case h_28=>
  rename_i t x S;split at h
  . rename_i y k v Q q;cases h;exact⟨t,x,k,v,S,Q,q⟩
  cases h
 all_goals exfalso
 all_goals (try unfold uA at h)
 all_goals (try unfold mT at h)
 all_goals (try unfold pH at h)
 all_goals (try unfold pG at h)
 all_goals (try unfold uB at h)
 all_goals (try unfold jX at h)
 all_goals repeat' (split at h)
 all_goals first
  |(cases h;done)
  |(simp only[Ad] at h;obtain⟨_,_,h⟩:=h;cases h;done)
theorem aEg{P:Program}{g:bL}{mu:Bool}{o:Oper}{D:Arg}(h:Px P g mu o=some (.HP D)):∃x,o.op=.next x false/\bO g x=some D:=by
 unfold Px at h;split at h
 case h_29=>
  rename_i x s S;split at h
  . rename_i y Q;cases h;exact⟨x,S,Q⟩
  cases h
 all_goals exfalso
 all_goals (try unfold uA at h)
 all_goals (try unfold mT at h)
 all_goals (try unfold pH at h)
 all_goals (try unfold pG at h)
 all_goals (try unfold uB at h)
 all_goals (try unfold jX at h)
 all_goals repeat' (split at h)
 all_goals first
  |(cases h;done)
  |(simp only[Ad] at h;obtain⟨_,_,h⟩:=h;cases h;done)
theorem xc{P:Program}{g:bL}{mu:Bool}{o:Oper}{D:Arg}(h:Px P g mu o=some (.BQ D)):∃x,o.op=.entry x/\bO g x=some D:=by
 unfold Px at h;split at h
 case h_30=>rename_i x S;simp only[Ad] at h;obtain⟨y,Q,B⟩:=h;cases B;exact⟨x,S,Q⟩
 all_goals exfalso
 all_goals (try unfold uA at h)
 all_goals (try unfold mT at h)
 all_goals (try unfold pH at h)
 all_goals (try unfold pG at h)
 all_goals (try unfold uB at h)
 all_goals (try unfold jX at h)
 all_goals repeat' (split at h)
 all_goals first
  |(cases h;done)
  |(simp only[Ad] at h;obtain⟨_,_,h⟩:=h;cases h;done)
theorem gm{G:Gh}{w:World}{id:Nat}(h:VR G w (.map id) u):∃l,G.loc id=some l/\u=.map (some l.dE):=by
 cases h with
 |map _ l U=>grind
theorem aIu{G:Gh}{w:World}{id off:Nat}(h:VR G w (.ref id off) u):∃l,G.loc id=some l/\u=.pointer (some ⟨l.dE,l.base+off,none⟩):=by
 cases h with
 |ref _ _ l U=>grind
theorem KB{α:Type}{a:Array α}{i:Nat}{x:α}(h:a[i]?=some x):a.setIfInBounds i x=a:=by grind
theorem WR.fresh{g:bL}{G:Gh}{H:aA}{w:World}(L:WR g G H w):G.loc H.next=none:=by
 cases U:G.loc H.next with
 |none=>rfl
 |some l'=>exact absurd (L.lt _ _ U) (Ec _)
theorem jn{P:Program}{g:bL}{G:Gh}{H:aA}{w:World}(L:WR g G H w){m:Nat}{es:List (AV×AV)}{u:Value}(a:H.get m=some (.map es))(K:VR G w (.map m) u)
 {t k v:TypeId} (q:P.underlying t=some (.map k v)):∃N c A y w' E,N.length=es.length/\N.Nodup/\(Instr.range t u).run P w=.ok y w'/\
   WR g E ((H.set m (.uW es N c A)).alloc (.iter m A c [])) w'/\Ext G H w E ((H.set m (.uW es N c A)).alloc (.iter m A c [])) w'/\VR E w' (.ref H.next 0) y:=by
 obtain⟨l,U,rfl⟩:=gm K;obtain⟨D,V,ents,n,O,Z,W,h4⟩:=L.jK _ _ _ U a rfl;have Q:(ents.toList.map (·.born)).length=es.length:=by grind
 have T:(ents.toList.map (·.born)).Nodup:=by rw[List.Nodup,Fy];intro i j F Y s B;simp only[Ah,Ef] at F Y;have :=W.2 i j F Y (by simp_all);omega
 have r:∀b∈ents.toList.map (·.born),b<n:=by
  intro b X;simp only[Bb] at X;obtain⟨x,f,rfl⟩:=X;obtain⟨i,F,rfl⟩:=Cz f;have e:i<ents.size:=by omega
  have :=W.1 i e;simp_all
 refine⟨ents.toList.map (·.born),n,l.dE,.pointer (some ⟨w.heap.size,0,none⟩),w.alloc (.mapIter (some l.dE) n #[] n),G.eA H.next ⟨w.heap.size,0,0,1⟩,Q,T,?_,?_⟩
 . simp[Instr.range,underlying,program,q,getObj,newObj,Sem.run,O,Result.andThen]
 obtain⟨q1,q2⟩:=L.JZ (o':=.uW es (ents.toList.map (·.born)) n l.dE) (x:=.map ents n) (w':=w) U a rfl rfl (KB O).symm .now
  (fun _ d=>⟨rfl,T,r,ents,d,rfl,Q,h4⟩)
 have C:=q1.GD (H':=(H.set m (.uW es (ents.toList.map (·.born)) n l.dE)).alloc (.iter m l.dE n [])) H.next (.iter m l.dE n []) (.mapIter (some l.dE) n #[] n) rfl q1.fresh (aA.aI _ _) (Gm _) (Fg _) (w':=w.alloc (.mapIter (some l.dE) n #[] n)) ⟨rfl,.now⟩
  (fun p=>⟨by show(w.heap.push _)[w.heap.size]?=_;simp,p _ _ (.map m l U)⟩)
 exact⟨C.rel,C.ext q2 (Ae _),.ref H.next 0 ⟨w.heap.size,0,0,1⟩ (by show(if H.next=H.next then some (⟨w.heap.size,0,0,1⟩:Loc) else _)=_;simp)⟩
theorem zp{P:Program}{g:bL}{G:Gh}{H:aA}{w:World}(L:WR g G H w){q m A c:Nat}{seen N:List Nat}{es:List (AV×AV)}{u:Value}(J:H.get q=some (.iter m A c seen))(l:H.get m=some (.uW es N c A))
 (K:VR G w (.ref q 0) u) (ty:TypeId):
 ((∀b∈N,b∈seen)/\(Instr.next u false ty).run P w=.ok (.tuple #[.bool false]) w)\/
 ∃j y w' E,j<N.length/\N.getD j 0∉seen/\(Instr.next u false ty).run P w=.ok y w'/\WR g E (H.set q (.iter m A c (seen++[N.getD j 0]))) w'/\Ext G H w E (H.set q (.iter m A c (seen++[N.getD j 0]))) w'/\
  VR E w' (.jS [.bool true,(es.getD j (aB,aB)).1,(es.getD j (aB,aB)).2]) y:=by
 obtain⟨li,M,rfl⟩:=aIu K;obtain⟨D,ZV,S,U⟩:=L.jK _ _ _ M J rfl;obtain⟨O,v,a7⟩:=gm U;cases a7;obtain⟨_,_,_,T,r,ents,ae,d,Q,z⟩:=L.jK _ _ _ v l rfl;rw[D];have I:∀x∈ents.toList,x.born<c:=fun x C=>r _ (by rw[<-d];exact List.mem_map_of_mem C)
 rcases run_next_at (P:=P) w ty li.dE O.dE c c seen.toArray ents c S ae I (Ae _) with ⟨o,V⟩|⟨e,B,w1,R,V⟩
 . refine .inl ⟨fun b X=>?_,V⟩;rw[<-d] at X;obtain⟨x,C,rfl⟩:=Bb.1 X;have Xm:=Array.eq_empty_of_size_eq_zero o;unfold leftOf at Xm;rw[Array.filter_eq_empty_iff] at Xm;have :=Xm x (by simpa using C);simpa using this
 right;unfold leftOf at B;simp only[Array.toList_filter,Ft,Cx,List.contains_toArray] at B;obtain⟨ad,f⟩:=B;obtain⟨j,Y,t⟩:=Cz ad;have s:j<ents.size:=by simpa using Y
 have ab:j<N.length:=by rw[<-d];simpa using Y
 have a6:N.getD j 0=e.born:=by subst d;simp[Dh,Eg,Af Y,t]
 have ag:ents.getD j default=e:=by rw[Cs,Array.getElem?_eq_getElem s];simpa using t
 have af:w1.heap=w.heap:=by rcases R with rfl|rfl<;>rfl
 have Z:DJ w w1:=by rcases R with rfl|rfl<;>exact .now
 obtain⟨q1,q2⟩:=L.JZ (o':=.iter m O.dE c (seen++[N.getD j 0])) (x:=.mapIter (some O.dE) c (seen.toArray.push e.born) c)
  (w':=ChangeMaps.setBlock w1 li.dE (.mapIter (some O.dE) c (seen.toArray.push e.born) c)) M J rfl rfl (by show w1.heap.setIfInBounds _ _=_;rw[af]) ⟨Z.os,Z.output,Z.tape,Z.drawn⟩
  (fun p W=>⟨by rw[W,a6];simp,p _ _ U⟩)
 obtain⟨vk,n⟩:=z j A0;rw[ag] at vk n;refine⟨j,_,_,G,ab,by rw[a6];simpa using f,V,q1,q2,?_⟩;have dr:∀a u,VR G w a u->VR G (ChangeMaps.setBlock w1 li.dE (.mapIter (some O.dE) c (seen.toArray.push e.born) c)) a u:=fun a u h=>h.ext q2;refine VR.jS _ [.bool true,e.key,e.val] rfl fun i F=>?_
 match i,F with
 |0,_=>exact .bool true
 |1,_=>exact dr _ _ vk
 |2,_=>exact dr _ _ n
 |k+3,F=>simp at F;omega
theorem cj{P:Program}{g:bL}{G:Gh}{H:aA}{w:World}(L:WR g G H w){q m A c j:Nat}{seen N:List Nat}{es:List (AV×AV)}{u:Value}(J:H.get q=some (.iter m A c (seen++[N.getD j 0])))
 (l:H.get m=some (.uW es N c A)) (Y:j<N.length) (K:VR G w (.ref q 0) u):
 ∃y,(Instr.entry u).run P w=.ok y w/\VR G w (.jS [(es.getD j (aB,aB)).1,(es.getD j (aB,aB)).2]) y:=by
 obtain⟨k,M,rfl⟩:=aIu K;obtain⟨D,o,S,U⟩:=L.jK _ _ _ M J rfl;obtain⟨O,v,e⟩:=gm U;cases e;obtain⟨_,_,_,T,r,ents,f,d,Q,z⟩:=L.jK _ _ _ v l rfl;rw[D];have t:j<ents.toList.length:=by grind
 have s:j<ents.size:=by omega
 have b:N.getD j 0=ents.toList[j].born:=by grind
 have h:ents.getD j default=ents.toList[j]:=by simp_all
 have V:=run_entry_at (P:=P) w k.dE O.dE c seen.toArray ents c ents.toList[j] (by grind) f (Ac t) (by grind);obtain⟨a,n⟩:=z j A0;rw[h] at a n;refine⟨_,V,VR.jS _ [_,_] rfl fun i F=>?_⟩
 grind
theorem ID{P:Program}{g:bL}{mu:Bool}{ro:Option Nat}{ops:Array Oper}:∀(l:List Oper) (rl:List bG) (k:Nat),nC P g mu ops l=some rl->(∀j,(h:j<l.length)->ops[k+j]?=some l[j])->
 (ro=none\/∀r∈rl,∀f K,r.op≠ .nD f K)->∀(s:List AV) (d:List gX) (G:Gh) (H:aA) (w:World) (a:Act) (Q:AQ),vH P g rl s d H Q->WR g G H w->SR G w s a->UQ G w d a.defers->
   wpOpsIn (Fw ro) 0 P ops (QR g G H w Q) (List.range' k l.length) a w
 |[],rl,k,hc,hl,DA,s,d,G,H,w,a,Q,h,L,M,hd=>by obtain rfl:=Aa hc;exact⟨.normal,s,d,H,G,h,L,Ext.refl G H w,M,hd,trivial⟩
 |o::l,rl,k,hc,hl,DA,s,d,G,H,w,a,Q,h,L,M,hd=>by
  unfold nC at hc;split at hc
  . rename_i r X V ad;obtain rfl:=Aa hc
    have S:ops[k]?=some o:=hl 0 A2
    have pS:∀j,(h:j<l.length)->ops[k+1+j]?=some l[j]:=fun j Y=>by have :=hl (j+1) Za0;simpa [show k+(j+1)=k+1+j by omega] using this
    obtain⟨GR,e,_⟩:=IY V;have ow:=Rq V M
    have next:∀{v:AV} {u:Value} {H1:aA} {w1:World} {G1:Gh} {qU:List gX} {a1:Act},vH P g X (oR s r.dst v) qU H1 Q->WR g G1 H1 w1->Ext G H w G1 H1 w1->VR G1 w1 v u->SR G w s a1->UQ G1 w1 qU a1.defers->
     wpOpsIn (Fw ro) 0 P ops (QR g G H w Q) (List.range' (k+1) l.length) (a1.put o.dst u) w1:=by
     intro v u H1 w1 G1 qU a1 n R B J ab ag;have CV:=(ab.ext B).put r.dst J;rw[GR] at CV n
     have af:UQ G1 w1 qU (a1.put o.dst u).defers:=by cases o.dst<;>exact ag
     have :=ID l X (k+1) ad pS (DA.imp id fun h x C=>h x (As _ C)) _ qU G1 H1 w1 _ Q n R CV af;exact Ma (fun _ _ _=>QR.trans B) _ _ _ this
    simp only[Ba,List.range'_succ];rw[wpOpsIn_cons];unfold wpOpIn;simp only[S];rw[ow];unfold vH at h;by_cases eo:bU s r=true
    . rw[if_pos eo] at h ⊢;split at h
      . rename_i f K b;obtain⟨out,H',hS,yI⟩:=h;rw[b] at e;obtain⟨c,f0,T,e2,e3,U⟩:=XH e;refine WO T e2 e3 U L M hS (fun v J u w' E I B Oj=>?_) (fun v J u w' E I B Oj=>?_)
        . subst J
          exact next yI I B Oj M (hd.ext B)
        subst J;exact⟨.panic v,s,d,H',E,yI,I,B,M.ext B,hd.ext B,u,rfl,Oj⟩
      . rename_i x b;obtain⟨t,v,C,D⟩:=h;rw[b] at e;obtain⟨x0,T,e2⟩:=xd e;have W:=bM L M e2;rw[C] at W;generalize eN:a.eval x0=u at W
        have z:∀q,u=.iface t q->(execOp a.eval o).run P w=.halt (.panic u) w:=fun q D=>by subst D;simp[execOp,T,eN,Instr.panic,goPanic]
        have a7:=W;refine⟨fun _ _=>trivial,?_⟩;rw[show o.semAt (Fw ro).round a.eval=execOp a.eval o from Oper.semAt_eq _ _ _ fun c' h=>by rw[T] at h;cases h]
        cases W with
        |iface _ _ q ak=>rw[z q rfl];exact⟨.panic (.iface t v),s,d,H,G,D,L,Ext.refl G H w,M,hd,_,rfl,a7⟩
      . rename_i f K b;obtain⟨p,hp,n⟩:=h;rw[b] at e;obtain⟨c,f0,T,e2,e3,U⟩:=wz e;obtain⟨us,N,ae,O,Z⟩:=IS hp (bM L M e3);have LQ:=vL L M U
        have z:(execOp a.eval o).run P w=.ok (.defer {target:=.fn (.func p.1) N.toArray,args:=us.toArray++c.args.map a.eval}) w:=by simp only[execOp,T,Sem.run_bind,AK e2 ae,Result.andThen_ok,Sem.run_pure]
        have aj:ro=none:=DA.resolve_right fun h=>h r A2 _ _ b;subst aj;refine⟨fun _ _=>trivial,?_⟩;rw[show o.semAt (Fw none).round a.eval=execOp a.eval o from rfl,z]
        exact next n L (Ext.refl G H w) (VR.oV G w) (a1:={a with defers:={target:=.fn (.func p.1) N.toArray,args:=us.toArray++c.args.map a.eval}::a.defers}) M
         ⟨⟨N,rfl,by simpa using(O.append LQ).append Z⟩,hd⟩
      . rename_i x b;obtain⟨m,es,C,hg,n⟩:=h;rw[b] at e;obtain⟨t,x0,kt,vt,T,e2,e3⟩:=xe e;have W:=bM L M e2;rw[C] at W;obtain⟨N,c,A,y,w',E,O,Z,V,q1,q2,q3⟩:=jn (P:=P) L hg W e3;refine⟨fun _ _=>trivial,?_⟩;rw[show o.semAt (Fw ro).round a.eval=execOp a.eval o from Oper.semAt_eq _ _ _ fun c' h=>by rw[T] at h;cases h];rw[show(execOp a.eval o).run P w=.ok (.value y) w' by simp[execOp,T,V]]
        exact next (n _ _ _ O Z) q1 q2 q3 M (hd.ext q2)
      . rename_i x b;obtain⟨it,m,A,c,seen,es,N,C,TU,a6,LS,gC⟩:=h;rw[b] at e;obtain⟨x0,T,e2⟩:=aEg e;have W:=bM L M e2;rw[C] at W;refine⟨fun _ _=>trivial,?_⟩;rw[show o.semAt (Fw ro).round a.eval=execOp a.eval o from Oper.semAt_eq _ _ _ fun c' h=>by rw[T] at h;cases h]
        rcases zp (P:=P) L TU a6 W o.type with ⟨O,V⟩|⟨j,y,w',E,O,Z,V,q1,q2,q3⟩
        . rw[show(execOp a.eval o).run P w=.ok (.value (.tuple #[.bool false])) w by simp[execOp,T,V]]
          exact next (LS O) L (Ext.refl G H w) (VR.jS [.bool false] [.bool false] rfl fun i F=>by
           obtain rfl:i=0:=by simp at F;exact F
           exact .bool false) M hd
        rw[show(execOp a.eval o).run P w=.ok (.value y) w' by simp[execOp,T,V]]
        exact next (gC j O Z) q1 q2 q3 M (hd.ext q2)
      . rename_i x b;obtain⟨it,m,A,c,seen,es,N,j,C,TU,a6,Y,n⟩:=h;rw[b] at e;obtain⟨x0,T,e2⟩:=xc e;have W:=bM L M e2;rw[C] at W;obtain⟨y,V,J⟩:=cj (P:=P) L TU a6 Y W;refine⟨fun _ _=>trivial,?_⟩;rw[show o.semAt (Fw ro).round a.eval=execOp a.eval o from Oper.semAt_eq _ _ _ fun c' h=>by rw[T] at h;cases h];rw[show(execOp a.eval o).run P w=.ok (.value y) w by simp[execOp,T,V]]
        exact next n L (Ext.refl G H w) J M hd
      rename_i n1 n2 n3 n4 n5 n6;obtain⟨v,H',n,hn⟩:=h
      have tH:r.op.plain=true:=by cases QS:r.op<;>first|rfl|exact absurd QS (n1 _ _)|exact absurd QS (n2 _)|exact absurd QS (n3 _ _)|exact absurd QS (n4 _)|exact absurd QS (n5 _)|exact absurd QS (n6 _)
      refine Rr (aw e tH) (BC e n3) L M n (fun u w' E I B J=>?_)
      exact next hn I B J M (hd.ext B)
    rw[if_neg eo] at h ⊢;exact⟨fun _ _=>trivial,next h L (Ext.refl G H w) (VR.oV G w) M hd⟩
  cases hc
def eJ.rR:eJ->Bool
 |.store _ _ _|.append _ _ _ _ _|.copy _ _ _|.clr _ _ _|.Qm _ _ _ _|.call _ _=>true
 |_=>false
def eJ.reads:eJ->Bool
 |.load _ _ _|.HW _ _ _ _ _ _|.HI _|.lookup _ _ _ _ _=>true
 |_=>false
def EF:AV->Option Nat
 |.ref id _=>some id
 |.sl id _ _ _ _=>some id
 |.map id=>some id
 |_=>none
def eJ.dL(ev:Arg->AV):eJ->Option Nat
 |.load _ _ a=>EF (ev a)
 |.HW _ _ x _ _ _=>EF (ev x)
 |.HI x=>EF (ev x)
 |.lookup _ _ _ x _=>EF (ev x)
 |_=>none
def Arg.tmps:Arg->List Nat
 |.tmp t=>[t]
 |_=>[]
def eJ.args:eJ->List Arg
 |.wE x|.box x|.Qv x|.un _ x|.Pw _ x|.EY x|.HI x|.jz _ x|.h8 _ x|.VA _ x|.ki _ _ _ x|.QD x _|.lens x|.fh x|.load _ _ x|.panic x|.clr _ _ x=>[x]
 |.pick a b c=>[a,b,c]
 |.alloc _|.CN=>[]
 |.build _ ps=>ps.map (·.2.2)
 |.Qs _ xs=>xs
 |.store _ a x=>[a,x]
 |.bin _ x y|.eqb _ x y|.eqf _ _ x y|.eqn _ _ _ x y=>[x,y]
 |.gq _ a b=>a++b
 |.mO _ _ _ l c=>[l,c]
 |.RZ x l h=>x::(l.toList++h.toList)
 |.j9 _ x l h m|.HW _ _ x l h m=>x::(l.toList++(h.toList++m.toList))
 |.VZ _ _ x i|.idx _ _ _ x i|.idxs x i|.YP x i|.YR x i=>[x,i]
 |.append _ _ _ x y|.copy _ x y=>[x,y]
 |.lookup _ _ _ x i=>[x,i]
 |.Qm _ m k v=>[m,k,v]
 |.call f azs|.nD f azs=>f::azs
 |.yK x|.HP x|.BQ x=>[x]
theorem kT{ev ev':Arg->AV}{x:Option Arg}(h:∀y∈x.toList,ev y=ev' y):eM ev x=eM ev' x:=by
 cases x with
 |none=>rfl
 |some y=>grind[eM]
theorem Nx{ev ev':Arg->AV}:∀(ps:List (Nat×Nat×Arg)) (cs:List AV),(∀y∈ps.map (·.2.2),ev y=ev' y)->LG ev cs ps=LG ev' cs ps
 |[],cs,h=>rfl
 |(o,n,x)::r,cs,h=>by
  have C:=h x A2;simp only[LG,C];split
  . exact Nx r _ (fun y Q=>h y (by grind))
  rfl
theorem Qg{ev ev':Arg->AV}(sz:Nat):∀(xs:List Arg),(∀y∈xs,ev y=ev' y)->NQ ev sz xs=NQ ev' sz xs
 |[],h=>rfl
 |x::r,h=>by have C:=h x A2;simp only[NQ,C,Qg sz r (fun y Q=>h y (by grind))]
theorem vC{ev ev':Arg->AV}(h:∀y∈r.args,ev y=ev' y):CS ev r=CS ev' r:=by
 cases r<;>simp only[CS]<;>first
  |rfl
  |(have O:=h _ (Az);simp only[eJ.args] at h;simp only[O])
  |skip
 grind
theorem vh{ev ev':Arg->AV}(H:aA)(h:∀y∈r.args,ev y=ev' y):dS ev H r=dS ev' H r:=by
 have p:∀l:List Arg,(∀y∈l,y∈r.args)->l.map ev=l.map ev':=fun l U=>Dd fun y Q=>h y (U y Q)
 cases r with
 |build z ps=>simp only[dS];rw[Nx ps z h]
 |Qs sz xs=>simp only[dS];rw[Qg sz xs h]
 |gq fn a b=>simp only[dS];rw[p a (fun y Q=>by simp[eJ.args,Q]),p b (fun y Q=>by simp[eJ.args,Q])]
 |RZ x l X=>have O:=h x Zab;have Z:eM ev l=eM ev' l:=kT fun y Q=>h y Za9;have W:eM ev X=eM ev' X:=kT fun y Q=>h y (by simp only[eJ.args,Bd,Ar];exact .inr (.inr Q));simp only[dS,O,Z,W]
 |j9 sz x l X m=>have O:=h x Zab;have Z:eM ev l=eM ev' l:=kT fun y Q=>h y Za9;have W:eM ev X=eM ev' X:=kT fun y Q=>h y Zce;have h4:eM ev m=eM ev' m:=kT fun y Q=>h y Zcd;simp only[dS,O,Z,W,h4]
 |HW n sz x l X m=>have O:=h x Zab;have Z:eM ev l=eM ev' l:=kT fun y Q=>h y Za9;have W:eM ev X=eM ev' X:=kT fun y Q=>h y Zce;have h4:eM ev m=eM ev' m:=kT fun y Q=>h y Zcd;simp only[dS,O,Z,W,h4]
 |alloc z=>simp only[dS,vC (r:=.alloc z) h]
 |box x=>simp only[dS,vC (r:=.box x) h]
 |CN=>simp only[dS,vC (r:=.CN) h]
 |mO a b c d e=>simp only[dS,vC (r:=.mO a b c d e) h]
 |EY x=>simp only[dS,vC (r:=.EY x) h]
 |pick a b c=>have O:=h a Zab;have Z:=h b Zab;have W:=h c Zab;simp only[dS,O,Z,W]
 |Qm k m i v=>have O:=h m Zab;have Z:=h i Zab;have W:=h v Zab;simp only[dS,O,Z,W]
 |call f K=>rfl
 |nD f K=>rfl
 |panic x=>rfl
 |yK x=>rfl
 |HP x=>rfl
 |BQ x=>rfl
 |store n a b=>have O:=h a Zab;have Z:=h b Zab;simp only[dS,O,Z]
 |bin op a b=>have O:=h a Zab;have Z:=h b Zab;simp only[dS,O,Z]
 |eqb op a b=>have O:=h a Zab;have Z:=h b Zab;simp only[dS,O,Z]
 |eqf op s a b=>have O:=h a Zab;have Z:=h b Zab;simp only[dS,O,Z]
 |eqn op k l a b=>have O:=h a Zab;have Z:=h b Zab;simp only[dS,O,Z]
 |VZ n sz a b=>have O:=h a Zab;have Z:=h b Zab;simp only[dS,O,Z]
 |idx n sz g a b=>have O:=h a Zab;have Z:=h b Zab;simp only[dS,O,Z]
 |idxs a b=>have O:=h a Zab;have Z:=h b Zab;simp only[dS,O,Z]
 |append s b m x y=>have O:=h x Zab;have Z:=h y Zab;simp only[dS,O,Z]
 |copy s x y=>have O:=h x Zab;have Z:=h y Zab;simp only[dS,O,Z]
 |lookup k z ok x y=>have O:=h x Zab;have Z:=h y Zab;simp only[dS,O,Z]
 |wE x=>have O:=h x Zab;simp only[dS,O]
 |YP x y=>have O:=h x Zab;have Z:=h y Zab;simp only[dS,O,Z]
 |YR x y=>have O:=h x Zab;have Z:=h y Zab;simp only[dS,O,Z]
 |clr n z x=>have O:=h x Zab;simp only[dS,O]
 |Qv x=>have O:=h x Zab;simp only[dS,O]
 |un o x=>have O:=h x Zab;simp only[dS,O]
 |Pw k x=>have O:=h x Zab;simp only[dS,O]
 |HI x=>have O:=h x Zab;simp only[dS,O]
 |jz n x=>have O:=h x Zab;simp only[dS,O]
 |h8 t x=>have O:=h x Zab;simp only[dS,O]
 |VA n x=>have O:=h x Zab;simp only[dS,O]
 |ki t ok z x=>have O:=h x Zab;simp only[dS,O]
 |QD x i=>have O:=h x Zab;simp only[dS,O]
 |lens x=>have O:=h x Zab;simp only[dS,O]
 |fh x=>have O:=h x Zab;simp only[dS,O]
 |load g n x=>have O:=h x Zab;simp only[dS,O]
theorem Mt{ev:Arg->AV}(B:r.rR=false)(N:r.fresh=false){H H1:aA}{v:AV}{H':aA}(h:dS ev H r=some (v,H'))
 (V:∀id,r.dL ev=some id->H1.get id=H.get id):H'=H/\dS ev H1 r=some (v,H1):=by
 have b:∀{id:Nat},H1.get id=H.get id->H1.fP id=H.fP id:=fun X=>by simp[aA.fP,X]
 cases r<;>first
  |(cases B;done)
  |(cases N;done)
  |skip
 case load agg n a=>
  simp only[dS] at h ⊢;simp only[eJ.dL] at V;split at h
  . rename_i id off d;have :=b (V id (by rw[d];rfl));simp only[this];split at h
    . split at h
      . split at h
        . exact ZaL
        split at h
        . exact ZaL
        cases h
      cases h
    cases h
  . rename_i cs d;split at h
    . split at h
      . exact ZaL
      split at h
      . exact ZaL
      cases h
    cases h
  cases h
 case HW n sz x lo hi mx=>
  simp only[dS] at h ⊢;simp only[eJ.dL] at V;split at h
  . simp only[Ad,Ap] at h ⊢;obtain⟨D,h,rfl,rfl⟩:=h;refine⟨rfl,D,?_,by simp⟩;unfold jZ at h ⊢;simp only at h ⊢;split at h
    . rename_i R;rw[if_pos R];split at h
      . rename_i id o d;have :=b (V id (by rw[d];rfl));simp only[this];exact h
      . exact h
      cases h
    cases h
  cases h
 case HI x=>
  simp only[dS] at h ⊢;simp only[eJ.dL] at V
  have T:dJ H1 1 (ev x)=dJ H 1 (ev x):=by cases C:ev x<;>simp only[dJ];rename_i id sz off len cap;have :=b (V id (by rw[C];rfl));simp only[this]
  split at h
  . cases h
  rename_i f;rw[T];split at h
  . simp only[Ad,Ap] at h ⊢;obtain⟨c,O,rfl,rfl⟩:=h;exact⟨rfl,c,O,by simp⟩
  cases h
 case lookup k z ok x i=>
  simp only[dS] at h ⊢;simp only[eJ.dL] at V;split at h
  . rename_i E;rw[if_pos E];split at h
    . exact ZaL
    . rename_i id d;have :=V id (by rw[d];rfl);simp only[this];split at h
      . split at h
        . exact ZaL
        . exact ZaL
        cases h
      cases h
    cases h
  cases h
 case YP x y=>
  exact Za5
 case YR x y=>
  exact Za5
 all_goals
  simp only[dS] at h ⊢
  repeat' (split at h)
  all_goals first
   |(cases h;done)
   |(simp only[Aj,Ap] at h
     obtain⟨rfl,rfl⟩:=h
     exact⟨rfl,by simp_all⟩)
   |(simp only[Ad,Ap] at h
     obtain⟨q,O,rfl,rfl⟩:=h
     exact⟨rfl,by simp_all⟩)
section
def yW(r:bG):List Nat:=r.op.args.flatMap Arg.tmps++(match r.guard with|some (d,_)=>[d]|none=>[])
def iV(rl:List bG)(i:Nat):Nat:=(rl.take i).countP (·.op.fresh)
def DStep(P:Program)(g:bL)(a:Bool)(id:Nat)(r:bG)(s:List AV)(H:aA)(v:AV)(H':aA):Prop:=
 if bU s r then
  if r.op.fresh then ∃T val,CS (Arg.eval g s) r.op=some (T,val)/\v=val id/\H'=H.set id T
  else match r.op with
   |.call f azs=>if a=true then v=aB/\H'=H else ∃p,nH (f.eval g s)=some p/\Sound P g p.1 (p.2.1++azs.map (Arg.eval g s)++p.2.2) H (.ret v) H'
   |.panic _|.nD _ _=>False
   |op=>dS (Arg.eval g s) H op=some (v,H')
 else v=aB/\H'=H
structure dR (P:Program) (g:bL) (rl:List bG) (pj:Option Nat) (pairs:List (Nat×Nat)) (s0:List AV) (H0:aA) (Hs:Nat->aA) (ss:Nat->List AV) (vs:Nat->AV):Prop where
 s0:ss 0=s0
 h0:Hs 0={H0 with next:=H0.next+rl.countP (·.op.fresh)}
 free:∀k,k<rl.countP (·.op.fresh)->H0.get (H0.next+k)=none
 step:∀i r,rl[i]?=some r->DStep P g (pj==some i) (H0.next+iV rl i) r (ss i) (Hs i) (vs i) (Hs (i+1))/\ss (i+1)=oR (ss i) r.dst (vs i)
 mono:∀i r,rl[i]?=some r->r.op.rR=true->(Hs i).next<=(Hs (i+1)).next
 Rc:∀i e,(i,e)∈pairs->∀ri re,rl[i]?=some ri->rl[e]?=some re->bU (ss i) ri=true->bU (ss e) re=true->
  ∀id,(ri.op.dL (Arg.eval g (ss i))=some id\/(ri.op.fresh=true/\id=H0.next+iV rl i))->(Hs e).get id=(Hs (e+1)).get id
structure qL (ops:Array Oper) (rl:List bG) (pairs:List (Nat×Nat)) (anc:Nat->Nat->Bool):Prop where
 aRt:∀j o,ops[j]?=some o->∀e∈o.after,Region.binds .any e=true->e.on<j
 wit:∀i j,anc i j=true->∃o,ops[j]?=some o/\∃e∈o.after,Region.binds .any e=true/\(e.on=i\/anc i e.on=true)
 cmp:∀i j ri rj,i<j->rl[i]?=some ri->rl[j]?=some rj->anc i j=false->
  (ri.op.rR=true->rj.op.rR=false)/\(∀d,ri.dst=some d->d∉yW rj/\rj.dst≠some d)/\(∀d,rj.dst=some d->d∉yW ri)/\
  (rj.op.rR=true->(ri.op.reads=true\/ri.op.fresh=true)->(i,j)∈pairs)/\(ri.op.rR=true->rj.op.reads=true->(j,i)∈pairs)
 early:∀i j ri rj,i<j->rl[i]?=some ri->rl[j]?=some rj->ri.op.rR=true->rj.op.fresh=true->(j,i)∈pairs
 lits:∀(i:Nat) (r:bG),rl[i]?=some r->r.op.reads=true->∀v,Arg.const v∈r.op.args->EF v=none
variable{r:eJ}
theorem pA(h:r.fresh=true):r.rR=false:=by cases r<;>first|rfl|cases h
theorem mZ{ev:Arg->AV}{id:Nat}(h:r.dL ev=some id):r.reads=true:=by cases r<;>first|rfl|cases h
theorem Ph{ev:Arg->AV}{H:aA}{x:AV×aA}{id:Nat}(h:dS ev H r=some x)(V:r.dL ev=some id):H.get id≠none:=by
 intro A;have R:H.fP id=none:=by grind[aA.fP]
 cases r<;>simp only[eJ.dL] at V<;>try (cases V)
 . grind[dS,EF]
 . rename_i x;simp only[dS] at h
   cases I:ev x<;>rw[I] at V<;>simp only[EF] at V<;>try (cases V)
   all_goals grind[dJ]
 . simp only[dS] at h;split at h
   . unfold jZ at h
     grind[EF]
   grind
 grind[dS,EF]
section
variable {P:Program} {g:bL} {rl:List bG} {pj:Option Nat} {pairs:List (Nat×Nat)} {s0:List AV} {H0:aA} {Hs:Nat->aA} {ss:Nat->List AV} {vs:Nat->AV}
abbrev kept(H0:aA)(rl:List bG)(i:Nat):Nat:=H0.next+iV rl i
theorem DR{α:Type}(p:α->Bool):∀(l:List α) (i:Nat) (x:α),l[i]?=some x->p x=true->(l.take i).countP p<l.countP p
 |[],i,x,h,_=>by grind
 |y::l,0,x,h,hp=>by grind
 |y::l,i+1,x,h,hp=>by
  have :=DR p l i x (by grind) hp
  grind
theorem zN{α:Type}(p:α->Bool):∀(l:List α) (i j:Nat) (x:α),l[i]?=some x->p x=true->i<j->(l.take i).countP p<(l.take j).countP p
 |[],i,j,x,h,_,_=>by grind
 |y::l,0,j+1,x,h,hp,_=>by grind
 |y::l,i+1,j+1,x,h,hp,CI=>by
  have :=zN p l i j x (by grind) hp A0
  grind
theorem pI{i j:Nat}{n l:bG}(F:rl[i]?=some n)(Y:rl[j]?=some l)(a:n.op.fresh=true)(b:l.op.fresh=true)(z:i≠j):kept H0 rl i≠kept H0 rl j:=by
 have key:∀{i j:Nat} {n:bG},rl[i]?=some n->n.op.fresh=true->i<j->iV rl i<iV rl j:=fun h f s=>zN (fun r:bG=>r.op.fresh) rl _ _ _ h f s
 rcases Nat.lt_or_gt_of_ne z with h|h<;>grind
theorem o9{i:Nat}{n:bG}(F:rl[i]?=some n)(a:n.op.fresh=true):iV rl i<rl.countP (·.op.fresh):=
 DR (fun r:bG=>r.op.fresh) rl i n F a
theorem dR.pO(D:dR P g rl pj pairs s0 H0 Hs ss vs){i:Nat}{r:bG}(F:rl[i]?=some r)(N:r.op.fresh=true)(L:bU (ss i) r=true):
 ∃T val,CS (Arg.eval g (ss i)) r.op=some (T,val)/\vs i=val (kept H0 rl i)/\Hs (i+1)=(Hs i).set (kept H0 rl i) T:=by
 have :=(D.step i r F).1
 grind[DStep]
theorem dR.JV(D:dR P g rl pj pairs s0 H0 Hs ss vs){i:Nat}{r:bG}(F:rl[i]?=some r)(N:r.op.fresh=false)(B:r.op.rR=false):Hs (i+1)=Hs i:=by
 have :=(D.step i r F).1;unfold DStep at this;split at this
 . rw[if_neg (by grind)] at this;split at this
   . rename_i b;rw[b] at B;cases B
   . grind
   . grind
   exact(Mt (H1:=Hs i) B N this (fun id _=>rfl)).1
 grind
theorem dR.yV(D:dR P g rl pj pairs s0 H0 Hs ss vs){i:Nat}{r:bG}(F:rl[i]?=some r)(L:bU (ss i) r=false):Hs (i+1)=Hs i/\vs i=aB:=by
 have :=(D.step i r F).1
 grind[DStep]
theorem dR.EO{ops:Array Oper}{anc:Nat->Nat->Bool}(D:dR P g rl pj pairs s0 H0 Hs ss vs)(K:qL ops rl pairs anc){i:Nat}{r:bG}(F:rl[i]?=some r)(N:r.op.fresh=true)(L:bU (ss i) r=true):
 ∀k,k<=i->(Hs k).get (kept H0 rl i)=none:=by
 intro k
 induction k with
 |zero=>intro _;rw[D.h0];exact D.free _ (o9 F N)
 |succ k z=>
  intro E;have a:=z A0;have e:=(Bj.1 F).1
  obtain⟨H,b⟩:∃H,rl[k]?=some H:=⟨rl[k]'(by omega),Af A0⟩
  by_cases c:bU (ss k) H=true
  . by_cases d:H.op.rR=true
    . rw[<-D.Rc i k (K.early k i H r A0 b F d N) r H F b L c _ (.inr ⟨N,rfl⟩)];omega
    by_cases y:H.op.fresh=true
    . obtain⟨T,val,_,_,W⟩:=D.pO b y c;rw[W,aA.aH,if_neg (pI F b N y A0)];omega
    rw[D.JV b (by grind) (by grind)];omega
  rw[(D.yV b (by grind)).1];omega
theorem dR.tP(D:dR P g rl pj pairs s0 H0 Hs ss vs){id:Nat}{p q:Nat}(h:q<=rl.length)
 (f:∀e r,p<=e->e<q->rl[e]?=some r->r.op.rR=true->bU (ss e) r=true->(Hs e).get id=(Hs (e+1)).get id)
 (a:∀i r,p<=i->i<q->rl[i]?=some r->r.op.fresh=true->bU (ss i) r=true->id≠kept H0 rl i):
 ∀k,p<=k->k<=q->(Hs k).get id=(Hs p).get id:=by
 intro k
 induction k with
 |zero=>intro O _;obtain rfl:p=0:=A0;rfl
 |succ k z=>
  intro O Z;by_cases m:p=k+1
  . rw[m]
  rw[<-z A0 A0]
  obtain⟨H,b⟩:∃H,rl[k]?=some H:=⟨rl[k]'(by omega),Af A0⟩
  by_cases c:bU (ss k) H=true
  . by_cases d:H.op.rR=true
    . grind
    by_cases y:H.op.fresh=true
    . obtain⟨T,val,_,_,W⟩:=D.pO b y c
      grind[aA.aH]
    rw[D.JV b (by simpa using y) (by simpa using d)]
  rw[(D.yV b (by simpa using c)).1]
theorem dR.UE(D:dR P g rl pj pairs s0 H0 Hs ss vs){p q:Nat}(a:q<=rl.length)(f:∀e r,p<=e->e<q->rl[e]?=some r->r.op.rR=false):
 ∀k,p<=k->k<=q->(Hs k).next=(Hs p).next:=by
 intro k
 induction k with
 |zero=>grind
 |succ k z=>
  intro O Z;by_cases m:p=k+1
  . grind
  rw[<-z A0 A0]
  obtain⟨H,b⟩:∃H,rl[k]?=some H:=⟨rl[k]'(by omega),Af A0⟩
  have d:=f k H A0 A0 b;by_cases c:bU (ss k) H=true
  . by_cases y:H.op.fresh=true
    . obtain⟨T,val,_,_,W⟩:=D.pO b y c;simp_all
    rw[D.JV b (by grind) d]
  rw[(D.yV b (by grind)).1]
theorem dR.AH(D:dR P g rl pj pairs s0 H0 Hs ss vs){p:Nat}:∀k,p<=k->k<=rl.length->(Hs p).next<=(Hs k).next:=by
 intro k
 induction k with
 |zero=>grind
 |succ k z=>
  intro O Z;by_cases m:p=k+1
  . grind
  refine Ay (z A0 A0) ?_
  obtain⟨H,b⟩:∃H,rl[k]?=some H:=⟨rl[k]'(by omega),Af A0⟩
  by_cases d:H.op.rR=true
  . exact D.mono k H b d
  have :=D.UE (p:=k) (q:=k+1) Z (fun e r W h4 M=>by grind) (k+1) A0 (Ae _)
  omega
def writes(rl:List bG)(s0:List AV)(t i:Nat):Bool:=
 match rl[i]? with
 |some r=>r.dst==some t&&decide (t<s0.length)
 |none=>false
def wA(S:Nat->Bool)(rl:List bG)(s0:List AV)(vs:Nat->AV)(t:Nat):Nat->AV
 |0=>s0.getD t aB
 |i+1=>if(S i&&writes rl s0 t i)=true then vs i else wA S rl s0 vs t i
theorem TQ(s:List AV)(A:Option Nat)(v:AV)(t:Nat):(oR s A v).getD t aB=if A=some t/\t<s.length then v else s.getD t aB:=by
 cases A with
 |none=>rfl
 |some d=>grind[oR,getD_eq]
theorem OL(s:List AV)(A:Option Nat)(v:AV):(oR s A v).length=s.length:=by cases A<;>simp[oR]
theorem dR.AB(D:dR P g rl pj pairs s0 H0 Hs ss vs):∀j,j<=rl.length->(ss j).length=s0.length:=by
 intro j
 induction j with
 |zero=>simp[D.s0]
 |succ j z=>
  intro Y
  obtain⟨r,V⟩:∃r,rl[j]?=some r:=⟨rl[j]'(by omega),Af A0⟩
  rw[(D.step j r V).2,OL,z A0]
theorem dR.MO(D:dR P g rl pj pairs s0 H0 Hs ss vs)(t:Nat):∀j,j<=rl.length->(ss j).getD t aB=wA (fun _=>true) rl s0 vs t j:=by
 intro j
 induction j with
 |zero=>intro _;rw[D.s0];rfl
 |succ j z=>
  intro Y
  obtain⟨r,V⟩:∃r,rl[j]?=some r:=⟨rl[j]'(by omega),Af A0⟩
  rw[(D.step j r V).2,TQ,D.AB j A0,z A0]
  grind[wA,writes]
end
end
section
def dT(listed:Array Bool)(i:Nat):Bool:=listed.getD i false
structure qE (P:Program) (g:bL) (ops:Array Oper) (rl:List bG) (pairs:List (Nat×Nat)) (anc:Nat->Nat->Bool) (s0:List AV) (H0:aA) (Hs:Nat->aA) (ss:Nat->List AV) (vs:Nat->AV)
 (G0:Gh) (w0:World) (dl:List Deferred) (listed:Array Bool) (p:Nat) (G:Gh) (HS:aA) (w:World) (a:Act) (sS:List AV):Prop where
 size:listed.size=rl.length
 closed:∀i j,dT listed j=true->anc i j=true->dT listed i=true
 ple:p<=rl.length
 pos:∀i r,rl[i]?=some r->r.op.rR=true->(dT listed i=true↔i<p)
 rel:WR g G HS w
 uM:HS.next=(Hs p).next
 xk:∀i r,rl[i]?=some r->r.op.fresh=true->(∃l,G.loc (kept H0 rl i)=some l)->dT listed i=true/\bU (ss i) r=true
 cont:∀id l,G.loc id=some l->
  (∃i r,rl[i]?=some r/\r.op.fresh=true/\dT listed i=true/\bU (ss i) r=true/\p<=i/\id=kept H0 rl i/\HS.get id=(Hs (i+1)).get id)\/
  ((∀i r,p<=i->rl[i]?=some r->r.op.fresh=true->bU (ss i) r=true->id≠kept H0 rl i)/\HS.get id=(Hs p).get id)
 aNl:∀i r,p<=i->rl[i]?=some r->r.op.fresh=true->dT listed i=true->bU (ss i) r=true->∀l,G.loc (kept H0 rl i)=some l->
  ∀mI l',mI≠kept H0 rl i->G.loc mI=some l'->HS.live mI->l'.dE≠l.dE
 ext:Ext G0 H0 w0 G HS w
 xT:SR G w sS a
 last:∀t,sS.getD t aB=wA (dT listed) rl s0 vs t rl.length
 len:sS.length=s0.length
 dfr:a.defers=dl
section
variable {P:Program} {g:bL} {ops:Array Oper} {rl:List bG} {pj:Option Nat} {pairs:List (Nat×Nat)} {anc:Nat->Nat->Bool} {s0:List AV} {H0:aA} {Hs:Nat->aA} {ss:Nat->List AV} {vs:Nat->AV}
variable {G0:Gh} {w0:World} {dl:List Deferred} {listed:Array Bool} {p:Nat} {G:Gh} {HS:aA} {w:World} {a:Act} {sS:List AV}
theorem tJ{S S':Nat->Bool}{t:Nat}:∀m,(∀i,i<m->(S i&&writes rl s0 t i)=(S' i&&writes rl s0 t i))->wA S rl s0 vs t m=wA S' rl s0 vs t m
 |0,_=>rfl
 |m+1,h=>by simp only[wA];rw[h m A0,tJ m (fun i F=>h i A0)]
theorem BO{S:Nat->Bool}{t k:Nat}:∀m,k<=m->(∀i,k<=i->i<m->(S i&&writes rl s0 t i)=false)->wA S rl s0 vs t m=wA S rl s0 vs t k
 |0,hk,_=>by grind
 |m+1,hk,h=>by
  by_cases B:k=m+1
  . grind
  simp only[wA];rw[h m A0 A0];exact BO m A0 (fun i O Z=>h i O A0)
theorem FB{t i:Nat}(h:writes rl s0 t i=true):∃r,rl[i]?=some r/\r.dst=some t/\t<s0.length:=by grind[writes]
structure ZS (ops:Array Oper) (listed:Array Bool) (j:Nat):Prop where
 lt:j<ops.size
 not:dT listed j=false
 bNk:∀o,ops[j]?=some o->∀e∈o.after,Region.binds .any e=true->dT listed e.on=true
variable (I:qE P g ops rl pairs anc s0 H0 Hs ss vs G0 w0 dl listed p G HS w a sS) (D:dR P g rl pj pairs s0 H0 Hs ss vs) (K:qL ops rl pairs anc)
include I K
theorem qE.zC{j:Nat}(Y:ZS ops listed j){i:Nat}(h:anc i j=true):dT listed i=true:=by
 obtain⟨o,S,e,B,X,hc⟩:=K.wit i j h;have hd:=Y.bNk o S e B X
 rcases hc with rfl|hc
 . omega
 exact I.closed _ _ hd hc
theorem qE.bNc{j:Nat}{r:bG}(Y:ZS ops listed j)(V:rl[j]?=some r){t:Nat}(q:t∈yW r)(D:dR P g rl pj pairs s0 H0 Hs ss vs):sS.getD t aB=(ss j).getD t aB:=by
 have a:=(Bj.1 V).1;rw[I.last t,D.MO t j A0];rw[BO (k:=j) rl.length A0 (fun i O Z=>?_)]
 . refine tJ j (fun i F=>?_);by_cases L:writes rl s0 t i=true
   . obtain⟨n,c,hd,_⟩:=FB L
     have :anc i j=true:=by
      cases R:anc i j with
      |true=>rfl
      |false=>exact absurd q ((K.cmp i j n r F c V R).2.1 t hd).1
     rw[I.zC K Y this]
   grind
 cases M:dT listed i with
 |false=>rfl
 |true=>
  cases L:writes rl s0 t i with
  |false=>rfl
  |true=>
   obtain⟨n,c,hd,_⟩:=FB L;have z:i≠j:=fun B=>by simp_all[B,Y.not]
   have :anc j i=true:=by
    cases R:anc j i with
    |true=>rfl
    |false=>exact absurd q ((K.cmp j i r n A0 V c R).2.2.1 t hd)
   have :=I.closed j i M this
   grind[Y.not]
theorem qE.eval_eq{j:Nat}{r:bG}(Y:ZS ops listed j)(V:rl[j]?=some r)(D:dR P g rl pj pairs s0 H0 Hs ss vs):∀y∈r.op.args,Arg.eval g sS y=Arg.eval g (ss j) y:=by
 intro y Q
 cases y with
 |tmp t=>
  have :t∈yW r:=by grind[yW,Arg.tmps]
  exact I.bNc K Y V this D
 |const v=>rfl
 |kQ n=>rfl
theorem qE.aBv{j:Nat}{r:bG}(Y:ZS ops listed j)(V:rl[j]?=some r)(D:dR P g rl pj pairs s0 H0 Hs ss vs):bU sS r=bU (ss j) r:=by
 unfold bU;split
 . rfl
 rename_i d b a;rw[I.bNc K Y V (t:=d) (by grind[yW]) D]
theorem TB{listed:Array Bool}{j:Nat}(Y:j<listed.size)(i:Nat):dT (listed.setIfInBounds j true) i=if i=j then true else dT listed i:=by
 unfold dT;rw[Cs,Cs,Array.getElem?_setIfInBounds]
 grind
theorem qE.Qw{j:Nat}{r:bG}(Y:ZS ops listed j)(V:rl[j]?=some r)(B:r.op.rR=true):p<=j/\∀e b,p<=e->e<j->rl[e]?=some b->b.op.rR=false:=by
 have c:p<=j:=by
  refine Jv fun d=>?_;have :=(I.pos j r V B).2 d
  grind[Y.not]
 refine⟨c,fun e b O Z a=>?_⟩
 cases f:b.op.rR with
 |false=>rfl
 |true=>
  have :anc e j=true:=by
   cases R:anc e j with
   |true=>rfl
   |false=>
    have :=(K.cmp e j b r Z a V R).1 f
    grind
  have :=(I.pos e b a f).1 (I.zC K Y this);omega
theorem qE.next{j:Nat}{r:bG}(Y:ZS ops listed j)(V:rl[j]?=some r){p':Nat}{E:Gh}{d:aA}{w':World}{u:Value}(x:p'=if r.op.rR=true then j+1 else p)
 (z:WR g E d w') (C:d.next=(Hs p').next)
 (G:∀i S,rl[i]?=some S->S.op.fresh=true->(∃l,E.loc (kept H0 rl i)=some l)->(i=j\/dT listed i=true)/\bU (ss i) S=true)
 (H:∀id l,E.loc id=some l->
   (∃i r,rl[i]?=some r/\r.op.fresh=true/\(i=j\/dT listed i=true)/\bU (ss i) r=true/\p'<=i/\id=kept H0 rl i/\d.get id=(Hs (i+1)).get id)\/
   ((∀i r,p'<=i->rl[i]?=some r->r.op.fresh=true->bU (ss i) r=true->id≠kept H0 rl i)/\d.get id=(Hs p').get id))
 (D:∀i r,p'<=i->rl[i]?=some r->r.op.fresh=true->(i=j\/dT listed i=true)->bU (ss i) r=true->∀l,E.loc (kept H0 rl i)=some l->
   ∀f l',f≠kept H0 rl i->E.loc f=some l'->d.live f->l'.dE≠l.dE)
 (ext':Ext G0 H0 w0 E d w') (J:VR E w' (vs j) u) (b:SR E w' sS a):
 qE P g ops rl pairs anc s0 H0 Hs ss vs G0 w0 dl (listed.setIfInBounds j true) p' E d w' (a.put r.dst u) (oR sS r.dst (vs j)):=by
 have Q:=(Bj.1 V).1
 have e:∀i,dT (listed.setIfInBounds j true) i=if i=j then true else dT listed i:=TB I K (by rw[I.size];exact Q)
 have w:∀i,(i=j\/dT listed i=true)↔dT (listed.setIfInBounds j true) i=true:=fun i=>by rw[e];by_cases F:i=j<;>simp[F]
 refine⟨by simp[I.size],fun i k h1 Z=>?_,?_,fun i n c q=>?_,z,C,fun i S h1 Z W=>?_,fun id l U=>?_,fun i S h1 Z W h4 O=>?_,ext',b.put r.dst J,fun t=>?_,?_,?_⟩
 . rw[<-w] at h1 ⊢
   rcases h1 with rfl|h1
   . exact .inr (I.zC K Y Z)
   exact .inr (I.closed i k h1 Z)
 . rw[x];split
   . omega
   exact I.ple
 . rw[<-w];by_cases B:r.op.rR=true
   . rw[x,if_pos B];obtain⟨h1,Z⟩:=I.Qw K Y V B;constructor
     . rintro(rfl|h)
       . omega
       have :=(I.pos i n c q).1 h;omega
     intro h;by_cases F:i=j
     . exact .inl F
     refine .inr ((I.pos i n c q).2 (Nat.lt_of_not_le fun N=>?_));have :=Z i n N A0 c;rw[q] at this;cases this
   rw[x,if_neg B];rw[<-I.pos i n c q];constructor
   . rintro(rfl|h)
     . rw[V] at c;cases c;exact absurd q B
     exact h
   exact .inr
 . have :=G i S h1 Z W;exact⟨(w i).1 this.1,this.2⟩
 . rcases H id l U with ⟨i,n,y,m,c3,o⟩|h
   . exact .inl ⟨i,n,y,m,(w i).1 c3,o⟩
   exact .inr h
 . exact D i S h1 Z W ((w i).2 h4) O
 . rw[TQ,I.len,I.last t];by_cases L:r.dst=some t/\t<s0.length
   . rw[if_pos L];have A:writes rl s0 t j=true:=(by simp[writes,V,L]);rw[BO (k:=j+1) rl.length A0 (fun i h1 Z=>?_)]
     . simp only[wA,e j,if_true,A,Ee]
     rw[e,if_neg A0]
     cases M:dT listed i with
     |false=>rfl
     |true=>
      cases v:writes rl s0 t i with
      |false=>rfl
      |true=>
       obtain⟨n,c,hd,_⟩:=FB v
       have :anc j i=true:=by
        cases R:anc j i with
        |true=>rfl
        |false=>exact absurd hd ((K.cmp j i r n A0 V c R).2.1 t L.1).2
       have :=I.closed j i M this;rw[Y.not] at this;cases this
   rw[if_neg L];refine tJ rl.length (fun i F=>?_);rw[e];by_cases s:i=j
   . subst s
     have :writes rl s0 t i=false:=by simp only[writes,V];simpa using L
     rw[this];simp
   rw[if_neg s]
 . rw[OL,I.len]
 cases r.dst<;>exact I.dfr
end
end
section
variable{r:eJ}
theorem yP(h:r.reads=true):r.rR=false:=by cases r<;>first|rfl|cases h
theorem CP(h:r.reads=true):r.fresh=false:=by cases r<;>first|rfl|cases h
theorem aGd{G:Gh}{w:World}{v:AV}{u:Value}{id:Nat}(h:EF v=some id)(J:VR G w v u):∃l,G.loc id=some l:=by
 cases J<;>simp only[EF] at h<;>first
  |(done)
  |(grind)
theorem Yi{ev:Arg->AV}{id:Nat}(h:r.dL ev=some id):∃y∈r.args,EF (ev y)=some id:=by
 cases r<;>simp only[eJ.dL] at h<;>first
  |(cases h)
  |exact⟨_,by simp[eJ.args],h⟩
theorem Sc{ev ev':Arg->AV}(h:∀y∈r.args,ev y=ev' y):r.dL ev=r.dL ev':=by
 cases r<;>simp only[eJ.dL]<;>first
  |rfl
  |rw[h _ Zab]
theorem Xe{ev:Arg->AV}{T:eG}{val:Nat->AV}(h:CS ev r=some (T,val)):T.live=true:=by
 cases r<;>simp only[CS] at h<;>first
  |(done)
  |(rfl)
  |(repeat' (split at h)
    all_goals first
     |(cases h;done)
     |(obtain⟨rfl,rfl⟩:=Prod.mk.inj (Aa h);rfl))
section
variable {P:Program} {g:bL} {ops:Array Oper} {rl:List bG} {pj:Option Nat} {pairs:List (Nat×Nat)} {anc:Nat->Nat->Bool} {s0:List AV} {H0:aA} {Hs:Nat->aA} {ss:Nat->List AV} {vs:Nat->AV}
variable {G0:Gh} {w0:World} {dl:List Deferred} {listed:Array Bool} {p:Nat} {G:Gh} {HS:aA} {w:World} {a:Act} {sS:List AV}
variable (I:qE P g ops rl pairs anc s0 H0 Hs ss vs G0 w0 dl listed p G HS w a sS) (D:dR P g rl pj pairs s0 H0 Hs ss vs) (K:qL ops rl pairs anc)
include I K D
theorem qE.qh{j e:Nat}(Y:ZS ops listed j)(B:dT listed e=true):anc j e=false:=by
 cases R:anc j e with
 |false=>rfl
 |true=>
  have :=I.closed j e B R
  grind[Y.not]
theorem qE.YU{j e:Nat}(Y:ZS ops listed j)(B:dT listed e=false):anc e j=false:=by
 cases R:anc e j with
 |false=>rfl
 |true=>
  have :=I.zC K Y R
  grind
theorem qE.aKc{e:Nat}{b:bG}(a:rl[e]?=some b)(f:b.op.rR=true)(h:p<=e):dT listed e=false:=by
 cases M:dT listed e with
 |false=>rfl
 |true=>have :=(I.pos e b a f).1 M;omega
theorem qE.aAs{j:Nat}{r:bG}(Y:ZS ops listed j)(V:rl[j]?=some r)(L:bU (ss j) r=true){id:Nat}(d:r.op.dL (Arg.eval g (ss j))=some id){l:Loc}(U:G.loc id=some l)
 (a:(Hs j).get id≠none):HS.get id=(Hs j).get id:=by
 have t:=mZ d;have f:=(Bj.1 V).1
 rcases I.cont id l U with ⟨i,n,O,Z,W,h4,M,rfl,o⟩|⟨O,Z⟩
 . by_cases s:i<j
   . rw[o];refine(D.tP (p:=i+1) (q:=j) A0 (fun e b q1 q2 q3 q4 q5=>?_) (fun k H q1 q2 q3 q4 q5=>pI O q3 Z q4 A0) j A0 (Ae _)).symm;have T:=I.aKc D K q3 q4 A0;exact ZbF
   exact absurd (D.EO K O Z h4 j A0) a
 rw[Z];by_cases c:p<=j
 . refine(D.tP (p:=p) (q:=j) A0 (fun e b q1 q2 q3 q4 q5=>?_) (fun k H q1 q2 q3 q4 q5=>O k H q1 q3 q4 q5) j c (Ae _)).symm;have T:=I.aKc D K q3 q4 q1;exact ZbF
 refine D.tP (p:=j) (q:=p) I.ple (fun e b q1 q2 q3 q4 q5=>?_) (fun k H q1 q2 q3 q4 q5 B=>?_) p A0 (Ae _)
 . have z:e≠j:=fun B=>by
    grind[yP]
   have hd:=(I.pos e b q3 q4).2 q2;exact D.Rc j e ((K.cmp j e r b A0 V q3 (I.qh D K Y hd)).2.2.2.1 q4 (.inl t)) r b V q3 L q5 _ (.inl d)
 rw[B] at a;exact a (D.EO K q3 q4 q5 j q1)
theorem qE.BN{i:Nat}{n:bG}(F:rl[i]?=some n)(N:n.op.fresh=true){k:Nat}(E:k<=rl.length):kept H0 rl i<(Hs k).next:=by
 have O:=D.AH (p:=0) k (Bk _) E;have Z:=o9 (rl:=rl) F N;rw[D.h0] at O
 grind
theorem qE.Zu{j:Nat}{r:bG}(Y:ZS ops listed j)(V:rl[j]?=some r)(B:r.op.rR=true):∀id l,G.loc id=some l->
 (∃i n,rl[i]?=some n/\n.op.fresh=true/\dT listed i=true/\bU (ss i) n=true/\j<i/\id=kept H0 rl i/\HS.get id=(Hs (i+1)).get id/\(Hs j).get id=none)\/
 ((∀i n,j<=i->rl[i]?=some n->n.op.fresh=true->bU (ss i) n=true->id≠kept H0 rl i)/\HS.get id=(Hs j).get id):=by
 intro id l U;have g:=(Bj.1 V).1;obtain⟨c,a⟩:=I.Qw K Y V B
 have d:∀{q:Nat},p<=q->∀e b,q<=e->e<j->rl[e]?=some b->b.op.rR=true->bU (ss e) b=true->(Hs e).get id=(Hs (e+1)).get id:=fun f e b q1 q2 q3 q4 q5=>by have :=a e b A0 q2 q3;rw[q4] at this;cases this
 rcases I.cont id l U with ⟨i,n,O,Z,W,h4,M,R,o⟩|⟨O,Z⟩
 . have z:i≠j:=fun X=>by rw[X,Y.not] at W;cases W
   by_cases s:i<j
   . refine .inr ⟨fun k H q1 q2 q3 q4=>?_,?_⟩
     . rw[R];exact pI O q2 Z q3 A0
     rw[o];exact(D.tP (p:=i+1) (q:=j) A0 (d A0) (fun k H q1 q2 q3 q4 q5=>by rw[R];exact pI O q3 Z q4 A0) j A0 (Ae _)).symm
   exact .inl ⟨i,n,O,Z,W,h4,by omega,R,o,by rw[R];exact D.EO K O Z h4 j A0⟩
 refine .inr ⟨fun k H q1 q2 q3 q4=>O k H A0 q2 q3 q4,?_⟩;rw[Z];exact(D.tP (p:=p) (q:=j) A0 (d (Ae _)) (fun k H q1 q2 q3 q4 q5=>O k H q1 q3 q4 q5) j c (Ae _)).symm
theorem qE.Vv{j:Nat}{r:bG}(Y:ZS ops listed j)(V:rl[j]?=some r)(B:r.op.rR=true):WR g G (Hs j) w:=by
 have n:=I.Zu D K Y V B;have d:=(Bj.1 V).1;obtain⟨c,a⟩:=I.Qw K Y V B
 have y:∀{id l o},G.loc id=some l->(Hs j).get id=some o->HS.get id=some o:=fun U S=>by grind
 have k:∀{id l},G.loc id=some l->(Hs j).live id->HS.live id:=fun U ⟨o,S,J⟩=>⟨o,y U S,J⟩
 exact {
  cells:=fun id l cs b O Z=>I.rel.cells id l cs b O (y O Z)
  room:=fun id l O Z=>I.rel.room id l O (Z.imp (fun⟨cs,b,h⟩=>⟨cs,b,y O h⟩) (fun h=>y O h))
  mV:=fun id f l l' z O Z W h4=>I.rel.mV id f l l' z O Z (k O W) (k Z h4)
  lV:=fun id l O Z=>I.rel.lV id l O (k O Z)
  jK:=fun id l o O Z=>I.rel.jK id l o O (y O Z)
  lt:=fun id l O=>by
   have :=I.rel.lt id l O;rw[I.uM] at this
   rwa [D.UE (p:=p) (q:=j) A0 a j c (Ae _)]
  jJ:=I.rel.jJ
  kQ:=I.rel.kQ
  FV:=I.rel.FV
  mo:=I.rel.mo}
theorem qE.yi(j:Nat)(H:aA):∀m,m<=rl.length->∃b:aA,b.next=H.next/\
 (∀i n,i<m->rl[i]?=some n->n.op.fresh=true->dT listed i=true->bU (ss i) n=true->j<i->b.get (kept H0 rl i)=(Hs (i+1)).get (kept H0 rl i))/\
 (∀id,(∀i n,i<m->rl[i]?=some n->n.op.fresh=true->dT listed i=true->bU (ss i) n=true->j<i->id≠kept H0 rl i)->b.get id=H.get id):=by
 intro m
 induction m with
 |zero=>exact fun _=>⟨H,rfl,fun i n h=>absurd h (Al i),fun id _=>rfl⟩
 |succ m z=>
  intro p;obtain⟨b,O,Z,W⟩:=z A0
  obtain⟨s,a⟩:∃r,rl[m]?=some r:=⟨rl[m]'(by omega),Af A0⟩
  by_cases R:s.op.fresh=true/\dT listed m=true/\bU (ss m) s=true/\j<m
  . obtain⟨y,c,c3,o⟩:=R;obtain⟨T,val,_,_,B⟩:=D.pO a y c3;have f:(Hs (m+1)).get (kept H0 rl m)=some T:=by rw[B,aA.aH,if_pos rfl]
    refine⟨b.set (kept H0 rl m) T,O,fun i n q1 q2 q3 q4 q5 v=>?_,fun id d=>?_⟩
    . rw[aA.aH];by_cases e:i=m
      . subst e;rw[if_pos rfl,f]
      rw[if_neg (pI q2 a q3 y e)];exact Z i n A0 q2 q3 q4 q5 v
    rw[aA.aH,if_neg (d m s A0 a y c c3 o)];exact W id (fun i n q1=>d i n A0)
  refine⟨b,O,fun i n q1 q2 q3 q4 q5 v=>?_,fun id d=>W id (fun i n q1=>d i n A0)⟩;by_cases e:i=m
  . subst e;rw[a] at q2;cases q2;exact absurd ⟨q3,q4,q5,v⟩ R
  exact Z i n A0 q2 q3 q4 q5 v
theorem qE.Ms(e:∀id l,G0.loc id=some l->id<H0.next){j:Nat}{r:bG}(Y:ZS ops listed j)(V:rl[j]?=some r)(B:r.op.rR=true){G1:Gh}{w1:World}{u:Value}
 (Se:WR g G1 (Hs (j+1)) w1) (T:Ext G (Hs j) w G1 (Hs (j+1)) w1) (J:VR G1 w1 (vs j) u):
 ∃uq,qE P g ops rl pairs anc s0 H0 Hs ss vs G0 w0 dl (listed.setIfInBounds j true) (j+1) G1 uq w1 (a.put r.dst u) (oR sS r.dst (vs j)):=by
 have hA:=I.Zu D K Y V B;have fF:=(Bj.1 V).1;obtain⟨om,CU⟩:=I.Qw K Y V B;obtain⟨uq,n1,n2,n3⟩:=I.yi D K j (Hs (j+1)) rl.length (Ae _)
 let xX:Nat->Prop:=fun id=>∃i n,rl[i]?=some n/\n.op.fresh=true/\dT listed i=true/\bU (ss i) n=true/\j<i/\id=kept H0 rl i
 have a7:∀id,xX id->∃i n,rl[i]?=some n/\n.op.fresh=true/\dT listed i=true/\bU (ss i) n=true/\j<i/\id=kept H0 rl i/\uq.get id=(Hs (i+1)).get id:=fun id ⟨i,n,q1,q2,q3,q4,q5,v⟩=>⟨i,n,q1,q2,q3,q4,q5,v,by rw[v];exact n2 i n (Bj.1 q1).1 q1 q2 q3 q4 q5⟩
 have QQ:∀id,¬xX id->uq.get id=(Hs (j+1)).get id:=fun id A=>n3 id (fun i n q0 q1 q2 q3 q4 q5 B=>A ⟨i,n,q1,q2,q3,q4,q5,B⟩)
 have EJ:∀{id l},xX id->G1.loc id=some l->G.loc id=some l:=fun {id l} ⟨i,n,q1,q2,q3,q4,q5,v⟩ H=>by
  cases U:G.loc id with
  |none=>have :=T.news id l H U;have Z:=I.BN D K q1 q2 (k:=j) A0;rw[v] at this;omega
  |some l'=>rw[T.loc id l' U] at H;exact H
 have Ln:∀{id l},xX id->G.loc id=some l->uq.get id=HS.get id/\(Hs j).get id=none:=fun {id l} m U=>by
  obtain⟨i,n,q1,q2,q3,q4,q5,v,q7⟩:=a7 id m
  rcases hA id l U with ⟨i',aj,p1,S,p3,p4,p5,p6,p7,p8⟩|⟨O,_⟩
  . have :i=i':=by
     refine Fc fun z=>?_;exact pI q1 p1 q2 S z (v.symm.trans p6)
    subst this;exact⟨q7.trans p7.symm,p8⟩
  exact absurd v (O i n A0 q1 q2 q4)
 have Lr:∀{N t},G.loc N=some t->(Hs j).live N->HS.live N/\¬xX N:=fun {N t} d ⟨o,ho,J⟩=>by
  rcases hA N t d with ⟨_,_,_,_,_,_,_,_,_,A⟩|⟨O,Z⟩
  . rw[A] at ho;cases ho
  refine⟨⟨o,by rw[Z];exact ho,J⟩,fun m=>?_⟩;have :=(Ln m d).2;rw[this] at ho;cases ho
 have YH:∀{id l},xX id->G.loc id=some l->∀f l',f≠id->G.loc f=some l'->HS.live f->l'.dE≠l.dE:=fun {id l} ⟨i,n,q1,q2,q3,q4,q5,v⟩ U f l' z L R=>by rw[v] at U z;exact I.aNl i n A0 q1 q2 q3 q4 l U f l' z L R
 have AA:∀{id l},xX id->G.loc id=some l->HS.live id:=fun {id l} m U=>by obtain⟨i,n,q1,q2,q3,q4,q5,v,q7⟩:=a7 id m;obtain⟨ob,val,f1,_,f3⟩:=D.pO q1 q2 q4;refine⟨ob,?_,Xe f1⟩;rw[<-(Ln m U).1,q7,v,f3,aA.aH,if_pos rfl]
 have Po:∀{id l},xX id->G.loc id=some l->∀N t,G.loc N=some t->(Hs j).live N->t.dE≠l.dE:=fun m U N t d EE=>by obtain⟨O,Z⟩:=Lr d EE;exact YH m U N t (fun B=>Z (B▸m)) d O
 have ag:∀{id l},xX id->G.loc id=some l->∀f l',G1.loc f=some l'->(Hs (j+1)).live f->l'.dE≠l.dE:=fun m U f l' L R=>by
  have X:=I.rel.oP U (AA m U)
  rcases T.nM f l' L R with h|⟨N,t,O,Z,h3⟩
  . omega
  rw[<-h3];exact Po m U N t O Z
 have LV:∀{id l},xX id->G.loc id=some l->w1.heap[l.dE]?=w.heap[l.dE]?:=fun m U=>T.frame _ (I.rel.oP U (AA m U)) (fun N t O Z=>Po m U N t O Z)
 have FZ:∀{id},uq.live id->xX id\/(¬xX id/\(Hs (j+1)).live id):=fun {id} ⟨o,ho,J⟩=>by
  by_cases m:xX id
  . exact .inl m
  exact .inr ⟨m,o,by rw[<-QQ id m];exact ho,J⟩
 have RC:∀{id l},xX id->G1.loc id=some l->∀f l',f≠id->G1.loc f=some l'->uq.live f->l'.dE≠l.dE:=fun {id l} m H f l' z L R=>by
  have U:=EJ m H
  rcases FZ R with a6|⟨_,R⟩
  . exact YH m U f l' z (EJ a6 L) (AA a6 (EJ a6 L))
  exact ag m U f l' L R
 have hm:∀{x y},VR G w x y->VR G1 w1 x y:=fun C=>C.mono T.loc T.iZ
 have af:WR g G1 uq w1:={
  cells:=fun id l cs fB O Z=>by
   by_cases m:xX id
   . have U:=EJ m O;obtain⟨a1,Q,s,a4,a5⟩:=I.rel.cells id l cs fB U Zcj;refine⟨a1,Q,s,a4,fun k E=>?_⟩;obtain⟨x,C,ad⟩:=a5 k E;exact⟨x,by rw[gL (LV m U)];exact C,hm ad⟩
   exact Se.cells id l cs fB O Zcw
  room:=fun id l O Z=>by
   by_cases m:xX id
   . have U:=EJ m O;obtain⟨c,q,fz,a1,Q,s⟩:=I.rel.room id l U Zcj;exact⟨c,q,fz,by rw[LV m U];exact a1,Q,fun k E=>by rw[mY (LV m U)];exact s k E⟩
   exact Se.room id l O Zcw
  mV:=fun id f l l' z O Z W rT=>by
   by_cases m:xX id
   . exact .inl (Ne.symm (RC m O f l' (Ne.symm z) Z rT))
   by_cases a6:xX f
   . exact .inl (RC a6 Z id l z O W)
   rcases FZ W with h|⟨_,W⟩
   . exact absurd h m
   rcases FZ rT with h|⟨_,rT⟩
   . exact absurd h a6
   exact Se.mV id f l l' z O Z W rT
  lV:=fun id l O W k E F=>by
   rcases FZ W with m|⟨_,W⟩
   . have U:=EJ m O
     rcases T.qG _ _ F with h|h|⟨N,t,q1,q2,q3⟩
     . exact I.rel.lV id l U (AA m U) k E h
     . have :=I.rel.oP U (AA m U);omega
     exact Po m U N t q1 q2 q3
   exact Se.lV id l O W k E F
  jK:=fun id l o O Z E=>by
   by_cases m:xX id
   . have U:=EJ m O;obtain⟨a1,Q,s⟩:=I.rel.jK id l o U Zcj E;exact⟨a1,Q,s.mono (LV m U) fun _ _=>hm⟩
   exact Se.jK id l o O Zcw E
  lt:=fun id l O=>by rw[n1];exact Se.lt id l O
  jJ:=Se.jJ
  kQ:=Se.kQ
  FV:=Se.FV
  mo:=Se.mo}
 have ext':Ext G0 H0 w0 G1 uq w1:={
  loc:=fun id l h=>T.loc _ _ (I.ext.loc _ _ h)
  iZ:=fun b o F=>⟨(T.iZ _ _ (I.ext.iZ _ _ F).1).1,((T.iZ _ _ (I.ext.iZ _ _ F).1).2).trans (I.ext.iZ _ _ F).2⟩
  size:=Ay I.ext.size T.size
  frame:=fun b X A=>by
   rw[T.frame b (Bg X I.ext.size) (fun id l O Z=>?_),I.ext.frame b X A]
   rcases I.ext.nM id l O (Lr O Z).1 with h|⟨N,t,q1,q2,q3⟩
   . omega
   rw[<-q3];exact A N t q1 q2
  nM:=fun id l O Z=>by
   have WZ:∀{id l},G.loc id=some l->HS.live id->w0.heap.size<=l.dE\/∃N t,G0.loc N=some t/\H0.live N/\t.dE=l.dE:=fun O Z=>I.ext.nM _ _ O Z
   rcases FZ Z with m|⟨_,Z⟩
   . have U:=EJ m O;exact WZ U (AA m U)
   rcases T.nM id l O Z with h|⟨N,t,q1,q2,q3⟩
   . exact .inl (Ay I.ext.size h)
   rw[<-q3];exact WZ q1 (Lr q1 q2).1
  qG:=fun b o F=>by
   rcases T.qG b o F with h|h|⟨N,t,q1,q2,q3⟩
   . exact I.ext.qG b o h
   . exact .inr (.inl (Ay I.ext.size h))
   rcases I.ext.nM N t q1 (Lr q1 q2).1 with h|⟨ab,l1,p1,S,p3⟩
   . exact .inr (.inl A0)
   exact .inr (.inr ⟨ab,l1,p1,S,p3.trans q3⟩)
  next:=by have O:=I.ext.next;rw[I.uM] at O;rw[n1];exact Ay O (D.AH (p:=p) (j+1) A0 A0)
  news:=fun id l O Z=>by
   cases U:G.loc id with
   |none=>have :=T.news id l O U;have h3:=I.ext.next;rw[I.uM] at h3;exact Ay (Ay h3 (D.AH (p:=p) j om A0)) this
   |some l'=>exact I.ext.news id l' U Z
  dead:=fun id l O Z=>by
   have U:=I.ext.loc id l O
   have ae:¬xX id:=fun⟨i,n,q1,q2,q3,q4,q5,v⟩=>by have :=e id l O;rw[v] at this;unfold kept at this;omega
   rcases FZ Z with h|⟨_,Z⟩
   . exact absurd h ae
   exact I.ext.dead id l O (Lr U (T.dead id l U Z)).1
  mo:=T.mo.trans I.ext.mo
  same:=I.ext.same.trans (I.ext.mo▸T.same)}
 refine⟨uq,I.next K Y V (p':=j+1) (by rw[if_pos B]) af (by rw[n1]) (fun i n O Z ⟨l,h3⟩=>?_) (fun id l H=>?_) (fun i n O Z h3 h4 M l H f l' z L R=>?_) ext' J (I.xT.ext T)⟩
 . have U:∃l,G.loc (kept H0 rl i)=some l:=by
    cases U:G.loc (kept H0 rl i) with
    |none=>have :=T.news _ l h3 U;have :=I.BN D K O Z (k:=j) A0;omega
    |some l'=>exact⟨l',rfl⟩
   have :=I.xk i n O Z U;exact⟨.inr this.1,this.2⟩
 . by_cases m:xX id
   . obtain⟨i,n,q1,q2,q3,q4,q5,v,q7⟩:=a7 id m;exact .inl ⟨i,n,q1,q2,.inr q3,q4,by omega,v,q7⟩
   refine .inr ⟨fun i n q1 q2 q3 q4 q5=>m ?_,QQ id m⟩
   have U:∃l,G.loc (kept H0 rl i)=some l:=by
    rw[q5] at H
    cases U:G.loc (kept H0 rl i) with
    |none=>have :=T.news _ l H U;have :=I.BN D K q2 q3 (k:=j) A0;omega
    |some l'=>exact⟨l',rfl⟩
   have :=I.xk i n q2 q3 U;exact⟨i,n,q2,q3,this.1,this.2,by omega,q5⟩
 have hd:dT listed i=true:=by
  rcases h4 with rfl|h4
  . omega
  exact h4
 exact RC ⟨i,n,Z,h3,hd,M,by omega,rfl⟩ H f l' z L R
end
end
section
theorem BD{P:Program}{g:bL}{mu:Bool}{ops:Array Oper}:∀(l:List Oper) (rl:List bG),nC P g mu ops l=some rl->
 rl.length=l.length/\∀(i:Nat) (o:Oper),l[i]?=some o->∃r,rl[i]?=some r/\Nt P g mu ops o=some r
 |[],rl,h=>by obtain rfl:=Aa h;simp
 |o::l,rl,h=>by
  unfold nC at h;split at h
  . rename_i r X V a;obtain⟨O,Z⟩:=BD l X a
    grind
  grind
theorem WR.pQ{g:bL}{G:Gh}{H H':aA}{w:World}(h:WR g G H w)(t:∀id l,G.loc id=some l->H'.get id=H.get id)(A:H.next<=H'.next):WR g G H' w:=by
 have U:∀{id l},G.loc id=some l->H'.live id->H.live id:=fun O ⟨o,Z,W⟩=>⟨o,by grind,W⟩
 exact {
  cells:=fun id l cs r O Z=>h.cells id l cs r O (by grind)
  room:=fun id l O Z=>h.room id l O (by grind)
  mV:=fun id f l l' z O Z W h4=>h.mV id f l l' z O Z (U O W) (U Z h4)
  lV:=fun id l O Z=>h.lV id l O (U O Z)
  jK:=fun id l o O Z=>h.jK id l o O (by grind)
  lt:=fun id l O=>Bg (h.lt id l O) A
  jJ:=h.jJ
  kQ:=h.kQ
  FV:=h.FV
  mo:=h.mo}
theorem Ext.pQ{G E:Gh}{H H' j:aA}{w w':World}(h:Ext G H w E H' w')(t:∀id l,E.loc id=some l->j.get id=H'.get id)(A:H'.next<=j.next):Ext G H w E j w':=by
 have U:∀{id l},E.loc id=some l->j.live id->H'.live id:=fun O ⟨o,Z,W⟩=>⟨o,by grind,W⟩
 exact {h with
  nM:=fun id l O Z=>h.nM id l O (U O Z)
  next:=Ay h.next A
  dead:=fun id l O Z=>h.dead id l O (U (h.loc _ _ O) Z)}
theorem WR.drawn{g:bL}{G:Gh}{H:aA}{w:World}(h:WR g G H w)(n:Nat):WR g G H {w with drawn:=n}:=by
 have J:∀{x y},VR G w x y->VR G {w with drawn:=n} x y:=fun C=>C.mono (fun _ _ h=>h) (fun _ _ h=>⟨h,rfl⟩)
 exact {
  cells:=fun id l cs r O Z=>let⟨a,b,c,d,e⟩:=h.cells id l cs r O Z;⟨a,b,c,d,fun j Y=>let⟨u,W,h4⟩:=e j Y;⟨u,W,J h4⟩⟩
  room:=fun id l O Z=>h.room id l O Z
  mV:=h.mV
  lV:=h.lV
  jK:=fun id l o O Z E=>let⟨a,b,c⟩:=h.jK id l o O Z E;⟨a,b,c.mono rfl fun _ _=>J⟩
  lt:=h.lt
  jJ:=h.jJ
  kQ:=fun k cs O=>J (h.kQ k cs O)
  FV:=h.FV
  mo:=h.mo}
theorem Ext.drawn(G:Gh)(H:aA)(w:World)(n:Nat)(A:w.drawn<=n):Ext G H w G H {w with drawn:=n} where
 loc:=fun _ _ h=>h
 iZ:=fun _ _ h=>⟨h,rfl⟩
 size:=Ae _
 frame:=fun _ _ _=>rfl
 nM:=fun id l h U=>.inr ⟨id,l,h,U,rfl⟩
 qG:=fun _ _ h=>.inl h
 next:=Ae _
 news:=fun _ _ h K=>by grind
 dead:=fun _ _ _ h=>h
 mo:=rfl
 same:=DJ.toB (.now (h4:=A)) _
section
variable {P:Program} {g:bL} {mu:Bool} {ops:Array Oper} {rl:List bG} {pj:Option Nat} {pairs:List (Nat×Nat)} {anc:Nat->Nat->Bool} {s0:List AV} {H0:aA} {Hs:Nat->aA} {ss:Nat->List AV} {vs:Nat->AV}
variable {G0:Gh} {w0:World} {dl:List Deferred} {listed:Array Bool} {p:Nat} {G:Gh} {HS:aA} {w:World} {a:Act} {sS:List AV}
theorem qE.quiet(I:qE P g ops rl pairs anc s0 H0 Hs ss vs G0 w0 dl listed p G HS w a sS)(D:dR P g rl pj pairs s0 H0 Hs ss vs)(K:qL ops rl pairs anc)
 {j:Nat} {r:bG} (Y:ZS ops listed j) (V:rl[j]?=some r) (B:r.op.rR=false) (N:r.op.fresh=true->bU (ss j) r=false) {E:Gh} {w':World} {u:Value}
 (L:WR g E HS w') (e:Ext G HS w E HS w') (J:VR E w' (vs j) u):
 qE P g ops rl pairs anc s0 H0 Hs ss vs G0 w0 dl (listed.setIfInBounds j true) p E HS w' (a.put r.dst u) (oR sS r.dst (vs j)):=by
 have b:∀id l,E.loc id=some l->G.loc id=some l:=fun id l U=>by
  cases h:G.loc id with
  |none=>have O:=e.news id l U h;have Z:=L.lt id l U;omega
  |some l'=>rw[e.loc id l' h] at U;omega
 refine I.next K Y V (p':=p) (by grind) L I.uM (fun i S O Z W=>?_) (fun id l U=>?_) (fun i S O Z W h4 M l U f l' z c R=>?_) (I.ext.trans e) J (I.xT.ext e)
 . obtain⟨l,U⟩:=W;have :=I.xk i S O Z ⟨l,b _ _ U⟩
   grind
 . rcases I.cont id l (b _ _ U) with ⟨i,n,q1,q2,q3,q4⟩|h<;>grind
 rcases h4 with rfl|h4
 . grind
 exact I.aNl i S O Z W h4 M l (b _ _ U) f l' z (b _ _ c) R
theorem qE.fresh(I:qE P g ops rl pairs anc s0 H0 Hs ss vs G0 w0 dl listed p G HS w a sS)(D:dR P g rl pj pairs s0 H0 Hs ss vs)(K:qL ops rl pairs anc)
 {j:Nat} {r:bG} (Y:ZS ops listed j) (V:rl[j]?=some r) (N:r.op.fresh=true) (a6:bU (ss j) r=true) {o:Oper} (PC:HG P g o r.op):
 ∃u w' E ag,(execOp a.eval o).run P w=.ok (.value u) w'/\
  qE P g ops rl pairs anc s0 H0 Hs ss vs G0 w0 dl (listed.setIfInBounds j true) p E ag w' (a.put r.dst u) (oR sS r.dst (vs j)):=by
 have B:=pA N;have fF:=(Bj.1 V).1;obtain⟨T,val,f1,f2,c⟩:=D.pO V N a6
 have ae:CS (Arg.eval g sS) r.op=some (T,val):=by rw[vC (ev':=Arg.eval g (ss j)) (fun y Q=>I.eval_eq K Y V D y Q)];exact f1
 have oj:G.loc (kept H0 rl j)=none:=by
  cases h:G.loc (kept H0 rl j) with
  |none=>rfl
  |some l=>have :=(I.xk j r V N ⟨l,h⟩).1;rw[Y.not] at this;cases this
 have af:kept H0 rl j<HS.next:=by rw[I.uM];exact I.BN D K V N I.ple
 obtain⟨u,w',E,kS,M,J⟩:=PC sS a G HS (HS.set (kept H0 rl j) T) w T val (kept H0 rl j) I.rel I.xT ae oj (fun m=>by rw[aA.aH]) (Ae _) af;obtain⟨l0,aj,Mg,uU⟩:=M.bRg
 have ad:∀id l,G.loc id=some l->E.loc id=some l:=fun id l U=>by rw[uU id (fun X=>by rw[X,oj] at U;cases U)];exact U
 have pR:∀b q,G.iZ b q->E.iZ b q/\w'.cell? ⟨b,q,none⟩=w.cell? ⟨b,q,none⟩:=fun b q F=>by refine⟨M.bPz b q F,gL (M.WZ b ?_)⟩;obtain⟨v,J⟩:=I.rel.jJ b q F;have :=sY J;simpa using this
 have nI:∀{id},id≠kept H0 rl j->(HS.set (kept H0 rl j) T).live id->HS.live id:=fun {id} z ⟨x,O,Z⟩=>⟨x,by rw[aA.aH,if_neg z] at O;exact O,Z⟩;refine⟨u,w',E,HS.set (kept H0 rl j) T,kS,?_⟩;refine I.next K Y V (p':=p) (by simp[B]) M.rel I.uM (fun i S O Z W=>?_) (fun id l U=>?_) (fun i S O Z W h4 h5 l U f l' z L R=>?_) (M.ext I.ext (Il _ _)) ?_ ?_
 . obtain⟨l,U⟩:=W;by_cases s:i=j
   . subst s;rw[V] at O;cases O;exact⟨.inl rfl,a6⟩
   rw[uU _ (pI O V Z N s)] at U;have :=I.xk i S O Z ⟨l,U⟩;exact⟨.inr this.1,this.2⟩
 . by_cases d:id=kept H0 rl j
   . subst d;by_cases om:p<=j
     . exact .inl ⟨j,r,V,N,.inl rfl,a6,om,rfl,by rw[c,aA.aH,if_pos rfl,aA.aH,if_pos rfl]⟩
     refine .inr ⟨fun i n q1 q2 q3 q4=>pI V q2 N q3 A0,?_⟩
     have ab:(Hs p).get (kept H0 rl j)=(Hs (j+1)).get (kept H0 rl j):=
      D.tP (p:=j+1) (q:=p) I.ple (fun e re q1 q2 q3 q4 q5=>by
       have hd:=(I.pos e re q3 q4).2 q2
       exact D.Rc j e ((K.cmp j e r re A0 V q3 (I.qh D K Y hd)).2.2.2.1 q4 (.inr N)) r re V q3 a6 q5 _ (.inr ⟨N,rfl⟩)) (fun k H q1 q2 q3 q4 q5=>pI V q3 N q4 A0) p A0 (Ae _)
     rw[ab,c,aA.aH,if_pos rfl,aA.aH,if_pos rfl]
   rw[uU id d] at U;have zY:(HS.set (kept H0 rl j) T).get id=HS.get id:=(by rw[aA.aH,if_neg d]);rw[zY]
   rcases I.cont id l U with ⟨i,n,q1,q2,q3,q4⟩|h
   . exact .inl ⟨i,n,q1,q2,.inr q3,q4⟩
   exact .inr h
 . by_cases s:i=j
   . subst s;rw[Mg] at U;cases U;rw[uU f z] at L;have :=I.rel.oP L (nI z R);omega
   have dm:=pI (H0:=H0) Z V W N s
   have hd:dT listed i=true:=by
    rcases h4 with h|h
    . exact absurd h s
    exact h
   rw[uU _ dm] at U;by_cases d:f=kept H0 rl j
   . subst d;rw[Mg] at L;cases L
     have yp:HS.live (kept H0 rl i):=by
      rcases I.cont _ l U with ⟨i',ak,q1,q2,q3,q4,q5,q6,q7⟩|⟨q1,_⟩
      . have :i=i':=by
         refine Fc fun A=>?_;exact pI Z q1 W q2 A q6
        subst this;obtain⟨a7,al,g1,_,C⟩:=D.pO Z W h5;refine⟨a7,?_,Xe g1⟩;rw[q7,C,aA.aH,if_pos rfl]
      exact absurd rfl (q1 i S O Z W h5)
     have :=I.rel.oP U yp;omega
   rw[uU _ d] at L;exact I.aNl i S O Z W hd h5 l U f l' z L (nI d R)
 . rw[f2];exact J
 exact⟨I.xT.1,fun t ht=>(I.xT.2 t ht).mono ad pR⟩
theorem qE.done(I:qE P g ops rl pairs anc s0 H0 Hs ss vs G0 w0 dl listed p G HS w a sS)(D:dR P g rl pj pairs s0 H0 Hs ss vs)(K:qL ops rl pairs anc)
 (j:∀i,i<rl.length->dT listed i=true) {d:List gX} (hd:UQ G0 w0 d dl) {Q:AQ} (Y:Q .normal (ss rl.length) d (Hs rl.length)):QR g G0 H0 w0 Q .normal a w:=by
 have x:∀e b,p<=e->e<rl.length->rl[e]?=some b->b.op.rR=false:=fun e b O Z W=>by
  cases f:b.op.rR with
  |false=>rfl
  |true=>have :=(I.pos e b W f).1 (j e Z);omega
 have h:∀id l,G.loc id=some l->(Hs rl.length).get id=HS.get id:=fun id l U=>by
  rcases I.cont id l U with ⟨i,n,q1,q2,q3,q4,q5,v,u⟩|⟨q1,q2⟩
  . have F:=(Bj.1 q1).1;rw[u]
    exact D.tP (p:=i+1) (q:=rl.length) (Ae _) (fun e b y m c3 o c=>by grind)
     (fun k H y m c3 o c=>by rw[v];exact pI q1 c3 q2 o A0) rl.length A0 (Ae _)
  rw[q2]
  exact D.tP (p:=p) (q:=rl.length) (Ae _) (fun e b y m c3 o c=>by grind)
   (fun k H y m c3 o c=>q1 k H y c3 o c) rl.length I.ple (Ae _)
 have V:HS.next<=(Hs rl.length).next:=by rw[I.uM];exact D.AH rl.length I.ple (Ae _)
 have M:sS=ss rl.length:=by
  have s:=D.AB rl.length (Ae _);refine Ga fun t=>?_;by_cases r:t<s0.length
  . have O:=I.last t;rw[tJ (S':=fun _=>true) rl.length (fun i F=>by grind),<-D.MO t rl.length (Ae _)] at O;have T:t<sS.length:=by grind[I.len]
    grind
  rw[Cu (by grind[I.len]),Cu A0]
 refine⟨.normal,ss rl.length,d,Hs rl.length,G,Y,I.rel.pQ h V,I.ext.pQ h V,?_,?_,trivial⟩
 . rw[<-M];exact I.xT
 rw[I.dfr];exact hd.ext I.ext
theorem NZ{i:Nat}(M:listed.size=ops.size):i∈Region.ready .any ops listed↔ZS ops listed i:=by
 have y:∀k,k<ops.size->listed.getD k true=dT listed k:=fun k E=>by grind[dT]
 unfold Region.ready;simp only[Ft,Ax,Ak,Cx];constructor
 . rintro⟨O,Z,W⟩;refine⟨O,by grind,fun o S e B X=>?_⟩
   have h4:(!Region.binds .any e||listed.getD e.on false)=true:=by grind[Array.all_eq_true_iff_forall_mem]
   grind
 rintro⟨O,Z,W⟩
 grind[dT]
theorem Qx(M:listed.size=ops.size)(K:qL ops rl pairs anc)(h:Region.ready .any ops listed=[]):∀i,i<ops.size->dT listed i=true:=by
 intro i
 induction i using Nat.strongRecOn with
 |_ i z=>
  intro F
  cases hd:dT listed i with
  |true=>rfl
  |false=>
   have :i∈Region.ready .any ops listed:=(NZ M).2 ⟨F,hd,fun o S e B X=>by
    have O:=K.aRt i o S e B X
    grind⟩
   grind
def todo(listed:Array Bool)(n:Nat):Nat:=(List.range n).countP fun i=> !dT listed i
theorem KY{p q:Nat->Bool}:∀(l:List Nat) (j:Nat),j∈l->(∀i∈l,q i=true->p i=true)->p j=true->q j=false->l.countP q<l.countP p
 |[],j,h,_,_,_=>by grind
 |x::l,j,h,hpq,hp,hq=>by
  have k:l.countP q<=l.countP p:=List.countP_mono_left fun i F=>hpq i (As _ F)
  rcases Bd.1 h with rfl|h
  . grind
  have :=KY l j h (fun i F=>hpq i (As _ F)) hp hq
  grind
theorem aKa{j n:Nat}(Y:dT listed j=false)(r:j<n)(M:listed.size=n):todo (listed.setIfInBounds j true) n<todo listed n:=by
 have e:∀i,dT (listed.setIfInBounds j true) i=if i=j then true else dT listed i:=fun i=>by
  unfold dT;rw[Cs,Cs,Array.getElem?_setIfInBounds]
  grind
 refine KY _ j (Ax.2 r) (fun i _ h=>?_) (by grind) (by grind)
 grind
theorem Ext.pre{G E:Gh}{H H1 H':aA}{w w':World}(h:Ext G H1 w E H' w')(U:∀id l,G.loc id=some l->H1.live id->H.live id)(A:H.next<=H1.next):Ext G H w E H' w':=
 {h with
  frame:=fun b X N=>h.frame b X fun id l q1 q2=>N id l q1 (U id l q1 q2)
  nM:=fun id l q1 q2=>(h.nM id l q1 q2).imp (fun x=>x) fun⟨a,b,c,d,e⟩=>⟨a,b,c,U _ _ c d,e⟩
  qG:=fun b o q=>(h.qG b o q).imp (fun x=>x) fun q=>q.imp (fun x=>x) fun⟨a,b,c,d,e⟩=>⟨a,b,c,U _ _ c d,e⟩
  next:=Ay A h.next
  news:=fun id l q1 q2=>Ay A (h.news id l q1 q2)
  dead:=fun id l q1 q2=>U _ _ q1 (h.dead id l q1 q2)}
theorem JO{S:Nat->Bool}{t:Nat}(a:∀(i:Nat) (q:bG),rl[i]?=some q->q.dst≠some t):∀m,wA S rl s0 vs t m=s0.getD t aB
 |0=>rfl
 |m+1=>by
  have L:writes rl s0 t m=false:=by grind[writes]
  simp only[wA,L,Bool.and_false,Bs,Cv];exact JO a m
theorem dR.Yz(D:dR P g rl pj pairs s0 H0 Hs ss vs){t:Nat}(a:∀(i:Nat) (q:bG),rl[i]?=some q->q.dst≠some t){j:Nat}(Y:j<=rl.length):(ss j).getD t aB=s0.getD t aB:=by rw[D.MO t j Y,JO a]
def aRm(P:Program)(g:bL)(rl:List bG)(anc:Nat->Nat->Bool)(Hs:Nat->aA)(ss:Nat->List AV)(E:AV->List AV->aA->Prop)(j:Nat):Prop:=
 (∀k,k<rl.length->k<j->anc k j=true)/\
 ∃r f K p x H1,rl[j]?=some r/\r.op=.call f K/\bU (ss j) r=true/\nH (f.eval g (ss j))=some p/\
  Sound P g p.1 (p.2.1++K.map (Arg.eval g (ss j))++p.2.2) (Hs j) (.MD x) H1/\∀S,S.length=(ss j).length->(∀t,(∀(i:Nat) (q:bG),rl[i]?=some q->q.dst≠some t)->S.getD t aB=(ss j).getD t aB)->((∀k,k<rl.length->j<k->anc j k=true)->S=ss j)->E x S H1
theorem qE.aJo(I:qE P g ops rl pairs anc s0 H0 Hs ss vs G0 w0 dl listed p G HS w a sS)(D:dR P g rl pj pairs s0 H0 Hs ss vs)(K:qL ops rl pairs anc)
 {j:Nat} (Y:ZS ops listed j) (r:j<rl.length) (R:∀k,k<rl.length->(k<j->anc k j=true)/\(j<k->anc j k=true)):sS=ss j:=by
 have O:∀k,k<j->dT listed k=true:=fun k E=>I.zC K Y ((R k A0).1 E)
 have Z:∀k,j<=k->k<rl.length->dT listed k=false:=fun k E z=>by
  by_cases B:k=j
  . rw[B];exact Y.not
  cases hd:dT listed k with
  |false=>rfl
  |true=>
   have :=I.closed j k hd ((R k z).2 A0)
   grind[Y.not]
 have H:=D.AB j A0;refine Ga fun t=>?_;by_cases q:t<s0.length
 . have W:=I.last t;rw[BO (k:=j) rl.length A0 (fun i q1 q2=>by grind),tJ (S':=fun _=>true) j (fun i F=>by grind),<-D.MO t j A0] at W;have T:t<sS.length:=by grind[I.len]
   grind
 rw[Cu (by grind[I.len]),Cu A0]
theorem cd{ro:Option Nat}{b:List bG}(hc:nC P g mu ops ops.toList=some b)(Mg:b.length=rl.length)(Rw:∀i r,b[i]?=some r->(∀j,pj=some j->anc j i=false)->rl[i]?=some r)(D:dR P g rl pj pairs s0 H0 Hs ss vs)(K:qL ops rl pairs anc)(JK:∀id l,G0.loc id=some l->id<H0.next)
 {ds:List gX} (hd:UQ G0 w0 ds dl) {Q:AQ} (hQ:pj=none->Q .normal (ss rl.length) ds (Hs rl.length)) (hP:∀j,pj=some j->aRm P g rl anc Hs ss (fun x s H=>Q (.panic x) s ds H) j):
 ∀(X:Nat) (listed:Array Bool) (p:Nat) (G:Gh) (HS:aA) (w:World) (a:Act) (sS:List AV),todo listed rl.length<=X->
  qE P g ops rl pairs anc s0 H0 Hs ss vs G0 w0 dl listed p G HS w a sS->(∀k,pj=some k->dT listed k=false)->wpAnyIn (Fw ro) 0 P .any ops (QR g G0 H0 w0 Q) X listed a w:=by
 obtain⟨ag,dA⟩:=BD _ _ hc;have nO:rl.length=ops.size:=by rw[<-Mg];simpa using ag
 have af:∀{listed:Array Bool},(∀i,i<rl.length->dT listed i=true)->(∀k,pj=some k->dT listed k=false)->pj=none:=fun {listed} O Z=>by
  cases om:pj with
  |none=>rfl
  |some k=>obtain⟨_,r,_,_,_,_,_,T,_⟩:=hP k om;have :=O k (Bj.1 T).1;rw[Z k om] at this;cases this
 intro X
 induction X with
 |zero=>
  intro listed p G HS w a sS ht I yw
  have W:∀i,i<rl.length->dT listed i=true:=fun i F=>by have h0:todo listed rl.length=0:=A0;unfold todo at h0;rw[List.countP_eq_zero] at h0;have :=h0 i (Ax.2 F);simpa using this
  refine⟨?_,I.done D K W hd (hQ (af W yw))⟩;refine Fj.2 fun i F=>?_;have :=(NZ (by rw[I.size,nO])).1 F;have Z:=W i (by rw[nO];exact this.lt);rw[this.not] at Z;cases Z
 |succ X ih=>
  intro listed p G HS w a sS ht I yw;have Xz:listed.size=ops.size:=by rw[I.size,nO]
  refine⟨fun A=>I.done D K (fun i F=>Qx Xz K A i A0) hd (hQ (af (fun i F=>Qx Xz K A i A0) yw)),fun j ar=>?_⟩;have Y:=(NZ Xz).1 ar
  obtain⟨o,S⟩:∃o,ops[j]?=some o:=⟨ops[j]'Y.lt,by simp[Y.lt]⟩
  obtain⟨r,aq,ak⟩:=dA j o (by simpa using S)
  have V:rl[j]?=some r:=Rw j r aq fun k E=>by
   cases hd:anc k j with
   |false=>rfl
   |true=>have :=I.zC K Y hd;rw[yw k E] at this;cases this
  obtain⟨GR,vT,_⟩:=IY ak;have TX:j<rl.length:=by rw[nO];exact Y.lt
  have Td:todo (listed.setIfInBounds j true) rl.length<=X:=by have :=aKa (n:=rl.length) Y.not TX I.size;omega
  have ab:pj≠some j->∀k,pj=some k->dT (listed.setIfInBounds j true) k=false:=fun z k E=>by rw[TB I K (by rw[I.size];exact TX),if_neg (fun B=>z (by rw[E,B]))];exact yw k E
  have HL:pj=some j->(∃f a6,r.op=.call f a6)/\bU (ss j) r=true:=fun h=>by obtain⟨_,r',f,a6,_,_,_,T,e2,e3,_⟩:=hP j h;rw[V] at T;cases T;exact⟨⟨f,a6,e2⟩,e3⟩
  have ow:=Rq ak I.xT;rw[I.aBv K Y V D] at ow;have C:=(D.step j r V).1;unfold wpOpIn;simp only[S];rw[ow];unfold DStep at C;by_cases eo:bU (ss j) r=true
  . rw[if_pos eo] at C ⊢;by_cases N:r.op.fresh=true
    . obtain⟨u,w',G',aF,kS,I'⟩:=I.fresh D K Y V N eo (aMu vT N);refine⟨fun _ _=>trivial,?_⟩;rw[show o.semAt (Fw ro).round a.eval=execOp a.eval o from Oper.semAt_eq _ _ _ (BC vT fun f a6 e=>by rw[e] at N;cases N),kS];rw[GR] at I'
      exact ih _ _ _ _ _ _ _ Td I' (ab fun h=>by
       obtain⟨⟨f,a6,e⟩,_⟩:=HL h;rw[e] at N
       cases N)
    rw[if_neg N] at C;have Mf:r.op.fresh=false:=(by simpa using N);split at C
    . rename_i f a6 gY;have B:r.op.rR=true:=(by rw[gY];rfl);have ae:=I.eval_eq K Y V D;rw[gY] at vT ae;obtain⟨c,f0,T,e2,e3,U⟩:=XH vT;have aj:f.eval g sS=f.eval g (ss j):=ae f Zab;have al:a6.map (Arg.eval g sS)=a6.map (Arg.eval g (ss j)):=Dd fun y hy=>ae y (by simp[eJ.args,hy]);by_cases ad:pj=some j
      . obtain⟨ay,r',f',Zt,q,x,H1,R,L,b3,b4,hS,hq⟩:=hP j ad;rw[V] at R;cases R;rw[gY] at L;cases L;refine WO T e2 e3 U (I.Vv D K Y V B) I.xT (by rw[aj,al];exact .inl ⟨q,b4,hS⟩) (fun v J=>by cases J) (fun v J u w' G' oN Rv m=>?_);cases J;have M:(∀k,k<rl.length->j<k->anc j k=true)->sS=ss j:=fun h=>I.aJo D K Y TX fun k E=>⟨ay k E,h k E⟩;have hq:=hq sS (by rw[I.len,D.AB j A0]) (fun t ht=>by rw[I.last t,JO ht,D.Yz ht A0]) M
        have ex:=I.ext.trans (Rv.pre (fun id l O Z=>by
         rcases I.Zu D K Y V B id l O with ⟨_,_,_,_,_,_,_,_,_,A⟩|⟨_,h⟩
         . obtain⟨o,S,_⟩:=Z;rw[A] at S;cases S
         obtain⟨o,S,J⟩:=Z;exact⟨o,h.trans S,J⟩) (by rw[I.uM];exact D.AH j (I.Qw K Y V B).1 A0))
        exact⟨.panic x,sS,ds,H1,G',hq,oN,ex,I.xT.ext Rv,by rw[I.dfr];exact hd.ext ex,u,rfl,m⟩
      rw[if_neg (by simpa using ad)] at C;obtain⟨q,hq,hS⟩:=C;refine WO T e2 e3 U (I.Vv D K Y V B) I.xT (by rw[aj,al];exact .inl ⟨q,hq,hS⟩) (fun v J u w' G' oN Rv m=>?_) (fun v J=>by cases J);cases J;obtain⟨uq,I'⟩:=I.Ms D K JK Y V B oN Rv m;rw[GR] at I';exact ih _ _ _ _ _ _ _ Td I' (ab ad)
    . exact C.elim
    . exact C.elim
    rename_i n1 n2 n3;have z:=ab fun h=>by obtain⟨⟨f,a6,e⟩,_⟩:=HL h;exact n1 f a6 e
    have tH:r.op.plain=true:=by cases QS:r.op<;>first|rfl|exact absurd QS (n1 _ _)|exact absurd QS (n2 _)|exact absurd QS (n3 _ _)|(rw[QS] at C;cases C)
    have an:dS (Arg.eval g sS) (Hs j) r.op=some (vs j,Hs (j+1)):=by rw[vh (Hs j) (ev':=Arg.eval g (ss j)) (fun y hy=>I.eval_eq K Y V D y hy)];exact C
    by_cases B:r.op.rR=true
    . refine Rr (aw vT tH) (BC vT n3) (I.Vv D K Y V B) I.xT an (fun u w' G' oN Rv m=>?_);obtain⟨uq,I'⟩:=I.Ms D K JK Y V B oN Rv m;exact Zba
    have AT:r.op.rR=false:=by simpa using B
    have hq:=Mt (H1:=HS) AT Mf an (fun id d=>by
     have LY:r.op.dL (Arg.eval g (ss j))=some id:=by rw[<-Sc (ev:=Arg.eval g sS) (fun y hy=>I.eval_eq K Y V D y hy)];exact d
     obtain⟨y,hy,a7⟩:=Yi d
     have uU:∃l,G.loc id=some l:=by
      cases y with
      |tmp t=>exact aGd a7 (I.xT.getD t)
      |const v=>have :=K.lits j r V (mZ d) v hy;rw[Arg.eval,this] at a7;cases a7
      |kQ n=>simp only[Arg.eval] at a7;split at a7<;>cases a7
     obtain⟨l,hl⟩:=uU
     exact I.aAs D K Y V eo LY hl (Ph C LY))
    refine Rr (aw vT tH) (BC vT n3) I.rel I.xT hq.2 (fun u w' G' oN Rv m=>?_);have I':=I.quiet D K Y V AT (fun h=>by rw[Mf] at h;cases h) oN Rv m;exact Zba
  rw[if_neg eo] at C ⊢;refine⟨fun _ _=>trivial,?_⟩;obtain⟨J,hH⟩:=C;have z:=ab fun h=>absurd (HL h).2 eo;have az:bU (ss j) r=false:=by simpa using eo
  by_cases B:r.op.rR=true
  . have aE:=I.Vv D K Y V B;obtain⟨uq,I'⟩:=I.Ms D K JK Y V B (G1:=G) (w1:=w) (u:=undef) (by rw[hH];exact aE) (by rw[hH];exact Ext.refl G (Hs j) w) (by rw[J];exact VR.oV G w);exact Zba
  have I':=I.quiet D K Y V ZbY (fun _=>az) (u:=undef) I.rel (Ext.refl G HS w) (by rw[J];exact VR.oV G w);exact Zba
theorem JA{ro:Option Nat}{id:Nat}{b:List bG}(p:P.follows .mixedOrders=true)(R:nC P g mu ops ops.toList=some b)(o:b.length=rl.length)(n:∀i r,b[i]?=some r->(∀j,pj=some j->anc j i=false)->rl[i]?=some r)(D:dR P g rl pj pairs s0 H0 Hs ss vs)(K:qL ops rl pairs anc)
 (L:WR g G0 H0 w0) (M:SR G0 w0 s0 a) {d:List gX} (hd:UQ G0 w0 d a.defers) {Q:AQ} (Y:pj=none->Q .normal (ss rl.length) d (Hs rl.length)) (G:∀j,pj=some j->aRm P g rl anc Hs ss (fun x s H=>Q (.panic x) s d H) j):
 (Code.region id ops true).wpIn (Fw ro) 0 P (QR g G0 H0 w0 Q) a w0:=by
 refine wpIn_region_any p ?_;obtain⟨f,y⟩:=BD _ _ R;have I:rl.length=ops.size:=by grind
 have A:∀id,(Hs 0).get id=H0.get id:=fun id=>by rw[D.h0];rfl
 have F:H0.next<=(Hs 0).next:=by simp[D.h0]
 have c:∀i,dT (Array.replicate ops.size false) i=false:=fun i=>by
  unfold dT;rw[Cs,Array.getElem?_replicate]
  grind
 have e:∀i r,rl[i]?=some r->∀l,G0.loc (kept H0 rl i)=some l->False:=fun i r V l U=>by
  have :=L.lt _ _ U
  grind
 have q:UQ G0 w0 d a.defers:=hd;refine cd (pairs:=pairs) (anc:=anc) (G0:=G0) (w0:=w0) (dl:=a.defers) R o n D K L.lt hd Y G ops.size (Array.replicate ops.size false) 0 G0 (Hs 0) {w0 with drawn:=w0.drawn+1} a s0 ?_ ?_ fun k _=>c k
 . simp_all[todo]
 exact {
  size:=by grind
  closed:=fun i j h=>by grind
  ple:=Bk _
  pos:=fun i r O Z=>by grind
  rel:=(L.drawn _).pQ (fun id l _=>A id) F
  uM:=rfl
  xk:=fun i r O Z ⟨l,W⟩=>(e i r O l W).elim
  cont:=fun id l U=>.inr ⟨fun i r O Z W h4 B=>by grind,rfl⟩
  aNl:=fun i r O Z W h4=>by grind
  ext:=(Ext.drawn G0 H0 w0 _ (Il _ _)).pQ (fun id l _=>A id) F
  xT:=M.ext (Ext.drawn G0 H0 w0 _ (Il _ _))
  last:=fun t=>by
   have :∀m,wA (dT (Array.replicate ops.size false)) rl s0 vs t m=s0.getD t aB:=fun m=>by
    induction m with
    |zero=>rfl
    |succ m z=>grind[wA]
   grind
  len:=rfl
  dfr:=rfl}
end
end
end Go.Av
