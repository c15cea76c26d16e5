/-
  Part of the proof of statement 13
-/
import Derived.Test.YtogfcjbgeebfkaaGreatDoorB02
import Derived.Maps.RangeRun
import Derived.RangeFuncLeaves
import Derived.RangeFuncSeq
import Derived.OrdersIn
import Derived.Orders
set_option linter.unusedVariables false
set_option linter.unusedSimpArgs false
set_option linter.unusedSectionVars false
namespace Go.Av
open Go
inductive Out where
 |ret (v:AV)
 |Lo (v:AV)
def ZU(G:Gh)(w:World):Out->Ending->Prop
 |.ret v,.returned u=>VR G w v u
 |.Lo v,.panicked chain=>∃u,chain=[{v:=u,recovered:=false}]/\VR G w v u
 |_,_=>False
def CI (P:Program) (f:FuncId):Prop:=∃fn,P.funcs[f]?=some fn/\fn.body.isSome=true/\(fn.name== "runtime.NumGoroutine")=false
def Sound(P:Program)(g:bL)(f:FuncId)(args:List AV)(H:aB)(out:Out)(H':aB):Prop:=
 CI P f/\∀(G:Gh) (w:World) (vs:List Value),WR g G H w->jD G w args vs->
  Calls P f vs.toArray w fun e w'=>∃E,WR g E H' w'/\Ext G H w E H' w'/\ZU E w' out e
def Fw(ro:Option Nat):Fence:={Fence.wide with round:=ro}
def mS(P:Program)(g:bL)(id:Nat)(args:List AV)(H:aB)(out:Out)(H':aB):Prop:=
 ∀(G:Gh) (w:World) (vs:List Value) (l:Loc),WR g G H w->jD G w args vs->G.loc id=some l->
  YieldAt Fence.wide 0 P l.dE vs.toArray w fun e w'=>∃E,WR g E H' w'/\Ext G H w E H' w'/\ZU E w' out e
inductive gW where
 |call (f:FuncId) (azs:List AV)
 |mark (id:Nat)
inductive su where
 |normal
 |exit (id:Nat)
 |ret
 |panic (v:AV)
def bW(s:List AV)(o:bH):Bool:=
 match o.guard with
 |none=>true
 |some (d,b)=>match s.getD d aC with
  |.bool c=>c==b
  |_=>false
def oM(s:List AV)(A:Option Nat)(v:AV):List AV:=
 match A with
 |none=>s
 |some d=>s.set d v
def nB:AV->Option (FuncId×List AV×List AV)
 |.func (.func f) fs cs=>some (f,fs,cs)
 |_=>none
def SQ(P:Program)(g:bL)(a:AV)(args:List AV)(H:aB)(out:Out)(H':aB):Prop:=
 (∃p,nB a=some p/\Sound P g p.1 (p.2.1++args++p.2.2) H out H')\/(∃id,a=.yield id/\mS P g id args H out H')
abbrev AQ:=su->List AV->List gW->aB->Prop
def uK(P:Program)(g:bL):List bH->List AV->List gW->aB->AQ->Prop
 |[],s,ds,H,Q=>Q .normal s ds H
 |o::r,s,ds,H,Q=>
  if bW s o then
   match o.op with
   |.call f azs=>∃out H',SQ P g (f.eval g s) (azs.map (Arg.eval g s)) H out H'/\
     match out with
     |.ret v=>uK P g r (oM s o.dst v) ds H' Q
     |.Lo v=>Q (.panic v) s ds H'
   |.panic x=>∃t v,x.eval g s=.iface t v/\Q (.panic (.iface t v)) s ds H
   |.mY f azs=>∃p,nB (f.eval g s)=some p/\uK P g r (oM s o.dst aC) (.call p.1 (p.2.1++azs.map (Arg.eval g s)++p.2.2)::ds) H Q
   |.xU x=>∃m es,x.eval g s=.map m/\H.get m=some (.map es)/\∀N c mb,N.length=es.length->N.Nodup->
     uK P g r (oM s o.dst (.ref H.next 0)) ds ((H.set m (.tW es N c mb)).alloc (.iter m mb c [])) Q
   |.GY x=>∃w m mb c seen es N,x.eval g s=.ref w 0/\H.get w=some (.iter m mb c seen)/\H.get m=some (.tW es N c mb)/\
     ((∀b∈N,b∈seen)->uK P g r (oM s o.dst (.iV [.bool false])) ds H Q)/\
     ∀j,j<N.length->N.getD j 0∉seen->uK P g r (oM s o.dst (.iV [.bool true,(es.getD j (aC,aC)).1,(es.getD j (aC,aC)).2])) ds (H.set w (.iter m mb c (seen++[N.getD j 0]))) Q
   |.AZ x=>∃w m mb c seen es N j,x.eval g s=.ref w 0/\H.get w=some (.iter m mb c (seen++[N.getD j 0]))/\H.get m=some (.tW es N c mb)/\j<N.length/\
     uK P g r (oM s o.dst (.iV [(es.getD j (aC,aC)).1,(es.getD j (aC,aC)).2])) ds H Q
   |op=>∃v H',dU (Arg.eval g s) H op=some (v,H')/\uK P g r (oM s o.dst v) ds H' Q
  else uK P g r (oM s o.dst aC) ds H Q
def UE(G:Gh)(w:World):List gW->List Deferred->Prop
 |[],[]=>True
 |.call f azs::ds,d::r=>(∃cap:List Value,d.target=.fn (.func f) cap.toArray/\jD G w azs (d.args.toList++cap))/\UE G w ds r
 |.mark id::ds,d::r=>(∃l,G.loc id=some l/\d.target=.collected l.dE)/\UE G w ds r
 |_,_=>False
theorem UE.ext{G E:Gh}{H H':aB}{w w':World}(e:Ext G H w E H' w'):∀{ds:List gW} {l:List Deferred},UE G w ds l->UE E w' ds l
 |[],[],_=>trivial
 |.call f azs::ds,d::r,h=>⟨let⟨cap,O,Z⟩:=h.1;⟨cap,O,Z.ext e⟩,UE.ext e h.2⟩
 |.mark id::ds,d::r,h=>⟨let⟨l,O,Z⟩:=h.1;⟨l,e.loc _ _ O,Z⟩,UE.ext e h.2⟩
 |[],_::_,h=>h.elim
 |.call _ _::_,[],h=>h.elim
 |.mark _::_,[],h=>h.elim
def ExR(G:Gh)(w:World):su->Exit->Prop
 |.normal,.normal=>True
 |.exit i,.exit j=>i=j
 |.ret,.ret=>True
 |.panic v,.panic chain=>∃u,chain=[{v:=u,recovered:=false}]/\VR G w v u
 |_,_=>False
def QR(g:bL)(G:Gh)(H:aB)(w:World)(Q:AQ):Exit->Act->World->Prop:=fun e s w'=>∃z l V H' E,Q z l V H'/\WR g E H' w'/\Ext G H w E H' w'/\SR E w' l s/\UE E w' V s.defers/\ExR E w' z e
theorem QR.trans{g:bL}{G G1:Gh}{H H1:aB}{w w1:World}{Q:AQ}(e:Ext G H w G1 H1 w1){x:Exit}{a:Act}{w':World}(h:QR g G1 H1 w1 Q x a w'):QR g G H w Q x a w':=
 let⟨b,l,V,H',E,q,L,z,M,hd,C⟩:=h
 ⟨b,l,V,H',E,q,L,e.trans z,M,hd,C⟩
def NX(P:Program)(g:bL)(mu:Bool)(ops:Array Oper)(o:Oper):Option bH:=
 match Pg P g mu o with
 |some r=>
  match o.guard with
  |none=>some ⟨o.dst,r,none⟩
  |some (j,b)=>match (ops[j]?).bind (·.dst) with
   |some d=>some ⟨o.dst,r,some (d,b)⟩
   |none=>none
 |none=>none
def mX(P:Program)(g:bL)(mu:Bool)(ops:Array Oper):List Oper->Option (List bH)
 |[]=>some []
 |o::r=>match NX P g mu ops o,mX P g mu ops r with
  |some x,some xs=>some (x::xs)
  |_,_=>none
theorem IM{P:Program}{g:bL}{mu:Bool}{ops:Array Oper}{o:Oper}{r:bH}(h:NX P g mu ops o=some r):r.dst=o.dst/\Pg P g mu o=some r.op/\
 ((o.guard=none/\r.guard=none)\/∃j b d,o.guard=some (j,b)/\(ops[j]?).bind (·.dst)=some d/\r.guard=some (d,b)):=by
 grind[NX]
variable{u:Value}
theorem VR.aDd{G:Gh}{w:World}{v:AV}(h:VR G w v u)(b:Bool):v=.bool b↔u=.bool b:=by
 constructor
 . rintro rfl;exact h.lJ
 rintro rfl;cases h;rfl
theorem GA(a:Array Value)(d:Nat)(b:Bool):a[d]?=some (.bool b)↔a.getD d undef=.bool b:=by
 rw[Cp]
 grind[undef]
theorem RW{P:Program}{g:bL}{mu:Bool}{ops:Array Oper}{o:Oper}{r:bH}(h:NX P g mu ops o=some r){G:Gh}{w:World}{s:List AV}{a:Act}(M:SR G w s a):
 Region.wanted o (yielded ops a.tmps)=bW s r:=by
 obtain⟨_,_,e⟩:=IM h
 rcases e with ⟨O,Z⟩|⟨j,b,d,O,Z,B⟩
 . simp[Region.wanted,bW,O,Z]
 simp only[Region.wanted,bW,O,B,yielded,Z,Option.bind_some];have J:=M.getD d
 have key:∀c,s.getD d aC=.bool c↔a.tmps[d]?=some (.bool c):=fun c=>by rw[GA];exact J.aDd c
 grind
theorem SR.put{G:Gh}{w:World}{s:List AV}{a:Act}(h:SR G w s a)(A:Option Nat){v:AV}{u:Value}(J:VR G w v u):SR G w (oM s A v) (a.put A u):=by
 cases A with
 |none=>exact h
 |some d=>
  have U:=h.1;refine⟨by grind[oM,Act.put],fun j Y=>?_⟩;simp only[oM,Il] at Y;simp only[oM,Act.put];by_cases hd:d=j
  . grind
  have :=h.2 j Y
  grind
theorem SR.ext{G E:Gh}{H H':aB}{w w':World}{s:List AV}{a:Act}(h:SR G w s a)(e:Ext G H w E H' w'):SR E w' s a:=jD.ext h e
theorem IJ{G:Gh}{w:World}{v:AV}{p:FuncId×List AV×List AV}(h:nB v=some p)(J:VR G w v u):
 ∃X N:List Value,u=.func (.func p.1) X.toArray N.toArray/\jD G w p.2.1 X/\jD G w p.2.2 N:=by
 cases v<;>simp only[nB] at h<;>try (cases h)
 rename_i fn fs cs
 cases fn<;>simp only[] at h<;>first|(cases h;done)|skip
 obtain rfl:=Aa h
 cases J with
 |func _ _ _ X N I a c P=>exact⟨X,N,rfl,⟨I,c⟩,⟨a,P⟩⟩
variable{c:Call}{f:Operand}
theorem zT{P:Program}{O:Operand->Value}{t:TypeId}{fid:FuncId}{X N:List Value}(R:c.callee=.value f)(a:O f=.func (.func fid) X.toArray N.toArray)(w:World):
 (resolve O c t).run P w=.ok {target:=.fn (.func fid) N.toArray,args:=X.toArray++c.args.map O} w:=by
 simp[resolve,R,a,Deferred.ofValue]
theorem pD{P:Program}{fid:FuncId}(Om:CI P fid)(args:Array Value)(cap:Array Value)(w:World):(invoke (.fn (.func fid) cap) args).run P w=.ok (.enter fid (args++cap)) w:=by
 obtain⟨fn,h1,h2,h3⟩:=Om;have hb:¬fn.body=none:=fun hh=>by grind
 have h3':¬fn.name= "runtime.NumGoroutine" :=by grind
 simp[invoke,callFunc,program,Sem.run,h1,h3',hb]
theorem Pa{ro:Option Nat}{n:Nat}{P:Program}{f:FuncId}{args:Array Value}{w:World}{R:Ending->World->Prop}(h:Calls P f args w R):CallsIn (Fw ro) n P f args w R:=
 (callsIn_wide (n:=n)).2 h
theorem DX{ro:Option Nat}{n:Nat}:(Fw ro).depth.isSome=true->1<=n:=fun h=>by cases h
def aDg(next:Act->World->Prop)(Q:Exit->Act->World->Prop)(a:Act)(d:Option Nat):Ending->World->Prop
 |.returned v,w=>next (a.put d v) w
 |.panicked chain,w=>Q (.panic chain) a w
 |.outgrown,_=>LetsOut Q
theorem Sc{g:bL}{o:Oper}{G:Gh}{H H':aB}{w:World}{a:Act}{out:Out}{next:Act->World->Prop}{Q:Exit->Act->World->Prop}
 (A:∀v,out=.ret v->∀u w' E,WR g E H' w'->Ext G H w E H' w'->VR E w' v u->next (a.put o.dst u) w')
 (C:∀v,out=.Lo v->∀u w' E,WR g E H' w'->Ext G H w E H' w'->VR E w' v u->Q (.panic [{v:=u,recovered:=false}]) a w') (e:Ending) (w':World)
 (he:∃E,WR g E H' w'/\Ext G H w E H' w'/\ZU E w' out e):
 aDg next Q a o.dst e w':=by
 obtain⟨E,I,V,p⟩:=he
 cases out with
 |ret v=>
  cases e with
  |returned u=>exact A v rfl u w' E I V p
  |panicked _=>exact p.elim
  |outgrown=>exact p.elim
 |Lo v=>
  cases e with
  |returned _=>exact p.elim
  |panicked k=>obtain⟨u,rfl,J⟩:=p;exact C v rfl u w' E I V J
  |outgrown=>exact p.elim
theorem aJw{G:Gh}{w:World}{id:Nat}(h:VR G w (.yield id) u):∃l,G.loc id=some l/\u=.func (.yield l.dE) #[] #[]:=by
 cases h with
 |yield _ l U=>grind
theorem WB{P:Program}{g:bL}{ro:Option Nat}{o:Oper}{B:Arg}{d:List Arg}(S:o.op=.call c)(R:c.callee=.value f)(N:bN g f=some B)(i:pG g c.args.toList=some d)
 {G:Gh} {H H':aB} {w:World} {s:List AV} {a:Act} {out:Out} (L:WR g G H w) (M:SR G w s a)
 (x:SQ P g (B.eval g s) (d.map (Arg.eval g s)) H out H') {next:Act->World->Prop} {Q:Exit->Act->World->Prop}
 (A:∀v,out=.ret v->∀u w' E,WR g E H' w'->Ext G H w E H' w'->VR E w' v u->next (a.put o.dst u) w')
 (C:∀v,out=.Lo v->∀u w' E,WR g E H' w'->Ext G H w E H' w'->VR E w' v u->Q (.panic [{v:=u,recovered:=false}]) a w'):
 o.wpIn (Fw ro) 0 P a w next Q:=by
 have q:=uQ L M i;have t:o.semAt (Fw ro).round a.eval=execOp a.eval o:=Oper.semAt_eq _ _ _ fun I h=>by grind
 refine⟨fun _ _=>trivial,?_⟩;rw[t];have j:=bM L M N
 rcases x with ⟨p,m,x⟩|⟨id,m,x⟩
 . obtain⟨us,F,b,O,Z⟩:=IJ m j
   have y:(execOp a.eval o).run P w=.ok (.enter p.1 (us++c.args.toList.map a.eval++F).toArray) w:=by simp only[execOp,S,Sem.run_bind,zT R b,Result.andThen_ok,pD x.1];simp
   have k:=x.2 G w _ L ((O.append q).append Z);rw[y];exact⟨DX,(Pa k).mono fun e w' z=>by have :=Sc A C e w' z;assumption⟩
 rw[m] at j;obtain⟨l,U,b⟩:=aJw j;obtain⟨fn,tmps,assign,body,D,r⟩:=x G w _ l L q U
 have y:(execOp a.eval o).run P w=.ok (.round l.dE fn tmps assign body) w:=by
  have n:(Instr.yield l.dE (c.args.map a.eval)).run P w=.ok (.round l.dE fn tmps assign body) w:=by rw[<-D];congr 2;grind
  simp[execOp,S,resolve,R,b,Deferred.ofValue,invoke,n]
 rw[y];exact⟨DX,RoundIn.mono (show RoundIn (Fw ro) 0 P l.dE fn tmps assign body w _ from r) fun e w' z=>by have :=Sc A C e w' z;assumption⟩
variable{r:eN}
theorem RX{P:Program}{g:bL}{ro:Option Nat}{o:Oper}(l:cV P g o r)(y:∀c,o.op≠ .defer c){G:Gh}{H H':aB}{w:World}{s:List AV}{a:Act}{v:AV}(L:WR g G H w)(M:SR G w s a)
 (h:dU (Arg.eval g s) H r=some (v,H')) {next:Act->World->Prop} {Q:Exit->Act->World->Prop}
 (A:∀u w' E,WR g E H' w'->Ext G H w E H' w'->VR E w' v u->next (a.put o.dst u) w'):o.wpIn (Fw ro) 0 P a w next Q:=by
 obtain⟨n,u,w',E,V,b,r1,r2,r3⟩:=l s a G H w v H' L M h;refine⟨fun _ _=>trivial,?_⟩;rw[show o.semAt (Fw ro).round a.eval=execOp a.eval o from Oper.semAt_eq _ _ _ y,V]
 rcases b with rfl|⟨rfl,rfl⟩
 . exact A u w' E r1 r2 r3
 exact A undef w' E r1 r2 r3
theorem AK{P:Program}{g:bL}{mu:Bool}{o:Oper}(h:Pg P g mu o=some r)(V:∀f X,r≠ .mY f X):∀c,o.op≠ .defer c:=by grind[Pg]
theorem Ws{P:Program}{g:bL}{mu:Bool}{o:Oper}{u:Arg}{d:List Arg}(h:Pg P g mu o=some (.call u d)):
 ∃c f,o.op=.call c/\c.callee=.value f/\bN g f=some u/\pG g c.args.toList=some d:=by
 unfold Pg at h;split at h
 case h_31=>
  rename_i c S;unfold oY at h;split at h
  case h_4=>
   exact ZbG
  all_goals exfalso
  all_goals (try unfold tI at h)
  all_goals (try unfold jT at h)
  all_goals repeat' (split at h)
  all_goals first
   |(cases h;done)
   |(simp only[Ae] at h;obtain⟨_,_,h⟩:=h;cases h;done)
 all_goals exfalso
 all_goals (try unfold tH at h)
 all_goals (try unfold mK at h)
 all_goals (try unfold oZ at h)
 all_goals repeat' (split at h)
 all_goals first
  |(cases h;done)
  |(simp only[Ae] at h;obtain⟨_,_,h⟩:=h;cases h;done)
theorem vf{P:Program}{g:bL}{mu:Bool}{o:Oper}{D:Arg}(h:Pg P g mu o=some (.panic D)):∃x,o.op=.panic x/\bN g x=some D:=by
 unfold Pg at h;split at h
 case h_32=>rename_i x S;simp only[Ae] at h;obtain⟨y,Q,z⟩:=h;cases z;exact⟨x,S,Q⟩
 all_goals exfalso
 all_goals (try unfold tH at h)
 all_goals (try unfold mK at h)
 all_goals (try unfold oZ at h)
 all_goals (try unfold oY at h)
 all_goals (try unfold tI at h)
 all_goals (try unfold jT at h)
 all_goals repeat' (split at h)
 all_goals first
  |(cases h;done)
  |(simp only[Ae] at h;obtain⟨_,_,h⟩:=h;cases h;done)
theorem vd{P:Program}{g:bL}{mu:Bool}{o:Oper}{u:Arg}{d:List Arg}(h:Pg P g mu o=some (.mY u d)):
 ∃c f,o.op=.defer c/\c.callee=.value f/\bN g f=some u/\pG g c.args.toList=some d:=by
 unfold Pg at h;split at h
 case h_33=>
  rename_i c S;split at h
  . exact ZbG
  cases h
 all_goals exfalso
 all_goals (try unfold tH at h)
 all_goals (try unfold mK at h)
 all_goals (try unfold oZ at h)
 all_goals (try unfold oY at h)
 all_goals (try unfold tI at h)
 all_goals (try unfold jT at h)
 all_goals repeat' (split at h)
 all_goals first
  |(cases h;done)
  |(simp only[Ae] at h;obtain⟨_,_,h⟩:=h;cases h;done)
theorem MH{P:Program}{ops:Array Oper}{ro:Option Nat}{Q z:Exit->Act->World->Prop}(D:∀e a w,Q e a w->z e a w):∀(l:List Nat) (a:Act) (w2:World),wpOpsIn (Fw ro) 0 P ops Q l a w2->wpOpsIn (Fw ro) 0 P ops z l a w2:=by
 intro l
 induction l with
 |nil=>exact fun a w2 X=>D _ _ _ X
 |cons i l K=>
  intro a w2 X;rw[wpOpsIn_cons] at X ⊢;unfold wpOpIn at X ⊢;split
  . grind
  rename_i x F;simp only[F] at X;split
  . rename_i s;simp only[s,if_true] at X;refine⟨X.1,?_⟩;have X:=X.2;generalize (x.semAt (Fw ro).round a.eval).run P w2=u at *
    have eq:∀(e:Ending) (C:World),aDg (wpOpsIn (Fw ro) 0 P ops Q l) Q a x.dst e C->aDg (wpOpsIn (Fw ro) 0 P ops z l) z a x.dst e C:=fun e C A=>by
     cases e with
     |returned v=>exact K _ _ A
     |panicked S=>exact D _ _ _ A
     |outgrown=>exact let⟨b,w0,q⟩:=A;⟨b,w0,D _ _ _ q⟩
    cases u with
    |ok n R=>
     cases n<;>simp only[Oper.uponIn] at X ⊢ <;>first
      |exact K _ _ X
      |exact X
      |exact⟨X.1,CallsIn.mono X.2 (fun e C h=>by have :=eq e C (by assumption);assumption)⟩
      |exact⟨X.1,RoundIn.mono X.2 (fun e C h=>by have :=eq e C (by assumption);assumption)⟩
      |exact⟨X.1,RowsIn.mono X.2 (fun _ _ A=>K _ _ A)⟩
    |halt y R=>cases y<;>simp only[Oper.uponIn] at X ⊢ <;>first|grind|grind
  grind
theorem vh{P:Program}{g:bL}{mu:Bool}{o:Oper}{D:Arg}(h:Pg P g mu o=some (.xU D)):∃t x k v,o.op=.range t x/\bN g x=some D/\P.underlying t=some (.map k v):=by
 unfold Pg at h;split at h
 case h_28=>
  rename_i t x S;split at h
  . rename_i y k v Q W;cases h;exact⟨t,x,k,v,S,Q,W⟩
  cases h
 all_goals exfalso
 all_goals (try unfold tH at h)
 all_goals (try unfold mK at h)
 all_goals (try unfold oZ at h)
 all_goals (try unfold oY at h)
 all_goals (try unfold tI at h)
 all_goals (try unfold jT at h)
 all_goals repeat' (split at h)
 all_goals first
  |(cases h;done)
  |(simp only[Ae] at h;obtain⟨_,_,h⟩:=h;cases h;done)
theorem aDn{P:Program}{g:bL}{mu:Bool}{o:Oper}{D:Arg}(h:Pg P g mu o=some (.GY D)):∃x,o.op=.next x false/\bN g x=some D:=by
 unfold Pg at h;split at h
 case h_29=>
  rename_i x s S;split at h
  . rename_i y Q;cases h;exact⟨x,S,Q⟩
  cases h
 all_goals exfalso
 all_goals (try unfold tH at h)
 all_goals (try unfold mK at h)
 all_goals (try unfold oZ at h)
 all_goals (try unfold oY at h)
 all_goals (try unfold tI at h)
 all_goals (try unfold jT at h)
 all_goals repeat' (split at h)
 all_goals first
  |(cases h;done)
  |(simp only[Ae] at h;obtain⟨_,_,h⟩:=h;cases h;done)
theorem ve{P:Program}{g:bL}{mu:Bool}{o:Oper}{D:Arg}(h:Pg P g mu o=some (.AZ D)):∃x,o.op=.entry x/\bN g x=some D:=by
 unfold Pg at h;split at h
 case h_30=>rename_i x S;simp only[Ae] at h;obtain⟨y,Q,z⟩:=h;cases z;exact⟨x,S,Q⟩
 all_goals exfalso
 all_goals (try unfold tH at h)
 all_goals (try unfold mK at h)
 all_goals (try unfold oZ at h)
 all_goals (try unfold oY at h)
 all_goals (try unfold tI at h)
 all_goals (try unfold jT at h)
 all_goals repeat' (split at h)
 all_goals first
  |(cases h;done)
  |(simp only[Ae] at h;obtain⟨_,_,h⟩:=h;cases h;done)
theorem dr{G:Gh}{w:World}{id:Nat}(h:VR G w (.map id) u):∃l,G.loc id=some l/\u=.map (some l.dE):=by
 cases h with
 |map _ l U=>grind
theorem aIa{G:Gh}{w:World}{id off:Nat}(h:VR G w (.ref id off) u):∃l,G.loc id=some l/\u=.pointer (some ⟨l.dE,l.base+off,none⟩):=by
 cases h with
 |ref _ _ l U=>grind
theorem JP{α:Type}{a:Array α}{i:Nat}{x:α}(h:a[i]?=some x):a.setIfInBounds i x=a:=by grind
theorem WR.fresh{g:bL}{G:Gh}{H:aB}{w:World}(L:WR g G H w):G.loc H.next=none:=by
 cases U:G.loc H.next with
 |none=>rfl
 |some l'=>exact absurd (L.lt _ _ U) (Ff _)
theorem ik{P:Program}{g:bL}{G:Gh}{H:aB}{w:World}(L:WR g G H w){m:Nat}{es:List (AV×AV)}{u:Value}(d:H.get m=some (.map es))(e:VR G w (.map m) u)
 {t k v:TypeId} (W:P.underlying t=some (.map k v)):∃N c mb K w' E,N.length=es.length/\N.Nodup/\(Instr.range t u).run P w=.ok K w'/\
   WR g E ((H.set m (.tW es N c mb)).alloc (.iter m mb c [])) w'/\Ext G H w E ((H.set m (.tW es N c mb)).alloc (.iter m mb c [])) w'/\VR E w' (.ref H.next 0) K:=by
 obtain⟨l,U,rfl⟩:=dr e;obtain⟨q,V,ents,n,O,Z,B,h4⟩:=L.iT _ _ _ U d rfl;have Q:(ents.toList.map (·.born)).length=es.length:=by grind
 have y:(ents.toList.map (·.born)).Nodup:=by rw[List.Nodup,Ga];intro i j F Y h z;simp only[Ah,Ej] at F Y;have :=B.2 i j F Y (by simp_all);omega
 have r:∀b∈ents.toList.map (·.born),b<n:=by
  intro b X;simp only[Be] at X;obtain⟨x,C,rfl⟩:=X;obtain⟨i,F,rfl⟩:=Dl C;have a:i<ents.size:=by omega
  have :=B.1 i a;simp_all
 refine⟨ents.toList.map (·.born),n,l.dE,.pointer (some ⟨w.heap.size,0,none⟩),w.alloc (.mapIter (some l.dE) n #[] n),G.eG H.next ⟨w.heap.size,0,0,1⟩,Q,y,?_,?_⟩
 . simp[Instr.range,underlying,program,W,getObj,newObj,Sem.run,O,Result.andThen]
 obtain⟨q1,q2⟩:=L.JN (o':=.tW es (ents.toList.map (·.born)) n l.dE) (x:=.map ents n) (w':=w) U d rfl rfl (JP O).symm .now
  (fun _ A=>⟨rfl,y,r,ents,A,rfl,Q,h4⟩)
 have R:=q1.FN (H':=(H.set m (.tW es (ents.toList.map (·.born)) n l.dE)).alloc (.iter m l.dE n [])) H.next (.iter m l.dE n []) (.mapIter (some l.dE) n #[] n) rfl q1.fresh (aB.aJ _ _) (Gm _) (Fa _) (w':=w.alloc (.mapIter (some l.dE) n #[] n)) ⟨rfl,.now⟩
  (fun f=>⟨by show(w.heap.push _)[w.heap.size]?=_;simp,f _ _ (.map m l U)⟩)
 exact⟨R.rel,R.ext q2 (Ad _),.ref H.next 0 ⟨w.heap.size,0,0,1⟩ (by show(if H.next=H.next then some (⟨w.heap.size,0,0,1⟩:Loc) else _)=_;simp)⟩
theorem yq{P:Program}{g:bL}{G:Gh}{H:aB}{w:World}(L:WR g G H w){it m mb c:Nat}{seen N:List Nat}{es:List (AV×AV)}{u:Value}(l:H.get it=some (.iter m mb c seen))(a7:H.get m=some (.tW es N c mb))
 (B:VR G w (.ref it 0) u) (ty:TypeId):
 ((∀b∈N,b∈seen)/\(Instr.next u false ty).run P w=.ok (.tuple #[.bool false]) w)\/
 ∃j K w' E,j<N.length/\N.getD j 0∉seen/\(Instr.next u false ty).run P w=.ok K w'/\WR g E (H.set it (.iter m mb c (seen++[N.getD j 0]))) w'/\Ext G H w E (H.set it (.iter m mb c (seen++[N.getD j 0]))) w'/\
  VR E w' (.iV [.bool true,(es.getD j (aC,aC)).1,(es.getD j (aC,aC)).2]) K:=by
 obtain⟨li,T,rfl⟩:=aIa B;obtain⟨q,ZF,v,D⟩:=L.iT _ _ _ T l rfl;obtain⟨n,J,a6⟩:=dr D;cases a6;obtain⟨_,_,_,y,r,ents,ad,f,Q,I⟩:=L.iT _ _ _ J a7 rfl;rw[q];have o:∀x∈ents.toList,x.born<c:=fun x C=>r _ (by rw[<-f];exact List.mem_map_of_mem C)
 rcases run_next_at (P:=P) w ty li.dE n.dE c c seen.toArray ents c v ad o (Ad _) with ⟨h0,V⟩|⟨e,z,w1,M,V⟩
 . refine .inl ⟨fun b X=>?_,V⟩;rw[<-f] at X;obtain⟨x,C,rfl⟩:=Be.1 X;have s:=Array.eq_empty_of_size_eq_zero h0;unfold leftOf at s;rw[Array.filter_eq_empty_iff] at s;have :=s x (by simpa using C);simpa using this
 right;unfold leftOf at z;simp only[Array.toList_filter,Fs,Ct,List.contains_toArray] at z;obtain⟨ab,R⟩:=z;obtain⟨j,Y,p⟩:=Dl ab;have d:j<ents.size:=by simpa using Y
 have O:j<N.length:=by rw[<-f];simpa using Y
 have Z:N.getD j 0=e.born:=by subst f;simp[Dj,Dw,Ai Y,p]
 have af:ents.getD j default=e:=by rw[Cp,Array.getElem?_eq_getElem d];simpa using p
 have ae:w1.heap=w.heap:=by rcases M with rfl|rfl<;>rfl
 have W:CK w w1:=by rcases M with rfl|rfl<;>exact .now
 obtain⟨q1,q2⟩:=L.JN (o':=.iter m n.dE c (seen++[N.getD j 0])) (x:=.mapIter (some n.dE) c (seen.toArray.push e.born) c)
  (w':=ChangeMaps.setBlock w1 li.dE (.mapIter (some n.dE) c (seen.toArray.push e.born) c)) T l rfl rfl (by show w1.heap.setIfInBounds _ _=_;rw[ae]) ⟨W.os,W.output,W.tape,W.drawn⟩
  (fun t A=>⟨by rw[A,Z];simp,t _ _ D⟩)
 obtain⟨U,S⟩:=I j A0;rw[af] at U S;refine⟨j,_,_,G,O,by rw[Z];simpa using R,V,q1,q2,?_⟩;have ZG:∀a u,VR G w a u->VR G (ChangeMaps.setBlock w1 li.dE (.mapIter (some n.dE) c (seen.toArray.push e.born) c)) a u:=fun a u h=>h.ext q2;refine VR.iV _ [.bool true,e.key,e.val] rfl fun i F=>?_
 match i,F with
 |0,_=>exact .bool true
 |1,_=>exact ZG _ _ U
 |2,_=>exact ZG _ _ S
 |k+3,F=>simp at F;omega
theorem ao{P:Program}{g:bL}{G:Gh}{H:aB}{w:World}(L:WR g G H w){k m mb c j:Nat}{seen N:List Nat}{es:List (AV×AV)}{u:Value}(l:H.get k=some (.iter m mb c (seen++[N.getD j 0])))
 (R:H.get m=some (.tW es N c mb)) (Y:j<N.length) (B:VR G w (.ref k 0) u):
 ∃K,(Instr.entry u).run P w=.ok K w/\VR G w (.iV [(es.getD j (aC,aC)).1,(es.getD j (aC,aC)).2]) K:=by
 obtain⟨h,T,rfl⟩:=aIa B;obtain⟨q,o,v,D⟩:=L.iT _ _ _ T l rfl;obtain⟨n,J,a⟩:=dr D;cases a;obtain⟨_,_,_,y,r,ents,b,f,Q,I⟩:=L.iT _ _ _ J R rfl;rw[q];have p:j<ents.toList.length:=by grind
 have d:j<ents.size:=by omega
 have Z:N.getD j 0=ents.toList[j].born:=by grind
 have e:ents.getD j default=ents.toList[j]:=by simp_all
 have V:=run_entry_at (P:=P) w h.dE n.dE c seen.toArray ents c ents.toList[j] (by grind) b (Ag p) (by grind);obtain⟨U,S⟩:=I j A0;rw[e] at U S;refine⟨_,V,VR.iV _ [_,_] rfl fun i F=>?_⟩
 grind
theorem HP{P:Program}{g:bL}{mu:Bool}{ro:Option Nat}{ops:Array Oper}:∀(l:List Oper) (rl:List bH) (k:Nat),mX P g mu ops l=some rl->(∀j,(h:j<l.length)->ops[k+j]?=some l[j])->
 (ro=none\/∀r∈rl,∀f X,r.op≠ .mY f X)->∀(s:List AV) (ds:List gW) (G:Gh) (H:aB) (w:World) (a:Act) (Q:AQ),uK P g rl s ds H Q->WR g G H w->SR G w s a->UE G w ds a.defers->
   wpOpsIn (Fw ro) 0 P ops (QR g G H w Q) (List.range' k l.length) a w
 |[],rl,k,hc,hl,CE,s,ds,G,H,w,a,Q,h,L,M,hd=>by obtain rfl:=Aa hc;exact⟨.normal,s,ds,H,G,h,L,Ext.refl G H w,M,hd,trivial⟩
 |o::l,rl,k,hc,hl,CE,s,ds,G,H,w,a,Q,h,L,M,hd=>by
  unfold mX at hc;split at hc
  . rename_i r W V ab;obtain rfl:=Aa hc
    have ho:ops[k]?=some o:=hl 0 A3
    have pK:∀j,(h:j<l.length)->ops[k+1+j]?=some l[j]:=fun j Y=>by have :=hl (j+1) ZaV;simpa [show k+(j+1)=k+1+j by omega] using this
    obtain⟨GD,e,_⟩:=IM V;have nm:=RW V M
    have next:∀{v:AV} {u:Value} {H1:aB} {w1:World} {G1:Gh} {oT:List gW} {a1:Act},uK P g W (oM s r.dst v) oT H1 Q->WR g G1 H1 w1->Ext G H w G1 H1 w1->VR G1 w1 v u->SR G w s a1->UE G1 w1 oT a1.defers->
     wpOpsIn (Fw ro) 0 P ops (QR g G H w Q) (List.range' (k+1) l.length) (a1.put o.dst u) w1:=by
     intro v u H1 w1 G1 oT a1 n QH z J a7 U;have y:=(a7.ext z).put r.dst J;rw[GD] at y n
     have ae:UE G1 w1 oT (a1.put o.dst u).defers:=by cases o.dst<;>exact U
     have :=HP l W (k+1) ab pK (CE.imp id fun h x C=>h x (Ax _ C)) _ oT G1 H1 w1 _ Q n QH y ae;exact MH (fun _ _ _=>QR.trans z) _ _ _ this
    simp only[As,List.range'_succ];rw[wpOpsIn_cons];unfold wpOpIn;simp only[ho];rw[nm];unfold uK at h;by_cases cj:bW s r=true
    . rw[if_pos cj] at h ⊢;split at h
      . rename_i f X b;obtain⟨out,H',hS,tJ⟩:=h;rw[b] at e;obtain⟨c,f0,T,e2,e3,e4⟩:=Ws e;refine WB T e2 e3 e4 L M hS (fun v J u w' E I z OS=>?_) (fun v J u w' E I z OS=>?_)
        . subst J
          exact next tJ I z OS M (hd.ext z)
        subst J;exact⟨.panic v,s,ds,H',E,tJ,I,z,M.ext z,hd.ext z,u,rfl,OS⟩
      . rename_i x b;obtain⟨t,v,C,D⟩:=h;rw[b] at e;obtain⟨S,T,e2⟩:=vf e;have K:=bM L M e2;rw[C] at K;generalize eY:a.eval S=u at K
        have jZ:∀q,u=.iface t q->(execOp a.eval o).run P w=.halt (.panic u) w:=fun q D=>by subst D;simp[execOp,T,eY,Instr.panic,goPanic]
        have a6:=K;refine⟨fun _ _=>trivial,?_⟩;rw[show o.semAt (Fw ro).round a.eval=execOp a.eval o from Oper.semAt_eq _ _ _ fun c' h=>by rw[T] at h;cases h]
        cases K with
        |iface _ _ q ag=>rw[jZ q rfl];exact⟨.panic (.iface t v),s,ds,H,G,D,L,Ext.refl G H w,M,hd,_,rfl,a6⟩
      . rename_i f X b;obtain⟨p,hp,n⟩:=h;rw[b] at e;obtain⟨c,f0,T,e2,e3,e4⟩:=vd e;obtain⟨us,N,ad,O,Z⟩:=IJ hp (bM L M e3);have LA:=uQ L M e4
        have jZ:(execOp a.eval o).run P w=.ok (.defer {target:=.fn (.func p.1) N.toArray,args:=us.toArray++c.args.map a.eval}) w:=by simp only[execOp,T,Sem.run_bind,zT e2 ad,Result.andThen_ok,Sem.run_pure]
        have af:ro=none:=CE.resolve_right fun h=>h r A3 _ _ b;subst af;refine⟨fun _ _=>trivial,?_⟩;rw[show o.semAt (Fw none).round a.eval=execOp a.eval o from rfl,jZ]
        exact next n L (Ext.refl G H w) (VR.oQ G w) (a1:={a with defers:={target:=.fn (.func p.1) N.toArray,args:=us.toArray++c.args.map a.eval}::a.defers}) M
         ⟨⟨N,rfl,by simpa using(O.append LA).append Z⟩,hd⟩
      . rename_i x b;obtain⟨m,es,C,hg,n⟩:=h;rw[b] at e;obtain⟨t,S,kt,vt,T,e2,e3⟩:=vh e;have K:=bM L M e2;rw[C] at K;obtain⟨N,c,mb,u',w',E,O,Z,V,q1,q2,q3⟩:=ik (P:=P) L hg K e3;refine⟨fun _ _=>trivial,?_⟩;rw[show o.semAt (Fw ro).round a.eval=execOp a.eval o from Oper.semAt_eq _ _ _ fun c' h=>by rw[T] at h;cases h];rw[show(execOp a.eval o).run P w=.ok (.value u') w' by simp[execOp,T,V]]
        exact next (n _ _ _ O Z) q1 q2 q3 M (hd.ext q2)
      . rename_i x b;obtain⟨it,m,mb,c,seen,es,N,C,TK,R,LD,B⟩:=h;rw[b] at e;obtain⟨S,T,e2⟩:=aDn e;have K:=bM L M e2;rw[C] at K;refine⟨fun _ _=>trivial,?_⟩;rw[show o.semAt (Fw ro).round a.eval=execOp a.eval o from Oper.semAt_eq _ _ _ fun c' h=>by rw[T] at h;cases h]
        rcases yq (P:=P) L TK R K o.type with ⟨O,V⟩|⟨j,u',w',E,O,Z,V,q1,q2,q3⟩
        . rw[show(execOp a.eval o).run P w=.ok (.value (.tuple #[.bool false])) w by simp[execOp,T,V]]
          exact next (LD O) L (Ext.refl G H w) (VR.iV [.bool false] [.bool false] rfl fun i F=>by
           obtain rfl:i=0:=by simp at F;exact F
           exact .bool false) M hd
        rw[show(execOp a.eval o).run P w=.ok (.value u') w' by simp[execOp,T,V]]
        exact next (B j O Z) q1 q2 q3 M (hd.ext q2)
      . rename_i x b;obtain⟨it,m,mb,c,seen,es,N,j,C,TK,R,Y,n⟩:=h;rw[b] at e;obtain⟨S,T,e2⟩:=ve e;have K:=bM L M e2;rw[C] at K;obtain⟨u',V,J⟩:=ao (P:=P) L TK R Y K;refine⟨fun _ _=>trivial,?_⟩;rw[show o.semAt (Fw ro).round a.eval=execOp a.eval o from Oper.semAt_eq _ _ _ fun c' h=>by rw[T] at h;cases h];rw[show(execOp a.eval o).run P w=.ok (.value u') w by simp[execOp,T,V]]
        exact next n L (Ext.refl G H w) J M hd
      rename_i n1 n2 n3 n4 n5 n6;obtain⟨v,H',n,A⟩:=h
      have d:r.op.plain=true:=by cases QE:r.op<;>first|rfl|exact absurd QE (n1 _ _)|exact absurd QE (n2 _)|exact absurd QE (n3 _ _)|exact absurd QE (n4 _)|exact absurd QE (n5 _)|exact absurd QE (n6 _)
      refine RX (Zo e d) (AK e n3) L M n (fun u w' E I z J=>?_)
      exact next A I z J M (hd.ext z)
    rw[if_neg cj] at h ⊢;exact⟨fun _ _=>trivial,next h L (Ext.refl G H w) (VR.oQ G w) M hd⟩
  cases hc
def eN.rF:eN->Bool
 |.store _ _ _|.append _ _ _ _ _|.copy _ _ _|.clr _ _ _|.Qa _ _ _ _|.call _ _=>true
 |_=>false
def eN.reads:eN->Bool
 |.load _ _ _|.HL _ _ _ _ _ _|.GO _|.lookup _ _ _ _ _=>true
 |_=>false
def DO:AV->Option Nat
 |.ref id _=>some id
 |.sl id _ _ _ _=>some id
 |.map id=>some id
 |_=>none
def eN.dP(ev:Arg->AV):eN->Option Nat
 |.load _ _ a=>DO (ev a)
 |.HL _ _ x _ _ _=>DO (ev x)
 |.GO x=>DO (ev x)
 |.lookup _ _ _ x _=>DO (ev x)
 |_=>none
def Arg.tmps:Arg->List Nat
 |.tmp t=>[t]
 |_=>[]
def eN.args:eN->List Arg
 |.mO x|.box x|.Qh x|.un _ x|.NW _ x|.EG x|.GO x|.jj _ x|.ed _ x|.xM _ x|.ju _ _ _ x|.Ul x _|.lens x|.QT x|.load _ _ x|.panic x|.clr _ _ x=>[x]
 |.pick a b c=>[a,b,c]
 |.alloc _|.BT=>[]
 |.build _ ps=>ps.map (·.2.2)
 |.Qf _ xs=>xs
 |.store _ a x=>[a,x]
 |.bin _ x y|.eqb _ x y|.eqf _ _ x y|.eqn _ _ _ x y=>[x,y]
 |.SE _ a b=>a++b
 |.mJ _ _ _ l c=>[l,c]
 |.RJ x l h=>x::(l.toList++h.toList)
 |.Yi _ x l h m|.HL _ _ x l h m=>x::(l.toList++(h.toList++m.toList))
 |.rH _ _ x i|.idx _ _ _ x i|.idxs x i|.VO x i|.YA x i=>[x,i]
 |.append _ _ _ x y|.copy _ x y=>[x,y]
 |.lookup _ _ _ x i=>[x,i]
 |.Qa _ m k v=>[m,k,v]
 |.call f azs|.mY f azs=>f::azs
 |.xU x|.GY x|.AZ x=>[x]
theorem kJ{ev ev':Arg->AV}{x:Option Arg}(h:∀y∈x.toList,ev y=ev' y):eD ev x=eD ev' x:=by
 cases x with
 |none=>rfl
 |some y=>grind[eD]
theorem Na{ev ev':Arg->AV}:∀(S:List (Nat×Nat×Arg)) (cs:List AV),(∀y∈S.map (·.2.2),ev y=ev' y)->KR ev cs S=KR ev' cs S
 |[],cs,h=>rfl
 |(o,n,x)::r,cs,h=>by
  have C:=h x A3;simp only[KR,C];split
  . exact Na r _ (fun y Q=>h y (by grind))
  rfl
theorem QV{ev ev':Arg->AV}(sz:Nat):∀(xs:List Arg),(∀y∈xs,ev y=ev' y)->Mu ev sz xs=Mu ev' sz xs
 |[],h=>rfl
 |x::r,h=>by have C:=h x A3;simp only[Mu,C,QV sz r (fun y Q=>h y (by grind))]
theorem uC{ev ev':Arg->AV}(h:∀y∈r.args,ev y=ev' y):BX ev r=BX ev' r:=by
 cases r<;>simp only[BX]<;>first
  |rfl
  |(have O:=h _ (Ay);simp only[eN.args] at h;simp only[O])
  |skip
 grind
theorem ui{ev ev':Arg->AV}(H:aB)(h:∀y∈r.args,ev y=ev' y):dU ev H r=dU ev' H r:=by
 have p:∀l:List Arg,(∀y∈l,y∈r.args)->l.map ev=l.map ev':=fun l U=>Dk fun y Q=>h y (U y Q)
 cases r with
 |build z S=>simp only[dU];rw[Na S z h]
 |Qf sz xs=>simp only[dU];rw[QV sz xs h]
 |SE fn a b=>simp only[dU];rw[p a (fun y Q=>by simp[eN.args,Q]),p b (fun y Q=>by simp[eN.args,Q])]
 |RJ x l X=>have O:=h x Zab;have Z:eD ev l=eD ev' l:=kJ fun y Q=>h y Za4;have B:eD ev X=eD ev' X:=kJ fun y Q=>h y (by simp only[eN.args,Ba,Ar];exact .inr (.inr Q));simp only[dU,O,Z,B]
 |Yi sz x l X m=>have O:=h x Zab;have Z:eD ev l=eD ev' l:=kJ fun y Q=>h y Za4;have B:eD ev X=eD ev' X:=kJ fun y Q=>h y Zb0;have h4:eD ev m=eD ev' m:=kJ fun y Q=>h y ZbZ;simp only[dU,O,Z,B,h4]
 |HL n sz x l X m=>have O:=h x Zab;have Z:eD ev l=eD ev' l:=kJ fun y Q=>h y Za4;have B:eD ev X=eD ev' X:=kJ fun y Q=>h y Zb0;have h4:eD ev m=eD ev' m:=kJ fun y Q=>h y ZbZ;simp only[dU,O,Z,B,h4]
 |alloc z=>simp only[dU,uC (r:=.alloc z) h]
 |box x=>simp only[dU,uC (r:=.box x) h]
 |BT=>simp only[dU,uC (r:=.BT) h]
 |mJ a b c d e=>simp only[dU,uC (r:=.mJ a b c d e) h]
 |EG x=>simp only[dU,uC (r:=.EG x) h]
 |pick a b c=>have O:=h a Zab;have Z:=h b Zab;have B:=h c Zab;simp only[dU,O,Z,B]
 |Qa k m i v=>have O:=h m Zab;have Z:=h i Zab;have B:=h v Zab;simp only[dU,O,Z,B]
 |call f j=>rfl
 |mY f j=>rfl
 |panic x=>rfl
 |xU x=>rfl
 |GY x=>rfl
 |AZ x=>rfl
 |store n a b=>have O:=h a Zab;have Z:=h b Zab;simp only[dU,O,Z]
 |bin op a b=>have O:=h a Zab;have Z:=h b Zab;simp only[dU,O,Z]
 |eqb op a b=>have O:=h a Zab;have Z:=h b Zab;simp only[dU,O,Z]
 |eqf op s a b=>have O:=h a Zab;have Z:=h b Zab;simp only[dU,O,Z]
 |eqn op k l a b=>have O:=h a Zab;have Z:=h b Zab;simp only[dU,O,Z]
 |rH n sz a b=>have O:=h a Zab;have Z:=h b Zab;simp only[dU,O,Z]
 |idx n sz g a b=>have O:=h a Zab;have Z:=h b Zab;simp only[dU,O,Z]
 |idxs a b=>have O:=h a Zab;have Z:=h b Zab;simp only[dU,O,Z]
 |append s b m x y=>have O:=h x Zab;have Z:=h y Zab;simp only[dU,O,Z]
 |copy s x y=>have O:=h x Zab;have Z:=h y Zab;simp only[dU,O,Z]
 |lookup k z ok x y=>have O:=h x Zab;have Z:=h y Zab;simp only[dU,O,Z]
 |mO x=>have O:=h x Zab;simp only[dU,O]
 |VO x y=>have O:=h x Zab;have Z:=h y Zab;simp only[dU,O,Z]
 |YA x y=>have O:=h x Zab;have Z:=h y Zab;simp only[dU,O,Z]
 |clr n z x=>have O:=h x Zab;simp only[dU,O]
 |Qh x=>have O:=h x Zab;simp only[dU,O]
 |un o x=>have O:=h x Zab;simp only[dU,O]
 |NW k x=>have O:=h x Zab;simp only[dU,O]
 |GO x=>have O:=h x Zab;simp only[dU,O]
 |jj n x=>have O:=h x Zab;simp only[dU,O]
 |ed t x=>have O:=h x Zab;simp only[dU,O]
 |xM n x=>have O:=h x Zab;simp only[dU,O]
 |ju t ok z x=>have O:=h x Zab;simp only[dU,O]
 |Ul x i=>have O:=h x Zab;simp only[dU,O]
 |lens x=>have O:=h x Zab;simp only[dU,O]
 |QT x=>have O:=h x Zab;simp only[dU,O]
 |load g n x=>have O:=h x Zab;simp only[dU,O]
theorem MW{ev:Arg->AV}(d:r.rF=false)(N:r.fresh=false){H H1:aB}{v:AV}{H':aB}(h:dU ev H r=some (v,H'))
 (V:∀id,r.dP ev=some id->H1.get id=H.get id):H'=H/\dU ev H1 r=some (v,H1):=by
 have b:∀{id:Nat},H1.get id=H.get id->H1.eV id=H.eV id:=fun X=>by simp[aB.eV,X]
 cases r<;>first
  |(cases d;done)
  |(cases N;done)
  |skip
 case load agg n a=>
  simp only[dU] at h ⊢;simp only[eN.dP] at V;split at h
  . rename_i id off f;have :=b (V id (by rw[f];rfl));simp only[this];split at h
    . split at h
      . split at h
        . exact ZaG
        split at h
        . exact ZaG
        cases h
      cases h
    cases h
  . rename_i cs f;split at h
    . split at h
      . exact ZaG
      split at h
      . exact ZaG
      cases h
    cases h
  cases h
 case HL n sz x lo hi mx=>
  simp only[dU] at h ⊢;simp only[eN.dP] at V;split at h
  . simp only[Ae,An] at h ⊢;obtain⟨c,h,rfl,rfl⟩:=h;refine⟨rfl,c,?_,by simp⟩;unfold jV at h ⊢;simp only at h ⊢;split at h
    . rename_i e;rw[if_pos e];split at h
      . rename_i id o f;have :=b (V id (by rw[f];rfl));simp only[this];exact h
      . exact h
      cases h
    cases h
  cases h
 case GO x=>
  simp only[dU] at h ⊢;simp only[eN.dP] at V
  have F:dM H1 1 (ev x)=dM H 1 (ev x):=by cases C:ev x<;>simp only[dM];rename_i id sz off len cap;have :=b (V id (by rw[C];rfl));simp only[this]
  split at h
  . cases h
  rename_i R;rw[F];split at h
  . simp only[Ae,An] at h ⊢;obtain⟨g,O,rfl,rfl⟩:=h;exact⟨rfl,g,O,by simp⟩
  cases h
 case lookup k z ok x i=>
  simp only[dU] at h ⊢;simp only[eN.dP] at V;split at h
  . rename_i E;rw[if_pos E];split at h
    . exact ZaG
    . rename_i id f;have :=V id (by rw[f];rfl);simp only[this];split at h
      . split at h
        . exact ZaG
        . exact ZaG
        cases h
      cases h
    cases h
  cases h
 case VO x y=>
  exact ZaY
 case YA x y=>
  exact ZaY
 all_goals
  simp only[dU] at h ⊢
  repeat' (split at h)
  all_goals first
   |(cases h;done)
   |(simp only[Aj,An] at h
     obtain⟨rfl,rfl⟩:=h
     exact⟨rfl,by simp_all⟩)
   |(simp only[Ae,An] at h
     obtain⟨q,O,rfl,rfl⟩:=h
     exact⟨rfl,by simp_all⟩)
section
def yD(r:bH):List Nat:=r.op.args.flatMap Arg.tmps++(match r.guard with|some (d,_)=>[d]|none=>[])
def iS(rl:List bH)(i:Nat):Nat:=(rl.take i).countP (·.op.fresh)
def DStep(P:Program)(g:bL)(a:Bool)(id:Nat)(r:bH)(s:List AV)(H:aB)(v:AV)(H':aB):Prop:=
 if bW s r then
  if r.op.fresh then ∃z val,BX (Arg.eval g s) r.op=some (z,val)/\v=val id/\H'=H.set id z
  else match r.op with
   |.call f azs=>if a=true then v=aC/\H'=H else ∃p,nB (f.eval g s)=some p/\Sound P g p.1 (p.2.1++azs.map (Arg.eval g s)++p.2.2) H (.ret v) H'
   |.panic _|.mY _ _=>False
   |op=>dU (Arg.eval g s) H op=some (v,H')
 else v=aC/\H'=H
structure dS (P:Program) (g:bL) (rl:List bH) (pj:Option Nat) (pairs:List (Nat×Nat)) (s0:List AV) (H0:aB) (Hs:Nat->aB) (ss:Nat->List AV) (vs:Nat->AV):Prop where
 s0:ss 0=s0
 h0:Hs 0={H0 with next:=H0.next+rl.countP (·.op.fresh)}
 free:∀k,k<rl.countP (·.op.fresh)->H0.get (H0.next+k)=none
 step:∀i r,rl[i]?=some r->DStep P g (pj==some i) (H0.next+iS rl i) r (ss i) (Hs i) (vs i) (Hs (i+1))/\ss (i+1)=oM (ss i) r.dst (vs i)
 mono:∀i r,rl[i]?=some r->r.op.rF=true->(Hs i).next<=(Hs (i+1)).next
 RM:∀i e,(i,e)∈pairs->∀ri re,rl[i]?=some ri->rl[e]?=some re->bW (ss i) ri=true->bW (ss e) re=true->
  ∀id,(ri.op.dP (Arg.eval g (ss i))=some id\/(ri.op.fresh=true/\id=H0.next+iS rl i))->(Hs e).get id=(Hs (e+1)).get id
structure qE (ops:Array Oper) (rl:List bH) (pairs:List (Nat×Nat)) (anc:Nat->Nat->Bool):Prop where
 aRf:∀j o,ops[j]?=some o->∀e∈o.after,Region.binds .any e=true->e.on<j
 wit:∀i j,anc i j=true->∃o,ops[j]?=some o/\∃e∈o.after,Region.binds .any e=true/\(e.on=i\/anc i e.on=true)
 cmp:∀i j ri rj,i<j->rl[i]?=some ri->rl[j]?=some rj->anc i j=false->
  (ri.op.rF=true->rj.op.rF=false)/\(∀d,ri.dst=some d->d∉yD rj/\rj.dst≠some d)/\(∀d,rj.dst=some d->d∉yD ri)/\
  (rj.op.rF=true->(ri.op.reads=true\/ri.op.fresh=true)->(i,j)∈pairs)/\(ri.op.rF=true->rj.op.reads=true->(j,i)∈pairs)
 early:∀i j ri rj,i<j->rl[i]?=some ri->rl[j]?=some rj->ri.op.rF=true->rj.op.fresh=true->(j,i)∈pairs
 lits:∀(i:Nat) (r:bH),rl[i]?=some r->r.op.reads=true->∀v,Arg.const v∈r.op.args->DO v=none
variable{r:eN}
theorem oV(h:r.fresh=true):r.rF=false:=by cases r<;>first|rfl|cases h
theorem mP{ev:Arg->AV}{id:Nat}(h:r.dP ev=some id):r.reads=true:=by cases r<;>first|rfl|cases h
theorem PV{ev:Arg->AV}{H:aB}{x:AV×aB}{id:Nat}(h:dU ev H r=some x)(V:r.dP ev=some id):H.get id≠none:=by
 intro A;have R:H.eV id=none:=by grind[aB.eV]
 cases r<;>simp only[eN.dP] at V<;>try (cases V)
 . grind[dU,DO]
 . rename_i x;simp only[dU] at h
   cases I:ev x<;>rw[I] at V<;>simp only[DO] at V<;>try (cases V)
   all_goals grind[dM]
 . simp only[dU] at h;split at h
   . unfold jV at h
     grind[DO]
   grind
 grind[dU,DO]
section
variable {P:Program} {g:bL} {rl:List bH} {pj:Option Nat} {pairs:List (Nat×Nat)} {s0:List AV} {H0:aB} {Hs:Nat->aB} {ss:Nat->List AV} {vs:Nat->AV}
abbrev kept(H0:aB)(rl:List bH)(i:Nat):Nat:=H0.next+iS rl i
theorem CX{α:Type}(p:α->Bool):∀(l:List α) (i:Nat) (x:α),l[i]?=some x->p x=true->(l.take i).countP p<l.countP p
 |[],i,x,h,_=>by grind
 |y::l,0,x,h,hp=>by grind
 |y::l,i+1,x,h,hp=>by
  have :=CX p l i x (by grind) hp
  grind
theorem yM{α:Type}(p:α->Bool):∀(l:List α) (i j:Nat) (x:α),l[i]?=some x->p x=true->i<j->(l.take i).countP p<(l.take j).countP p
 |[],i,j,x,h,_,_=>by grind
 |y::l,0,j+1,x,h,hp,_=>by grind
 |y::l,i+1,j+1,x,h,hp,BQ=>by
  have :=yM p l i j x (by grind) hp A0
  grind
theorem pA{i j:Nat}{W b:bH}(F:rl[i]?=some W)(Y:rl[j]?=some b)(a:W.op.fresh=true)(c:b.op.fresh=true)(s:i≠j):kept H0 rl i≠kept H0 rl j:=by
 have key:∀{i j:Nat} {W:bH},rl[i]?=some W->W.op.fresh=true->i<j->iS rl i<iS rl j:=fun h f H=>yM (fun r:bH=>r.op.fresh) rl _ _ _ h f H
 rcases Nat.lt_or_gt_of_ne s with h|h<;>grind
theorem od{i:Nat}{W:bH}(F:rl[i]?=some W)(a:W.op.fresh=true):iS rl i<rl.countP (·.op.fresh):=
 CX (fun r:bH=>r.op.fresh) rl i W F a
theorem dS.pH(D:dS P g rl pj pairs s0 H0 Hs ss vs){i:Nat}{r:bH}(F:rl[i]?=some r)(N:r.op.fresh=true)(L:bW (ss i) r=true):
 ∃z val,BX (Arg.eval g (ss i)) r.op=some (z,val)/\vs i=val (kept H0 rl i)/\Hs (i+1)=(Hs i).set (kept H0 rl i) z:=by
 have :=(D.step i r F).1
 grind[DStep]
theorem dS.JJ(D:dS P g rl pj pairs s0 H0 Hs ss vs){i:Nat}{r:bH}(F:rl[i]?=some r)(N:r.op.fresh=false)(z:r.op.rF=false):Hs (i+1)=Hs i:=by
 have :=(D.step i r F).1;unfold DStep at this;split at this
 . rw[if_neg (by grind)] at this;split at this
   . rename_i b;rw[b] at z;cases z
   . grind
   . grind
   exact(MW (H1:=Hs i) z N this (fun id _=>rfl)).1
 grind
theorem dS.yC(D:dS P g rl pj pairs s0 H0 Hs ss vs){i:Nat}{r:bH}(F:rl[i]?=some r)(L:bW (ss i) r=false):Hs (i+1)=Hs i/\vs i=aC:=by
 have :=(D.step i r F).1
 grind[DStep]
theorem dS.DY{ops:Array Oper}{anc:Nat->Nat->Bool}(D:dS P g rl pj pairs s0 H0 Hs ss vs)(K:qE ops rl pairs anc){i:Nat}{r:bH}(F:rl[i]?=some r)(N:r.op.fresh=true)(L:bW (ss i) r=true):
 ∀k,k<=i->(Hs k).get (kept H0 rl i)=none:=by
 intro k
 induction k with
 |zero=>intro _;rw[D.h0];exact D.free _ (od F N)
 |succ k e=>
  intro E;have d:=e A0;have f:=(Bf.1 F).1
  obtain⟨C,a⟩:∃C,rl[k]?=some C:=⟨rl[k]'(by omega),Ai A0⟩
  by_cases b:bW (ss k) C=true
  . by_cases c:C.op.rF=true
    . rw[<-D.RM i k (K.early k i C r A0 a F c N) r C F a L b _ (.inr ⟨N,rfl⟩)];omega
    by_cases y:C.op.fresh=true
    . obtain⟨z,val,_,_,B⟩:=D.pH a y b;rw[B,aB.aD,if_neg (pA F a N y A0)];omega
    rw[D.JJ a (by grind) (by grind)];omega
  rw[(D.yC a (by grind)).1];omega
theorem dS.sX(D:dS P g rl pj pairs s0 H0 Hs ss vs){id:Nat}{p q:Nat}(f:q<=rl.length)
 (d:∀e r,p<=e->e<q->rl[e]?=some r->r.op.rF=true->bW (ss e) r=true->(Hs e).get id=(Hs (e+1)).get id)
 (n:∀i r,p<=i->i<q->rl[i]?=some r->r.op.fresh=true->bW (ss i) r=true->id≠kept H0 rl i):
 ∀k,p<=k->k<=q->(Hs k).get id=(Hs p).get id:=by
 intro k
 induction k with
 |zero=>intro O _;obtain rfl:p=0:=A0;rfl
 |succ k K=>
  intro O Z;by_cases m:p=k+1
  . rw[m]
  rw[<-K A0 A0]
  obtain⟨C,a⟩:∃C,rl[k]?=some C:=⟨rl[k]'(by omega),Ai A0⟩
  by_cases b:bW (ss k) C=true
  . by_cases c:C.op.rF=true
    . grind
    by_cases y:C.op.fresh=true
    . obtain⟨z,val,_,_,B⟩:=D.pH a y b
      grind[aB.aD]
    rw[D.JJ a (by simpa using y) (by simpa using c)]
  rw[(D.yC a (by simpa using b)).1]
theorem dS.Tm(D:dS P g rl pj pairs s0 H0 Hs ss vs){p q:Nat}(f:q<=rl.length)(d:∀e r,p<=e->e<q->rl[e]?=some r->r.op.rF=false):
 ∀k,p<=k->k<=q->(Hs k).next=(Hs p).next:=by
 intro k
 induction k with
 |zero=>grind
 |succ k K=>
  intro O Z;by_cases m:p=k+1
  . grind
  rw[<-K A0 A0]
  obtain⟨C,a⟩:∃C,rl[k]?=some C:=⟨rl[k]'(by omega),Ai A0⟩
  have c:=d k C A0 A0 a;by_cases b:bW (ss k) C=true
  . by_cases y:C.op.fresh=true
    . obtain⟨z,val,_,_,B⟩:=D.pH a y b;simp_all
    rw[D.JJ a (by grind) c]
  rw[(D.yC a (by grind)).1]
theorem dS.zO(D:dS P g rl pj pairs s0 H0 Hs ss vs){p:Nat}:∀k,p<=k->k<=rl.length->(Hs p).next<=(Hs k).next:=by
 intro k
 induction k with
 |zero=>grind
 |succ k K=>
  intro O Z;by_cases m:p=k+1
  . grind
  refine Aw (K A0 A0) ?_
  obtain⟨C,a⟩:∃C,rl[k]?=some C:=⟨rl[k]'(by omega),Ai A0⟩
  by_cases c:C.op.rF=true
  . exact D.mono k C a c
  have :=D.Tm (p:=k) (q:=k+1) Z (fun e r B h4 M=>by grind) (k+1) A0 (Ad _)
  omega
def writes(rl:List bH)(s0:List AV)(t i:Nat):Bool:=
 match rl[i]? with
 |some r=>r.dst==some t&&decide (t<s0.length)
 |none=>false
def vF(S:Nat->Bool)(rl:List bH)(s0:List AV)(vs:Nat->AV)(t:Nat):Nat->AV
 |0=>s0.getD t aC
 |i+1=>if(S i&&writes rl s0 t i)=true then vs i else vF S rl s0 vs t i
theorem TG(s:List AV)(A:Option Nat)(v:AV)(t:Nat):(oM s A v).getD t aC=if A=some t/\t<s.length then v else s.getD t aC:=by
 cases A with
 |none=>rfl
 |some d=>grind[oM,getD_eq]
theorem Nq(s:List AV)(A:Option Nat)(v:AV):(oM s A v).length=s.length:=by cases A<;>simp[oM]
theorem dS.zC(D:dS P g rl pj pairs s0 H0 Hs ss vs):∀j,j<=rl.length->(ss j).length=s0.length:=by
 intro j
 induction j with
 |zero=>simp[D.s0]
 |succ j K=>
  intro Y
  obtain⟨r,V⟩:∃r,rl[j]?=some r:=⟨rl[j]'(by omega),Ai A0⟩
  rw[(D.step j r V).2,Nq,K A0]
theorem dS.MB(D:dS P g rl pj pairs s0 H0 Hs ss vs)(t:Nat):∀j,j<=rl.length->(ss j).getD t aC=vF (fun _=>true) rl s0 vs t j:=by
 intro j
 induction j with
 |zero=>intro _;rw[D.s0];rfl
 |succ j K=>
  intro Y
  obtain⟨r,V⟩:∃r,rl[j]?=some r:=⟨rl[j]'(by omega),Ai A0⟩
  rw[(D.step j r V).2,TG,D.zC j A0,K A0]
  grind[vF,writes]
end
end
section
def dV(listed:Array Bool)(i:Nat):Bool:=listed.getD i false
structure qB (P:Program) (g:bL) (ops:Array Oper) (rl:List bH) (pairs:List (Nat×Nat)) (anc:Nat->Nat->Bool) (s0:List AV) (H0:aB) (Hs:Nat->aB) (ss:Nat->List AV) (vs:Nat->AV)
 (G0:Gh) (w0:World) (dl:List Deferred) (listed:Array Bool) (p:Nat) (G:Gh) (HS:aB) (w:World) (a:Act) (sS:List AV):Prop where
 size:listed.size=rl.length
 closed:∀i j,dV listed j=true->anc i j=true->dV listed i=true
 ple:p<=rl.length
 pos:∀i r,rl[i]?=some r->r.op.rF=true->(dV listed i=true↔i<p)
 rel:WR g G HS w
 tO:HS.next=(Hs p).next
 vz:∀i r,rl[i]?=some r->r.op.fresh=true->(∃l,G.loc (kept H0 rl i)=some l)->dV listed i=true/\bW (ss i) r=true
 cont:∀id l,G.loc id=some l->
  (∃i r,rl[i]?=some r/\r.op.fresh=true/\dV listed i=true/\bW (ss i) r=true/\p<=i/\id=kept H0 rl i/\HS.get id=(Hs (i+1)).get id)\/
  ((∀i r,p<=i->rl[i]?=some r->r.op.fresh=true->bW (ss i) r=true->id≠kept H0 rl i)/\HS.get id=(Hs p).get id)
 aMr:∀i r,p<=i->rl[i]?=some r->r.op.fresh=true->dV listed i=true->bW (ss i) r=true->∀l,G.loc (kept H0 rl i)=some l->
  ∀lZ l',lZ≠kept H0 rl i->G.loc lZ=some l'->HS.live lZ->l'.dE≠l.dE
 ext:Ext G0 H0 w0 G HS w
 wX:SR G w sS a
 last:∀t,sS.getD t aC=vF (dV listed) rl s0 vs t rl.length
 len:sS.length=s0.length
 dfr:a.defers=dl
section
variable {P:Program} {g:bL} {ops:Array Oper} {rl:List bH} {pj:Option Nat} {pairs:List (Nat×Nat)} {anc:Nat->Nat->Bool} {s0:List AV} {H0:aB} {Hs:Nat->aB} {ss:Nat->List AV} {vs:Nat->AV}
variable {G0:Gh} {w0:World} {dl:List Deferred} {listed:Array Bool} {p:Nat} {G:Gh} {HS:aB} {w:World} {a:Act} {sS:List AV}
theorem sP{S S':Nat->Bool}{t:Nat}:∀m,(∀i,i<m->(S i&&writes rl s0 t i)=(S' i&&writes rl s0 t i))->vF S rl s0 vs t m=vF S' rl s0 vs t m
 |0,_=>rfl
 |m+1,h=>by simp only[vF];rw[h m A0,sP m (fun i F=>h i A0)]
theorem AX{S:Nat->Bool}{t k:Nat}:∀m,k<=m->(∀i,k<=i->i<m->(S i&&writes rl s0 t i)=false)->vF S rl s0 vs t m=vF S rl s0 vs t k
 |0,hk,_=>by grind
 |m+1,hk,h=>by
  by_cases z:k=m+1
  . grind
  simp only[vF];rw[h m A0 A0];exact AX m A0 (fun i O Z=>h i O A0)
theorem EN{t i:Nat}(h:writes rl s0 t i=true):∃r,rl[i]?=some r/\r.dst=some t/\t<s0.length:=by grind[writes]
structure ZC (ops:Array Oper) (listed:Array Bool) (j:Nat):Prop where
 lt:j<ops.size
 not:dV listed j=false
 bNq:∀o,ops[j]?=some o->∀e∈o.after,Region.binds .any e=true->dV listed e.on=true
variable (I:qB P g ops rl pairs anc s0 H0 Hs ss vs G0 w0 dl listed p G HS w a sS) (D:dS P g rl pj pairs s0 H0 Hs ss vs) (K:qE ops rl pairs anc)
include I K
theorem qB.yK{j:Nat}(Y:ZC ops listed j){i:Nat}(h:anc i j=true):dV listed i=true:=by
 obtain⟨o,S,e,z,X,hc⟩:=K.wit i j h;have hd:=Y.bNq o S e z X
 rcases hc with rfl|hc
 . omega
 exact I.closed _ _ hd hc
theorem qB.bNh{j:Nat}{r:bH}(Y:ZC ops listed j)(V:rl[j]?=some r){t:Nat}(a:t∈yD r)(D:dS P g rl pj pairs s0 H0 Hs ss vs):sS.getD t aC=(ss j).getD t aC:=by
 have c:=(Bf.1 V).1;rw[I.last t,D.MB t j A0];rw[AX (k:=j) rl.length A0 (fun i O Z=>?_)]
 . refine sP j (fun i F=>?_);by_cases L:writes rl s0 t i=true
   . obtain⟨W,b,hd,_⟩:=EN L
     have :anc i j=true:=by
      cases R:anc i j with
      |true=>rfl
      |false=>exact absurd a ((K.cmp i j W r F b V R).2.1 t hd).1
     rw[I.yK K Y this]
   grind
 cases M:dV listed i with
 |false=>rfl
 |true=>
  cases L:writes rl s0 t i with
  |false=>rfl
  |true=>
   obtain⟨W,b,hd,_⟩:=EN L;have s:i≠j:=fun z=>by simp_all[z,Y.not]
   have :anc j i=true:=by
    cases R:anc j i with
    |true=>rfl
    |false=>exact absurd a ((K.cmp j i r W A0 V b R).2.2.1 t hd)
   have :=I.closed j i M this
   grind[Y.not]
theorem qB.eval_eq{j:Nat}{r:bH}(Y:ZC ops listed j)(V:rl[j]?=some r)(D:dS P g rl pj pairs s0 H0 Hs ss vs):∀y∈r.op.args,Arg.eval g sS y=Arg.eval g (ss j) y:=by
 intro y Q
 cases y with
 |tmp t=>
  have :t∈yD r:=by grind[yD,Arg.tmps]
  exact I.bNh K Y V this D
 |const v=>rfl
 |jE n=>rfl
theorem qB.aBd{j:Nat}{r:bH}(Y:ZC ops listed j)(V:rl[j]?=some r)(D:dS P g rl pj pairs s0 H0 Hs ss vs):bW sS r=bW (ss j) r:=by
 unfold bW;split
 . rfl
 rename_i d b a;rw[I.bNh K Y V (t:=d) (by grind[yD]) D]
theorem Sl{listed:Array Bool}{j:Nat}(Y:j<listed.size)(i:Nat):dV (listed.setIfInBounds j true) i=if i=j then true else dV listed i:=by
 unfold dV;rw[Cp,Cp,Array.getElem?_setIfInBounds]
 grind
theorem qB.Qi{j:Nat}{r:bH}(Y:ZC ops listed j)(V:rl[j]?=some r)(z:r.op.rF=true):p<=j/\∀e d,p<=e->e<j->rl[e]?=some d->d.op.rF=false:=by
 have b:p<=j:=by
  refine Jn fun c=>?_;have :=(I.pos j r V z).2 c
  grind[Y.not]
 refine⟨b,fun e d O Z a=>?_⟩
 cases n:d.op.rF with
 |false=>rfl
 |true=>
  have :anc e j=true:=by
   cases R:anc e j with
   |true=>rfl
   |false=>
    have :=(K.cmp e j d r Z a V R).1 n
    grind
  have :=(I.pos e d a n).1 (I.yK K Y this);omega
theorem qB.next{j:Nat}{r:bH}(Y:ZC ops listed j)(V:rl[j]?=some r){p':Nat}{E:Gh}{c:aB}{w':World}{u:Value}(x:p'=if r.op.rF=true then j+1 else p)
 (f:WR g E c w') (w:c.next=(Hs p').next)
 (C:∀i n,rl[i]?=some n->n.op.fresh=true->(∃l,E.loc (kept H0 rl i)=some l)->(i=j\/dV listed i=true)/\bW (ss i) n=true)
 (D:∀id l,E.loc id=some l->
   (∃i r,rl[i]?=some r/\r.op.fresh=true/\(i=j\/dV listed i=true)/\bW (ss i) r=true/\p'<=i/\id=kept H0 rl i/\c.get id=(Hs (i+1)).get id)\/
   ((∀i r,p'<=i->rl[i]?=some r->r.op.fresh=true->bW (ss i) r=true->id≠kept H0 rl i)/\c.get id=(Hs p').get id))
 (A:∀i r,p'<=i->rl[i]?=some r->r.op.fresh=true->(i=j\/dV listed i=true)->bW (ss i) r=true->∀l,E.loc (kept H0 rl i)=some l->
   ∀e l',e≠kept H0 rl i->E.loc e=some l'->c.live e->l'.dE≠l.dE)
 (ext':Ext G0 H0 w0 E c w') (J:VR E w' (vs j) u) (y:SR E w' sS a):
 qB P g ops rl pairs anc s0 H0 Hs ss vs G0 w0 dl (listed.setIfInBounds j true) p' E c w' (a.put r.dst u) (oM sS r.dst (vs j)):=by
 have N:=(Bf.1 V).1
 have o:∀i,dV (listed.setIfInBounds j true) i=if i=j then true else dV listed i:=Sl I K (by rw[I.size];exact N)
 have s:∀i,(i=j\/dV listed i=true)↔dV (listed.setIfInBounds j true) i=true:=fun i=>by rw[o];by_cases F:i=j<;>simp[F]
 refine⟨by simp[I.size],fun i k h1 Z=>?_,?_,fun i W b d=>?_,f,w,fun i n h1 Z B=>?_,fun id l U=>?_,fun i n h1 Z B h4 G=>?_,ext',y.put r.dst J,fun t=>?_,?_,?_⟩
 . rw[<-s] at h1 ⊢
   rcases h1 with rfl|h1
   . exact .inr (I.yK K Y Z)
   exact .inr (I.closed i k h1 Z)
 . rw[x];split
   . omega
   exact I.ple
 . rw[<-s];by_cases z:r.op.rF=true
   . rw[x,if_pos z];obtain⟨h1,Z⟩:=I.Qi K Y V z;constructor
     . rintro(rfl|h)
       . omega
       have :=(I.pos i W b d).1 h;omega
     intro h;by_cases F:i=j
     . exact .inl F
     refine .inr ((I.pos i W b d).2 (Nat.lt_of_not_le fun m=>?_));have :=Z i W m A0 b;rw[d] at this;cases this
   rw[x,if_neg z];rw[<-I.pos i W b d];constructor
   . rintro(rfl|h)
     . rw[V] at b;cases b;exact absurd d z
     exact h
   exact .inr
 . have :=C i n h1 Z B;exact⟨(s i).1 this.1,this.2⟩
 . rcases D id l U with ⟨i,W,O,X,c3,S⟩|h
   . exact .inl ⟨i,W,O,X,(s i).1 c3,S⟩
   exact .inr h
 . exact A i n h1 Z B ((s i).2 h4) G
 . rw[TG,I.len,I.last t];by_cases L:r.dst=some t/\t<s0.length
   . rw[if_pos L];have v:writes rl s0 t j=true:=(by simp[writes,V,L]);rw[AX (k:=j+1) rl.length A0 (fun i h1 Z=>?_)]
     . simp only[vF,o j,if_true,v,Dx]
     rw[o,if_neg A0]
     cases M:dV listed i with
     |false=>rfl
     |true=>
      cases q:writes rl s0 t i with
      |false=>rfl
      |true=>
       obtain⟨W,b,hd,_⟩:=EN q
       have :anc j i=true:=by
        cases R:anc j i with
        |true=>rfl
        |false=>exact absurd hd ((K.cmp j i r W A0 V b R).2.1 t L.1).2
       have :=I.closed j i M this;rw[Y.not] at this;cases this
   rw[if_neg L];refine sP rl.length (fun i F=>?_);rw[o];by_cases H:i=j
   . subst H
     have :writes rl s0 t i=false:=by simp only[writes,V];simpa using L
     rw[this];simp
   rw[if_neg H]
 . rw[Nq,I.len]
 cases r.dst<;>exact I.dfr
end
end
section
variable{r:eN}
theorem xY(h:r.reads=true):r.rF=false:=by cases r<;>first|rfl|cases h
theorem BV(h:r.reads=true):r.fresh=false:=by cases r<;>first|rfl|cases h
theorem aFl{G:Gh}{w:World}{v:AV}{u:Value}{id:Nat}(h:DO v=some id)(J:VR G w v u):∃l,G.loc id=some l:=by
 cases J<;>simp only[DO] at h<;>first
  |(done)
  |(grind)
theorem YT{ev:Arg->AV}{id:Nat}(h:r.dP ev=some id):∃y∈r.args,DO (ev y)=some id:=by
 cases r<;>simp only[eN.dP] at h<;>first
  |(cases h)
  |exact⟨_,by simp[eN.args],h⟩
theorem SG{ev ev':Arg->AV}(h:∀y∈r.args,ev y=ev' y):r.dP ev=r.dP ev':=by
 cases r<;>simp only[eN.dP]<;>first
  |rfl
  |rw[h _ Zab]
theorem XO{ev:Arg->AV}{z:eS}{val:Nat->AV}(h:BX ev r=some (z,val)):z.live=true:=by
 cases r<;>simp only[BX] at h<;>first
  |(done)
  |(rfl)
  |(repeat' (split at h)
    all_goals first
     |(cases h;done)
     |(obtain⟨rfl,rfl⟩:=Prod.mk.inj (Aa h);rfl))
section
variable {P:Program} {g:bL} {ops:Array Oper} {rl:List bH} {pj:Option Nat} {pairs:List (Nat×Nat)} {anc:Nat->Nat->Bool} {s0:List AV} {H0:aB} {Hs:Nat->aB} {ss:Nat->List AV} {vs:Nat->AV}
variable {G0:Gh} {w0:World} {dl:List Deferred} {listed:Array Bool} {p:Nat} {G:Gh} {HS:aB} {w:World} {a:Act} {sS:List AV}
variable (I:qB P g ops rl pairs anc s0 H0 Hs ss vs G0 w0 dl listed p G HS w a sS) (D:dS P g rl pj pairs s0 H0 Hs ss vs) (K:qE ops rl pairs anc)
include I K D
theorem qB.o4{j e:Nat}(Y:ZC ops listed j)(z:dV listed e=true):anc j e=false:=by
 cases R:anc j e with
 |false=>rfl
 |true=>
  have :=I.closed j e z R
  grind[Y.not]
theorem qB.YC{j e:Nat}(Y:ZC ops listed j)(z:dV listed e=false):anc e j=false:=by
 cases R:anc e j with
 |false=>rfl
 |true=>
  have :=I.yK K Y R
  grind
theorem qB.aJl{e:Nat}{d:bH}(a:rl[e]?=some d)(n:d.op.rF=true)(h:p<=e):dV listed e=false:=by
 cases M:dV listed e with
 |false=>rfl
 |true=>have :=(I.pos e d a n).1 M;omega
theorem qB.z8{j:Nat}{r:bH}(Y:ZC ops listed j)(V:rl[j]?=some r)(L:bW (ss j) r=true){id:Nat}(f:r.op.dP (Arg.eval g (ss j))=some id){l:Loc}(U:G.loc id=some l)
 (a:(Hs j).get id≠none):HS.get id=(Hs j).get id:=by
 have w:=mP f;have c:=(Bf.1 V).1
 rcases I.cont id l U with ⟨i,W,O,Z,B,h4,M,rfl,h⟩|⟨O,Z⟩
 . by_cases H:i<j
   . rw[h];refine(D.sX (p:=i+1) (q:=j) A0 (fun e d q1 q2 q3 q4 q5=>?_) (fun k C q1 q2 q3 q4 q5=>pA O q3 Z q4 A0) j A0 (Ad _)).symm;have y:=I.aJl D K q3 q4 A0;exact Zbr
   exact absurd (D.DY K O Z h4 j A0) a
 rw[Z];by_cases b:p<=j
 . refine(D.sX (p:=p) (q:=j) A0 (fun e d q1 q2 q3 q4 q5=>?_) (fun k C q1 q2 q3 q4 q5=>O k C q1 q3 q4 q5) j b (Ad _)).symm;have y:=I.aJl D K q3 q4 q1;exact Zbr
 refine D.sX (p:=j) (q:=p) I.ple (fun e d q1 q2 q3 q4 q5=>?_) (fun k C q1 q2 q3 q4 q5 z=>?_) p A0 (Ad _)
 . have s:e≠j:=fun z=>by
    grind[xY]
   have hd:=(I.pos e d q3 q4).2 q2;exact D.RM j e ((K.cmp j e r d A0 V q3 (I.o4 D K Y hd)).2.2.2.1 q4 (.inl w)) r d V q3 L q5 _ (.inl f)
 rw[z] at a;exact a (D.DY K q3 q4 q5 j q1)
theorem qB.AW{i:Nat}{W:bH}(F:rl[i]?=some W)(N:W.op.fresh=true){k:Nat}(E:k<=rl.length):kept H0 rl i<(Hs k).next:=by
 have O:=D.zO (p:=0) k (Bh _) E;have Z:=od (rl:=rl) F N;rw[D.h0] at O
 grind
theorem qB.Zf{j:Nat}{r:bH}(Y:ZC ops listed j)(V:rl[j]?=some r)(z:r.op.rF=true):∀id l,G.loc id=some l->
 (∃i W,rl[i]?=some W/\W.op.fresh=true/\dV listed i=true/\bW (ss i) W=true/\j<i/\id=kept H0 rl i/\HS.get id=(Hs (i+1)).get id/\(Hs j).get id=none)\/
 ((∀i W,j<=i->rl[i]?=some W->W.op.fresh=true->bW (ss i) W=true->id≠kept H0 rl i)/\HS.get id=(Hs j).get id):=by
 intro id l U;have g:=(Bf.1 V).1;obtain⟨b,a⟩:=I.Qi K Y V z
 have c:∀{q:Nat},p<=q->∀e d,q<=e->e<j->rl[e]?=some d->d.op.rF=true->bW (ss e) d=true->(Hs e).get id=(Hs (e+1)).get id:=fun f e d q1 q2 q3 q4 q5=>by have :=a e d A0 q2 q3;rw[q4] at this;cases this
 rcases I.cont id l U with ⟨i,W,O,Z,B,h4,M,w,h⟩|⟨O,Z⟩
 . have s:i≠j:=fun X=>by rw[X,Y.not] at B;cases B
   by_cases H:i<j
   . refine .inr ⟨fun k C q1 q2 q3 q4=>?_,?_⟩
     . rw[w];exact pA O q2 Z q3 A0
     rw[h];exact(D.sX (p:=i+1) (q:=j) A0 (c A0) (fun k C q1 q2 q3 q4 q5=>by rw[w];exact pA O q3 Z q4 A0) j A0 (Ad _)).symm
   exact .inl ⟨i,W,O,Z,B,h4,by omega,w,h,by rw[w];exact D.DY K O Z h4 j A0⟩
 refine .inr ⟨fun k C q1 q2 q3 q4=>O k C A0 q2 q3 q4,?_⟩;rw[Z];exact(D.sX (p:=p) (q:=j) A0 (c (Ad _)) (fun k C q1 q2 q3 q4 q5=>O k C q1 q3 q4 q5) j b (Ad _)).symm
theorem qB.Vi{j:Nat}{r:bH}(Y:ZC ops listed j)(V:rl[j]?=some r)(z:r.op.rF=true):WR g G (Hs j) w:=by
 have n:=I.Zf D K Y V z;have f:=(Bf.1 V).1;obtain⟨b,a⟩:=I.Qi K Y V z
 have c:∀{id l o},G.loc id=some l->(Hs j).get id=some o->HS.get id=some o:=fun U S=>by grind
 have k:∀{id l},G.loc id=some l->(Hs j).live id->HS.live id:=fun U ⟨o,S,J⟩=>⟨o,c U S,J⟩
 exact {
  cells:=fun id l cs d O Z=>I.rel.cells id l cs d O (c O Z)
  room:=fun id l O Z=>I.rel.room id l O (Z.imp (fun⟨cs,d,h⟩=>⟨cs,d,c O h⟩) (fun h=>c O h))
  lL:=fun id e l l' s O Z B h4=>I.rel.lL id e l l' s O Z (k O B) (k Z h4)
  kI:=fun id l O Z=>I.rel.kI id l O (k O Z)
  iT:=fun id l o O Z=>I.rel.iT id l o O (c O Z)
  lt:=fun id l O=>by
   have :=I.rel.lt id l O;rw[I.tO] at this
   rwa [D.Tm (p:=p) (q:=j) A0 a j b (Ad _)]
  iE:=I.rel.iE
  jE:=I.rel.jE
  BP:=I.rel.BP
  mo:=I.rel.mo}
theorem qB.xp(j:Nat)(H:aB):∀m,m<=rl.length->∃b:aB,b.next=H.next/\
 (∀i W,i<m->rl[i]?=some W->W.op.fresh=true->dV listed i=true->bW (ss i) W=true->j<i->b.get (kept H0 rl i)=(Hs (i+1)).get (kept H0 rl i))/\
 (∀id,(∀i W,i<m->rl[i]?=some W->W.op.fresh=true->dV listed i=true->bW (ss i) W=true->j<i->id≠kept H0 rl i)->b.get id=H.get id):=by
 intro m
 induction m with
 |zero=>exact fun _=>⟨H,rfl,fun i W h=>absurd h (Am i),fun id _=>rfl⟩
 |succ m K=>
  intro t;obtain⟨b,O,Z,B⟩:=K A0
  obtain⟨rm,a⟩:∃r,rl[m]?=some r:=⟨rl[m]'(by omega),Ai A0⟩
  by_cases R:rm.op.fresh=true/\dV listed m=true/\bW (ss m) rm=true/\j<m
  . obtain⟨I,X,c3,S⟩:=R;obtain⟨z,val,_,_,C⟩:=D.pH a I c3;have P:(Hs (m+1)).get (kept H0 rl m)=some z:=by rw[C,aB.aD,if_pos rfl]
    refine⟨b.set (kept H0 rl m) z,O,fun i W q1 q2 q3 q4 q5 v=>?_,fun id f=>?_⟩
    . rw[aB.aD];by_cases d:i=m
      . subst d;rw[if_pos rfl,P]
      rw[if_neg (pA q2 a q3 I d)];exact Z i W A0 q2 q3 q4 q5 v
    rw[aB.aD,if_neg (f m rm A0 a I X c3 S)];exact B id (fun i W q1=>f i W A0)
  refine⟨b,O,fun i W q1 q2 q3 q4 q5 v=>?_,fun id f=>B id (fun i W q1=>f i W A0)⟩;by_cases d:i=m
  . subst d;rw[a] at q2;cases q2;exact absurd ⟨q3,q4,q5,v⟩ R
  exact Z i W A0 q2 q3 q4 q5 v
theorem qB.MV(JA:∀id l,G0.loc id=some l->id<H0.next){j:Nat}{r:bH}(Y:ZC ops listed j)(V:rl[j]?=some r)(z:r.op.rF=true){G1:Gh}{w1:World}{u:Value}
 (SH:WR g G1 (Hs (j+1)) w1) (T:Ext G (Hs j) w G1 (Hs (j+1)) w1) (J:VR G1 w1 (vs j) u):
 ∃tu,qB P g ops rl pairs anc s0 H0 Hs ss vs G0 w0 dl (listed.setIfInBounds j true) (j+1) G1 tu w1 (a.put r.dst u) (oM sS r.dst (vs j)):=by
 have hA:=I.Zf D K Y V z;have eZ:=(Bf.1 V).1;obtain⟨nf,Ol⟩:=I.Qi K Y V z;obtain⟨tu,n1,n2,n3⟩:=I.xp D K j (Hs (j+1)) rl.length (Ad _)
 let xC:Nat->Prop:=fun id=>∃i W,rl[i]?=some W/\W.op.fresh=true/\dV listed i=true/\bW (ss i) W=true/\j<i/\id=kept H0 rl i
 have a7:∀id,xC id->∃i W,rl[i]?=some W/\W.op.fresh=true/\dV listed i=true/\bW (ss i) W=true/\j<i/\id=kept H0 rl i/\tu.get id=(Hs (i+1)).get id:=fun id ⟨i,W,q1,q2,q3,q4,q5,v⟩=>⟨i,W,q1,q2,q3,q4,q5,v,by rw[v];exact n2 i W (Bf.1 q1).1 q1 q2 q3 q4 q5⟩
 have QD:∀id,¬xC id->tu.get id=(Hs (j+1)).get id:=fun id A=>n3 id (fun i W q0 q1 q2 q3 q4 q5 z=>A ⟨i,W,q1,q2,q3,q4,q5,z⟩)
 have DU:∀{id l},xC id->G1.loc id=some l->G.loc id=some l:=fun {id l} ⟨i,W,q1,q2,q3,q4,q5,v⟩ H=>by
  cases U:G.loc id with
  |none=>have :=T.news id l H U;have Z:=I.AW D K q1 q2 (k:=j) A0;rw[v] at this;omega
  |some l'=>rw[T.loc id l' U] at H;exact H
 have LS:∀{id l},xC id->G.loc id=some l->tu.get id=HS.get id/\(Hs j).get id=none:=fun {id l} f U=>by
  obtain⟨i,W,q1,q2,q3,q4,q5,v,Q⟩:=a7 id f
  rcases hA id l U with ⟨i',aj,p1,p2,p3,p4,p5,p6,p7,p8⟩|⟨O,_⟩
  . have :i=i':=by
     refine Ey fun s=>?_;exact pA q1 p1 q2 p2 s (v.symm.trans p6)
    subst this;exact⟨Q.trans p7.symm,p8⟩
  exact absurd v (O i W A0 q1 q2 q4)
 have LY:∀{d m},G.loc d=some m->(Hs j).live d->HS.live d/\¬xC d:=fun {d m} n ⟨o,ho,J⟩=>by
  rcases hA d m n with ⟨_,_,_,_,_,_,_,_,_,A⟩|⟨O,Z⟩
  . rw[A] at ho;cases ho
  refine⟨⟨o,by rw[Z];exact ho,J⟩,fun f=>?_⟩;have :=(LS f n).2;rw[this] at ho;cases ho
 have Xp:∀{id l},xC id->G.loc id=some l->∀e l',e≠id->G.loc e=some l'->HS.live e->l'.dE≠l.dE:=fun {id l} ⟨i,W,q1,q2,q3,q4,q5,v⟩ U e l' s L R=>by rw[v] at U s;exact I.aMr i W A0 q1 q2 q3 q4 l U e l' s L R
 have yZ:∀{id l},xC id->G.loc id=some l->HS.live id:=fun {id l} f U=>by obtain⟨i,W,q1,q2,q3,q4,q5,v,Q⟩:=a7 id f;obtain⟨ob,val,f1,_,S⟩:=D.pH q1 q2 q4;refine⟨ob,?_,XO f1⟩;rw[<-(LS f U).1,Q,v,S,aB.aD,if_pos rfl]
 have PY:∀{id l},xC id->G.loc id=some l->∀d m,G.loc d=some m->(Hs j).live d->m.dE≠l.dE:=fun f U d m n DN=>by obtain⟨O,Z⟩:=LY n DN;exact Xp f U d m (fun z=>Z (z▸f)) n O
 have ag:∀{id l},xC id->G.loc id=some l->∀e l',G1.loc e=some l'->(Hs (j+1)).live e->l'.dE≠l.dE:=fun f U e l' L R=>by
  have X:=I.rel.mE U (yZ f U)
  rcases T.mV e l' L R with h|⟨d,m,O,Z,B⟩
  . omega
  rw[<-B];exact PY f U d m O Z
 have LH:∀{id l},xC id->G.loc id=some l->w1.heap[l.dE]?=w.heap[l.dE]?:=fun f U=>T.frame _ (I.rel.mE U (yZ f U)) (fun d m O Z=>PY f U d m O Z)
 have FF:∀{id},tu.live id->xC id\/(¬xC id/\(Hs (j+1)).live id):=fun {id} ⟨o,ho,J⟩=>by
  by_cases f:xC id
  . exact .inl f
  exact .inr ⟨f,o,by rw[<-QD id f];exact ho,J⟩
 have Qp:∀{id l},xC id->G1.loc id=some l->∀e l',e≠id->G1.loc e=some l'->tu.live e->l'.dE≠l.dE:=fun {id l} f H e l' s L R=>by
  have U:=DU f H
  rcases FF R with a6|⟨_,R⟩
  . exact Xp f U e l' s (DU a6 L) (yZ a6 (DU a6 L))
  exact ag f U e l' L R
 have t:∀{x y},VR G w x y->VR G1 w1 x y:=fun C=>C.mono T.loc T.iA
 have af:WR g G1 tu w1:={
  cells:=fun id l cs eU O Z=>by
   by_cases f:xC id
   . have U:=DU f O;obtain⟨a1,a2,a3,a4,N⟩:=I.rel.cells id l cs eU U Zb4;refine⟨a1,a2,a3,a4,fun k E=>?_⟩;obtain⟨x,C,ad⟩:=N k E;exact⟨x,by rw[fN (LH f U)];exact C,t ad⟩
   exact SH.cells id l cs eU O Zcd
  room:=fun id l O Z=>by
   by_cases f:xC id
   . have U:=DU f O;obtain⟨c,el,fz,a1,a2,a3⟩:=I.rel.room id l U Zb4;exact⟨c,el,fz,by rw[LH f U];exact a1,a2,fun k E=>by rw[kV (LH f U)];exact a3 k E⟩
   exact SH.room id l O Zcd
  lL:=fun id e l l' s O Z sO q=>by
   by_cases f:xC id
   . exact .inl (Ne.symm (Qp f O e l' (Ne.symm s) Z q))
   by_cases a6:xC e
   . exact .inl (Qp a6 Z id l s O sO)
   rcases FF sO with h|⟨_,sO⟩
   . exact absurd h f
   rcases FF q with h|⟨_,q⟩
   . exact absurd h a6
   exact SH.lL id e l l' s O Z sO q
  kI:=fun id l O sO k E F=>by
   rcases FF sO with f|⟨_,sO⟩
   . have U:=DU f O
     rcases T.pM _ _ F with h|h|⟨d,m,q1,q2,q3⟩
     . exact I.rel.kI id l U (yZ f U) k E h
     . have :=I.rel.mE U (yZ f U);omega
     exact PY f U d m q1 q2 q3
   exact SH.kI id l O sO k E F
  iT:=fun id l o O Z E=>by
   by_cases f:xC id
   . have U:=DU f O;obtain⟨a1,a2,a3⟩:=I.rel.iT id l o U Zb4 E;exact⟨a1,a2,a3.mono (LH f U) fun _ _=>t⟩
   exact SH.iT id l o O Zcd E
  lt:=fun id l O=>by rw[n1];exact SH.lt id l O
  iE:=SH.iE
  jE:=SH.jE
  BP:=SH.BP
  mo:=SH.mo}
 have ext':Ext G0 H0 w0 G1 tu w1:={
  loc:=fun id l h=>T.loc _ _ (I.ext.loc _ _ h)
  iA:=fun b o F=>⟨(T.iA _ _ (I.ext.iA _ _ F).1).1,((T.iA _ _ (I.ext.iA _ _ F).1).2).trans (I.ext.iA _ _ F).2⟩
  size:=Aw I.ext.size T.size
  frame:=fun b X A=>by
   rw[T.frame b (Au X I.ext.size) (fun id l O Z=>?_),I.ext.frame b X A]
   rcases I.ext.mV id l O (LY O Z).1 with h|⟨d,m,q1,q2,q3⟩
   . omega
   rw[<-q3];exact A d m q1 q2
  mV:=fun id l O Z=>by
   have WM:∀{id l},G.loc id=some l->HS.live id->w0.heap.size<=l.dE\/∃d m,G0.loc d=some m/\H0.live d/\m.dE=l.dE:=fun O Z=>I.ext.mV _ _ O Z
   rcases FF Z with f|⟨_,Z⟩
   . have U:=DU f O;exact WM U (yZ f U)
   rcases T.mV id l O Z with h|⟨d,m,q1,q2,q3⟩
   . exact .inl (Aw I.ext.size h)
   rw[<-q3];exact WM q1 (LY q1 q2).1
  pM:=fun b o F=>by
   rcases T.pM b o F with h|h|⟨d,m,q1,q2,q3⟩
   . exact I.ext.pM b o h
   . exact .inr (.inl (Aw I.ext.size h))
   rcases I.ext.mV d m q1 (LY q1 q2).1 with h|⟨ab,l1,p1,p2,p3⟩
   . exact .inr (.inl A0)
   exact .inr (.inr ⟨ab,l1,p1,p2,p3.trans q3⟩)
  next:=by have O:=I.ext.next;rw[I.tO] at O;rw[n1];exact Aw O (D.zO (p:=p) (j+1) A0 A0)
  news:=fun id l O Z=>by
   cases U:G.loc id with
   |none=>have :=T.news id l O U;have B:=I.ext.next;rw[I.tO] at B;exact Aw (Aw B (D.zO (p:=p) j nf A0)) this
   |some l'=>exact I.ext.news id l' U Z
  dead:=fun id l O Z=>by
   have U:=I.ext.loc id l O
   have ae:¬xC id:=fun⟨i,W,q1,q2,q3,q4,q5,v⟩=>by have :=JA id l O;rw[v] at this;unfold kept at this;omega
   rcases FF Z with h|⟨_,Z⟩
   . exact absurd h ae
   exact I.ext.dead id l O (LY U (T.dead id l U Z)).1
  mo:=T.mo.trans I.ext.mo
  same:=I.ext.same.trans (I.ext.mo▸T.same)}
 refine⟨tu,I.next K Y V (p':=j+1) (by rw[if_pos z]) af (by rw[n1]) (fun i W O Z ⟨l,B⟩=>?_) (fun id l H=>?_) (fun i W O Z B h4 M l H e l' s L R=>?_) ext' J (I.wX.ext T)⟩
 . have U:∃l,G.loc (kept H0 rl i)=some l:=by
    cases U:G.loc (kept H0 rl i) with
    |none=>have :=T.news _ l B U;have :=I.AW D K O Z (k:=j) A0;omega
    |some l'=>exact⟨l',rfl⟩
   have :=I.vz i W O Z U;exact⟨.inr this.1,this.2⟩
 . by_cases f:xC id
   . obtain⟨i,W,q1,q2,q3,q4,q5,v,Q⟩:=a7 id f;exact .inl ⟨i,W,q1,q2,.inr q3,q4,by omega,v,Q⟩
   refine .inr ⟨fun i W q1 q2 q3 q4 q5=>f ?_,QD id f⟩
   have U:∃l,G.loc (kept H0 rl i)=some l:=by
    rw[q5] at H
    cases U:G.loc (kept H0 rl i) with
    |none=>have :=T.news _ l H U;have :=I.AW D K q2 q3 (k:=j) A0;omega
    |some l'=>exact⟨l',rfl⟩
   have :=I.vz i W q2 q3 U;exact⟨i,W,q2,q3,this.1,this.2,by omega,q5⟩
 have hd:dV listed i=true:=by
  rcases h4 with rfl|h4
  . omega
  exact h4
 exact Qp ⟨i,W,Z,B,hd,M,by omega,rfl⟩ H e l' s L R
end
end
section
theorem AL{P:Program}{g:bL}{mu:Bool}{ops:Array Oper}:∀(l:List Oper) (rl:List bH),mX P g mu ops l=some rl->
 rl.length=l.length/\∀(i:Nat) (o:Oper),l[i]?=some o->∃r,rl[i]?=some r/\NX P g mu ops o=some r
 |[],rl,h=>by obtain rfl:=Aa h;simp
 |o::l,rl,h=>by
  unfold mX at h;split at h
  . rename_i r W V a;obtain⟨O,Z⟩:=AL l W a
    grind
  grind
theorem WR.pJ{g:bL}{G:Gh}{H H':aB}{w:World}(h:WR g G H w)(d:∀id l,G.loc id=some l->H'.get id=H.get id)(A:H.next<=H'.next):WR g G H' w:=by
 have U:∀{id l},G.loc id=some l->H'.live id->H.live id:=fun O ⟨o,Z,B⟩=>⟨o,by grind,B⟩
 exact {
  cells:=fun id l cs r O Z=>h.cells id l cs r O (by grind)
  room:=fun id l O Z=>h.room id l O (by grind)
  lL:=fun id e l l' s O Z B h4=>h.lL id e l l' s O Z (U O B) (U Z h4)
  kI:=fun id l O Z=>h.kI id l O (U O Z)
  iT:=fun id l o O Z=>h.iT id l o O (by grind)
  lt:=fun id l O=>Au (h.lt id l O) A
  iE:=h.iE
  jE:=h.jE
  BP:=h.BP
  mo:=h.mo}
theorem Ext.pJ{G E:Gh}{H H' j:aB}{w w':World}(h:Ext G H w E H' w')(d:∀id l,E.loc id=some l->j.get id=H'.get id)(A:H'.next<=j.next):Ext G H w E j w':=by
 have U:∀{id l},E.loc id=some l->j.live id->H'.live id:=fun O ⟨o,Z,B⟩=>⟨o,by grind,B⟩
 exact {h with
  mV:=fun id l O Z=>h.mV id l O (U O Z)
  next:=Aw h.next A
  dead:=fun id l O Z=>h.dead id l O (U (h.loc _ _ O) Z)}
theorem WR.drawn{g:bL}{G:Gh}{H:aB}{w:World}(h:WR g G H w)(n:Nat):WR g G H {w with drawn:=n}:=by
 have J:∀{x y},VR G w x y->VR G {w with drawn:=n} x y:=fun C=>C.mono (fun _ _ h=>h) (fun _ _ h=>⟨h,rfl⟩)
 exact {
  cells:=fun id l cs r O Z=>let⟨a,b,c,d,e⟩:=h.cells id l cs r O Z;⟨a,b,c,d,fun j Y=>let⟨u,B,h4⟩:=e j Y;⟨u,B,J h4⟩⟩
  room:=fun id l O Z=>h.room id l O Z
  lL:=h.lL
  kI:=h.kI
  iT:=fun id l o O Z E=>let⟨a,b,c⟩:=h.iT id l o O Z E;⟨a,b,c.mono rfl fun _ _=>J⟩
  lt:=h.lt
  iE:=h.iE
  jE:=fun k cs O=>J (h.jE k cs O)
  BP:=h.BP
  mo:=h.mo}
theorem Ext.drawn(G:Gh)(H:aB)(w:World)(n:Nat)(A:w.drawn<=n):Ext G H w G H {w with drawn:=n} where
 loc:=fun _ _ h=>h
 iA:=fun _ _ h=>⟨h,rfl⟩
 size:=Ad _
 frame:=fun _ _ _=>rfl
 mV:=fun id l h U=>.inr ⟨id,l,h,U,rfl⟩
 pM:=fun _ _ h=>.inl h
 next:=Ad _
 news:=fun _ _ h M=>by grind
 dead:=fun _ _ _ h=>h
 mo:=rfl
 same:=CK.toB (.now (h4:=A)) _
section
variable {P:Program} {g:bL} {mu:Bool} {ops:Array Oper} {rl:List bH} {pj:Option Nat} {pairs:List (Nat×Nat)} {anc:Nat->Nat->Bool} {s0:List AV} {H0:aB} {Hs:Nat->aB} {ss:Nat->List AV} {vs:Nat->AV}
variable {G0:Gh} {w0:World} {dl:List Deferred} {listed:Array Bool} {p:Nat} {G:Gh} {HS:aB} {w:World} {a:Act} {sS:List AV}
theorem qB.quiet(I:qB P g ops rl pairs anc s0 H0 Hs ss vs G0 w0 dl listed p G HS w a sS)(D:dS P g rl pj pairs s0 H0 Hs ss vs)(K:qE ops rl pairs anc)
 {j:Nat} {r:bH} (Y:ZC ops listed j) (V:rl[j]?=some r) (z:r.op.rF=false) (N:r.op.fresh=true->bW (ss j) r=false) {E:Gh} {w':World} {u:Value}
 (L:WR g E HS w') (e:Ext G HS w E HS w') (J:VR E w' (vs j) u):
 qB P g ops rl pairs anc s0 H0 Hs ss vs G0 w0 dl (listed.setIfInBounds j true) p E HS w' (a.put r.dst u) (oM sS r.dst (vs j)):=by
 have b:∀id l,E.loc id=some l->G.loc id=some l:=fun id l U=>by
  cases h:G.loc id with
  |none=>have O:=e.news id l U h;have Z:=L.lt id l U;omega
  |some l'=>rw[e.loc id l' h] at U;omega
 refine I.next K Y V (p':=p) (by grind) L I.tO (fun i n O Z B=>?_) (fun id l U=>?_) (fun i n O Z B h4 M l U d l' s c R=>?_) (I.ext.trans e) J (I.wX.ext e)
 . obtain⟨l,U⟩:=B;have :=I.vz i n O Z ⟨l,b _ _ U⟩
   grind
 . rcases I.cont id l (b _ _ U) with ⟨i,W,q1,q2,q3,q4⟩|h<;>grind
 rcases h4 with rfl|h4
 . grind
 exact I.aMr i n O Z B h4 M l (b _ _ U) d l' s (b _ _ c) R
theorem qB.fresh(I:qB P g ops rl pairs anc s0 H0 Hs ss vs G0 w0 dl listed p G HS w a sS)(D:dS P g rl pj pairs s0 H0 Hs ss vs)(K:qE ops rl pairs anc)
 {j:Nat} {r:bH} (Y:ZC ops listed j) (V:rl[j]?=some r) (N:r.op.fresh=true) (a6:bW (ss j) r=true) {o:Oper} (Om:GM P g o r.op):
 ∃u w' E c,(execOp a.eval o).run P w=.ok (.value u) w'/\
  qB P g ops rl pairs anc s0 H0 Hs ss vs G0 w0 dl (listed.setIfInBounds j true) p E c w' (a.put r.dst u) (oM sS r.dst (vs j)):=by
 have he:=oV N;have eZ:=(Bf.1 V).1;obtain⟨z,val,f1,f2,S⟩:=D.pH V N a6
 have af:BX (Arg.eval g sS) r.op=some (z,val):=by rw[uC (ev':=Arg.eval g (ss j)) (fun y hy=>I.eval_eq K Y V D y hy)];exact f1
 have mz:G.loc (kept H0 rl j)=none:=by
  cases h:G.loc (kept H0 rl j) with
  |none=>rfl
  |some l=>have :=(I.vz j r V N ⟨l,h⟩).1;rw[Y.not] at this;cases this
 have ag:kept H0 rl j<HS.next:=by rw[I.tO];exact I.AW D K V N I.ple
 obtain⟨u,w',E,jZ,M,J⟩:=Om sS a G HS (HS.set (kept H0 rl j) z) w z val (kept H0 rl j) I.rel I.wX af mz (fun m=>by rw[aB.aD]) (Ad _) ag;obtain⟨l0,aj,Nl,A⟩:=M.bRv
 have ae:∀id l,G.loc id=some l->E.loc id=some l:=fun id l U=>by rw[A id (fun X=>by rw[X,mz] at U;cases U)];exact U
 have mZ:∀b q,G.iA b q->E.iA b q/\w'.cell? ⟨b,q,none⟩=w.cell? ⟨b,q,none⟩:=fun b q F=>by refine⟨M.bQj b q F,fN (M.WM b ?_)⟩;obtain⟨v,J⟩:=I.rel.iE b q F;have :=qK J;simpa using this
 have nD:∀{id},id≠kept H0 rl j->(HS.set (kept H0 rl j) z).live id->HS.live id:=fun {id} s ⟨x,O,Z⟩=>⟨x,by rw[aB.aD,if_neg s] at O;exact O,Z⟩;refine⟨u,w',E,HS.set (kept H0 rl j) z,jZ,?_⟩;refine I.next K Y V (p':=p) (by simp[he]) M.rel I.tO (fun i n O Z B=>?_) (fun id l U=>?_) (fun i n O Z B h4 h5 l U lZ l' s L R=>?_) (M.ext I.ext (Ia _ _)) ?_ ?_
 . obtain⟨l,U⟩:=B;by_cases H:i=j
   . subst H;rw[V] at O;cases O;exact⟨.inl rfl,a6⟩
   rw[A _ (pA O V Z N H)] at U;have :=I.vz i n O Z ⟨l,U⟩;exact⟨.inr this.1,this.2⟩
 . by_cases f:id=kept H0 rl j
   . subst f;by_cases nf:p<=j
     . exact .inl ⟨j,r,V,N,.inl rfl,a6,nf,rfl,by rw[S,aB.aD,if_pos rfl,aB.aD,if_pos rfl]⟩
     refine .inr ⟨fun i W q1 q2 q3 q4=>pA V q2 N q3 A0,?_⟩
     have ad:(Hs p).get (kept H0 rl j)=(Hs (j+1)).get (kept H0 rl j):=
      D.sX (p:=j+1) (q:=p) I.ple (fun e d q1 q2 q3 q4 q5=>by
       have hd:=(I.pos e d q3 q4).2 q2
       exact D.RM j e ((K.cmp j e r d A0 V q3 (I.o4 D K Y hd)).2.2.2.1 q4 (.inr N)) r d V q3 a6 q5 _ (.inr ⟨N,rfl⟩)) (fun k C q1 q2 q3 q4 q5=>pA V q3 N q4 A0) p A0 (Ad _)
     rw[ad,S,aB.aD,if_pos rfl,aB.aD,if_pos rfl]
   rw[A id f] at U;have yW:(HS.set (kept H0 rl j) z).get id=HS.get id:=(by rw[aB.aD,if_neg f]);rw[yW]
   rcases I.cont id l U with ⟨i,W,q1,q2,q3,q4⟩|h
   . exact .inl ⟨i,W,q1,q2,.inr q3,q4⟩
   exact .inr h
 . by_cases H:i=j
   . subst H;rw[Nl] at U;cases U;rw[A lZ s] at L;have :=I.rel.mE L (nD s R);omega
   have ab:=pA (H0:=H0) Z V B N H
   have hd:dV listed i=true:=by
    rcases h4 with h|h
    . exact absurd h H
    exact h
   rw[A _ ab] at U;by_cases f:lZ=kept H0 rl j
   . subst f;rw[Nl] at L;cases L
     have T:HS.live (kept H0 rl i):=by
      rcases I.cont _ l U with ⟨i',ak,q1,q2,q3,q4,q5,q6,Q⟩|⟨q1,_⟩
      . have :i=i':=by
         refine Ey fun hn=>?_;exact pA Z q1 B q2 hn q6
        subst this;obtain⟨a7,an,g1,_,g3⟩:=D.pH Z B h5;refine⟨a7,?_,XO g1⟩;rw[Q,g3,aB.aD,if_pos rfl]
      exact absurd rfl (q1 i n O Z B h5)
     have :=I.rel.mE U T;omega
   rw[A _ f] at L;exact I.aMr i n O Z B hd h5 l U lZ l' s L (nD f R)
 . rw[f2];exact J
 exact⟨I.wX.1,fun t ht=>(I.wX.2 t ht).mono ae mZ⟩
theorem qB.done(I:qB P g ops rl pairs anc s0 H0 Hs ss vs G0 w0 dl listed p G HS w a sS)(D:dS P g rl pj pairs s0 H0 Hs ss vs)(K:qE ops rl pairs anc)
 (y:∀i,i<rl.length->dV listed i=true) {ds:List gW} (hd:UE G0 w0 ds dl) {Q:AQ} (N:Q .normal (ss rl.length) ds (Hs rl.length)):QR g G0 H0 w0 Q .normal a w:=by
 have j:∀e d,p<=e->e<rl.length->rl[e]?=some d->d.op.rF=false:=fun e d O Z B=>by
  cases n:d.op.rF with
  |false=>rfl
  |true=>have :=(I.pos e d B n).1 (y e Z);omega
 have c:∀id l,G.loc id=some l->(Hs rl.length).get id=HS.get id:=fun id l U=>by
  rcases I.cont id l U with ⟨i,W,q1,q2,q3,q4,q5,v,f⟩|⟨q1,q2⟩
  . have F:=(Bf.1 q1).1;rw[f]
    exact D.sX (p:=i+1) (q:=rl.length) (Ad _) (fun e d b X c3 S Y=>by grind)
     (fun k C b X c3 S Y=>by rw[v];exact pA q1 c3 q2 S A0) rl.length A0 (Ad _)
  rw[q2]
  exact D.sX (p:=p) (q:=rl.length) (Ad _) (fun e d b X c3 S Y=>by grind)
   (fun k C b X c3 S Y=>q1 k C b c3 S Y) rl.length I.ple (Ad _)
 have V:HS.next<=(Hs rl.length).next:=by rw[I.tO];exact D.zO rl.length I.ple (Ad _)
 have M:sS=ss rl.length:=by
  have H:=D.zC rl.length (Ad _);refine Gd fun t=>?_;by_cases h:t<s0.length
  . have O:=I.last t;rw[sP (S':=fun _=>true) rl.length (fun i F=>by grind),<-D.MB t rl.length (Ad _)] at O;have T:t<sS.length:=by grind[I.len]
    grind
  rw[Cr (by grind[I.len]),Cr A0]
 refine⟨.normal,ss rl.length,ds,Hs rl.length,G,N,I.rel.pJ c V,I.ext.pJ c V,?_,?_,trivial⟩
 . rw[<-M];exact I.wX
 rw[I.dfr];exact hd.ext I.ext
theorem NF{i:Nat}(M:listed.size=ops.size):i∈Region.ready .any ops listed↔ZC ops listed i:=by
 have c:∀k,k<ops.size->listed.getD k true=dV listed k:=fun k E=>by grind[dV]
 unfold Region.ready;simp only[Fs,Bb,Ak,Ct];constructor
 . rintro⟨O,Z,B⟩;refine⟨O,by grind,fun o S e z X=>?_⟩
   have h4:(!Region.binds .any e||listed.getD e.on false)=true:=by grind[Array.all_eq_true_iff_forall_mem]
   grind
 rintro⟨O,Z,B⟩
 grind[dV]
theorem Qj(M:listed.size=ops.size)(K:qE ops rl pairs anc)(h:Region.ready .any ops listed=[]):∀i,i<ops.size->dV listed i=true:=by
 intro i
 induction i using Nat.strongRecOn with
 |_ i a=>
  intro F
  cases hd:dV listed i with
  |true=>rfl
  |false=>
   have :i∈Region.ready .any ops listed:=(NF M).2 ⟨F,hd,fun o S e z X=>by
    have O:=K.aRf i o S e z X
    grind⟩
   grind
def todo(listed:Array Bool)(n:Nat):Nat:=(List.range n).countP fun i=> !dV listed i
theorem KM{p q:Nat->Bool}:∀(l:List Nat) (j:Nat),j∈l->(∀i∈l,q i=true->p i=true)->p j=true->q j=false->l.countP q<l.countP p
 |[],j,h,_,_,_=>by grind
 |x::l,j,h,hpq,hp,hq=>by
  have m:l.countP q<=l.countP p:=List.countP_mono_left fun i F=>hpq i (Ax _ F)
  rcases Ba.1 h with rfl|h
  . grind
  have :=KM l j h (fun i F=>hpq i (Ax _ F)) hp hq
  grind
theorem aJj{j n:Nat}(Y:dV listed j=false)(r:j<n)(M:listed.size=n):todo (listed.setIfInBounds j true) n<todo listed n:=by
 have o:∀i,dV (listed.setIfInBounds j true) i=if i=j then true else dV listed i:=fun i=>by
  unfold dV;rw[Cp,Cp,Array.getElem?_setIfInBounds]
  grind
 refine KM _ j (Bb.2 r) (fun i _ h=>?_) (by grind) (by grind)
 grind
theorem Ext.pre{G E:Gh}{H H1 H':aB}{w w':World}(h:Ext G H1 w E H' w')(U:∀id l,G.loc id=some l->H1.live id->H.live id)(A:H.next<=H1.next):Ext G H w E H' w':=
 {h with
  frame:=fun b X N=>h.frame b X fun id l q1 q2=>N id l q1 (U id l q1 q2)
  mV:=fun id l q1 q2=>(h.mV id l q1 q2).imp (fun x=>x) fun⟨a,b,c,d,e⟩=>⟨a,b,c,U _ _ c d,e⟩
  pM:=fun b o q=>(h.pM b o q).imp (fun x=>x) fun q=>q.imp (fun x=>x) fun⟨a,b,c,d,e⟩=>⟨a,b,c,U _ _ c d,e⟩
  next:=Aw A h.next
  news:=fun id l q1 q2=>Aw A (h.news id l q1 q2)
  dead:=fun id l q1 q2=>U _ _ q1 (h.dead id l q1 q2)}
theorem JD{S:Nat->Bool}{t:Nat}(W:∀(i:Nat) (q:bH),rl[i]?=some q->q.dst≠some t):∀m,vF S rl s0 vs t m=s0.getD t aC
 |0=>rfl
 |m+1=>by
  have L:writes rl s0 t m=false:=by grind[writes]
  simp only[vF,L,Bool.and_false,Br,Db];exact JD W m
theorem dS.Yk(D:dS P g rl pj pairs s0 H0 Hs ss vs){t:Nat}(W:∀(i:Nat) (q:bH),rl[i]?=some q->q.dst≠some t){j:Nat}(Y:j<=rl.length):(ss j).getD t aC=s0.getD t aC:=by rw[D.MB t j Y,JD W]
def aQw(P:Program)(g:bL)(rl:List bH)(anc:Nat->Nat->Bool)(Hs:Nat->aB)(ss:Nat->List AV)(E:AV->List AV->aB->Prop)(j:Nat):Prop:=
 (∀k,k<rl.length->k<j->anc k j=true)/\
 ∃r f X p x H1,rl[j]?=some r/\r.op=.call f X/\bW (ss j) r=true/\nB (f.eval g (ss j))=some p/\
  Sound P g p.1 (p.2.1++X.map (Arg.eval g (ss j))++p.2.2) (Hs j) (.Lo x) H1/\∀l,l.length=(ss j).length->(∀t,(∀(i:Nat) (q:bH),rl[i]?=some q->q.dst≠some t)->l.getD t aC=(ss j).getD t aC)->((∀k,k<rl.length->j<k->anc j k=true)->l=ss j)->E x l H1
theorem qB.aIv(I:qB P g ops rl pairs anc s0 H0 Hs ss vs G0 w0 dl listed p G HS w a sS)(D:dS P g rl pj pairs s0 H0 Hs ss vs)(K:qE ops rl pairs anc)
 {j:Nat} (Y:ZC ops listed j) (r:j<rl.length) (R:∀k,k<rl.length->(k<j->anc k j=true)/\(j<k->anc j k=true)):sS=ss j:=by
 have O:∀k,k<j->dV listed k=true:=fun k E=>I.yK K Y ((R k A0).1 E)
 have Z:∀k,j<=k->k<rl.length->dV listed k=false:=fun k E x=>by
  by_cases z:k=j
  . rw[z];exact Y.not
  cases hd:dV listed k with
  |false=>rfl
  |true=>
   have :=I.closed j k hd ((R k x).2 A0)
   grind[Y.not]
 have H:=D.zC j A0;refine Gd fun t=>?_;by_cases W:t<s0.length
 . have B:=I.last t;rw[AX (k:=j) rl.length A0 (fun i q1 q2=>by grind),sP (S':=fun _=>true) j (fun i F=>by grind),<-D.MB t j A0] at B;have T:t<sS.length:=by grind[I.len]
   grind
 rw[Cr (by grind[I.len]),Cr A0]
theorem ai{ro:Option Nat}{b:List bH}(R:mX P g mu ops ops.toList=some b)(Nl:b.length=rl.length)(Re:∀i r,b[i]?=some r->(∀j,pj=some j->anc j i=false)->rl[i]?=some r)(D:dS P g rl pj pairs s0 H0 Hs ss vs)(K:qE ops rl pairs anc)(M:∀id l,G0.loc id=some l->id<H0.next)
 {ds:List gW} (hd:UE G0 w0 ds dl) {Q:AQ} (hQ:pj=none->Q .normal (ss rl.length) ds (Hs rl.length)) (hP:∀j,pj=some j->aQw P g rl anc Hs ss (fun x s H=>Q (.panic x) s ds H) j):
 ∀(L:Nat) (listed:Array Bool) (p:Nat) (G:Gh) (HS:aB) (w:World) (a:Act) (sS:List AV),todo listed rl.length<=L->
  qB P g ops rl pairs anc s0 H0 Hs ss vs G0 w0 dl listed p G HS w a sS->(∀k,pj=some k->dV listed k=false)->wpAnyIn (Fw ro) 0 P .any ops (QR g G0 H0 w0 Q) L listed a w:=by
 obtain⟨ag,dB⟩:=AL _ _ R;have A:rl.length=ops.size:=by rw[<-Nl];simpa using ag
 have C:∀{listed:Array Bool},(∀i,i<rl.length->dV listed i=true)->(∀k,pj=some k->dV listed k=false)->pj=none:=fun {listed} O Z=>by
  cases nf:pj with
  |none=>rfl
  |some k=>obtain⟨_,r,_,_,_,_,_,T,_⟩:=hP k nf;have :=O k (Bf.1 T).1;rw[Z k nf] at this;cases this
 intro L
 induction L with
 |zero=>
  intro listed p G HS w a sS W I a7
  have iO:∀i,i<rl.length->dV listed i=true:=fun i F=>by have h0:todo listed rl.length=0:=A0;unfold todo at h0;rw[List.countP_eq_zero] at h0;have :=h0 i (Bb.2 F);simpa using this
  refine⟨?_,I.done D K iO hd (hQ (C iO a7))⟩;refine Fc.2 fun i F=>?_;have :=(NF (by rw[I.size,A])).1 F;have Z:=iO i (by rw[A];exact this.lt);rw[this.not] at Z;cases Z
 |succ L ih=>
  intro listed p G HS w a sS W I a7;have Xh:listed.size=ops.size:=by rw[I.size,A]
  refine⟨fun hn=>I.done D K (fun i F=>Qj Xh K hn i A0) hd (hQ (C (fun i F=>Qj Xh K hn i A0) a7)),fun j ay=>?_⟩;have Y:=(NF Xh).1 ay
  obtain⟨o,S⟩:∃o,ops[j]?=some o:=⟨ops[j]'Y.lt,by simp[Y.lt]⟩
  obtain⟨r,ar,ak⟩:=dB j o (by simpa using S)
  have V:rl[j]?=some r:=Re j r ar fun k E=>by
   cases hd:anc k j with
   |false=>rfl
   |true=>have :=I.yK K Y hd;rw[a7 k E] at this;cases this
  obtain⟨GD,uY,_⟩:=IM ak;have TO:j<rl.length:=by rw[A];exact Y.lt
  have TS:todo (listed.setIfInBounds j true) rl.length<=L:=by have :=aJj (n:=rl.length) Y.not TO I.size;omega
  have ab:pj≠some j->∀k,pj=some k->dV (listed.setIfInBounds j true) k=false:=fun cU k E=>by rw[Sl I K (by rw[I.size];exact TO),if_neg (fun z=>cU (by rw[E,z]))];exact a7 k E
  have GU:pj=some j->(∃f X,r.op=.call f X)/\bW (ss j) r=true:=fun h=>by obtain⟨_,r',f,X,_,_,_,T,e2,e3,_⟩:=hP j h;rw[V] at T;cases T;exact⟨⟨f,X,e2⟩,e3⟩
  have nm:=RW ak I.wX;rw[I.aBd K Y V D] at nm;have B:=(D.step j r V).1;unfold wpOpIn;simp only[S];rw[nm];unfold DStep at B;by_cases cj:bW (ss j) r=true
  . rw[if_pos cj] at B ⊢;by_cases N:r.op.fresh=true
    . obtain⟨u,w',G',aF,jZ,I'⟩:=I.fresh D K Y V N cj (aMd uY N);refine⟨fun _ _=>trivial,?_⟩;rw[show o.semAt (Fw ro).round a.eval=execOp a.eval o from Oper.semAt_eq _ _ _ (AK uY fun f X e=>by rw[e] at N;cases N),jZ];rw[GD] at I'
      exact ih _ _ _ _ _ _ _ TS I' (ab fun h=>by
       obtain⟨⟨f,X,e⟩,_⟩:=GU h;rw[e] at N
       cases N)
    rw[if_neg N] at B;have MJ:r.op.fresh=false:=(by simpa using N);split at B
    . rename_i f X gZ;have z:r.op.rF=true:=(by rw[gZ];rfl);have af:=I.eval_eq K Y V D;rw[gZ] at uY af;obtain⟨c,f0,T,e2,e3,e4⟩:=Ws uY;have aj:f.eval g sS=f.eval g (ss j):=af f Zab;have an:X.map (Arg.eval g sS)=X.map (Arg.eval g (ss j)):=Dk fun y hy=>af y (by simp[eN.args,hy]);by_cases ad:pj=some j
      . obtain⟨az,r',f',Ze,q,x,H1,b1,b2,b3,b4,hS,hq⟩:=hP j ad;rw[V] at b1;cases b1;rw[gZ] at b2;cases b2;refine WB T e2 e3 e4 (I.Vi D K Y V z) I.wX (by rw[aj,an];exact .inl ⟨q,b4,hS⟩) (fun v J=>by cases J) (fun v J u w' G' oH Rb m=>?_);cases J;have hs:(∀k,k<rl.length->j<k->anc j k=true)->sS=ss j:=fun h=>I.aIv D K Y TO fun k E=>⟨az k E,h k E⟩;have hq:=hq sS (by rw[I.len,D.zC j A0]) (fun t W=>by rw[I.last t,JD W,D.Yk W A0]) hs
        have ex:=I.ext.trans (Rb.pre (fun id l O Z=>by
         rcases I.Zf D K Y V z id l O with ⟨_,_,_,_,_,_,_,_,_,hn⟩|⟨_,h⟩
         . obtain⟨o,S,_⟩:=Z;rw[hn] at S;cases S
         obtain⟨o,S,J⟩:=Z;exact⟨o,h.trans S,J⟩) (by rw[I.tO];exact D.zO j (I.Qi K Y V z).1 A0))
        exact⟨.panic x,sS,ds,H1,G',hq,oH,ex,I.wX.ext Rb,by rw[I.dfr];exact hd.ext ex,u,rfl,m⟩
      rw[if_neg (by simpa using ad)] at B;obtain⟨q,hq,hS⟩:=B;refine WB T e2 e3 e4 (I.Vi D K Y V z) I.wX (by rw[aj,an];exact .inl ⟨q,hq,hS⟩) (fun v J u w' G' oH Rb m=>?_) (fun v J=>by cases J);cases J;obtain⟨tu,I'⟩:=I.MV D K M Y V z oH Rb m;rw[GD] at I';exact ih _ _ _ _ _ _ _ TS I' (ab ad)
    . exact B.elim
    . exact B.elim
    rename_i n1 n2 n3;have cU:=ab fun h=>by obtain⟨⟨f,X,e⟩,_⟩:=GU h;exact n1 f X e
    have d:r.op.plain=true:=by cases QE:r.op<;>first|rfl|exact absurd QE (n1 _ _)|exact absurd QE (n2 _)|exact absurd QE (n3 _ _)|(rw[QE] at B;cases B)
    have aq:dU (Arg.eval g sS) (Hs j) r.op=some (vs j,Hs (j+1)):=by rw[ui (Hs j) (ev':=Arg.eval g (ss j)) (fun y hy=>I.eval_eq K Y V D y hy)];exact B
    by_cases z:r.op.rF=true
    . refine RX (Zo uY d) (AK uY n3) (I.Vi D K Y V z) I.wX aq (fun u w' G' oH Rb m=>?_);obtain⟨tu,I'⟩:=I.MV D K M Y V z oH Rb m;exact Za3
    have AD:r.op.rF=false:=by simpa using z
    have hq:=MW (H1:=HS) AD MJ aq (fun id ae=>by
     have LJ:r.op.dP (Arg.eval g (ss j))=some id:=by rw[<-SG (ev:=Arg.eval g sS) (fun y hy=>I.eval_eq K Y V D y hy)];exact ae
     obtain⟨y,hy,a6⟩:=YT ae
     have tV:∃l,G.loc id=some l:=by
      cases y with
      |tmp t=>exact aFl a6 (I.wX.getD t)
      |const v=>have :=K.lits j r V (mP ae) v hy;rw[Arg.eval,this] at a6;cases a6
      |jE n=>simp only[Arg.eval] at a6;split at a6<;>cases a6
     obtain⟨l,U⟩:=tV
     exact I.z8 D K Y V cj LJ U (PV B LJ))
    refine RX (Zo uY d) (AK uY n3) I.rel I.wX hq.2 (fun u w' G' oH Rb m=>?_);have I':=I.quiet D K Y V AD (fun h=>by rw[MJ] at h;cases h) oH Rb m;exact Za3
  rw[if_neg cj] at B ⊢;refine⟨fun _ _=>trivial,?_⟩;obtain⟨J,hH⟩:=B;have cU:=ab fun h=>absurd (GU h).2 cj;have aA:bW (ss j) r=false:=by simpa using cj
  by_cases z:r.op.rF=true
  . have aE:=I.Vi D K Y V z;obtain⟨tu,I'⟩:=I.MV D K M Y V z (G1:=G) (w1:=w) (u:=undef) (by rw[hH];exact aE) (by rw[hH];exact Ext.refl G (Hs j) w) (by rw[J];exact VR.oQ G w);exact Za3
  have I':=I.quiet D K Y V ZbK (fun _=>aA) (u:=undef) I.rel (Ext.refl G HS w) (by rw[J];exact VR.oQ G w);exact Za3
theorem IP{ro:Option Nat}{id:Nat}{b:List bH}(p:P.follows .mixedOrders=true)(R:mX P g mu ops ops.toList=some b)(n:b.length=rl.length)(u:∀i r,b[i]?=some r->(∀j,pj=some j->anc j i=false)->rl[i]?=some r)(D:dS P g rl pj pairs s0 H0 Hs ss vs)(K:qE ops rl pairs anc)
 (L:WR g G0 H0 w0) (M:SR G0 w0 s0 a) {ds:List gW} (hd:UE G0 w0 ds a.defers) {Q:AQ} (N:pj=none->Q .normal (ss rl.length) ds (Hs rl.length)) (o:∀j,pj=some j->aQw P g rl anc Hs ss (fun x s H=>Q (.panic x) s ds H) j):
 (Code.region id ops true).wpIn (Fw ro) 0 P (QR g G0 H0 w0 Q) a w0:=by
 refine wpIn_region_any p ?_;obtain⟨f,c⟩:=AL _ _ R;have A:rl.length=ops.size:=by grind
 have q:∀id,(Hs 0).get id=H0.get id:=fun id=>by rw[D.h0];rfl
 have y:H0.next<=(Hs 0).next:=by simp[D.h0]
 have d:∀i,dV (Array.replicate ops.size false) i=false:=fun i=>by
  unfold dV;rw[Cp,Array.getElem?_replicate]
  grind
 have e:∀i r,rl[i]?=some r->∀l,G0.loc (kept H0 rl i)=some l->False:=fun i r V l U=>by
  have :=L.lt _ _ U
  grind
 have T:UE G0 w0 ds a.defers:=hd;refine ai (pairs:=pairs) (anc:=anc) (G0:=G0) (w0:=w0) (dl:=a.defers) R n u D K L.lt hd N o ops.size (Array.replicate ops.size false) 0 G0 (Hs 0) {w0 with drawn:=w0.drawn+1} a s0 ?_ ?_ fun k _=>d k
 . simp_all[todo]
 exact {
  size:=by grind
  closed:=fun i j h=>by grind
  ple:=Bh _
  pos:=fun i r O Z=>by grind
  rel:=(L.drawn _).pJ (fun id l _=>q id) y
  tO:=rfl
  vz:=fun i r O Z ⟨l,B⟩=>(e i r O l B).elim
  cont:=fun id l U=>.inr ⟨fun i r O Z B h4 z=>by grind,rfl⟩
  aMr:=fun i r O Z B h4=>by grind
  ext:=(Ext.drawn G0 H0 w0 _ (Ia _ _)).pJ (fun id l _=>q id) y
  wX:=M.ext (Ext.drawn G0 H0 w0 _ (Ia _ _))
  last:=fun t=>by
   have :∀m,vF (dV (Array.replicate ops.size false)) rl s0 vs t m=s0.getD t aC:=fun m=>by
    induction m with
    |zero=>rfl
    |succ m v=>grind[vF]
   grind
  len:=rfl
  dfr:=rfl}
end
end
end Go.Av
