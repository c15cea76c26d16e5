/-
  Parts of the proof of statement 4: AvDefer, AvRunF
-/
import Derived.Test.YtjiignefffdelaaGreatDoorA14
import Derived.Recover
set_option linter.unusedVariables false
set_option linter.unusedSimpArgs false
set_option linter.unusedSectionVars false
namespace Go.Av
open Go
def ModeR (G:Gh) (w:World):Option AV→FrameMode→Prop
 |none,m=>m=.returning
 |some v,m=>∃x,m=.panicking [{v:=x,recovered:=false}]∧VR G w v x
def SoundD (P:Program) (g:Genv) (f:FuncId) (args:List AV) (md:Option AV) (H H':Heap):Prop:=
 FnOK P f∧∀(G:Gh) (w:World) (vs:List Value) (u:FrameMode),WR g G H w→VRs G w args vs→ModeR G w md u→
  CallsDIn Fence.wide 0 P f vs.toArray u w fun e u' w'=>(∃x,e=.returned x)∧settle u'=.returning∧∃G',WR g G' H' w'∧Ext G H w G' H' w'
def ADs (P:Program) (g:Genv):List Dfr→Heap→(Heap→Prop)→Prop
 |[],H,Q=>Q H
 |.call f azs::ds,H,Q=>∃H1,SoundD P g f azs none H H1∧ADs P g ds H1 Q
 |.mark id::ds,H,Q=>H.get id=some .dfd∧ADs P g ds (H.set id .dfx) Q
def retQD (P:Program) (g:Genv) (F:AFn) (R:Out→Heap→Prop):AQ
 |.normal,s,ds,H|.ret,s,ds,H=>ADs P g ds H fun H1=>∃vs,resAs s H1 F.results=some vs∧R (.ret (retA vs)) H1
 |.panic v,s,ds,H=>match ds with
  |[]=>R (.pan v) H
  |.mark _::_=>False
  |.call f azs::ds=>∃H1,SoundD P g f azs (some v) H H1∧ADs P g ds H1 fun H2=>∃vs,resAs s H2 F.results=some vs∧R (.ret (retA vs)) H2
 |.exit _,_,_,_=>False
theorem gX {P:Program} {g:Genv} {fn:Func} {tmps:Array Value} {R:Ending→World→Prop} {Q:Heap→Prop}:∀(ds:List Dfr) (l:List Deferred) (G:Gh) (H:Heap) (w:World),
 ADs P g ds H Q→WR g G H w→DsR G w ds l→
 (∀G' H' w',Q H'→WR g G' H' w'→Ext G H w G' H' w'→∃v,(results fn tmps).run P w'=.ok v w'∧R (.returned v) w')→LeavesInM Fence.wide 0 P fn tmps R l .returning w
 |[],[],G,H,w,h,hw,hd,hR=>hR G H w h hw (Ext.refl G H w)
 |[],d::l,G,H,w,h,hw,hd,hR=>hd.elim
 |.call _ _::ds,[],G,H,w,h,hw,hd,hR=>hd.elim
 |.mark _::ds,[],G,H,w,h,hw,hd,hR=>hd.elim
 |.call f azs::ds,d::l,G,H,w,h,hw,hd,hR=>by
  obtain⟨H1,hS,hA⟩:=h;obtain⟨⟨cap,ht,hv⟩,hd'⟩:=hd;refine⟨by simp,.inr ⟨lR,.func f,cap.toArray,f,d.args++cap.toArray,ht,by rw[ht];exact eO hS.1 _ _ _,fun _ _=>trivial,?_⟩⟩;have hc:=hS.2 G w _ .returning hw hv rfl;rw[show(d.args.toList++cap).toArray=d.args++cap.toArray by apply Array.ext';simp] at hc;refine hc.mono fun e u' w' he=>?_;obtain⟨⟨x,rfl⟩,hu,G',hw',hext⟩:=he;show LeavesInM Fence.wide 0 P fn tmps R l (settle u') w';rw[hu];exact gX ds l G' H1 w' hA hw' (hd'.ext hext) fun G2 H2 w2 hq hw2 he2=>hR G2 H2 w2 hq hw2 (hext.trans he2)
 |.mark id::ds,d::l,G,H,w,h,hw,hd,hR=>by
  obtain⟨hg,hA⟩:=h;obtain⟨⟨lc,hl,ht⟩,hd'⟩:=hd;obtain⟨_,_,hb⟩:=hw.mapr id lc _ hl hg rfl;have htk:=run_takeDeferred (P:=P) hb;obtain⟨q1,q2⟩:=hw.oM (o':=.dfx) (x:=.deferred none) (w':=w.putObj lc.blk (.deferred none)) hl hg rfl rfl rfl .now (fun _ hs=>hs);exact⟨by simp,.inl ⟨lc.blk,_,ht,htk,gX ds l G _ _ hA q1 (hd'.ext q2) fun G2 H2 w2 hq hw2 he2=>hR G2 H2 w2 hq hw2 (q2.trans he2)⟩⟩
theorem fA {P:Program} {g:Genv} {mu:Bool} (hm:Fit P g) {f:FuncId} {F:AFn} (hF:FnIs P g mu f F) {args:List AV} {H H':Heap} {out:Out}
 (h:AC P g F.body (startS F args) [] H (retQD P g F fun o h=>o=out∧h=H')):Sound P g f args H out H':=by
 refine⟨hF.ok,fun G w vs hw hv=>?_⟩;obtain⟨fn,c,h1,h2,_,h3,h4,h5⟩:=hF;refine callsIn_wide.1 (callsIn_of_wp_marks (n:=0) h1 h2 trivial (wpIn_mono (lA hm c none F.body h3 (.inl rfl) _ [] G H w _ _ h hw ?_ trivial) fun e a w' hq=>?_))
 · have hlen:=hv.1
   show VRs G w _ _;simp only[startS,Array.toList_append,Array.toList_replicate,List.size_toArray,hlen,h4];refine hv.append ⟨by simp,fun j hj=>?_⟩;simp only[List.length_replicate] at hj;simp only[List.getD_eq_getElem?_getD,List.getElem?_replicate,hj,if_true,Option.getD_some];exact VR.eH G w
 · obtain⟨ae,s',ds',H1,G',q,hw',he,hs',hd',hx⟩:=hq
   have fin:∀(G2:Gh) (H2:Heap) (w2:World),(∃vs,resAs s' H2 F.results=some vs∧(Out.ret (retA vs)=out∧H2=H'))→WR g G2 H2 w2→Ext G' H1 w' G2 H2 w2→
    ∃v,(results fn a.tmps).run P w2=.ok v w2∧(fun(e:Ending) w'=>∃G',WR g G' H' w'∧Ext G H w G' H' w'∧OutR G' w' out e) (.returned v) w2:=by
    rintro G2 H2 w2 ⟨vs',hvs,rfl,rfl⟩ hw2 he2;obtain⟨u,hu,hvu⟩:=sI hw2 (hs'.ext he2) h5 hvs;exact⟨u,hu,G2,hw2,he.trans he2,hvu⟩
   cases ae with
   |normal=>
    cases e with
    |normal=>exact gX ds' a.defers G' H1 w' q hw' hd' fin
    |_=>exact hx.elim
   |ret=>
    cases e with
    |ret=>exact gX ds' a.defers G' H1 w' q hw' hd' fin
    |_=>exact hx.elim
   |exit id=>exact q.elim
   |panic v=>
    cases e with
    |panic ch=>
     obtain⟨x,rfl,hvx⟩:=hx
     cases hds:ds' with
     |nil=>
      subst hds
      cases hda:a.defers with
      |nil=>
       obtain⟨rfl,rfl⟩:=q;show LeavesInM Fence.wide 0 P fn a.tmps _ a.defers _ w';rw[hda];exact⟨G',hw',he,x,rfl,hvx⟩
      |cons d r=>rw[hda] at hd';exact hd'.elim
     |cons d ds=>
      subst hds
      cases d with
      |mark _=>exact q.elim
      |call f0 azs=>
      cases hda:a.defers with
      |nil=>rw[hda] at hd';exact hd'.elim
      |cons d0 l=>
       rw[hda] at hd';obtain⟨⟨cap,ht,hv0⟩,hdr⟩:=hd';obtain⟨H2,hS,hA⟩:=q;show LeavesInM Fence.wide 0 P fn a.tmps _ a.defers _ w';rw[hda];refine⟨by simp,.inr ⟨lR,.func f0,cap.toArray,f0,d0.args++cap.toArray,ht,by rw[ht];exact eO hS.1 _ _ _,fun _ _=>trivial,?_⟩⟩;have hc:=hS.2 G' w' _ (.panicking [{v:=x,recovered:=false}]) hw' hv0 ⟨x,rfl,hvx⟩;rw[show(d0.args.toList++cap).toArray=d0.args++cap.toArray by apply Array.ext';simp] at hc;refine hc.mono fun e u' w2 he2=>?_;obtain⟨⟨y,rfl⟩,hu,G2,hw2,hext⟩:=he2;show LeavesInM Fence.wide 0 P fn a.tmps _ l (settle u') w2;rw[hu];exact gX ds l G2 H2 w2 hA hw2 (hdr.ext hext) fun G3 H3 w3 hq hw3 he3=>fin G3 H3 w3 hq hw3 (hext.trans he3)
    |_=>exact hx.elim
def acodeR (P:Program) (g:Genv) (mu:Bool):Code→Option (Option Nat×List ROper×ACode)
 |.seq (.region _ ops false) rest=>
  match ops.toList with
  |o::l=>match o.op,o.guard,copers P g mu ops l,acode P g mu rest with
   |.call c,none,some rl,some ac=>match c.callee,c.args.toList with
    |.builtin .recover,[]=>some (o.dst,rl,ac)
    |_,_=>none
   |_,_,_,_=>none
  |[]=>none
 |_=>none
theorem aEa {P:Program} {id:Nat} {ops:Array Oper} {o:Oper} {Q:Exit→Act→List Frame→World→Prop} {a:Act} {cs cs':List Frame} {w:World} {v:Value} (ho:ops[0]?=some o) (hg:o.guard=none)
 (hrec:∀a w,(execOp (Act.eval a) o).run P w=.ok .recover w) (hv:(recoverD cs=some (v,cs'))∨(recoverD cs=none∧v=.nilIface∧cs'=cs))
 (h:wpOpsIn Fence.wide 0 P ops (fun e a' w'=>Q e a' cs' w') (List.range' 1 (ops.size -1)) (a.put o.dst v) w):(Code.region id ops false).wpS P Q a cs w:=by
 intro b k hb hro;obtain⟨e,a',w',hq,harr⟩:=wp_opsIn _ _ _ h b k cs' hro trivial (room_wide _);rw[arrivesIn_iff (fun _ _=>stepsIn_wide) hro,Frame.atR_of_none hro] at harr;have hpos:0<ops.size:=(Array.getElem?_eq_some_iff.1 ho).1
 have hrange:List.range ops.size=0::List.range' 1 (ops.size -1):=by
  rw[List.range_eq_range'];obtain⟨n,hn⟩:∃n,ops.size=n+1:=⟨ops.size -1,by omega⟩;rw[hn,List.range'_succ];simp
 have hw:Region.wanted o (yielded ops a.tmps)=true:=by simp[Region.wanted,hg]
 have hst:=stepG_op (P:=P) (b:=b) (a:=a) (k:=k) (cs:=cs) (w:=w) (rest:=List.range' 1 (ops.size -1)) ho hw
 have hfin:∀v,(b.at a (.inRegion ops (0::List.range' 1 (ops.size -1))::k)).finish v=b.at (a.put o.dst v) (.inRegion ops (List.range' 1 (ops.size -1))::k):=by
  intro v;rw[Frame.finish_at,ho];rfl
 have hk:(b.at a (.inRegion ops (0::List.range' 1 (ops.size -1))::k)).kind=.deferred:=hb;have htr:=tryRecover_deferred hk cs
 have h1:step P (lone (b.at a (.code (.region id ops false)::k)) cs w)=.next (lone (b.at a (.inRegion ops (0::List.range' 1 (ops.size -1))::k)) cs w):=by
  rw[←hrange];exact step_region
 have h2:step P (lone (b.at a (.inRegion ops (0::List.range' 1 (ops.size -1))::k)) cs w)=.next (lone (b.at (a.put o.dst v) (.inRegion ops (List.range' 1 (ops.size -1))::k)) cs' w):=by
  refine step_lone_go ?_;rw[hst,←hfin];have hr:=hrec a w
  rcases hv with hv|⟨hv,rfl,rfl⟩
  · simp only[Frame.at] at htr ⊢
    simp[stepG.apply,hr,htr,hv]
  · simp only[Frame.at] at htr ⊢
    simp[stepG.apply,hr,htr,hv]
 exact⟨e,a',cs',w',hq,.of_steps (.head h1 (.one h2)) harr⟩
def FnIsR (P:Program) (g:Genv) (mu:Bool) (f:FuncId) (n:Nat) (dst:Option Nat) (rl:List ROper) (ac:ACode):Prop:=
 ∃fn c,P.funcs[f]?=some fn∧fn.body=some c∧(fn.name== "runtime.NumGoroutine")=false∧acodeR P g mu c=some (dst,rl,ac)∧fn.ntmps=n∧fn.results.toList=[]
theorem wI {P:Program} {f:FuncId} {fn:Func} {c:Code} {args:Array Value} {u:FrameMode} {w:World} {R:Ending→FrameMode→World→Prop} (hf:P.funcs[f]?=some fn) (hb:fn.body=some c)
 (h:∀(top:Frame) (below:List Frame),top.mode=u→c.wpS P (bodyPostS P fn top below R) {tmps:=args++Array.replicate (fn.ntmps -args.size) undef,defers:=[]} (top::below) w):CallsDIn Fence.wide 0 P f args u w R:=by
 refine⟨trivial,fun top below hu _=>?_⟩;obtain⟨b,hbd⟩:∃b:Frame,b={(default:Frame) with fn:=f,kind:=.deferred}:=⟨_,rfl⟩
 have hin:b.at {tmps:=args++Array.replicate (fn.ntmps -args.size) undef,defers:=[]} [.code c]=Frame.enter P f args .deferred:=by
  rw[hbd];simp[Frame.enter,Frame.at,hf,hb]
 obtain⟨e,a1,fs,w1,hq,harr⟩:=h top below hu b [] (by rw[hbd]) (by rw[hbd];rfl);rw[hin] at harr
 have hk:b.kind=.deferred:=by rw[hbd]
 have hn:b.fn=f:=by rw[hbd]
 cases e with
 |exit id=>exact hq.elim
 |goto l=>exact hq.elim
 |outgrown=>exact⟨.outgrown,hq.choose,w1,b,hq.choose_spec,harr.resolve_left (by rw[hk];simp),hk,hn,trivial⟩
 |normal=>
  obtain⟨hd,u1,rfl,v,hr,hR⟩:=hq;exact⟨.returned v,u1,w1,_,hR,comesIn_wide.2 (Steps.trans harr (.one step_end)),hk,hn,rfl,hd,fn,by rw[←hn] at hf;exact hf,hr⟩
 |ret=>
  obtain⟨hd,u1,rfl,v,hr,hR⟩:=hq;exact⟨.returned v,u1,w1,_,hR,comesIn_wide.2 harr.choose_spec,hk,hn,rfl,hd,fn,by rw[←hn] at hf;exact hf,hr⟩
 |panic chain=>
  obtain⟨hd,u1,rfl,hR⟩:=hq;exact⟨.panicked chain,u1,w1,_,hR,comesIn_wide.2 harr.choose_spec,hk,hn,rfl,hd,fn,by rw[←hn] at hf;exact hf⟩
theorem yY {P:Program} {g:Genv} {mu:Bool} (hm:Fit P g) {f:FuncId} {n:Nat} {dst:Option Nat} {rl:List ROper} {ac:ACode} (hF:FnIsR P g mu f n dst rl ac)
 {args:List AV} {md:Option AV} {H H':Heap}
 (h:AOps P g rl (putA (args++List.replicate (n -args.length) undefA) dst (md.getD .nilif)) [] H (thenA (fun s ds H=>AC P g ac s ds H fun e s ds H=>(match e with|.normal=>True|.ret=>True|_=>False)∧ds=[]∧H=H')
   fun _ _ _ _=>False)):SoundD P g f args md H H':=by
 obtain⟨fn,c,h1,h2,h0,h3,h4,h5⟩:=hF;refine⟨⟨fn,h1,by rw[h2];rfl,h0⟩,fun G w vs u hw hv hmd=>?_⟩;refine wI h1 h2 fun c₀ cs hc₀=>?_;unfold acodeR at h3;split at h3
 · rename_i id ops rest
   split at h3
   · rename_i o l hl
     split at h3
     · rename_i cl rl' ac' hop hg hrl hac
       split at h3
       · rename_i hcl hargs
         simp only[Option.some.injEq,Prod.mk.injEq] at h3;obtain⟨rfl,rfl,rfl⟩:=h3
         have ho:ops[0]?=some o:=by rw[←Array.getElem?_toList,hl];rfl
         have hlen:ops.size=l.length+1:=by rw[←Array.length_toList,hl];rfl
         have hrec:∀a w,(execOp (Act.eval a) o).run P w=.ok .recover w:=fun a w=>by
          have hargs':cl.args= #[]:=by apply Array.ext';simpa using hargs
          simp[execOp,hop,resolve,hcl,hargs',invoke,builtin]
         have key:∃(v:Value) (u':FrameMode),((recoverD (c₀::cs)=some (v,{c₀ with mode:=u'}::cs))∨(recoverD (c₀::cs)=none∧v=.nilIface∧u'=u))∧settle u'=.returning∧VR G w (md.getD .nilif) v:=by
          cases md with
          |none=>
           obtain rfl:u=.returning:=hmd;exact⟨.nilIface,.returning,.inr ⟨by simp[recoverD,hc₀],rfl,rfl⟩,rfl,.nilif⟩
          |some v=>
           obtain⟨x,rfl,hx⟩:=hmd;exact⟨x,.panicking [{v:=x,recovered:=true}],.inl (by simp[recoverD,hc₀]),rfl,hx⟩
         obtain⟨v,u',hv',hu',hvv⟩:=key
         have hcs:(recoverD (c₀::cs)=some (v,{c₀ with mode:=u'}::cs))∨(recoverD (c₀::cs)=none∧v=.nilIface∧({c₀ with mode:=u'}::cs:List Frame)=c₀::cs):=by
          rcases hv' with hh|⟨hh,rfl,rfl⟩
          · exact .inl hh
          · refine .inr ⟨hh,rfl,?_⟩
            subst hc₀;rfl
         have hs:SR G w (args++List.replicate (n -args.length) undefA) {tmps:=vs.toArray++Array.replicate (fn.ntmps -vs.toArray.size) undef,defers:=[]}:=by
          have hlen:=hv.1;show VRs G w _ _;simp only[Array.toList_append,Array.toList_replicate,List.size_toArray,hlen,h4];refine hv.append ⟨by simp,fun j hj=>?_⟩;simp only[List.length_replicate] at hj;simp only[List.getD_eq_getElem?_getD,List.getElem?_replicate,hj,if_true,Option.getD_some];exact VR.eH G w
         refine wpS_seq (aEa ho hg hrec hcs ?_)
         have hA:=nK (ro:=none) l rl' 1 hrl (fun j hj=>by
          rw[←Array.getElem?_toList,hl,Nat.add_comm,List.getElem?_cons_succ]
          exact List.getElem?_eq_getElem hj) (.inl rfl) _ [] G H w _ _ h hw (hs.put o.dst hvv) (by cases o.dst<;>trivial)
         rw[show ops.size -1=l.length by omega];refine qR (ro:=none) (fun e a1 w1 hq=>?_) _ _ _ hA;obtain⟨ae,s',ds',H1,G',q,hw',he,hs',hd',hx⟩:=hq
         cases ae with
         |normal=>
          cases e with
          |normal=>
           refine wpS_of_wp (wp_mono (wpIn_wide.1 (lA hm rest none ac' hac (.inl rfl) s' ds' G' H1 w1 a1 _ q hw' hs' hd')) fun e a2 w2 hq2=>?_);obtain⟨ae2,s2,ds2,H2,G2,q2,hw2,he2,hs2,hd2,hx2⟩:=hq2;obtain⟨q3,rfl,rfl⟩:=q2
           have hnil:a2.defers=[]:=by
            cases hda:a2.defers with
            |nil=>rfl
            |cons d r=>rw[hda] at hd2;exact hd2.elim
           have hres:(results fn a2.tmps).run P w2=.ok (.tuple #[]) w2:=by
            have :fn.results= #[]:=by apply Array.ext';simpa using h5
            unfold results;simp[this]
           cases ae2 with
           |normal=>
            cases e with
            |normal=>exact⟨hnil,u',rfl,_,hres,⟨_,rfl⟩,hu',G2,hw2,he.trans he2⟩
            |_=>exact hx2.elim
           |ret=>
            cases e with
            |ret=>exact⟨hnil,u',rfl,_,hres,⟨_,rfl⟩,hu',G2,hw2,he.trans he2⟩
            |_=>exact hx2.elim
           |exit id=>exact q3.elim
           |panic v=>exact q3.elim
          |_=>exact hx.elim
         |exit id=>exact q.elim
         |ret=>exact q.elim
         |panic v=>exact q.elim
       · cases h3
     · cases h3
   · cases h3
 · cases h3
section
def resTs (T:VT) (H:Heap):List ARes→Option (List AV)
 |[]=>some []
 |x::r=>match (match x with
   |.tmp t=>some (T.get t)
   |.cell a agg n=>match aop (evT g0 T) H (.load agg n (.tmp a)) with
    |some (v,_)=>some v
    |none=>none),resTs T H r with
  |some v,some vs=>some (v::vs)
  |_,_=>none
theorem aDd {n:Nat} {T:VT} (hb:Bnd n T) (H:Heap):∀l,resTs T H l=resAs (toL n T) H l
 |[]=>rfl
 |x::r=>by
  have ih:=aDd hb H r
  cases x with
  |tmp t=>
   simp only[resTs,resAs,resA,ih,vT hb];cases resAs (toL n T) H r<;>rfl
  |cell a agg m=>
   simp only[resTs,resAs,resA,ih,nV hb]
   cases aop (Arg.eval g0 (toL n T)) H (.load agg m (.tmp a)) with
   |none=>rfl
   |some p=>cases resAs (toL n T) H r<;>rfl
def endD (nop:FuncId→Nat→Bool):List Dfr→Heap→Option Heap
 |[],H=>some H
 |.call f azs::ds,H=>match nop f azs.length with
  |true=>endD nop ds H
  |false=>none
 |.mark id::ds,H=>match H.get id with
  |some .dfd=>endD nop ds (H.set id .dfx)
  |_=>none
def exFn (cf:CallF) (g:Genv) (fuel:Nat) (nop:FuncId→Nat→Bool) (F:AFn) (args:List AV) (H:Heap):Option (Out×Heap):=
 match Nat.ble args.length F.ntmps with
 |true=>match exC cf g F.ntmps fuel F.body (startT F.ntmps args 0 .nil) [] H with
  |some (.normal,T,ds,H')|some (.ret,T,ds,H')=>match endD nop ds H' with
   |some H1=>match resTs T H1 F.results with
    |some vs=>some (.ret (retA vs),H1)
    |none=>none
   |none=>none
  |some (.panic v,_,[],H')=>some (.pan v,H')
  |_=>none
 |false=>none
theorem Bnd.nil (n:Nat):Bnd n .nil:=fun _ _=>rfl
theorem sK (n:Nat):∀(vs:List AV) (i:Nat) (T:VT),Bnd n T→i+vs.length≤n→
 Bnd n (startT n vs i T)∧∀t,(startT n vs i T).get t=if i≤t∧t<i+vs.length then vs.getD (t -i) undefA else T.get t
 |[],i,T,hb,h=>⟨hb,fun t=>by rw[if_neg (by simp only[List.length_nil];omega)];rfl⟩
 |v::vs,i,T,hb,h=>by
  simp only[List.length_cons] at h;have :=sK n vs (i+1) (putT n T (some i) v) (hb.put _ _) (by omega);refine⟨this.1,fun t=>?_⟩;show(startT n vs (i+1) (putT n T (some i) v)).get t=_;rw[this.2 t]
  have hbl:Nat.blt i n=true:=by simpa [Nat.blt_eq] using(by omega:i<n)
  have hput:(putT n T (some i) v).get t=if t=i then v else T.get t:=by
   simp only[putT,hbl];exact VT.aB T i v t
  rw[hput];simp only[List.length_cons];by_cases h1:i+1≤t∧t<i+1+vs.length
  · rw[if_pos h1,if_pos (by omega)]
    obtain⟨m,hm⟩:∃m,t -i=m+1:=⟨t -i -1,by omega⟩;rw[hm,List.getD_cons_succ,show t -(i+1)=m by omega]
  · rw[if_neg h1]
    by_cases h2:t=i
    · subst h2
      rw[if_pos rfl,if_pos (by omega)];simp
    · rw[if_neg h2,if_neg (by omega)]
theorem vS {n:Nat} {args:List AV} (h:args.length≤n):Bnd n (startT n args 0 .nil)∧toL n (startT n args 0 .nil)=args++List.replicate (n -args.length) undefA:=by
 have :=sK n args 0 .nil (Bnd.nil n) (by omega);refine⟨this.1,List.ext_getElem? fun t=>?_⟩;unfold toL;rw[List.getElem?_map];by_cases ht:t<n
 · rw[List.getElem?_range ht,Option.map_some,this.2 t]
   by_cases h1:t<args.length
   · rw[if_pos (by omega),List.getElem?_append_left h1]
     simp[List.getElem?_eq_getElem h1,getD_eq]
   · rw[if_neg (by omega),List.getElem?_append_right (by omega),List.getElem?_replicate,if_pos (by omega)]
     rfl
 · rw[List.getElem?_eq_none (by simp;omega),List.getElem?_eq_none (by simp;omega)]
   rfl
section
variable {P:Program} {g:Genv} {fuel:Nat} {cf:CallF}
def NopOK (P:Program) (g:Genv) (nop:FuncId→Nat→Bool):Prop:=∀f k,nop f k=true→∀(args:List AV) (H:Heap),args.length=k→SoundD P g f args none H H
theorem yR {nop:FuncId→Nat→Bool} (hn:NopOK P g nop) {Q:Heap→Prop}:∀(ds:List Dfr) (H H1:Heap),endD nop ds H=some H1→Q H1→ADs P g ds H Q
 |[],H,H1,he,h=>by
  cases he;exact h
 |.mark id::ds,H,H1,he,h=>by
  simp only[endD] at he;split at he
  · rename_i hg
    exact⟨hg,yR hn ds _ _ he h⟩
  · cases he
 |.call f azs::ds,H,H1,he,h=>by
  simp only[endD] at he;split at he
  · rename_i hd
    exact⟨H,hn f _ hd azs H rfl,yR hn ds H _ he h⟩
  · cases he
theorem aFf (hm:Fit P g) (hcf:CallOK P g cf) {nop:FuncId→Nat→Bool} (hn:NopOK P g nop) {mu:Bool} {f:FuncId} {F:AFn} (hF:FnIs P g mu f F) {args:List AV} {H H':Heap} {out:Out}
 (h:exFn cf g fuel nop F args H=some (out,H')):Sound P g f args H out H':=by
 unfold exFn at h;split at h
 · rename_i hle
   have hle':args.length≤F.ntmps:=Nat.le_of_ble_eq_true hle;obtain⟨hb,hs⟩:=vS hle'
   have fin:∀(ae:AEx) (T:VT) (ds:List Dfr) (H1:Heap),(ae=.normal∨ae=.ret)→exC cf g F.ntmps fuel F.body (startT F.ntmps args 0 .nil) [] H=some (ae,T,ds,H1)→
    (match endD nop ds H1 with
      |some H2=>match resTs T H2 F.results with
       |some vs=>some (Out.ret (retA vs),H2)
       |none=>none
      |none=>none)=some (out,H')→Sound P g f args H out H':=by
    intro ae T ds H1 hae he h;obtain⟨hbT,hq⟩:=mK hcf F.body _ _ _ _ _ _ _ hb he;split at h
    · rename_i H2 hall
      split at h
      · rename_i vs hvs
        simp only[Option.some.injEq,Prod.mk.injEq] at h;obtain⟨rfl,rfl⟩:=h;refine fA hm hF ?_;unfold startS;rw[←hs];refine hq _ ?_
        have :ADs P g ds H1 fun H1'=>∃vs',resAs (toL F.ntmps T) H1' F.results=some vs'∧(Out.ret (retA vs')=Out.ret (retA vs)∧H1'=H2):=by
         refine yR hn ds H1 H2 hall ⟨vs,?_,rfl,rfl⟩;rw[←aDd hbT];exact hvs
        rcases hae with rfl|rfl<;>exact this
      · cases h
    · cases h
   split at h
   · rename_i T ds H1 he
     exact fin .normal T ds H1 (.inl rfl) he h
   · rename_i T ds H1 he
     exact fin .ret T ds H1 (.inr rfl) he h
   · rename_i v T H1 he
     simp only[Option.some.injEq,Prod.mk.injEq] at h;obtain⟨rfl,rfl⟩:=h;obtain⟨hbT,hq⟩:=mK hcf F.body _ _ _ _ _ _ _ hb he;refine fA hm hF ?_;unfold startS;rw[←hs];exact hq _ ⟨rfl,rfl⟩
   · cases h
 · cases h
inductive FT where
 |leaf (k:Nat) (F:AFn)
 |node (m:Nat) (l r:FT)
def FT.get:FT→FuncId→Option AFn
 |.leaf k F,f=>match Nat.beq f k with
  |true=>some F
  |false=>none
 |.node m l r,f=>match Nat.blt f m with
  |true=>l.get f
  |false=>r.get f
def FT.All (p:FuncId→AFn→Prop):FT→Prop
 |.leaf k F=>p k F
 |.node _ l r=>l.All p∧r.All p
theorem FT.All.get {p:FuncId→AFn→Prop}:∀{t:FT},t.All p→∀{f:FuncId} {F:AFn},t.get f=some F→p f F
 |.leaf k F',h,f,F,hg=>by
  simp only[FT.get] at hg;split at hg
  · rename_i hb
    obtain rfl:=Option.some.inj hg;rw[Nat.eq_of_beq_eq_true hb];exact h
  · cases hg
 |.node m l r,h,f,F,hg=>by
  simp only[FT.get] at hg;split at hg
  · exact FT.All.get h.1 hg
  · exact FT.All.get h.2 hg
def exY (cf:CallF) (g:Genv) (fuel:Nat) (id:Nat) (args:List AV) (H:Heap):Option (Out×Heap):=
 match H.get id with
 |some (.loop k s .ready)=>match Nat.beq args.length k.ps.length with
  |true=>match exC cf g s.length fuel k.asg (putAllT s.length (startT s.length s 0 .nil) (k.ps.zip args)) [] H with
   |some (.normal,T1,[],H1)=>match H1.get id with
    |some (.loop k1 s1 .ready)=>match exC cf g s.length fuel k.body T1 [] (H1.set id (.loop k1 s1 .busy)) with
     |some (e,_,[],H2)=>match H2.get id with
      |some (.loop k2 s2 .busy)=>match e with
       |.normal=>some (.ret (.bool true),H2.set id (.loop k2 s2 .ready))
       |.ret=>some (.ret (.bool false),H2.set id (.loop k2 s2 (.done .ret)))
       |.exit i=>some (.ret (.bool false),H2.set id (.loop k2 s2 (.done (.exit i))))
       |.panic _=>none
      |_=>none
     |_=>none
    |_=>none
   |_=>none
  |false=>none
 |_=>none
theorem sC {n:Nat}:∀(l:List (Nat×AV)) (T:VT),Bnd n T→Bnd n (putAllT n T l)∧toL n (putAllT n T l)=putAll (toL n T) l
 |[],T,h=>⟨h,rfl⟩
 |(t,v)::r,T,h=>by
  have ih:=sC r (putT n T (some t) v) (h.put _ _);refine⟨ih.1,?_⟩;rw[putAllT,ih.2,fX];rfl
theorem aKp (hm:Fit P g) (hcf:CallOK P g cf) {id:Nat} {args:List AV} {H H':Heap} {out:Out} (h:exY cf g fuel id args H=some (out,H')):YSound P g id args H out H':=by
 unfold exY at h;split at h
 · rename_i k s hg
   split at h
   · rename_i hlen
     obtain⟨hb0,hs0⟩:=vS (Nat.le_refl s.length);rw[Nat.sub_self,List.replicate_zero,List.append_nil] at hs0;obtain⟨hb1,hs1⟩:=sC (k.ps.zip args) _ hb0;rw[hs0] at hs1;refine qZ hm hg (Nat.eq_of_beq_eq_true hlen) ?_;unfold ARound;split at h
     · rename_i T1 H1 ha
       obtain⟨hb2,hq1⟩:=mK hcf k.asg _ _ _ _ _ _ _ hb1 ha;rw[←hs1];refine hq1 _ ?_;split at h
       · rename_i k1 s1 hg1
         split at h
         · rename_i e T2 H2 hbd
           obtain⟨hb3,hq2⟩:=mK hcf k.body _ _ _ _ _ _ _ hb2 hbd;refine⟨rfl,k1,s1,hg1,hq2 _ ?_⟩;split at h
           · rename_i k2 s2 hg2
             split at h
             · simp only[Option.some.injEq,Prod.mk.injEq] at h
               obtain⟨rfl,rfl⟩:=h;exact⟨rfl,rfl,k2,s2,hg2,rfl⟩
             · simp only[Option.some.injEq,Prod.mk.injEq] at h
               obtain⟨rfl,rfl⟩:=h;exact⟨rfl,rfl,k2,s2,hg2,rfl⟩
             · simp only[Option.some.injEq,Prod.mk.injEq] at h
               obtain⟨rfl,rfl⟩:=h;exact⟨rfl,rfl,k2,s2,hg2,rfl⟩
             · cases h
           · cases h
         · cases h
       · cases h
     · cases h
   · cases h
 · cases h
abbrev OrcF:=FuncId→List AV→Heap→Option (Out×Heap)
def OrcOK (P:Program) (g:Genv) (orc:OrcF):Prop:=∀f args H out H',orc f args H=some (out,H')→Sound P g f args H out H'
def exF (orc:OrcF) (tab:FuncId→Option AFn) (g:Genv) (fuel:Nat) (nop:FuncId→Nat→Bool):Nat→CallF
 |0=>fun _ _ _=>none
 |d+1=>fun c args H=>match c with
  |.yield id=>exY (exF orc tab g fuel nop d) g fuel id args H
  |.func (.func f) fs cs=>match orc f (fs++args++cs) H with
   |some r=>some r
   |none=>match tab f with
    |some F=>exFn (exF orc tab g fuel nop d) g fuel nop F (fs++args++cs) H
    |none=>none
  |_=>none
theorem rD (hm:Fit P g) {orc:OrcF} (ho:OrcOK P g orc) {tab:FuncId→Option AFn} {nop:FuncId→Nat→Bool} (hn:NopOK P g nop) (ht:∀f F,tab f=some F→∃mu,FnIs P g mu f F):∀d,CallOK P g (exF orc tab g fuel nop d)
 |0=>fun f args H out H' h=>by cases h
 |d+1=>fun c args H out H' h=>by
  simp only[exF] at h;split at h
  · rename_i id
    exact .inr ⟨id,rfl,aKp hm (rD hm ho hn ht d) h⟩
  · rename_i f fs cs
    refine .inl ⟨(f,fs,cs),rfl,?_⟩;split at h
    · rename_i r hr
      cases h;exact ho _ _ _ _ _ hr
    · split at h
      · rename_i F hF
        obtain⟨mu,hmu⟩:=ht f F hF;exact aFf hm (rD hm ho hn ht d) hn hmu h
      · cases h
  · cases h
end
end
end Go.Av
