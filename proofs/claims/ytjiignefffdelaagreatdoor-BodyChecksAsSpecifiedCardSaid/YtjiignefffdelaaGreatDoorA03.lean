/-
  Parts of the proof of statement 4: AvSoundA, AvSoundB
-/
import Derived.Test.YtjiignefffdelaaGreatDoorA02
import Derived.Laws.Entries
set_option linter.unusedVariables false
set_option linter.unusedSimpArgs false
namespace Go.Av
open Go
section
def ofConst1:Value→Option AV
 |.bool b=>some (.bool b)
 |.int k n=>some (.int k n)
 |.string s=>some (.str s.data.toList)
 |.pointer none=>some .nilp
 |.slice none 0 0=>some .nilsl
 |.nilFunc=>some .nilfn
 |.nilIface=>some .nilif
 |.map none=>some .nilmap
 |_=>none
def constsL:List Value→Option (List AV)
 |[]=>some []
 |v::r=>match ofConst1 v,constsL r with
  |some a,some b=>some (a::b)
  |_,_=>none
def ofConst:Value→Option AV
 |.agg cs=>(constsL cs.toList).map .agg
 |v=>ofConst1 v
theorem sB {v:Value} {a:AV} (h:ofConst1 v=some a) (G:Gh) (w:World):VR G w a v∧a.one=true:=by
 unfold ofConst1 at h
 split at h<;>first
  |(cases h;done)
  |(obtain rfl:=Option.some.inj h;exact⟨by constructor,rfl⟩)
theorem VRs.cons {G:Gh} {w:World} {x:AV} {v:Value} {xs:List AV} {vs:List Value} (h:VR G w x v) (hs:VRs G w xs vs):VRs G w (x::xs) (v::vs):=
 ⟨by simp[hs.1],fun j hj=>by
   cases j with
   |zero=>simpa using h
   |succ j=>simpa using hs.2 j (by simpa using hj)⟩
theorem VR.cons {G:Gh} {w:World} {x:AV} {v:Value} {xs:List AV} {vs:List Value} (h:VR G w x v) (hs:VRs G w xs vs):VRs G w (x::xs) (v::vs):=
 VRs.cons h hs
theorem dX:∀{vs:List Value} {cs:List AV},constsL vs=some cs→∀(G:Gh) (w:World),VRs G w cs vs∧∀c∈cs,c.one=true
 |[],cs,h,G,w=>by
  obtain rfl:=Option.some.inj h;exact⟨VRs.nil G w,fun c hc=>by cases hc⟩
 |v::r,cs,h,G,w=>by
  unfold constsL at h;split at h
  · rename_i a b ha hb
    obtain rfl:=Option.some.inj h;have h1:=sB ha G w;have h2:=dX hb G w
    exact⟨h1.1.cons h2.1,fun c hc=>by
     rcases List.mem_cons.1 hc with rfl|hc
     · exact h1.2
     · exact h2.2 c hc⟩
  · cases h
theorem VR.aEm {G:Gh} {w:World} {cs:List AV} {vs:List Value} (h:VRs G w cs vs) (h1:∀c∈cs,c.one=true):VR G w (.agg cs) (.agg vs.toArray):=
 .agg cs vs h.1 h1 h.2
theorem oE {v:Value} {a:AV} (h:ofConst v=some a) (G:Gh) (w:World):VR G w a v:=by
 unfold ofConst at h;split at h
 · rename_i cs
   cases hc:constsL cs.toList with
   |none=>simp[hc] at h
   |some b=>
    simp[hc] at h;subst h;have :=dX hc G w;simpa using VR.aEm this.1 this.2
 · exact(sB h G w).1
theorem VR.cellsOf {G:Gh} {w:World} {a:AV} {v:Value} (h:VR G w a v) (ht:a.isTup=false):VRs G w a.cells v.cells.toList∧∀c∈a.cells,c.one=true:=by
 cases h with
 |agg cs vs hl h1 hv=>exact⟨⟨by simpa [AV.cells,Value.cells] using hl,by simpa [AV.cells,Value.cells] using hv⟩,h1⟩
 |tup cs vs hl hv=>simp[AV.isTup] at ht
 |_=>exact⟨VRs.cons (by constructor<;>assumption) (VRs.nil G w),fun c hc=>by
   simp only[AV.cells,List.mem_singleton] at hc;subst hc
   rfl⟩
def argOf (g:Genv):Operand→Option Arg
 |.tmp t=>some (.tmp t)
 |.const v=>(ofConst v).map .const
 |.global n=>if(g n).isSome then some (.glob n) else none
 |.func f=>some (.const (.func (.func f) [] []))
def SR (G:Gh) (w:World) (s:List AV) (a:Act):Prop:=VRs G w s a.tmps.toList
theorem SR.getD {G:Gh} {w:World} {s:List AV} {a:Act} (h:SR G w s a) (t:Nat):VR G w (s.getD t undefA) (a.tmps.getD t undef):=by
 have hlen:=h.1;by_cases ht:t<s.length
 · have :=h.2 t ht
   have e:a.tmps.getD t undef=a.tmps.toList.getD t undef:=by
    simp[List.getD,Array.getD_eq_getD_getElem?]
   rw[e];exact this
 · have e1:s.getD t undefA=undefA:=by simp[List.getD,List.getElem?_eq_none (Nat.le_of_not_lt ht)]
   have e2:a.tmps.getD t undef=undef:=by
    have :¬t<a.tmps.size:=by simp at hlen;omega
    simp[Array.getD,this]
   rw[e1,e2];exact VR.eH G w
theorem aV {g:Genv} {G:Gh} {H:Heap} {w:World} {s:List AV} {a:Act} (hw:WR g G H w) (hs:SR G w s a) {x:Operand} {y:Arg} (h:argOf g x=some y):
 VR G w (y.eval g s) (a.eval x):=by
 cases x with
 |tmp t=>obtain rfl:=Option.some.inj h;exact hs.getD t
 |const v=>
  simp only[argOf,Option.map_eq_some_iff] at h;obtain⟨c,hc,rfl⟩:=h;exact oE hc G w
 |global n=>
  simp only[argOf] at h;split at h
  · rename_i hg
    obtain rfl:=Option.some.inj h;obtain⟨cs,hcs⟩:=Option.isSome_iff_exists.1 hg;simp only[Arg.eval,hcs,Act.eval];exact hw.glob n cs hcs
  · cases h
 |func f=>
  obtain rfl:=Option.some.inj h;exact VR.func _ [] [] [] [] rfl rfl (fun j hj=>absurd hj (Nat.not_lt_zero j)) (fun j hj=>absurd hj (Nat.not_lt_zero j))
def argsOf (g:Genv):List Operand→Option (List Arg)
 |[]=>some []
 |x::r=>match argOf g x,argsOf g r with
  |some a,some b=>some (a::b)
  |_,_=>none
theorem gS {g:Genv} {G:Gh} {H:Heap} {w:World} {s:List AV} {a:Act} (hw:WR g G H w) (hs:SR G w s a):∀{xs:List Operand} {ys:List Arg},argsOf g xs=some ys→
 VRs G w (ys.map (Arg.eval g s)) (xs.map a.eval)
 |[],ys,h=>by
  obtain rfl:=Option.some.inj h;exact VRs.nil G w
 |x::r,ys,h=>by
  unfold argsOf at h;split at h
  · rename_i y b hy hb
    obtain rfl:=Option.some.inj h;exact(aV hw hs hy).cons (gS hw hs hb)
  · cases h
def optArg (g:Genv):Option Operand→Option (Option Arg)
 |none=>some none
 |some x=>(argOf g x).map some
def isAggP (P:Program) (t:TypeId):Option Bool:=
 match P.underlying t with
 |some (.struct _)|some (.array _ _)=>some true
 |some _=>some false
 |none=>none
theorem fQ {P:Program} {t:TypeId} {b:Bool} (h:isAggP P t=some b) (w:World):(isAgg t).run P w=.ok b w:=by
 unfold isAggP at h;unfold isAgg;split at h
 · rename_i fs hu
   obtain rfl:=Option.some.inj h;simp[run_underlying hu w]
 · rename_i n e hu
   obtain rfl:=Option.some.inj h;simp[run_underlying hu w]
 · rename_i d h1 h2 hu
   obtain rfl:=Option.some.inj h;simp only[Sem.run_bind,run_underlying hu w,Result.andThen_ok];rfl
 · cases h
def sizeP (P:Program) (t:TypeId):Option Nat:=(P.info? t).map (·.size)
theorem bX {P:Program} {t:TypeId} {n:Nat} (h:sizeP P t=some n) (w:World):(sizeOf t).run P w=.ok n w:=by
 simp only[sizeP,Option.map_eq_some_iff] at h;obtain⟨i,hi,rfl⟩:=h;simp[sizeOf,typeInfo,program,Sem.run,hi]
def zeroP (P:Program) (t:TypeId):Option Value:=(P.info? t).bind (·.zero)
theorem eF {P:Program} {t:TypeId} {v:Value} (h:zeroP P t=some v) (w:World):(zeroValue t).run P w=.ok v w:=by
 simp only[zeroP,Option.bind_eq_some_iff] at h;obtain⟨i,hi,hz⟩:=h;simp[zeroValue,typeInfo,program,Sem.run,hi,hz]
def NextV (n:Next) (u:Value):Prop:=n=.value u∨(n=.skip∧u=undef)
def OpOK (P:Program) (g:Genv) (o:Oper) (r:ROp):Prop:=
 ∀(s:List AV) (a:Act) (G:Gh) (H:Heap) (w:World) (v:AV) (H':Heap),WR g G H w→SR G w s a→aop (Arg.eval g s) H r=some (v,H')→
  ∃n u w' G',(execOp a.eval o).run P w=.ok n w'∧NextV n u∧WR g G' H' w'∧Ext G H w G' H' w'∧VR G' w' v u
theorem OpOK.pure' {P:Program} {g:Genv} {o:Oper} {G:Gh} {H:Heap} {w:World} {v:AV} {a:Act} {u:Value} (hw:WR g G H w)
 (hr:(execOp a.eval o).run P w=.ok (.value u) w) (hv:VR G w v u):
 ∃n u w' G',(execOp a.eval o).run P w=.ok n w'∧NextV n u∧WR g G' H w'∧Ext G H w G' H w'∧VR G' w' v u:=
 ⟨_,u,w,G,hr,.inl rfl,hw,Ext.refl G H w,hv⟩
def FopOK (P:Program) (g:Genv) (o:Oper) (r:ROp):Prop:=
 ∀(s:List AV) (a:Act) (G:Gh) (H H':Heap) (w:World) (ob:AObj) (val:Nat→AV) (id0:Nat),WR g G H w→SR G w s a→fop (Arg.eval g s) r=some (ob,val)→
  G.loc id0=none→(∀m,H'.get m=if m=id0 then some ob else H.get m)→H.next≤H'.next→id0<H'.next→
  ∃u w' G',(execOp a.eval o).run P w=.ok (.value u) w'∧Made g G H w id0 ob G' H' w'∧VR G' w' (val id0) u
theorem FopOK.op {P:Program} {g:Genv} {o:Oper} {r:ROp} (h:FopOK P g o r) (hr:∀ev H,aop ev H r=(fop ev r).map fun p=>(p.2 H.next,H.alloc p.1)):OpOK P g o r:=by
 intro s a G H w v H' hw hs ha;rw[hr] at ha;simp only[Option.map_eq_some_iff,Prod.mk.injEq] at ha;obtain⟨⟨ob,val⟩,hf,rfl,rfl⟩:=ha
 have hid:G.loc H.next=none:=by
  cases hl:G.loc H.next with
  |none=>rfl
  |some l'=>exact absurd (hw.lt _ _ hl) (Nat.lt_irrefl _)
 obtain⟨u,w',G',h1,h2,h3⟩:=h s a G H (H.alloc ob) w ob val H.next hw hs hf hid (Heap.aH H _) (Nat.le_succ _) (Nat.lt_succ_self _);exact⟨_,u,w',G',h1,.inl rfl,h2.rel,h2.ext (Ext.refl G H w) (Nat.le_refl _),h3⟩
section
variable {P:Program} {g:Genv} {o:Oper}
theorem aIk {x:Operand} {y:Arg} (ho:o.op=.move x∨o.op=.assign x) (hx:argOf g x=some y):OpOK P g o (.mov y):=by
 intro s a G H w v H' hw hs h;simp only[aop,Option.some.injEq,Prod.mk.injEq] at h;obtain⟨rfl,rfl⟩:=h;refine OpOK.pure' hw (u:=a.eval x) ?_ (aV hw hs hx)
 rcases ho with ho|ho<;>simp[execOp,ho]
theorem aSh {c x y:Operand} {c' x' y':Arg} (ho:o.op=.pick c x y) (hc:argOf g c=some c') (hx:argOf g x=some x') (hy:argOf g y=some y'):OpOK P g o (.pick c' x' y'):=by
 intro s a G H w v H' hw hs h;have vc:=aV hw hs hc;have vx:=aV hw hs hx;have vy:=aV hw hs hy;simp only[aop] at h;split at h
 · rename_i t ht
   rw[ht] at vc;simp only[Option.some.injEq,Prod.mk.injEq] at h;obtain⟨rfl,rfl⟩:=h
   cases hcv:a.eval c with
   |bool b=>
    rw[hcv] at vc;cases vc;refine OpOK.pure' hw (u:=if t then a.eval x else a.eval y) ?_ (by cases t<;>simpa);simp[execOp,ho,hcv,asBool]
   |_=>rw[hcv] at vc;cases vc
 · cases h
theorem xL {t:TypeId} {z:Value} {zs:List AV} (ho:o.op=.alloc t) (hz:zeroP P t=some z) (hzs:constsL z.cells.toList=some zs):FopOK P g o (.alloc zs):=by
 intro s a G H H' w ob val id0 hw hs h hid hget hnx hlt;simp only[fop,Option.some.injEq,Prod.mk.injEq] at h;obtain⟨rfl,rfl⟩:=h;have hc:=dX hzs G w;have hp:Pushed w {w with heap:=w.heap.push (.cells z.cells t)} (.cells (z.cells.toList++[]).toArray t (0,0)):=⟨by simp,.now⟩;have hm:=hw.mR id0 hid zs z.cells.toList [] hc.1 hc.2 false (fun _=>rfl) hget hnx hlt (Clear.zero _) hp;refine⟨.pointer (some ⟨w.heap.size,0,none⟩),_,_,?_,hm,?_⟩
 · simp[execOp,ho,Instr.alloc,eF hz w,newVar,newRow,newObj,Sem.run]
 · exact VR.ref id0 0 ⟨w.heap.size,0,zs.length,(z.cells.toList++[]).length⟩ (by simp only[Gh.addLoc,if_true])
theorem aOp {t:TypeId} {z:Value} {zs:List AV} (ho:o.op=.alloc t) (hz:zeroP P t=some z) (hzs:constsL z.cells.toList=some zs):OpOK P g o (.alloc zs):=
 (xL ho hz hzs).op fun _ _=>rfl
theorem aHu {t:TypeId} {x:Operand} {x':Arg} (ho:o.op=.box t x) (hx:argOf g x=some x'):FopOK P g o (.box x'):=by
 intro s a G H H' w ob val id0 hw hs h hid hget hnx hlt;simp only[fop] at h;split at h
 · cases h
 · rename_i ht
   simp only[Option.some.injEq,Prod.mk.injEq] at h;obtain⟨rfl,rfl⟩:=h;have hc:=(aV hw hs hx).cellsOf (by simpa using ht);have hp:Pushed w {w with heap:=w.heap.push (.cells (a.eval x).cells t)} (.cells ((a.eval x).cells.toList++[]).toArray t (0,0)):=⟨by simp,.now⟩;have hm:=hw.mR id0 hid _ _ [] hc.1 hc.2 false (fun _=>rfl) hget hnx hlt (Clear.zero _) hp;refine⟨.pointer (some ⟨w.heap.size,0,none⟩),_,_,?_,hm,?_⟩
   · simp[execOp,ho,Instr.box,newVar,newRow,newObj,Sem.run]
   · exact VR.ref id0 0 ⟨w.heap.size,0,(x'.eval g s).cells.length,((a.eval x).cells.toList++[]).length⟩ (by simp only[Gh.addLoc,if_true])
theorem aWq {t:TypeId} {x:Operand} {x':Arg} (ho:o.op=.box t x) (hx:argOf g x=some x'):OpOK P g o (.box x'):=
 (aHu ho hx).op fun _ _=>rfl
theorem aSg {t:TypeId} {x:Operand} {x':Arg} (ho:o.op=.makeInterface t x) (hx:argOf g x=some x')
 (ht:(match P.underlying t with|some (.interface _)=>false|some _=>true|none=>false)=true):OpOK P g o (.mkif t x'):=by
 intro s a G H w v H' hw hs h;simp only[aop,Option.some.injEq,Prod.mk.injEq] at h;obtain⟨rfl,rfl⟩:=h;refine OpOK.pure' hw (u:=.iface t (a.eval x)) ?_ (.iface t _ _ (aV hw hs hx));split at ht
 · cases ht
 · rename_i d hd hu
   simp only[execOp,ho,Instr.makeInterface,Sem.run_bind,run_underlying hu w,Result.andThen_ok];rfl
 · cases ht
theorem aSf {fn:Fn} {fs cs:Array Operand} {fs' cs':List Arg} (ho:o.op=.makeFunc fn fs cs) (hf:argsOf g fs.toList=some fs') (hc:argsOf g cs.toList=some cs'):OpOK P g o (.mkfn fn fs' cs'):=by
 intro s a G H w v H' hw hs h;simp only[aop,Option.some.injEq,Prod.mk.injEq] at h;obtain⟨rfl,rfl⟩:=h;have h1:=gS hw hs hf;have h2:=gS hw hs hc;refine OpOK.pure' hw (u:=.func fn (fs.toList.map a.eval).toArray (cs.toList.map a.eval).toArray) ?_ (.func fn _ _ _ _ h1.1 h2.1 h1.2 h2.2);simp only[execOp,ho,Instr.makeFunc,Sem.run_bind,Sem.run_pure,Result.andThen_ok];congr 3<;>(apply Array.ext';simp)
theorem aRx {x:Operand} {x':Arg} {i:Nat} (ho:o.op=.extract x i) (hx:argOf g x=some x'):OpOK P g o (.extr x' i):=by
 intro s a G H w v H' hw hs h;have vx:=aV hw hs hx;simp only[aop] at h;split at h
 · rename_i vs hvs
   rw[hvs] at vx;split at h
   · rename_i hi
     simp only[Option.some.injEq,Prod.mk.injEq] at h;obtain⟨rfl,rfl⟩:=h
     cases hxv:a.eval x with
     |tuple us=>
      rw[hxv] at vx
      cases vx with
      |tup _ us' hl hv=>
       refine OpOK.pure' hw (u:=us'.getD i undef) ?_ (hv i hi)
       have hi':i<us'.length:=by omega
       simp only[execOp,ho,hxv,Instr.extract,List.getElem?_toArray,fN us' undef i hi',Sem.run_bind,Sem.run_pure,Result.andThen_ok]
     |_=>rw[hxv] at vx;cases vx
   · cases h
 · cases h
theorem VR.cS {G:Gh} {w:World} {k:IntKind} {n:Int} {u:Value} (h:VR G w (.int k n) u):u=.int k n:=by cases h;rfl
theorem VR.dE {G:Gh} {w:World} {b:Bool} {u:Value} (h:VR G w (.bool b) u):u=.bool b:=by cases h;rfl
theorem VR.cT {G:Gh} {w:World} {s:List UInt8} {u:Value} (h:VR G w (.str s) u):u=.string ⟨s.toArray⟩:=by cases h;rfl
theorem VR.aAt (G:Gh) (w:World) (s:List UInt8):VR G w (.str s) (.string ⟨s.toArray⟩):=by
 have :=VR.str (G:=G) (w:=w) ⟨s.toArray⟩;simpa using this
theorem gT {G:Gh} {w:World} {a:AV} {u:Value} {n:Nat} (h:asNat a=some n) (hv:VR G w a u):∃k,a=.int k n∧u=.int k n:=by
 cases a<;>simp only[asNat] at h<;>try (cases h;done)
 rename_i k m;split at h
 · rename_i hm
   obtain rfl:=Option.some.inj h;refine⟨k,by rw[Int.toNat_of_nonneg hm],by rw[Int.toNat_of_nonneg hm];exact hv.cS⟩
 · cases h
end
end
section
theorem getD_eq {α:Type} (l:List α) (d:α) (j:Nat):l.getD j d=(l[j]?).getD d:=rfl
theorem bY {α:Type} (l:List α) (d:α) (o n j:Nat) (h:j<n):((l.drop o).take n).getD j d=l.getD (o+j) d:=by
 simp only[getD_eq];rw[List.getElem?_take,if_pos h,List.getElem?_drop]
theorem mM {α:Type} (l:List α) (d:α) (o j:Nat):(l.drop o).getD j d=l.getD (o+j) d:=by
 simp only[getD_eq,List.getElem?_drop]
theorem getD_take {α:Type} (l:List α) (d:α) (n j:Nat) (h:j<n):(l.take n).getD j d=l.getD j d:=by
 simp only[getD_eq];rw[List.getElem?_take,if_pos h]
theorem fV (cs:List AV) (off:Nat) (vs:List AV) (h:off+vs.length≤cs.length):(splice cs off vs).length=cs.length:=by
 simp[splice];omega
theorem rX (cs:List AV) (off:Nat) (vs:List AV) (d:AV) (h:off+vs.length≤cs.length) (j:Nat):
 (splice cs off vs).getD j d=if off≤j∧j<off+vs.length then vs.getD (j -off) d else cs.getD j d:=by
 simp only[getD_eq,splice];rw[List.getElem?_append];simp only[List.length_append,List.length_take]
 have hm:min off cs.length=off:=by omega
 rw[hm];by_cases h1:j<off+vs.length
 · rw[if_pos h1,List.getElem?_append]
   simp only[List.length_take,hm];by_cases h2:j<off
   · rw[if_pos h2,if_neg (by omega),List.getElem?_take,if_pos h2]
   · rw[if_neg h2,if_pos (by omega)]
 · rw[if_neg h1,if_neg (by omega),List.getElem?_drop]
   congr 2;omega
theorem uQ {cs:List AV} {off:Nat} {vs:List AV} {c:AV} (h:c∈splice cs off vs):c∈cs∨c∈vs:=by
 simp only[splice,List.mem_append] at h
 rcases h with (h|h)|h
 · exact .inl (List.mem_of_mem_take h)
 · exact .inr h
 · exact .inl (List.mem_of_mem_drop h)
theorem qA {cs:List AV} {j:Nat} (h:j<cs.length):cs.getD j undefA∈cs:=by
 rw[getD_eq,List.getElem?_eq_getElem h];exact List.getElem_mem h
theorem tR {G:Gh} {w:World} {b o n:Nat} {cs:List AV} (h:∀j,j<n→∃u,w.cell? ⟨b,o+j,none⟩=some u∧VR G w (cs.getD j undefA) u):
 ∃us:List Value,us.length=n∧(∀j,j<n→w.cell? ⟨b,o+j,none⟩=some (us.getD j undef))∧∀j,j<n→VR G w (cs.getD j undefA) (us.getD j undef):=by
 have hd:∀j,j<n→((List.range n).map fun j=>(w.cell? ⟨b,o+j,none⟩).getD undef).getD j undef=(w.cell? ⟨b,o+j,none⟩).getD undef:=fun j hj=>by
  simp[getD_eq,List.getElem?_range hj]
 refine⟨(List.range n).map fun j=>(w.cell? ⟨b,o+j,none⟩).getD undef,by simp,fun j hj=>?_,fun j hj=>?_⟩
 · rw[hd j hj]
   obtain⟨u,hu,_⟩:=h j hj;rw[hu];rfl
 · rw[hd j hj]
   obtain⟨u,hu,hv⟩:=h j hj;rw[hu];exact hv
theorem qL {P:Program} {G:Gh} {w:World} {t:TypeId} {agg:Bool} {n b o:Nat} {cs:List AV} (hag:isAggP P t=some agg) (hsz:sizeP P t=some n)
 (hlen:n=cs.length) (h1:∀c∈cs,c.one=true) (hn:agg=false→n=1)
 (h:∀j,j<n→∃u,w.cell? ⟨b,o+j,none⟩=some u∧VR G w (cs.getD j undefA) u):
 ∃u,(loadVar t ⟨b,o,none⟩).run P w=.ok u w∧VR G w (if agg then .agg cs else cs.getD 0 undefA) u:=by
 obtain⟨us,hl,hc,hv⟩:=tR h
 cases agg with
 |true=>
  refine⟨.agg us.toArray,?_,.agg cs us (by omega) h1 (fun j hj=>hv j (by omega))⟩;have hr:=iR P w b o us (fun j hj=>hc j (by omega));rw[hl] at hr;simp[loadVar,fQ hag w,bX hsz w,hr]
 |false=>
  have h1':=hn rfl;have hc0:=hc 0 (by omega);have hv0:=hv 0 (by omega);refine⟨us.getD 0 undef,?_,hv0⟩;simp only[Nat.add_zero] at hc0;simp only[loadVar,Sem.run_bind,fQ hag w,Result.andThen_ok,Bool.false_eq_true,if_false,run_load,hc0]
theorem WR.store {g:Genv} {G:Gh} {H:Heap} {w w':World} (h:WR g G H w) {id:Nat} {l:Loc} {cs:List AV} {opn:Bool} (hl:G.loc id=some l) (hg:H.get id=some (.cells cs opn))
 {off:Nat} {xs:List AV} {vs:List Value} (hv:VRs G w xs vs) (h1:∀c∈xs,c.one=true) (hin:off+xs.length≤cs.length) (u:Upd w w' l.blk (l.base+off) vs):
 WR g G (H.set id (.cells (splice cs off xs) opn)) w'∧Ext G H w G (H.set id (.cells (splice cs off xs) opn)) w':=by
 have hlive:H.live id:=⟨_,hg,rfl⟩;obtain⟨a1,a2,a3,a4,a5⟩:=h.cells id l cs opn hl hg;obtain⟨c,el,fz,b1,b2,b3⟩:=h.room id l hl (.inl ⟨cs,opn,hg⟩);have hlen:=hv.1
 have himm:∀j,j<vs.length→¬G.imm l.blk (l.base+off+j):=fun j hj=>by
  rw[Nat.add_assoc];exact h.immd id l hl hlive (off+j) (by omega)
 have hdis:∀id' l',id'≠id→G.loc id'=some l'→H.live id'→l.blk≠l'.blk∨l.base+l.ext≤l'.base∨l'.base+l'.ext≤l.base:=
  fun id' l' hne hl' hv'=>h.disj id id' l l' (Ne.symm hne) hl hl' hlive hv'
 have hk:=h.kill id
 have hw1:=hk.write u himm (fun id' l' hl' hv'=>by
  rcases Heap.dN.1 hv' with ⟨_,hh⟩|⟨hne,hv'⟩
  · cases hh
  · rcases hdis id' l' hne hl' hv' with hd|hd|hd
    · exact .inl (Ne.symm hd)
    · exact .inr (.inr (by omega))
    · exact .inr (.inl (by omega))) ⟨c,el,fz,b1⟩
 have hext:=((Ext.refl G H w).write u himm h.imme (.inr ⟨id,l,hl,hlive,rfl⟩)).aTe id (.cells (splice cs off xs) opn) hlive;have hmono:∀{a:AV} {x:Value},VR G w a x→VR G w' a x:=fun hx=>hx.mono (fun _ _ h=>h) (fun b o hi=>⟨hi,(hext.imm b o hi).2⟩);obtain⟨c',d1,d2,d3,d4⟩:=u.row c el fz b1;refine⟨hw1.aXb _ l hl hdis (fun j hj=>h.immd id l hl hlive j hj) (fun cs' opn' he=>?_) (fun _=>⟨c',el,fz,d1,by omega,fun j hj=>by rw[u.frozen b1];exact b3 j hj⟩) (fun he=>by cases he),hext⟩;cases he;refine⟨by rw[fV _ _ _ hin];exact a1,a2,a3,fun x hx=>(uQ hx).elim (a4 x) (h1 x),fun j hj=>?_⟩;rw[fV _ _ _ hin] at hj;rw[rX _ _ _ _ hin];by_cases hj2:off≤j∧j<off+xs.length
 · rw[if_pos hj2]
   refine⟨vs.getD (j -off) undef,?_,hmono (hv.2 (j -off) (by omega))⟩;have :=d4 (j -off) (by omega) (by omega);rw[dV d1,←this];congr 1;omega
 · rw[if_neg hj2]
   obtain⟨x,hx,hvx⟩:=a5 j hj;exact⟨x,u.cell (.inr (by omega)) hx,hmono hvx⟩
theorem Heap.fB {H:Heap} {id:Nat} {cs:List AV} (h:H.cellsAt id=some cs):∃opn,H.get id=some (.cells cs opn):=by
 unfold Heap.cellsAt at h;split at h
 · rename_i cs' opn hg
   obtain rfl:=Option.some.inj h;exact⟨opn,hg⟩
 · cases h
theorem rK {g:Genv} {G:Gh} {H:Heap} {w:World} (hw:WR g G H w) {id off n:Nat} {l:Loc} {cs:List AV} {opn:Bool} (hl:G.loc id=some l) (hg:H.get id=some (.cells cs opn))
 (hin:off+n≤cs.length):∀j,j<n→∃u,w.cell? ⟨l.blk,l.base+off+j,none⟩=some u∧VR G w (((cs.drop off).take n).getD j undefA) u:=fun j hj=>by
 obtain⟨u,hu,hv⟩:=(hw.cells id l cs opn hl hg).2.2.2.2 (off+j) (by omega);refine⟨u,by rw[Nat.add_assoc];exact hu,?_⟩;rw[bY _ _ _ _ _ hj];exact hv
section
variable {P:Program} {g:Genv} {o:Oper}
theorem aSc {t:TypeId} {x:Operand} {x':Arg} {agg:Bool} {n:Nat} (ho:o.op=.load t x) (hx:argOf g x=some x') (hag:isAggP P t=some agg) (hsz:sizeP P t=some n):
 OpOK P g o (.load agg n x'):=by
 intro s a G H w v H' hw hs h;have vx:=aV hw hs hx
 have fin:∀(b o':Nat) (cs:List AV),a.eval x=.pointer (some ⟨b,o',none⟩)→n=cs.length→(∀c∈cs,c.one=true)→(agg=false→n=1)→
  (∀j,j<n→∃u,w.cell? ⟨b,o'+j,none⟩=some u∧VR G w (cs.getD j undefA) u)→
  ∃n u w' G',(execOp a.eval o).run P w=.ok n w'∧NextV n u∧WR g G' H w'∧Ext G H w G' H w'∧VR G' w' (if agg then .agg cs else cs.getD 0 undefA) u:=by
  intro b o' cs he hl h1 hn hc;obtain⟨u,hr,hv⟩:=qL (P:=P) hag hsz hl h1 hn hc;refine OpOK.pure' hw (u:=u) ?_ hv;simp[execOp,ho,he,Instr.loadAt,Instr.sureAddr,hr]
 simp only[aop] at h;split at h
 · rename_i id off hid
   rw[hid] at vx;split at h
   · rename_i cs hcs
     obtain⟨opn,hg⟩:=Heap.fB hcs;split at h
     · rename_i hin
       cases hxv:a.eval x with
       |pointer p=>
        rw[hxv] at vx
        cases vx with
        |ref _ _ l hl=>
         have h4:=(hw.cells id l cs opn hl hg).2.2.2.1;have hcell:=rK hw hl hg hin
         have hlen:n=((cs.drop off).take n).length:=by simp;omega
         have hone:∀c∈(cs.drop off).take n,c.one=true:=fun c hc=>h4 c (List.mem_of_mem_drop (List.mem_of_mem_take hc));split at h
         · rename_i hagg
           simp only[Option.some.injEq,Prod.mk.injEq] at h;obtain⟨rfl,rfl⟩:=h;have :=fin _ _ _ hxv hlen hone (fun hf=>by rw[hagg] at hf;cases hf) hcell
           rwa [if_pos hagg] at this
         · rename_i hagg
           split at h
           · rename_i hn
             simp only[Option.some.injEq,Prod.mk.injEq] at h;obtain⟨rfl,rfl⟩:=h;have :=fin _ _ _ hxv hlen hone (fun _=>hn) hcell
             rwa [if_neg hagg,bY _ _ _ _ _ (by omega),Nat.add_zero] at this
           · cases h
       |_=>rw[hxv] at vx;cases vx
     · cases h
   · cases h
 · rename_i cs hid
   rw[hid] at vx;split at h
   · rename_i hin
     cases hxv:a.eval x with
     |pointer p=>
      rw[hxv] at vx
      cases vx with
      |pl _ b o' us hh hv=>
       have hcell:∀j,j<n→∃u,w.cell? ⟨b,o'+j,none⟩=some u∧VR G w ((cs.take n).getD j undefA) u:=fun j hj=>by
        rw[getD_take _ _ _ _ hj];exact⟨us j,(hh j (by omega)).2.1,hv j (by omega)⟩
       have hlen:n=(cs.take n).length:=by simp;omega
       have hone:∀c∈cs.take n,c.one=true:=fun c hc=>by
        obtain⟨j,hj,rfl⟩:=List.mem_iff_getElem.1 (List.mem_of_mem_take hc);have :=(hh j hj).2.2;simpa [getD_eq,List.getElem?_eq_getElem hj] using this
       split at h
       · rename_i hagg
         simp only[Option.some.injEq,Prod.mk.injEq] at h;obtain⟨rfl,rfl⟩:=h;have :=fin _ _ _ hxv hlen hone (fun hf=>by rw[hagg] at hf;cases hf) hcell
         rwa [if_pos hagg] at this
       · rename_i hagg
         split at h
         · rename_i hn
           simp only[Option.some.injEq,Prod.mk.injEq] at h;obtain⟨rfl,rfl⟩:=h;have :=fin _ _ _ hxv hlen hone (fun _=>hn) hcell
           rwa [if_neg hagg,getD_take _ _ _ _ (by omega)] at this
         · cases h
     |_=>rw[hxv] at vx;cases vx
   · cases h
 · cases h
theorem gA {G:Gh} {w:World} {xs:List AV} {vs:List Value} (hv:VRs G w xs vs) (h1:∀c∈xs,c.one=true):∀v∈vs,oneV v=true:=by
 intro v hv';obtain⟨j,hj,rfl⟩:=List.mem_iff_getElem.1 hv'
 have hj':j<xs.length:=by have :=hv.1;omega
 have :=(hv.2 j hj').one;rw[h1 _ (qA hj')] at this;simpa [getD_eq,List.getElem?_eq_getElem hj] using this.symm
theorem aOw {t:TypeId} {x y:Operand} {x' y':Arg} {n:Nat} (ho:o.op=.store t x y) (hx:argOf g x=some x') (hy:argOf g y=some y') (hsz:sizeP P t=some n):
 OpOK P g o (.store n x' y'):=by
 intro s a G H w v H' hw hs h;have vx:=aV hw hs hx;have vy:=aV hw hs hy;simp only[aop] at h;split at h
 · rename_i id off hid
   rw[hid] at vx;split at h
   · rename_i cs opn hg
     split at h
     · rename_i hc
       obtain⟨hc1,hc2,hc3⟩:=hc;simp only[Option.some.injEq,Prod.mk.injEq] at h;obtain⟨rfl,rfl⟩:=h;obtain⟨hvs,hone⟩:=vy.cellsOf hc3
       cases hxv:a.eval x with
       |pointer p=>
        rw[hxv] at vx
        cases vx with
        |ref _ _ l hl=>
         obtain⟨a1,a2,_,_,_⟩:=hw.cells id l cs opn hl hg;obtain⟨c,el,fz,b1,b2,b3⟩:=hw.room id l hl (.inl ⟨cs,opn,hg⟩);have hlen:=hvs.1
         obtain⟨w',hr,hu⟩:=cL P l.blk (l.base+off) (a.eval y).cells.toList 0 w ⟨c,el,fz,b1,by omega⟩
          (fun j hj=>by rw[Nat.add_zero,Nat.add_assoc];exact b3 (off+j) (by omega)) (gA hvs hone)
         obtain⟨r1,r2⟩:=hw.store hl hg hvs hone (by omega) hu;refine⟨.skip,undef,w',G,?_,.inr ⟨rfl,rfl⟩,r1,r2,VR.eH G w'⟩
         have hsize:(a.eval y).cells.size=n:=by simpa [hc1] using hlen
         simp[execOp,ho,hxv,Instr.storeAt,Instr.sureAddr,storeVar,bX hsz w,hsize,hr]
       |_=>rw[hxv] at vx;cases vx
     · cases h
   · cases h
 · cases h
def fieldP (P:Program) (t:TypeId) (i:Nat):Option (Nat×Nat×Bool):=
 match P.underlying t with
 |some (.struct fs)=>match fs[i]? with
  |some f=>match sizeP P f.type,isAggP P f.type with
   |some n,some b=>if n=0 then none else some (f.offset,n,b)
   |_,_=>none
  |none=>none
 |_=>none
theorem aRy {t:TypeId} {x:Operand} {x':Arg} {i:Nat} {off n:Nat} {b:Bool} (ho:o.op=.fieldAddr t x i) (hx:argOf g x=some x') (hf:fieldP P t i=some (off,n,b)):
 OpOK P g o (.fadr off x'):=by
 intro s a G H w v H' hw hs h;have vx:=aV hw hs hx;unfold fieldP at hf;split at hf
 · rename_i fs hu
   split at hf
   · rename_i f hfi
     split at hf
     · rename_i n' b' hn hb
       split at hf
       · cases hf
       · rename_i hn0
         simp only[Option.some.injEq,Prod.mk.injEq] at hf;obtain⟨rfl,rfl,rfl⟩:=hf
         have hrun:∀bl o',a.eval x=.pointer (some ⟨bl,o',none⟩)→(execOp a.eval o).run P w=.ok (.value (.pointer (some ⟨bl,o'+f.offset,none⟩))) w:=fun bl o' he=>by
          simp[execOp,ho,he,Instr.fieldAt,run_underlying hu w,hfi,Instr.sureAddr,fieldPlace,bX hn w,hn0,dD]
         simp only[aop] at h;split at h
         · rename_i id o' hid
           rw[hid] at vx;simp only[Option.some.injEq,Prod.mk.injEq] at h;obtain⟨rfl,rfl⟩:=h
           cases hxv:a.eval x with
           |pointer p=>
            rw[hxv] at vx
            cases vx with
            |ref _ _ l hl=>exact OpOK.pure' hw (hrun _ _ hxv) (by rw[Nat.add_assoc];exact .ref id (o'+f.offset) l hl)
           |_=>rw[hxv] at vx;cases vx
         · rename_i cs hid
           rw[hid] at vx;simp only[Option.some.injEq,Prod.mk.injEq] at h;obtain⟨rfl,rfl⟩:=h
           cases hxv:a.eval x with
           |pointer p=>
            rw[hxv] at vx
            cases vx with
            |pl _ bl o' us hh hv=>
             refine OpOK.pure' hw (hrun _ _ hxv) (.pl _ bl (o'+f.offset) (fun j=>us (f.offset+j)) (fun j hj=>?_) (fun j hj=>?_))
             · simp at hj
               rw[Nat.add_assoc,mM];exact hh (f.offset+j) (by omega)
             · simp at hj
               rw[mM];exact hv (f.offset+j) (by omega)
           |_=>rw[hxv] at vx;cases vx
         · cases h
     · cases hf
   · cases hf
 · cases hf
theorem aDm {t:TypeId} {n:Nat} {b:Bool} (hn:sizeP P t=some n) (hb:isAggP P t=some b) {G:Gh} {w:World} {cs:List AV} {us:List Value} {off:Nat}
 (hl:us.length=cs.length) (h1:∀c∈cs,c.one=true) (hv:∀j,j<cs.length→VR G w (cs.getD j undefA) (us.getD j undef)) (hin:off+n≤cs.length) (hn1:b=false→n=1):
 ∃u,(part t us.toArray off).run P w=.ok u w∧VR G w (if b then .agg ((cs.drop off).take n) else cs.getD off undefA) u:=by
 cases b with
 |true=>
  refine⟨.agg ((us.drop off).take n).toArray,?_,?_⟩
  · simp only[part,Sem.run_bind,fQ hb w,Result.andThen_ok,if_true,bX hn w,Sem.run_pure]
    congr 2;apply Array.ext';simp[List.extract_eq_take_drop]
  · simp only[if_true]
    refine .agg _ _ (by simp;omega) (fun c hc=>h1 c (List.mem_of_mem_drop (List.mem_of_mem_take hc))) (fun j hj=>?_);simp at hj;rw[bY _ _ _ _ _ (by omega),bY _ _ _ _ _ (by omega)];exact hv _ (by omega)
 |false=>
  have :=hn1 rfl;refine⟨us.getD off undef,?_,hv off (by omega)⟩;simp only[part,Sem.run_bind,fQ hb w,Result.andThen_ok,Bool.false_eq_true,if_false,List.getElem?_toArray,fN us undef off (by omega)];rfl
theorem VR.iJ {G:Gh} {w:World} {cs:List AV} {u:Value} (h:VR G w (.agg cs) u):∃us:List Value,u=.agg us.toArray∧us.length=cs.length∧(∀c∈cs,c.one=true)∧
 ∀j,j<cs.length→VR G w (cs.getD j undefA) (us.getD j undef):=by
 cases h with
 |agg _ us hl h1 hv=>exact⟨us,rfl,hl,h1,hv⟩
end
end
end Go.Av
