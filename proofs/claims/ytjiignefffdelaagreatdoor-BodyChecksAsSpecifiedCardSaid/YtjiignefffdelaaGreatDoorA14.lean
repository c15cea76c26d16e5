/-
  Parts of the proof of statement 4: AvFn, AvExec
-/
import Derived.Test.YtjiignefffdelaaGreatDoorA13
import Derived.Laws.Sem
set_option linter.unusedVariables false
set_option linter.unusedSimpArgs false
set_option linter.unusedSectionVars false
namespace Go.Av
open Go
inductive ARes where
 |tmp (t:Nat)
 |cell (a:Nat) (agg:Bool) (n:Nat)
def aresOf (P:Program):ResultVar→Option ARes
 |.tmp t=>some (.tmp t)
 |.cell a t=>match isAggP P t,sizeP P t with
  |some agg,some n=>some (.cell a agg n)
  |_,_=>none
def aressOf (P:Program):List ResultVar→Option (List ARes)
 |[]=>some []
 |x::r=>match aresOf P x,aressOf P r with
  |some y,some ys=>some (y::ys)
  |_,_=>none
def resA (s:List AV) (H:Heap):ARes→Option AV
 |.tmp t=>some (s.getD t undefA)
 |.cell a agg n=>match aop (Arg.eval g0 s) H (.load agg n (.tmp a)) with
  |some (v,_)=>some v
  |none=>none
def resAs (s:List AV) (H:Heap):List ARes→Option (List AV)
 |[]=>some []
 |x::r=>match resA s H x,resAs s H r with
  |some v,some vs=>some (v::vs)
  |_,_=>none
def retA:List AV→AV
 |[v]=>v
 |vs=>.tup vs
structure AFn where
 ntmps:Nat
 results:List ARes
 body:ACode
def FnIs (P:Program) (g:Genv) (mu:Bool) (f:FuncId) (F:AFn):Prop:=
 ∃fn c,P.funcs[f]?=some fn∧fn.body=some c∧(fn.name== "runtime.NumGoroutine")=false∧acode P g mu c=some F.body∧fn.ntmps=F.ntmps∧aressOf P fn.results.toList=some F.results
theorem FnIs.ok {P:Program} {g:Genv} {mu:Bool} {f:FuncId} {F:AFn} (h:FnIs P g mu f F):FnOK P f:=
 let⟨fn,c,h1,h2,h3,_⟩:=h
 ⟨fn,h1,by rw[h2];rfl,h3⟩
def startS (F:AFn) (args:List AV):List AV:=args++List.replicate (F.ntmps -args.length) undefA
def retQ (F:AFn) (R:Out→Heap→Prop):AQ
 |.normal,s,ds,H|.ret,s,ds,H=>ds=[]∧∃vs,resAs s H F.results=some vs∧R (.ret (retA vs)) H
 |.panic v,_,ds,H=>ds=[]∧R (.pan v) H
 |.exit _,_,_,_=>False
theorem aPk {P:Program} {g:Genv} {G:Gh} {H:Heap} {w:World} {s:List AV} {a:Act} {x:Nat} {t:TypeId} {agg:Bool} {n:Nat} (hag:isAggP P t=some agg) (hsz:sizeP P t=some n)
 {v:AV} {H':Heap} (hw:WR g G H w) (hs:SR G w s a) (h:aop (Arg.eval g0 s) H (.load agg n (.tmp x))=some (v,H')):
 ∃ad u,a.tmps.getD x undef=.pointer (some ad)∧(loadVar t ad).run P w=.ok u w∧VR G w v u:=by
 have vx:=hs.getD x
 have fin:∀(b o':Nat) (cs:List AV),a.tmps.getD x undef=.pointer (some ⟨b,o',none⟩)→n=cs.length→(∀c∈cs,c.one=true)→(agg=false→n=1)→
  (∀j,j<n→∃u,w.cell? ⟨b,o'+j,none⟩=some u∧VR G w (cs.getD j undefA) u)→
  ∃ad u,a.tmps.getD x undef=.pointer (some ad)∧(loadVar t ad).run P w=.ok u w∧VR G w (if agg then .agg cs else cs.getD 0 undefA) u:=by
  intro b o' cs he hl h1 hn hc;obtain⟨u,hr,hv⟩:=qL (P:=P) hag hsz hl h1 hn hc;exact⟨_,u,he,hr,hv⟩
 simp only[aop,Arg.eval] at h;generalize hxv:a.tmps.getD x undef=xv at vx fin;split at h
 · rename_i id off hid
   rw[hid] at vx;split at h
   · rename_i cs hcs
     obtain⟨opn,hg⟩:=Heap.fB hcs;split at h
     · rename_i hin
       cases vx with
       |ref _ _ l hl=>
        have h4:=(hw.cells id l cs opn hl hg).2.2.2.1;have hcell:=rK hw hl hg hin
        have hlen:n=((cs.drop off).take n).length:=by simp;omega
        have hone:∀c∈(cs.drop off).take n,c.one=true:=fun c hc=>h4 c (List.mem_of_mem_drop (List.mem_of_mem_take hc));split at h
        · rename_i hagg
          simp only[Option.some.injEq,Prod.mk.injEq] at h;obtain⟨rfl,rfl⟩:=h;have :=fin _ _ _ rfl hlen hone (fun hf=>by rw[hagg] at hf;cases hf) hcell
          rwa [if_pos hagg] at this
        · rename_i hagg
          split at h
          · rename_i hn
            simp only[Option.some.injEq,Prod.mk.injEq] at h;obtain⟨rfl,rfl⟩:=h;have :=fin _ _ _ rfl hlen hone (fun _=>hn) hcell
            rwa [if_neg hagg,bY _ _ _ _ _ (by omega),Nat.add_zero] at this
          · cases h
     · cases h
   · cases h
 · rename_i cs hid
   rw[hid] at vx;split at h
   · rename_i hin
     cases vx with
     |pl _ b o' us hh hv=>
      have hcell:∀j,j<n→∃u,w.cell? ⟨b,o'+j,none⟩=some u∧VR G w ((cs.take n).getD j undefA) u:=fun j hj=>by
       rw[getD_take _ _ _ _ hj];exact⟨us j,(hh j (by omega)).2.1,hv j (by omega)⟩
      have hlen:n=(cs.take n).length:=by simp;omega
      have hone:∀c∈cs.take n,c.one=true:=fun c hc=>by
       obtain⟨j,hj,rfl⟩:=List.mem_iff_getElem.1 (List.mem_of_mem_take hc);have :=(hh j hj).2.2;simpa [getD_eq,List.getElem?_eq_getElem hj] using this
      split at h
      · rename_i hagg
        simp only[Option.some.injEq,Prod.mk.injEq] at h;obtain⟨rfl,rfl⟩:=h;have :=fin _ _ _ rfl hlen hone (fun hf=>by rw[hagg] at hf;cases hf) hcell
        rwa [if_pos hagg] at this
      · rename_i hagg
        split at h
        · rename_i hn
          simp only[Option.some.injEq,Prod.mk.injEq] at h;obtain⟨rfl,rfl⟩:=h;have :=fin _ _ _ rfl hlen hone (fun _=>hn) hcell
          rwa [if_neg hagg,getD_take _ _ _ _ (by omega)] at this
        · cases h
   · cases h
 · cases h
def oneRes (tmps:Array Value):ResultVar→Sem Value
 |.tmp t=>pure (tmps.getD t undef)
 |.cell a t=>do loadVar t (←asAddr (tmps.getD a undef))
theorem qK {P:Program} {g:Genv} {G:Gh} {H:Heap} {w:World} {s:List AV} {a:Act} (hw:WR g G H w) (hs:SR G w s a):∀(l:List ResultVar) (rl:List ARes) (vs:List AV),aressOf P l=some rl→resAs s H rl=some vs→
 ∃us:List Value,(l.mapM (oneRes a.tmps)).run P w=Result.ok us w∧VRs G w vs us
 |[],rl,vs,hr,h=>by
  obtain rfl:=Option.some.inj hr;obtain rfl:=Option.some.inj h;exact⟨[],by simp,VRs.nil G w⟩
 |x::l,rl,vs,hr,h=>by
  unfold aressOf at hr;split at hr
  · rename_i y ys hy hys
    obtain rfl:=Option.some.inj hr;unfold resAs at h;split at h
    · rename_i v vs' hv hvs
      obtain rfl:=Option.some.inj h;obtain⟨us,h1,h2⟩:=qK hw hs l ys vs' hys hvs
      cases x with
      |tmp t=>
       obtain rfl:=Option.some.inj hy;obtain rfl:=Option.some.inj hv;exact⟨a.tmps.getD t undef::us,by simp[h1,oneRes],VRs.cons (hs.getD t) h2⟩
      |cell b t=>
       simp only[aresOf] at hy;split at hy
       · rename_i agg n hag hsz
         obtain rfl:=Option.some.inj hy;simp only[resA] at hv;split at hv
         · rename_i v' H' hv'
           obtain rfl:=Option.some.inj hv;obtain⟨ad,u,e1,e2,e3⟩:=aPk hag hsz hw hs hv';refine⟨u::us,?_,VRs.cons e3 h2⟩;simp only[List.mapM_cons,oneRes,Sem.run_bind,e1,asAddr,Sem.run_pure,Result.andThen_ok,e2,h1]
         · cases hv
       · cases hy
    · cases h
  · cases hr
theorem sI {P:Program} {g:Genv} {G:Gh} {H:Heap} {w:World} {s:List AV} {a:Act} {fn:Func} {rl:List ARes} {vs:List AV} (hw:WR g G H w) (hs:SR G w s a) (hr:aressOf P fn.results.toList=some rl) (h:resAs s H rl=some vs):
 ∃u,(results fn a.tmps).run P w=.ok u w∧VR G w (retA vs) u:=by
 obtain⟨us,h1,h2⟩:=qK hw hs _ _ _ hr h
 have key:(results fn a.tmps).run P w=.ok (if h:us.toArray.size=1 then us.toArray[0] else .tuple us.toArray) w:=by
  have hres:results fn a.tmps=(fn.results.mapM (oneRes a.tmps)>>= fun vs=>pure (if h:vs.size=1 then vs[0] else .tuple vs)):=by
   unfold results;congr 1
  rw[hres];rw[Array.mapM_eq_mapM_toList];simp only[map_eq_pure_bind,Sem.run_bind];rw[h1];simp
 refine⟨_,key,?_⟩;have hl:=h2.1
 cases vs with
 |nil=>
  obtain rfl:us=[]:=List.length_eq_zero_iff.1 hl;exact VR.eH G w
 |cons v vs=>
  cases us with
  |nil=>simp at hl
  |cons u us=>
   cases vs with
   |nil=>
    simp at hl;subst hl;have :=h2.2 0 (by simp);simpa [retA] using this
   |cons v2 vs=>
    cases us with
    |nil=>simp at hl
    |cons u2 us=>
     rw[dif_neg (by simp)];exact VR.tup _ _ h2.1 h2.2
def SoundQ (P:Program) (g:Genv) (f:FuncId) (args:List AV) (H:Heap) (R:Out→Heap→Prop):Prop:=
 FnOK P f∧∀(G:Gh) (w:World) (vs:List Value),WR g G H w→VRs G w args vs→
  Calls P f vs.toArray w fun e w'=>∃out H' G',R out H'∧WR g G' H' w'∧Ext G H w G' H' w'∧OutR G' w' out e
theorem oY {P:Program} {g:Genv} {mu:Bool} (hm:Fit P g) {f:FuncId} {F:AFn} (hF:FnIs P g mu f F) {args:List AV} {H:Heap} {R:Out→Heap→Prop}
 (h:AC P g F.body (startS F args) [] H (retQ F R)):SoundQ P g f args H R:=by
 refine⟨hF.ok,fun G w vs hw hv=>?_⟩;obtain⟨fn,c,h1,h2,_,h3,h4,h5⟩:=hF;refine calls_of_wp h1 h2 (wp_mono (wpIn_wide.1 (lA hm c none F.body h3 (.inl rfl) _ [] G H w _ _ h hw ?_ trivial)) fun e a w' hq=>?_)
 · have hlen:=hv.1
   show VRs G w _ _;simp only[startS,Array.toList_append,Array.toList_replicate,List.size_toArray,hlen,h4];refine hv.append ⟨by simp,fun j hj=>?_⟩;simp only[List.length_replicate] at hj;simp only[List.getD_eq_getElem?_getD,List.getElem?_replicate,hj,if_true,Option.getD_some];exact VR.eH G w
 · obtain⟨ae,s',ds',H1,G',q,hw',he,hs',hd',hx⟩:=hq
   have hnil:ds'=[]→a.defers=[]:=fun hh=>by
    subst hh
    cases hda:a.defers with
    |nil=>rfl
    |cons d r=>rw[hda] at hd';exact hd'.elim
   have fin:∀e',(ds'=[]∧∃vs,resAs s' H1 F.results=some vs∧R (.ret (retA vs)) H1)→
    (e'=Exit.normal∨e'=Exit.ret)→bodyPost P fn (fun e w'=>∃out H' G',R out H'∧WR g G' H' w'∧Ext G H w G' H' w'∧OutR G' w' out e) e' a w':=by
    rintro e' ⟨hds,vs',hvs,hR⟩ he';obtain⟨u,hu,hvu⟩:=sI hw' hs' h5 hvs
    rcases he' with rfl|rfl
    all_goals exact⟨hnil hds,u,hu,_,_,G',hR,hw',he,hvu⟩
   cases ae with
   |normal=>
    cases e with
    |normal=>exact fin _ q (.inl rfl)
    |_=>exact hx.elim
   |ret=>
    cases e with
    |ret=>exact fin _ q (.inr rfl)
    |_=>exact hx.elim
   |exit id=>exact q.elim
   |panic v=>
    cases e with
    |panic ch=>
     obtain⟨hds,hR⟩:=q;exact⟨hnil hds,_,_,G',hR,hw',he,hx⟩
    |_=>exact hx.elim
theorem SoundQ.exact {P:Program} {g:Genv} {f:FuncId} {args:List AV} {H H':Heap} {out:Out} (h:SoundQ P g f args H fun o h=>o=out∧h=H'):Sound P g f args H out H':=
 ⟨h.1,fun G w vs hw hv=>(h.2 G w vs hw hv).mono fun e w' ⟨_,_,G',⟨e1,e2⟩,h1,h2,h3⟩=>⟨G',e2▸h1,e2▸h2,e1▸h3⟩⟩
theorem Sound.open {P:Program} {g:Genv} {f:FuncId} {args:List AV} {H H':Heap} {out:Out} (h:Sound P g f args H out H'):SoundQ P g f args H fun o h=>o=out∧h=H':=
 ⟨h.1,fun G w vs hw hv=>(h.2 G w vs hw hv).mono fun e w' ⟨G',h1,h2,h3⟩=>⟨_,_,G',⟨rfl,rfl⟩,h1,h2,h3⟩⟩
theorem aBg {P:Program} {g:Genv} {mu:Bool} (hm:Fit P g) {f:FuncId} {F:AFn} (hF:FnIs P g mu f F) {args:List AV} {H H':Heap} {out:Out}
 (h:AC P g F.body (startS F args) [] H (retQ F fun o h=>o=out∧h=H')):Sound P g f args H out H':=(oY hm hF h).exact
section
inductive VT where
 |nil
 |node (v:AV) (l r:VT)
def VT.get:VT→Nat→AV
 |.nil,_=>undefA
 |.node v l r,n=>match n with
  |0=>v
  |m+1=>match Nat.beq (Nat.mod m 2) 0 with
   |true=>l.get (Nat.div m 2)
   |false=>r.get (Nat.div m 2)
def VT.root:VT→AV
 |.nil=>undefA
 |.node v _ _=>v
def VT.left:VT→VT
 |.nil=>.nil
 |.node _ l _=>l
def VT.right:VT→VT
 |.nil=>.nil
 |.node _ _ r=>r
def VT.setF:Nat→VT→Nat→AV→VT
 |0,t,_,v=>.node v t.left t.right
 |f+1,t,n,v=>match n with
  |0=>.node v t.left t.right
  |m+1=>match Nat.beq (Nat.mod m 2) 0 with
   |true=>.node t.root (VT.setF f t.left (Nat.div m 2) v) t.right
   |false=>.node t.root t.left (VT.setF f t.right (Nat.div m 2) v)
theorem VT.pP (t:VT):t.get 0=t.root:=by cases t<;>rfl
theorem VT.jI (t:VT) (m:Nat):t.get (m+1)=if Nat.beq (Nat.mod m 2) 0=true then t.left.get (Nat.div m 2) else t.right.get (Nat.div m 2):=by
 cases t with
 |nil=>simp[VT.get,VT.left,VT.right]
 |node v l r=>
  simp only[VT.get,VT.left,VT.right];cases Nat.beq (Nat.mod m 2) 0<;>rfl
theorem aCg {m k:Nat} (h1:Nat.beq (Nat.mod m 2) 0=Nat.beq (Nat.mod k 2) 0) (h2:Nat.div m 2=Nat.div k 2):m=k:=by
 have a1:m%2=Nat.mod m 2:=rfl;have a2:k%2=Nat.mod k 2:=rfl;have a3:m / 2=Nat.div m 2:=rfl;have a4:k / 2=Nat.div k 2:=rfl
 have h4:m%2=0↔k%2=0:=by
  constructor
  · intro h
    refine Nat.eq_of_beq_eq_true (?_:Nat.beq (Nat.mod k 2) 0=true);rw[←h1];show Nat.beq (m%2) 0=true;rw[h];rfl
  · intro h
    refine Nat.eq_of_beq_eq_true (?_:Nat.beq (Nat.mod m 2) 0=true);rw[h1];show Nat.beq (k%2) 0=true;rw[h];rfl
 omega
theorem VT.pO:∀(f:Nat) (t:VT) (n:Nat) (v:AV) (m:Nat),n≤f→(VT.setF f t n v).get m=if m=n then v else t.get m:=by
 intro f
 induction f with
 |zero=>
  intro t n v m hn
  obtain rfl:n=0:=by omega
  cases m with
  |zero=>simp[VT.setF,VT.pP,VT.root]
  |succ m=>simp[VT.setF,VT.jI,VT.left,VT.right]
 |succ f ih=>
  intro t n v m hn
  cases n with
  |zero=>
   cases m with
   |zero=>simp[VT.setF,VT.pP,VT.root]
   |succ m=>simp[VT.setF,VT.jI,VT.left,VT.right]
  |succ n=>
   have hd:Nat.div n 2≤f:=Nat.le_trans (Nat.div_le_self n 2) (by omega)
   cases hb:Nat.beq (Nat.mod n 2) 0 with
   |true=>
    simp only[VT.setF,hb]
    cases m with
    |zero=>simp[VT.pP,VT.root]
    |succ m=>
     rw[VT.jI,VT.jI];simp only[VT.left,VT.right]
     cases hbm:Nat.beq (Nat.mod m 2) 0 with
     |true=>
      simp only[if_true];rw[ih _ _ _ _ hd];by_cases he:Nat.div m 2=Nat.div n 2
      · rw[if_pos he,if_pos]
        rw[aCg (by rw[hb,hbm]) he]
      · rw[if_neg he,if_neg]
        intro hh;apply he;rw[Nat.succ.inj hh]
     |false=>
      simp only[Bool.false_eq_true,if_false];rw[if_neg];intro hh;rw[Nat.succ.inj hh,hb] at hbm;cases hbm
   |false=>
    simp only[VT.setF,hb]
    cases m with
    |zero=>simp[VT.pP,VT.root]
    |succ m=>
     rw[VT.jI,VT.jI];simp only[VT.left,VT.right]
     cases hbm:Nat.beq (Nat.mod m 2) 0 with
     |false=>
      simp only[Bool.false_eq_true,if_false];rw[ih _ _ _ _ hd];by_cases he:Nat.div m 2=Nat.div n 2
      · rw[if_pos he,if_pos]
        rw[aCg (by rw[hb,hbm]) he]
      · rw[if_neg he,if_neg]
        intro hh;apply he;rw[Nat.succ.inj hh]
     |true=>
      simp only[if_true];rw[if_neg];intro hh;rw[Nat.succ.inj hh,hb] at hbm;cases hbm
def VT.set (t:VT) (n:Nat) (v:AV):VT:=VT.setF n t n v
theorem VT.aB (t:VT) (n:Nat) (v:AV) (m:Nat):(t.set n v).get m=if m=n then v else t.get m:=VT.pO n t n v m (Nat.le_refl _)
def toL (n:Nat) (T:VT):List AV:=(List.range n).map T.get
def Bnd (n:Nat) (T:VT):Prop:=∀t,n≤t→T.get t=undefA
def putT (n:Nat) (T:VT) (dst:Option Nat) (v:AV):VT:=
 match dst with
 |none=>T
 |some d=>match Nat.blt d n with
  |true=>T.set d v
  |false=>T
theorem Bnd.put {n:Nat} {T:VT} (h:Bnd n T) (dst:Option Nat) (v:AV):Bnd n (putT n T dst v):=by
 unfold putT;split
 · exact h
 · rename_i d
   cases hb:Nat.blt d n with
   |true=>
    intro t ht;rw[VT.aB,if_neg]
    · exact h t ht
    · intro hh
      have :d<n:=by simpa [Nat.blt_eq] using hb
      omega
   |false=>exact h
theorem vT {n:Nat} {T:VT} (h:Bnd n T) (t:Nat):(toL n T).getD t undefA=T.get t:=by
 unfold toL;rw[getD_eq,List.getElem?_map];by_cases ht:t<n
 · simp[ht]
 · rw[h t (by omega)]
   simp[ht]
theorem fX {n:Nat} {T:VT} (dst:Option Nat) (v:AV):toL n (putT n T dst v)=putA (toL n T) dst v:=by
 unfold putT putA
 cases dst with
 |none=>rfl
 |some d=>
  simp only;unfold toL;apply List.ext_getElem?;intro i;rw[List.getElem?_set]
  cases hb:Nat.blt d n with
  |true=>
   have hd:d<n:=by simpa [Nat.blt_eq] using hb
   simp only[List.getElem?_map,List.length_map,List.length_range,hd,if_true];by_cases hi:d=i
   · subst hi
     simp[hd,VT.aB]
   · rw[if_neg hi]
     by_cases hin:i<n
     · simp[hin,VT.aB,Ne.symm hi]
     · simp[hin]
  |false=>
   have hd:¬d<n:=by
    intro hh
    have :Nat.blt d n=true:=by simpa [Nat.blt_eq] using hh
    rw[hb] at this;cases this
   simp only[List.getElem?_map,List.length_map,List.length_range,hd,if_false];by_cases hi:d=i
   · subst hi
     simp[hd]
   · rw[if_neg hi]
def startT (n:Nat):List AV→Nat→VT→VT
 |[],_,T=>T
 |v::vs,i,T=>startT n vs (i+1) (putT n T (some i) v)
def evT (g:Genv) (T:VT):Arg→AV
 |.tmp t=>T.get t
 |.const v=>v
 |.glob n=>match g n with
  |some cs=>.pl cs
  |none=>undefA
theorem nV {n:Nat} {T:VT} (h:Bnd n T) (g:Genv):evT g T=Arg.eval g (toL n T):=by
 funext x
 cases x with
 |tmp t=>exact(vT h t).symm
 |const v=>rfl
 |glob n=>rfl
def wantedT (T:VT) (o:ROper):Bool:=
 match o.guard with
 |none=>true
 |some (d,b)=>match T.get d with
  |.bool c=>c==b
  |_=>false
theorem vY {n:Nat} {T:VT} (h:Bnd n T) (o:ROper):wantedT T o=wantedA (toL n T) o:=by
 unfold wantedT wantedA
 cases o.guard with
 |none=>rfl
 |some p=>
  simp only[vT h];cases T.get p.1<;>rfl
mutual
def AV.same:AV→AV→Bool
 |.bool a,.bool b=>a==b
 |.int j a,.int k b=>decide (j=k)&&decide (a=b)
 |.str a,.str b=>a==b
 |.nilp,.nilp=>true
 |.ref i o,.ref j p=>i==j&&o==p
 |.pl a,.pl b=>sameL a b
 |.nilsl,.nilsl=>true
 |.aT t s e,.aT t' s' e'=>t==t'&&s==s'&&sameLL e e'
 |.sl a b c d e,.sl a' b' c' d' e'=>a==a'&&b==b'&&c==c'&&d==d'&&e==e'
 |.func f a b,.func f' a' b'=>decide (f=f')&&sameL a a'&&sameL b b'
 |.nilfn,.nilfn=>true
 |.iface t v,.iface t' v'=>decide (t=t')&&v.same v'
 |.nilif,.nilif=>true
 |.agg a,.agg b=>sameL a b
 |.tup a,.tup b=>sameL a b
 |.map i,.map j=>i==j
 |.nilmap,.nilmap=>true
 |_,_=>false
def sameL:List AV→List AV→Bool
 |[],[]=>true
 |x::r,y::s=>x.same y&&sameL r s
 |_,_=>false
def sameLL:List (List AV)→List (List AV)→Bool
 |[],[]=>true
 |x::r,y::s=>sameL x y&&sameLL r s
 |_,_=>false
end
mutual
theorem AV.aAq:∀(a b:AV),a.same b=true→a=b:=by
 intro a b h
 cases a<;>cases b<;>simp only[AV.same,Bool.and_eq_true,beq_iff_eq,decide_eq_true_eq] at h<;>first
  |rfl
  |(cases h;done)
  |(subst h;rfl)
  |(obtain⟨h1,h2⟩:=h;subst h1;subst h2;rfl)
  |(obtain⟨⟨⟨⟨h1,h2⟩,h3⟩,h4⟩,h5⟩:=h;subst h1;subst h2;subst h3;subst h4;subst h5;rfl)
  |(rw[eK _ _ h];done)
  |(obtain⟨h1,h2⟩:=h;subst h1;rw[AV.aAq _ _ h2];done)
  |(obtain⟨⟨h1,h2⟩,h3⟩:=h;subst h1;subst h2;rw[yK _ _ h3];done)
  |(obtain⟨⟨h1,h2⟩,h3⟩:=h;subst h1;rw[eK _ _ h2,eK _ _ h3];done)
theorem eK:∀(a b:List AV),sameL a b=true→a=b:=by
 intro a b h
 cases a with
 |nil=>cases b with
  |nil=>rfl
  |cons y s=>simp[sameL] at h
 |cons x r=>cases b with
  |nil=>simp[sameL] at h
  |cons y s=>
   simp only[sameL,Bool.and_eq_true] at h;rw[AV.aAq _ _ h.1,eK _ _ h.2]
theorem yK:∀(a b:List (List AV)),sameLL a b=true→a=b:=by
 intro a b h
 cases a with
 |nil=>cases b with
  |nil=>rfl
  |cons y s=>simp[sameLL] at h
 |cons x r=>cases b with
  |nil=>simp[sameLL] at h
  |cons y s=>
   simp only[sameLL,Bool.and_eq_true] at h;rw[eK _ _ h.1,yK _ _ h.2]
end
def sameObj:Option AObj→Option AObj→Bool
 |none,none=>true
 |some (.cells a o),some (.cells b p)=>sameL a b&&o==p
 |some .tok,some .tok=>true
 |some .dead,some .dead=>true
 |some (.map a),some (.map b)=>sameL (a.map (·.1)) (b.map (·.1))&&sameL (a.map (·.2)) (b.map (·.2))
 |_,_=>false
theorem aLi {a b:List (AV×AV)} (h1:a.map (·.1)=b.map (·.1)) (h2:a.map (·.2)=b.map (·.2)):a=b:=by
 induction a generalizing b with
 |nil=>cases b with
  |nil=>rfl
  |cons y s=>simp at h1
 |cons x r ih=>cases b with
  |nil=>simp at h1
  |cons y s=>
   simp only[List.map_cons,List.cons.injEq] at h1 h2;rw[ih h1.2 h2.2,Prod.ext h1.1 h2.1]
theorem vO {a b:Option AObj} (h:sameObj a b=true):a=b:=by
 unfold sameObj at h
 split at h<;>first
  |rfl
  |(cases h;done)
  |skip
 · simp only[Bool.and_eq_true,beq_iff_eq] at h
   rw[eK _ _ h.1,h.2]
 · simp only[Bool.and_eq_true] at h
   rw[aLi (eK _ _ h.1) (eK _ _ h.2)]
abbrev CallF:=AV→List AV→Heap→Option (Out×Heap)
abbrev Res:=AEx×VT×List Dfr×Heap
def exOps (cf:CallF) (g:Genv) (n:Nat):List ROper→VT→List Dfr→Heap→Option Res
 |[],T,ds,H=>some (.normal,T,ds,H)
 |o::r,T,ds,H=>
  match wantedT T o with
  |true=>match o.op with
   |.call f azs=>match cf (evT g T f) (azs.map (evT g T)) H with
    |some (.ret v,H')=>exOps cf g n r (putT n T o.dst v) ds H'
    |some (.pan v,H')=>some (.panic v,T,ds,H')
    |none=>none
   |.panic x=>match evT g T x with
    |.iface t v=>some (.panic (.iface t v),T,ds,H)
    |_=>none
   |.deferc f azs=>match calleeA (evT g T f) with
    |some p=>exOps cf g n r (putT n T o.dst undefA) (.call p.1 (p.2.1++azs.map (evT g T)++p.2.2)::ds) H
    |none=>none
   |op=>match aop (evT g T) H op with
    |some (v,H')=>exOps cf g n r (putT n T o.dst v) ds H'
    |none=>none
  |false=>exOps cf g n r (putT n T o.dst undefA) ds H
def exQ (cf:CallF) (g:Genv) (T:VT) (H:Heap):ROp→Option (AV×Heap)
 |.call f azs=>match calleeA (evT g T f) with
  |some _=>match cf (evT g T f) (azs.map (evT g T)) H with
   |some (.ret v,H')=>some (v,H')
   |_=>none
  |none=>none
 |.panic _|.deferc _ _=>none
 |op=>aop (evT g T) H op
def keepsB (pairs:List (Nat×Nat)) (i id:Nat) (ef:List (Nat×Heap×Heap)):Bool:=
 ef.all fun x=> !pairs.contains (i,x.1)||sameObj (x.2.1.get id) (x.2.2.get id)
def exDr (cf:CallF) (g:Genv) (n:Nat) (pairs:List (Nat×Nat)) (base:Nat):Nat→Nat→List ROper→List (Nat×Nat)→List (Nat×Heap×Heap)→VT→Heap→Option (VT×Heap)
 |_,_,[],_,_,T,H=>some (T,H)
 |i,k,r::rs,rd,ef,T,H=>
  match wantedT T r with
  |true=>match r.op.fresh with
   |true=>match fop (evT g T) r.op with
    |some (ob,val)=>match keepsB pairs i (base+k) ef with
     |true=>exDr cf g n pairs base (i+1) (k+1) rs ((i,base+k)::rd) ef (putT n T r.dst (val (base+k))) (H.set (base+k) ob)
     |false=>none
    |none=>none
   |false=>match r.op.eff with
    |true=>match exQ cf g T H r.op with
     |some (v,H')=>match Nat.ble H.next H'.next&&rd.all fun x=> !pairs.contains (x.1,i)||sameObj (H.get x.2) (H'.get x.2) with
      |true=>exDr cf g n pairs base (i+1) k rs rd ((i,H,H')::ef) (putT n T r.dst v) H'
      |false=>none
     |none=>none
    |false=>match exQ cf g T H r.op with
     |some (v,_)=>match r.op.readsId (evT g T) with
      |some id=>match keepsB pairs i id ef with
       |true=>exDr cf g n pairs base (i+1) k rs ((i,id)::rd) ef (putT n T r.dst v) H
       |false=>none
      |none=>exDr cf g n pairs base (i+1) k rs rd ef (putT n T r.dst v) H
     |none=>none
  |false=>exDr cf g n pairs base (i+1) (match r.op.fresh with|true=>k+1|false=>k) rs rd ef (putT n T r.dst undefA) H
def loopN (f:VT→List Dfr→Heap→Option Res):Nat→VT→List Dfr→Heap→Option Res
 |0,_,_,_=>none
 |m+1,T,ds,H=>match f T ds H with
  |some (.normal,T',ds',H')=>loopN f m T' ds' H'
  |r=>r
def exC (cf:CallF) (g:Genv) (n fuel:Nat):ACode→VT→List Dfr→Heap→Option Res
 |.skip,T,ds,H=>some (.normal,T,ds,H)
 |.ops rl,T,ds,H=>exOps cf g n rl T ds H
 |.draw rl pairs,T,ds,H=>match freeAt H (rl.countP (·.op.fresh)) with
  |true=>match exDr cf g n pairs H.next 0 0 rl [] [] T {H with next:=H.next+rl.countP (·.op.fresh)} with
   |some (T',H')=>some (.normal,T',ds,H')
   |none=>none
  |false=>none
 |.seq a b,T,ds,H=>match exC cf g n fuel a T ds H with
  |some (.normal,T',ds',H')=>exC cf g n fuel b T' ds' H'
  |r=>r
 |.cond c a b,T,ds,H=>match evT g T c with
  |.bool true=>exC cf g n fuel a T ds H
  |.bool false=>exC cf g n fuel b T ds H
  |_=>none
 |.block id a,T,ds,H=>match exC cf g n fuel a T ds H with
  |some (.exit i,T',ds',H')=>match Nat.beq i id with
   |true=>some (.normal,T',ds',H')
   |false=>some (.exit i,T',ds',H')
  |r=>r
 |.loop a,T,ds,H=>loopN (exC cf g n fuel a) fuel T ds H
 |.exit id,T,ds,H=>some (.exit id,T,ds,H)
 |.ret,T,ds,H=>some (.ret,T,ds,H)
 |.rangeF c ps asg body,T,ds,H=>match evT g T c with
  |.func (.func fid) fs cs=>match cf (.func (.func fid) fs cs) [.yield (H.next+1)] ((H.alloc .dfd).alloc (.loop ⟨ps,asg,body⟩ (toL n T) .ready)) with
   |some (.ret _,He)=>match He.get (H.next+1) with
    |some (.loop _ _ .ready)=>some (.normal,T,.mark H.next::ds,He.set (H.next+1) .dead)
    |some (.loop _ _ (.done .ret))=>some (.ret,T,.mark H.next::ds,He.set (H.next+1) .dead)
    |some (.loop _ _ (.done (.exit i)))=>some (.exit i,T,.mark H.next::ds,He.set (H.next+1) .dead)
    |_=>none
   |_=>none
  |_=>none
def putAllT (n:Nat) (T:VT):List (Nat×AV)→VT
 |[]=>T
 |(t,v)::r=>putAllT n (putT n T (some t) v) r
section
variable {P:Program} {g:Genv} {n fuel:Nat} {cf:CallF}
theorem CallS.sound {fv:AV} {args:List AV} {H H':Heap} {out:Out} {p:FuncId×List AV×List AV} (h:CallS P g fv args H out H') (hp:calleeA fv=some p):Sound P g p.1 (p.2.1++args++p.2.2) H out H':=by
 rcases h with ⟨q,hq,h⟩|⟨id,rfl,_⟩
 · rw[hq] at hp
   cases hp;exact h
 · cases hp
def CallOK (P:Program) (g:Genv) (cf:CallF):Prop:=∀c args H out H',cf c args H=some (out,H')→CallS P g c args H out H'
theorem fZ (hcf:CallOK P g cf):∀(rl:List ROper) (T:VT) (ds:List Dfr) (H:Heap) (ae:AEx) (T':VT) (ds':List Dfr) (H':Heap),Bnd n T→exOps cf g n rl T ds H=some (ae,T',ds',H')→
 Bnd n T'∧∀Q:AQ,Q ae (toL n T') ds' H'→AOps P g rl (toL n T) ds H Q
 |[],T,ds,H,ae,T',ds',H',hb,h=>by
  simp only[exOps,Option.some.injEq,Prod.mk.injEq] at h;obtain⟨rfl,rfl,rfl,rfl⟩:=h;exact⟨hb,fun Q hq=>hq⟩
 |o::r,T,ds,H,ae,T',ds',H',hb,h=>by
  unfold exOps at h;rw[nV hb,vY hb] at h;unfold AOps
  cases hw:wantedA (toL n T) o with
  |false=>
   rw[hw] at h;dsimp only at h;have ih:=fZ hcf r _ ds H ae T' ds' H' (hb.put o.dst undefA) h;rw[fX] at ih;exact⟨ih.1,fun Q hq=>by simpa using ih.2 Q hq⟩
  |true=>
   rw[hw] at h;dsimp only at h;simp only[if_true];split at h
   · rename_i f azs hop
     split at h
     · rename_i v H1 hc
       have ih:=fZ hcf r _ ds H1 ae T' ds' H' (hb.put o.dst v) h;rw[fX] at ih;exact⟨ih.1,fun Q hq=>by rw[hop];exact⟨.ret v,H1,hcf _ _ _ _ _ hc,ih.2 Q hq⟩⟩
     · rename_i v H1 hc
       simp only[Option.some.injEq,Prod.mk.injEq] at h;obtain⟨rfl,rfl,rfl,rfl⟩:=h;exact⟨hb,fun Q hq=>by rw[hop];exact⟨.pan v,H1,hcf _ _ _ _ _ hc,hq⟩⟩
     · cases h
   · rename_i x hop
     split at h
     · rename_i t v hx
       simp only[Option.some.injEq,Prod.mk.injEq] at h;obtain⟨rfl,rfl,rfl,rfl⟩:=h;exact⟨hb,fun Q hq=>by rw[hop];exact⟨t,v,hx,hq⟩⟩
     · cases h
   · rename_i f azs hop
     split at h
     · rename_i p hp
       have ih:=fZ hcf r _ _ H ae T' ds' H' (hb.put o.dst undefA) h;rw[fX] at ih;exact⟨ih.1,fun Q hq=>by rw[hop];exact⟨p,hp,ih.2 Q hq⟩⟩
     · cases h
   · rename_i n1 n2 n3
     split at h
     · rename_i v H1 ha
       have ih:=fZ hcf r _ ds H1 ae T' ds' H' (hb.put o.dst v) h;rw[fX] at ih;refine⟨ih.1,fun Q hq=>?_⟩;split
       · rename_i f azs hop;exact absurd hop (n1 f azs)
       · rename_i x hop;exact absurd hop (n2 x)
       · rename_i f azs hop;exact absurd hop (n3 f azs)
       · rename_i x hop;rw[hop] at ha;cases ha
       · rename_i x hop;rw[hop] at ha;cases ha
       · rename_i x hop;rw[hop] at ha;cases ha
       · exact⟨v,H1,ha,ih.2 Q hq⟩
     · cases h
theorem xH (hcf:CallOK P g cf) {T:VT} (hb:Bnd n T) {H H':Heap} {r:ROper} {v:AV} (h:exQ cf g T H r.op=some (v,H')):QStep P g r (toL n T) H v H':=by
 unfold exQ at h;rw[nV hb] at h;unfold QStep;split at h
 · rename_i f azs hop
   rw[hop];split at h
   · rename_i p hp
     split at h
     · rename_i v' H1 hc
       simp only[Option.some.injEq,Prod.mk.injEq] at h;obtain⟨rfl,rfl⟩:=h;exact⟨p,hp,(hcf _ _ _ _ _ hc).sound hp⟩
     · cases h
   · cases h
 · cases h
 · cases h
 · rename_i n1 n2 n3
   split
   · rename_i f azs hop;exact absurd hop (n1 f azs)
   · rename_i x hop;exact absurd hop (n2 x)
   · rename_i f azs hop;exact absurd hop (n3 f azs)
   · exact h
theorem uJ {pairs:List (Nat×Nat)} {i id:Nat} {ef:List (Nat×Heap×Heap)} (h:keepsB pairs i id ef=true):∀x∈ef,(i,x.1)∈pairs→x.2.1.get id=x.2.2.get id:=by
 intro x hx hp;have :=List.all_eq_true.1 h x hx;simp only[Bool.or_eq_true,Bool.not_eq_true',List.contains_eq_mem,decide_eq_false_iff_not] at this;exact vO (this.resolve_left fun hh=>hh hp)
theorem fJ (hcf:CallOK P g cf) {pairs:List (Nat×Nat)} {base:Nat}:∀(rl:List ROper) (i k:Nat) (rd:List (Nat×Nat)) (ef:List (Nat×Heap×Heap)) (T:VT) (H:Heap) (T':VT) (H':Heap),Bnd n T→
 exDr cf g n pairs base i k rl rd ef T H=some (T',H')→Bnd n T'∧∀Q:List AV→Heap→Prop,Q (toL n T') H'→ADr P g pairs base i k rl rd ef (toL n T) H Q
 |[],i,k,rd,ef,T,H,T',H',hb,h=>by
  simp only[exDr,Option.some.injEq,Prod.mk.injEq] at h;obtain⟨rfl,rfl⟩:=h;exact⟨hb,fun Q hq=>hq⟩
 |r::rs,i,k,rd,ef,T,H,T',H',hb,h=>by
  unfold exDr at h;rw[vY hb] at h;unfold ADr
  cases hw:wantedA (toL n T) r with
  |false=>
   rw[hw] at h;dsimp only at h;have ih:=fJ hcf rs _ _ _ _ _ _ T' H' (hb.put r.dst undefA) h;rw[fX] at ih
   have hk:(match r.op.fresh with|true=>k+1|false=>k)=if r.op.fresh then k+1 else k:=by cases r.op.fresh<;>rfl
   rw[hk] at ih;exact⟨ih.1,fun Q hq=>by simpa using ih.2 Q hq⟩
  |true=>
   rw[hw] at h;dsimp only at h;simp only[if_true]
   cases hf:r.op.fresh with
   |true=>
    rw[hf] at h;dsimp only at h;simp only[if_true];rw[nV hb] at h;split at h
    · rename_i ob val ho
      split at h
      · rename_i hk
        have ih:=fJ hcf rs _ _ _ _ _ _ T' H' (hb.put r.dst (val (base+k))) h;rw[fX] at ih;exact⟨ih.1,fun Q hq=>⟨ob,val,ho,uJ hk,ih.2 Q hq⟩⟩
      · cases h
    · cases h
   |false=>
    rw[hf] at h;dsimp only at h;simp only[Bool.false_eq_true,if_false]
    cases he:r.op.eff with
    |true=>
     rw[he] at h;dsimp only at h;simp only[if_true];split at h
     · rename_i v H1 hq1
       split at h
       · rename_i hk
         simp only[Bool.and_eq_true] at hk;have ih:=fJ hcf rs _ _ _ _ _ _ T' H' (hb.put r.dst v) h;rw[fX] at ih;refine⟨ih.1,fun Q hq=>⟨v,H1,xH hcf hb hq1,by simpa using Nat.le_of_ble_eq_true hk.1,fun x hx hp=>?_,ih.2 Q hq⟩⟩;have :=List.all_eq_true.1 hk.2 x hx;simp only[Bool.or_eq_true,Bool.not_eq_true',List.contains_eq_mem,decide_eq_false_iff_not] at this;exact vO (this.resolve_left fun hh=>hh hp)
       · cases h
     · cases h
    |false=>
     rw[he] at h;dsimp only at h;simp only[Bool.false_eq_true,if_false];split at h
     · rename_i v H1 hq1
       have hqs:=xH hcf hb hq1
       have hH:H1=H:=by
        unfold QStep at hqs;split at hqs
        · rename_i hop;rw[hop] at he;cases he
        · exact hqs.elim
        · exact hqs.elim
        · exact(rB (H1:=H) he hf hqs (fun id _=>rfl)).1
       rw[hH] at hqs;rw[nV hb] at h;split at h
       · rename_i id hid
         split at h
         · rename_i hk
           have ih:=fJ hcf rs _ _ _ _ _ _ T' H' (hb.put r.dst v) h;rw[fX] at ih;refine⟨ih.1,fun Q hq=>⟨v,hqs,fun id' hid'=>?_,?_⟩⟩
           · rw[hid] at hid'
             cases hid';exact uJ hk
           · rw[hid];exact ih.2 Q hq
         · cases h
       · rename_i hid
         have ih:=fJ hcf rs _ _ _ _ _ _ T' H' (hb.put r.dst v) h;rw[fX] at ih;refine⟨ih.1,fun Q hq=>⟨v,hqs,fun id' hid'=>?_,?_⟩⟩
         · rw[hid] at hid';cases hid'
         · rw[hid];exact ih.2 Q hq
     · cases h
theorem wV {rl:List ROper}:∀{s:List AV} {ds:List Dfr} {H:Heap} {Q Q':AQ},(∀e s ds H,Q e s ds H→Q' e s ds H)→AOps P g rl s ds H Q→AOps P g rl s ds H Q':=by
 induction rl with
 |nil=>exact fun hq h=>hq _ _ _ _ h
 |cons o r ih=>
  intro s ds H Q Q' hq h;unfold AOps at h ⊢;split
  · rename_i hw
    rw[if_pos hw] at h;split at h
    · obtain⟨out,H',h1,h3⟩:=h
      refine⟨out,H',h1,?_⟩
      cases out with
      |ret v=>exact ih hq h3
      |pan v=>exact hq _ _ _ _ h3
    · obtain⟨t,v,h1,h2⟩:=h
      exact⟨t,v,h1,hq _ _ _ _ h2⟩
    · obtain⟨p,h1,h2⟩:=h
      exact⟨p,h1,ih hq h2⟩
    · obtain⟨m,es,h1,h2,h3⟩:=h
      exact⟨m,es,h1,h2,fun bs c mb k1 k2=>ih hq (h3 bs c mb k1 k2)⟩
    · obtain⟨it,m,mb,c,seen,es,bs,h1,h2,h3,h4,h5⟩:=h
      exact⟨it,m,mb,c,seen,es,bs,h1,h2,h3,fun k=>ih hq (h4 k),fun j k1 k2=>ih hq (h5 j k1 k2)⟩
    · obtain⟨it,m,mb,c,seen,es,bs,j,h1,h2,h3,h4,h5⟩:=h
      exact⟨it,m,mb,c,seen,es,bs,j,h1,h2,h3,h4,ih hq h5⟩
    · obtain⟨v,H',h1,h2⟩:=h
      exact⟨v,H',h1,ih hq h2⟩
  · rename_i hw
    rw[if_neg hw] at h;exact ih hq h
theorem aAz {pairs:List (Nat×Nat)} {base:Nat} {rl:List ROper}:∀{i k:Nat} {rd:List (Nat×Nat)} {ef:List (Nat×Heap×Heap)} {s:List AV} {H:Heap} {Q Q':List AV→Heap→Prop},(∀s H,Q s H→Q' s H)→
 ADr P g pairs base i k rl rd ef s H Q→ADr P g pairs base i k rl rd ef s H Q':=by
 induction rl with
 |nil=>exact fun hq h=>hq _ _ h
 |cons r rs ih=>
  intro i k rd ef s H Q Q' hq h;unfold ADr at h ⊢;split
  · rename_i hw
    rw[if_pos hw] at h;split
    · rename_i hf
      rw[if_pos hf] at h;obtain⟨ob,val,h1,h2,h3⟩:=h;exact⟨ob,val,h1,h2,ih hq h3⟩
    · rename_i hf
      rw[if_neg hf] at h;split
      · rename_i he
        rw[if_pos he] at h;obtain⟨v,H',h1,h2,h3,h4⟩:=h;exact⟨v,H',h1,h2,h3,ih hq h4⟩
      · rename_i he
        rw[if_neg he] at h;obtain⟨v,h1,h2,h3⟩:=h;exact⟨v,h1,h2,ih hq h3⟩
  · rename_i hw
    rw[if_neg hw] at h;exact ih hq h
theorem cC {c:ACode}:∀{s:List AV} {ds:List Dfr} {H:Heap} {Q Q':AQ},(∀e s ds H,Q e s ds H→Q' e s ds H)→AC P g c s ds H Q→AC P g c s ds H Q':=by
 induction c with
 |skip=>exact fun hq h=>hq _ _ _ _ h
 |ops rl=>exact fun hq h=>wV hq h
 |draw rl pairs=>exact fun hq h=>⟨h.1,aAz (fun s H=>hq _ _ _ _) h.2⟩
 |seq a b iha ihb=>
  intro s ds H Q Q' hq h;refine iha (fun e s ds H h=>?_) h
  cases e with
  |normal=>exact ihb hq h
  |_=>exact hq _ _ _ _ h
 |cond c a b iha ihb=>
  intro s ds H Q Q' hq h;obtain⟨t,h1,h2⟩:=h;refine⟨t,h1,?_⟩
  cases t with
  |true=>exact iha hq h2
  |false=>exact ihb hq h2
 |block id a ih=>
  intro s ds H Q Q' hq h;refine ih (fun e s ds H h=>?_) h
  cases e with
  |exit i=>
   simp only[inBlockA] at h ⊢;split
   · rename_i hi;rw[if_pos hi] at h;exact hq _ _ _ _ h
   · rename_i hi;rw[if_neg hi] at h;exact hq _ _ _ _ h
  |_=>exact hq _ _ _ _ h
 |loop a ih=>
  intro s ds H Q Q' hq h;obtain⟨I,m,h0,hI⟩:=h;refine⟨I,m,h0,fun m s ds H hi=>ih (fun e s ds H h=>?_) (hI m s ds H hi)⟩
  cases e with
  |normal=>exact h
  |_=>exact hq _ _ _ _ h
 |exit id=>exact fun hq h=>hq _ _ _ _ h
 |ret=>exact fun hq h=>hq _ _ _ _ h
 |rangeF c ps a b iha ihb=>
  intro s ds H Q Q' hq h;obtain⟨fid,fs,cs,v,He,k',s',st,Hf,h1,h2,h3,h4,h5⟩:=h;refine⟨fid,fs,cs,v,He,k',s',st,Hf,h1,h2,h3,h4,?_⟩
  cases st with
  |ready=>exact hq _ _ _ _ h5
  |done e=>cases e<;>exact hq _ _ _ _ h5
  |busy=>exact h5.elim
  |over _=>exact h5.elim
theorem mK (hcf:CallOK P g cf):∀(c:ACode) (T:VT) (ds:List Dfr) (H:Heap) (ae:AEx) (T':VT) (ds':List Dfr) (H':Heap),Bnd n T→exC cf g n fuel c T ds H=some (ae,T',ds',H')→
 Bnd n T'∧∀Q:AQ,Q ae (toL n T') ds' H'→AC P g c (toL n T) ds H Q:=by
 intro c
 induction c with
 |skip=>
  intro T ds H ae T' ds' H' hb h;simp only[exC,Option.some.injEq,Prod.mk.injEq] at h;obtain⟨rfl,rfl,rfl,rfl⟩:=h;exact⟨hb,fun Q hq=>hq⟩
 |ops rl=>exact fun T ds H ae T' ds' H' hb h=>fZ hcf rl T ds H ae T' ds' H' hb h
 |draw rl pairs=>
  intro T ds H ae T' ds' H' hb h;simp only[exC] at h;split at h
  · rename_i hfr
    split at h
    · rename_i T1 H1 hd
      simp only[Option.some.injEq,Prod.mk.injEq] at h;obtain⟨rfl,rfl,rfl,rfl⟩:=h;have :=fJ hcf rl 0 0 [] [] T _ T1 H1 hb hd;exact⟨this.1,fun Q hq=>⟨hfr,this.2 _ hq⟩⟩
    · cases h
  · cases h
 |seq a b iha ihb=>
  intro T ds H ae T' ds' H' hb h;simp only[exC] at h;split at h
  · rename_i T1 ds1 H1 ha
    have h1:=iha T ds H _ T1 ds1 H1 hb ha;have h2:=ihb T1 ds1 H1 ae T' ds' H' h1.1 h;exact⟨h2.1,fun Q hq=>h1.2 _ (h2.2 Q hq)⟩
  · rename_i hn
    have h1:=iha T ds H ae T' ds' H' hb h;refine⟨h1.1,fun Q hq=>h1.2 _ ?_⟩
    cases ae with
    |normal=>exact absurd h (hn _ _ _)
    |_=>exact hq
 |cond c a b iha ihb=>
  intro T ds H ae T' ds' H' hb h;simp only[exC] at h;rw[nV hb] at h;split at h
  · rename_i hc
    have h1:=iha T ds H ae T' ds' H' hb h;exact⟨h1.1,fun Q hq=>⟨true,hc,h1.2 Q hq⟩⟩
  · rename_i hc
    have h1:=ihb T ds H ae T' ds' H' hb h;exact⟨h1.1,fun Q hq=>⟨false,hc,h1.2 Q hq⟩⟩
  · cases h
 |block id a ih=>
  intro T ds H ae T' ds' H' hb h;simp only[exC] at h;split at h
  · rename_i i T1 ds1 H1 ha
    have h1:=ih T ds H _ T1 ds1 H1 hb ha;split at h
    · rename_i hi
      have hi':i=id:=Nat.eq_of_beq_eq_true hi;simp only[Option.some.injEq,Prod.mk.injEq] at h;obtain⟨rfl,rfl,rfl,rfl⟩:=h;refine⟨h1.1,fun Q hq=>h1.2 _ ?_⟩;simp only[inBlockA];rw[if_pos hi'];exact hq
    · rename_i hi
      have hi':i≠id:=Nat.ne_of_beq_eq_false hi;simp only[Option.some.injEq,Prod.mk.injEq] at h;obtain⟨rfl,rfl,rfl,rfl⟩:=h;refine⟨h1.1,fun Q hq=>h1.2 _ ?_⟩;simp only[inBlockA];rw[if_neg hi'];exact hq
  · rename_i hn
    have h1:=ih T ds H ae T' ds' H' hb h;refine⟨h1.1,fun Q hq=>h1.2 _ ?_⟩
    cases ae with
    |exit i=>exact absurd h (hn _ _ _ _)
    |_=>exact hq
 |loop a ih=>
  intro T ds H ae T' ds' H' hb h;simp only[exC] at h
  have key:∀(m:Nat) (T:VT) (ds:List Dfr) (H:Heap),Bnd n T→loopN (exC cf g n fuel a) m T ds H=some (ae,T',ds',H')→Bnd n T':=by
   intro m
   induction m with
   |zero=>intro T ds H _ h;cases h
   |succ m ihm=>
    intro T ds H hb h;simp only[loopN] at h;split at h
    · rename_i T1 ds1 H1 h1
      exact ihm T1 ds1 H1 (ih _ _ _ _ _ _ _ hb h1).1 h
    · exact(ih _ _ _ _ _ _ _ hb h).1
  refine⟨key fuel T ds H hb h,fun Q hq=>⟨fun m s ds H=>∃T,s=toL n T∧Bnd n T∧loopN (exC cf g n fuel a) m T ds H=some (ae,T',ds',H'),fuel,⟨T,rfl,hb,h⟩,?_⟩⟩;rintro m s ds1 H1 ⟨T1,rfl,hb1,h1⟩
  cases m with
  |zero=>cases h1
  |succ m=>
   simp only[loopN] at h1;split at h1
   · rename_i T2 ds2 H2 h2
     have :=ih _ _ _ _ _ _ _ hb1 h2;exact this.2 _ ⟨m,Nat.lt_succ_self m,T2,rfl,this.1,h1⟩
   · rename_i hn
     have :=ih _ _ _ _ _ _ _ hb1 h1;refine this.2 _ ?_
     cases ae with
     |normal=>exact absurd h1 (hn _ _ _)
     |_=>exact hq
 |exit id=>
  intro T ds H ae T' ds' H' hb h;simp only[exC,Option.some.injEq,Prod.mk.injEq] at h;obtain⟨rfl,rfl,rfl,rfl⟩:=h;exact⟨hb,fun Q hq=>hq⟩
 |ret=>
  intro T ds H ae T' ds' H' hb h;simp only[exC,Option.some.injEq,Prod.mk.injEq] at h;obtain⟨rfl,rfl,rfl,rfl⟩:=h;exact⟨hb,fun Q hq=>hq⟩
 |rangeF c ps a b _ _=>
  intro T ds H ae T' ds' H' hb h;simp only[exC] at h;rw[nV hb] at h;split at h
  · rename_i fid fs cs hc
    split at h
    · rename_i v He hcall
      have hS:=(hcf _ _ _ _ _ hcall).sound rfl;have hl:lessLoop He (H.next+1) (He.set (H.next+1) .dead):=⟨rfl,fun m=>Heap.aB _ _ _ _⟩;split at h
      · rename_i k' s' hg
        simp only[Option.some.injEq,Prod.mk.injEq] at h;obtain⟨rfl,rfl,rfl,rfl⟩:=h;exact⟨hb,fun Q hq=>⟨fid,fs,cs,v,He,k',s',.ready,_,hc,hS,hg,hl,hq⟩⟩
      · rename_i k' s' hg
        simp only[Option.some.injEq,Prod.mk.injEq] at h;obtain⟨rfl,rfl,rfl,rfl⟩:=h;exact⟨hb,fun Q hq=>⟨fid,fs,cs,v,He,k',s',.done .ret,_,hc,hS,hg,hl,hq⟩⟩
      · rename_i k' s' i hg
        simp only[Option.some.injEq,Prod.mk.injEq] at h;obtain⟨rfl,rfl,rfl,rfl⟩:=h;exact⟨hb,fun Q hq=>⟨fid,fs,cs,v,He,k',s',.done (.exit i),_,hc,hS,hg,hl,hq⟩⟩
      · cases h
    · cases h
  · cases h
end
end
end Go.Av
