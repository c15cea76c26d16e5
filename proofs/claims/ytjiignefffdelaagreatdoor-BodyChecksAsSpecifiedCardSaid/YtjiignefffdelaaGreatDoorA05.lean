/-
  Parts of the proof of statement 4: AvSoundE
-/
import Derived.Test.YtjiignefffdelaaGreatDoorA04
set_option linter.unusedVariables false
set_option linter.unusedSimpArgs false
namespace Go.Av
open Go
section
theorem lN (off:Nat):∀(l:List Value) (k:Nat) (cells:Array Value),
 ((l.zipIdx k).foldl (fun(cs:Array Value) (p:Value×Nat)=>cs.setIfInBounds (off+p.2) p.1) cells).size=cells.size∧
 ∀i,((l.zipIdx k).foldl (fun(cs:Array Value) (p:Value×Nat)=>cs.setIfInBounds (off+p.2) p.1) cells)[i]?=
  if off+k≤i∧i<off+k+l.length∧i<cells.size then l[i -(off+k)]? else cells[i]?
 |[],k,cells=>⟨rfl,fun i=>by
    rw[if_neg]
    · rfl
    · simp only[List.length_nil];omega⟩
 |v::r,k,cells=>by
  have ih:=lN off r (k+1) (cells.setIfInBounds (off+k) v);simp only[List.zipIdx_cons,List.foldl_cons];refine⟨by rw[ih.1];simp,fun i=>?_⟩;rw[ih.2 i];simp only[List.length_cons,Array.size_setIfInBounds];by_cases h1:off+(k+1)≤i∧i<off+(k+1)+r.length∧i<cells.size
  · rw[if_pos h1,if_pos (by omega)]
    rw[show i -(off+k)=(i -(off+(k+1)))+1 by omega];simp
  · rw[if_neg h1,Array.getElem?_setIfInBounds]
    by_cases h2:off+k=i
    · subst h2
      by_cases h3:off+k<cells.size
      · simp[h3]
      · rw[if_pos rfl,if_neg h3,if_neg (by omega),Array.getElem?_eq_none (by omega)]
    · have hsz:(cells.setIfInBounds (off+k) v).size=cells.size:=by simp
      rw[if_neg h2,if_neg (by omega)]
theorem cP (a:Array Value) (j:Nat) (d:Value):a.toList.getD j d=(a[j]?).getD d:=by
 rw[getD_eq,Array.getElem?_toList]
theorem xO (off:Nat) (arr cells:Array Value):
 (arr.zipIdx.foldl (fun(cs:Array Value) (p:Value×Nat)=>cs.setIfInBounds (off+p.2) p.1) cells).size=cells.size∧
 ∀i,(arr.zipIdx.foldl (fun(cs:Array Value) (p:Value×Nat)=>cs.setIfInBounds (off+p.2) p.1) cells)[i]?=
  if off≤i∧i<off+arr.size∧i<cells.size then arr[i -off]? else cells[i]?:=by
 have h:=lN off arr.toList 0 cells;rw[←Array.foldl_toList];simp only[Array.toList_zipIdx];simpa using h
theorem aNv {G:Gh} {w:World} {cs vs:List AV} {cells arr:Array Value} {off:Nat} (h:VRs G w cs cells.toList) (hv:VRs G w vs arr.toList) (hin:off+vs.length≤cs.length):
 VRs G w (splice cs off vs) (arr.zipIdx.foldl (fun(cs:Array Value) (p:Value×Nat)=>cs.setIfInBounds (off+p.2) p.1) cells).toList:=by
 obtain⟨h1,h2⟩:=xO off arr cells;have l1:=h.1;have l2:=hv.1;simp only[Array.length_toList] at l1 l2;refine⟨by rw[fV _ _ _ hin,Array.length_toList,h1,l1],fun j hj=>?_⟩;rw[fV _ _ _ hin] at hj;rw[rX _ _ _ _ hin,cP,h2 j];by_cases hc:off≤j∧j<off+vs.length
 · rw[if_pos hc,if_pos (by omega)]
   have :=hv.2 (j -off) (by omega)
   rwa [cP] at this
 · rw[if_neg hc,if_neg (by omega)]
   have :=h.2 j hj
   rwa [cP] at this
def partsP (g:Genv) (place:Nat→Option (Nat×Nat)):List (Nat×Operand)→Option (List (Nat×Nat×Arg))
 |[]=>some []
 |(i,x)::r=>match place i,argOf g x,partsP g place r with
  |some (off,n),some y,some ys=>some ((off,n,y)::ys)
  |_,_,_=>none
theorem tZ {g:Genv} {G:Gh} {H:Heap} {w:World} {s:List AV} {a:Act} (hw:WR g G H w) (hs:SR G w s a) {place place':Nat→Option (Nat×Nat)} (hp:∀i p,place i=some p→place' i=some p):
 ∀(parts:List (Nat×Operand)) (ps:List (Nat×Nat×Arg)) (cs cs':List AV) (cells:Array Value),partsP g place parts=some ps→fillA (Arg.eval g s) cs ps=some cs'→VRs G w cs cells.toList→(∀c∈cs,c.one=true)→
  ∃cells',Instr.fill place' cells (parts.map fun(i,x)=>(i,a.eval x))=some cells'∧VRs G w cs' cells'.toList∧∀c∈cs',c.one=true
 |[],ps,cs,cs',cells,h1,h2,hc,h3=>by
  obtain rfl:=Option.some.inj h1;obtain rfl:=Option.some.inj h2;exact⟨cells,rfl,hc,h3⟩
 |(i,x)::r,ps,cs,cs',cells,h1,h2,hc,h3=>by
  unfold partsP at h1;split at h1
  · rename_i off n y ys hpl hy hys
    obtain rfl:=Option.some.inj h1;simp only[fillA] at h2;split at h2
    · rename_i hcond
      obtain⟨c1,c2,c3⟩:=hcond;have vx:=(aV hw hs hy).cellsOf c3;have hlen:=hc.1;have hlx:=vx.1.1;simp only[Array.length_toList] at hlen hlx;have hstep:=aNv hc vx.1 (by omega:off+_≤cs.length);obtain⟨cells',hf,hr⟩:=tZ hw hs hp r ys _ cs' _ hys h2 hstep (fun c hc'=>(uQ hc').elim (h3 c) (vx.2 c));refine⟨cells',?_,hr⟩;simp only[List.map_cons,Instr.fill,hp _ _ hpl]
      have hcnd:(decide ((a.eval x).cells.size≠n)||decide (off+(a.eval x).cells.size>cells.size))=false:=by
       simp;omega
      rw[hcnd];exact hf
    · cases h2
  · cases h1
def placesP (P:Program):List Field→Option (List (Nat×Nat))
 |[]=>some []
 |f::r=>match sizeP P f.type,placesP P r with
  |some n,some l=>some ((f.offset,n)::l)
  |_,_=>none
theorem run_places {P:Program} (w:World):∀{fs:List Field} {l:List (Nat×Nat)},placesP P fs=some l→
 (fs.mapM (fun f=>do pure (f.offset,←sizeOf f.type):Field→Sem (Nat×Nat))).run P w=.ok l w
 |[],l,h=>by
  obtain rfl:=Option.some.inj h;rfl
 |f::r,l,h=>by
  unfold placesP at h;split at h
  · rename_i n l' hn hl
    obtain rfl:=Option.some.inj h;have ih:=run_places w hl;simp only[List.mapM_cons,Sem.run_bind,bX hn w,Result.andThen_ok,Sem.run_pure,ih]
  · cases h
section
variable {P:Program} {g:Genv} {o:Oper}
theorem sO {t:TypeId} {parts:Array (Nat×Operand)} {fs:Array Field} {l:List (Nat×Nat)} {z:Value} {zs:List AV} {ps:List (Nat×Nat×Arg)} (ho:o.op=.build t parts) (hu:P.underlying t=some (.struct fs))
 (hz:zeroP P t=some z) (hzs:constsL z.cells.toList=some zs) (hl:placesP P fs.toList=some l) (hp:partsP g (l[·]?) parts.toList=some ps):OpOK P g o (.build zs ps):=by
 intro s a G H w v H' hw hs h;simp only[aop,Option.map_eq_some_iff,Prod.mk.injEq] at h;obtain⟨cs,hcs,rfl,rfl⟩:=h;have hc:=dX hzs G w;obtain⟨cells',hf,hv,h1⟩:=tZ hw hs (place':=(l.toArray[·]?)) (fun i p hp=>by simpa using hp) parts.toList ps zs cs z.cells hp hcs hc.1 hc.2;refine OpOK.pure' hw (u:=.agg cells') ?_ (by simpa using VR.aEm hv h1);have hpl:=run_places w hl;simp only[execOp,ho,Instr.build,Sem.run_bind,eF hz w,run_underlying hu w,Result.andThen_ok,Array.mapM_eq_mapM_toList,Sem.run_map,hpl,Array.toList_map,hf];rfl
theorem uS {t e:TypeId} {n sz:Nat} {parts:Array (Nat×Operand)} {z:Value} {zs:List AV} {ps:List (Nat×Nat×Arg)} (ho:o.op=.build t parts) (hu:P.underlying t=some (.array n e))
 (hsz:sizeP P e=some sz) (hz:zeroP P t=some z) (hzs:constsL z.cells.toList=some zs) (hp:partsP g (fun i=>some (i*sz,sz)) parts.toList=some ps):OpOK P g o (.build zs ps):=by
 intro s a G H w v H' hw hs h;simp only[aop,Option.map_eq_some_iff,Prod.mk.injEq] at h;obtain⟨cs,hcs,rfl,rfl⟩:=h;have hc:=dX hzs G w;obtain⟨cells',hf,hv,h1⟩:=tZ hw hs (place':=fun i=>some (i*sz,sz)) (fun i p hp=>hp) parts.toList ps zs cs z.cells hp hcs hc.1 hc.2;refine OpOK.pure' hw (u:=.agg cells') ?_ (by simpa using VR.aEm hv h1);simp only[execOp,ho,Instr.build,Sem.run_bind,eF hz w,run_underlying hu w,Result.andThen_ok,bX hsz w,Array.toList_map,hf];rfl
def litP (g:Genv):Nat→List (Nat×Operand)→Option (List Arg)
 |_,[]=>some []
 |k,(i,x)::r=>if i=k then match argOf g x,litP g (k+1) r with
  |some y,some ys=>some (y::ys)
  |_,_=>none
  else none
theorem xZ {ev:Arg→AV} {sz:Nat}:∀{ys:List Arg} {els:List (List AV)},litA ev sz ys=some els→∀e∈els,e.length=sz
 |[],els,h=>by
  obtain rfl:=Option.some.inj h;intro e he;cases he
 |y::ys,els,h=>by
  simp only[litA] at h;split at h
  · rename_i hc
    simp only[Option.map_eq_some_iff] at h;obtain⟨els',h',rfl⟩:=h;intro e he
    rcases List.mem_cons.1 he with rfl|he
    · exact hc.1
    · exact xZ h' e he
  · cases h
theorem aCa {G:Gh} {H:Heap} {w:World} {s:List AV} {a:Act} (hw:WR g G H w) (hs:SR G w s a) (sz:Nat):
 ∀(parts:List (Nat×Operand)) (ys:List Arg) (k:Nat) (els:List (List AV)) (pre:List AV) (cells:Array Value),litP g k parts=some ys→litA (Arg.eval g s) sz ys=some els→
  pre.length=k*sz→cells.size=(k+parts.length)*sz→(∀j,j<k*sz→VR G w (pre.getD j undefA) (cells.toList.getD j undef))→(∀c∈pre,c.one=true)→
  ∃cells',Instr.fill (fun i=>some (i*sz,sz)) cells (parts.map fun(i,x)=>(i,a.eval x))=some cells'∧VRs G w (pre++els.flatten) cells'.toList∧∀c∈pre++els.flatten,c.one=true
 |[],ys,k,els,pre,cells,h1,h2,hp,hc,hv,h3=>by
  obtain rfl:=Option.some.inj h1;obtain rfl:=Option.some.inj h2;refine⟨cells,rfl,⟨by simp at hc ⊢;omega,fun j hj=>?_⟩,by simpa using h3⟩;simp only[List.flatten_nil,List.append_nil] at hj ⊢;exact hv j (by omega)
 |(i,x)::r,ys,k,els,pre,cells,h1,h2,hp,hc,hv,h3=>by
  simp only[litP] at h1;split at h1
  · rename_i hi
    subst hi;split at h1
    · rename_i y ys' hy hys
      obtain rfl:=Option.some.inj h1;simp only[litA] at h2;split at h2
      · rename_i hcond
        simp only[Option.map_eq_some_iff] at h2;obtain⟨els',h2,rfl⟩:=h2;obtain⟨c1,c3⟩:=hcond;have vx:=(aV hw hs hy).cellsOf c3;have hlx:=vx.1.1;simp only[Array.length_toList] at hlx
        have hm:(i+(r.length+1))*sz=i*sz+sz+r.length*sz:=by rw[Nat.add_mul,Nat.succ_mul];omega
        have hm1:(i+1)*sz=i*sz+sz:=Nat.succ_mul i sz;simp only[List.length_cons] at hc;obtain⟨f1,f2⟩:=xO (i*sz) (a.eval x).cells cells
        obtain⟨cells',hf,hr,ho⟩:=aCa hw hs sz r ys' (i+1) els' (pre++(Arg.eval g s y).cells) ((a.eval x).cells.zipIdx.foldl (fun(cs:Array Value) (p:Value×Nat)=>cs.setIfInBounds (i*sz+p.2) p.1) cells) hys h2
         (by simp[hp,c1,hm1]) (by rw[f1,hc];congr 1;omega) (fun j hj=>by
           rw[cP,f2 j,getD_eq,List.getElem?_append];by_cases hj1:j<pre.length
           · rw[if_pos hj1,if_neg (by omega)]
             have :=hv j (by omega)
             rwa [getD_eq,cP] at this
           · rw[if_neg hj1,if_pos (by omega)]
             have :=vx.1.2 (j -pre.length) (by omega);rw[getD_eq,cP] at this;rw[←hp]
             exact this) (fun c hc=>by
           rcases List.mem_append.1 hc with hc|hc
           · exact h3 c hc
           · exact vx.2 c hc)
        refine⟨cells',?_,by simpa [List.append_assoc] using hr,by simpa [List.append_assoc] using ho⟩;simp only[List.map_cons,Instr.fill]
        have hcnd:(decide ((a.eval x).cells.size≠sz)||decide (i*sz+(a.eval x).cells.size>cells.size))=false:=by
         simp;omega
        rw[hcnd];exact hf
      · cases h2
    · cases h1
  · cases h1
theorem aOt {t e:TypeId} {sz len:Nat} {z:Value} {parts:Array (Nat×Operand)} {ys:List Arg} (ho:o.op=.buildSlice t len parts) (ht:sliceP P t=some (e,sz)) (hz:zeroP P e=some z)
 (hlen:len=parts.size) (hbig:len*sz≤2^24) (hp:litP g 0 parts.toList=some ys):OpOK P g o (.mklit sz ys):=by
 intro s a G H w v H' hw hs h;obtain⟨hu,hsz⟩:=eX ht;simp only[aop,Option.map_eq_some_iff,Prod.mk.injEq] at h;obtain⟨els,hels,rfl,rfl⟩:=h;have hun:=xZ hels
 have hll:els.length=parts.size:=by
  have k1:∀{l:List (Nat×Operand)} {k:Nat} {ys:List Arg},litP g k l=some ys→ys.length=l.length:=by
   intro l
   induction l with
   |nil=>intro k ys h;obtain rfl:=Option.some.inj h;rfl
   |cons p r ih=>
    intro k ys h;obtain⟨i,x⟩:=p;simp only[litP] at h;split at h
    · split at h
      · rename_i y ys' _ h'
        obtain rfl:=Option.some.inj h;simp[ih h']
      · cases h
    · cases h
  have k2:∀{ys:List Arg} {els:List (List AV)},litA (Arg.eval g s) sz ys=some els→els.length=ys.length:=by
   intro ys
   induction ys with
   |nil=>intro els h;obtain rfl:=Option.some.inj h;rfl
   |cons y r ih=>
    intro els h;simp only[litA] at h;split at h
    · simp only[Option.map_eq_some_iff] at h
      obtain⟨els',h',rfl⟩:=h;simp[ih h']
    · cases h
  rw[k2 hels,k1 hp];simp
 let zr:Array Value:=if len*sz=0 then #[] else z.cells
 obtain⟨cells',hf,hv,h1⟩:=aCa hw hs sz parts.toList ys 0 els [] ((Array.range (len*sz)).map (zr[· %zr.size]!)) hp hels (by simp) (by simp[hlen]) (fun j hj=>by simp at hj) (fun c hc=>by cases hc);simp only[List.nil_append] at hv h1;have hp':Pushed w {w with heap:=w.heap.push (.cells cells' e)} (.cells (cells'.toList++[]).toArray e (0,0)):=⟨by simp,.now⟩;obtain⟨r1,r2,r3⟩:=hw.aIr els.flatten cells'.toList [] hv hp';refine⟨.value (.slice (some ⟨w.heap.size,0,none⟩) len len),_,_,_,?_,.inl rfl,r1,r2,?_⟩
 · have hb:¬len*sz>2^24:=by omega
   by_cases h0:len*sz=0
   · simp only[zr,if_pos h0] at hf
     simp only[execOp,ho,Instr.buildSlice,Sem.run_bind,run_underlying hu w,bX hsz w,Result.andThen_ok,if_neg hb,if_pos h0,Sem.run_pure,Array.toList_map,hf];rfl
   · simp only[zr,if_neg h0] at hf
     simp only[execOp,ho,Instr.buildSlice,Sem.run_bind,run_underlying hu w,bX hsz w,Result.andThen_ok,if_neg hb,if_neg h0,eF hz w,Sem.run_pure,Array.toList_map,hf];rfl
 · rw[hlen,←hll]
   exact VR.aT 1 sz els w.heap.size 0 els.length (fun j=>cells'.toList.getD j undef) hun (fun j hj=>⟨(r3 j hj).1,(r3 j hj).2.1,h1 _ (qA hj)⟩) (fun j hj=>(r3 j hj).2.2) ⟨Nat.le_refl _,rfl⟩
def OV:Option Value→Option Nat→Prop
 |none,none=>True
 |some u,some m=>∃k,u=.int k (m:Int)
 |_,_=>False
theorem eW {G:Gh} {H:Heap} {w:World} {s:List AV} {a:Act} (hw:WR g G H w) (hs:SR G w s a) {x:Option Operand} {y:Option Arg} {n:Option Nat} (hx:optArg g x=some y)
 (hn:optNat (Arg.eval g s) y=some n):OV (x.map a.eval) n:=by
 cases x with
 |none=>
  obtain rfl:=Option.some.inj hx;obtain rfl:=Option.some.inj hn;trivial
 |some x=>
  simp only[optArg,Option.map_eq_some_iff] at hx;obtain⟨y',hy,rfl⟩:=hx;simp only[optNat,Option.map_eq_some_iff] at hn;obtain⟨m,hm,rfl⟩:=hn;obtain⟨k,_,hk⟩:=gT hm (aV hw hs hy);exact⟨k,hk⟩
theorem run_sliceBound {k:IntKind} {m y:Nat} {c:BoundsCode} (h:m≤y) (w:World):(Instr.sliceBound (.int k (m:Int)) y c).run P w=.ok m w:=by
 have h0:(0:Int)≤(m:Int)∧(m:Int)≤(y:Int):=by omega
 simp only[Instr.sliceBound,asIntOf,Sem.run_bind,Sem.run_pure,Result.andThen_ok,if_pos h0,Int.toNat_natCast]
theorem gG {isS:Bool} {len cap:Nat} {low high max:Option Value} {lo hi mx:Option Nat} (h1:OV low lo) (h2:OV high hi) (h3:OV max mx) (h4:mx.isSome→hi.isSome)
 (hl:lo.getD 0≤hi.getD len) (hh:hi.isSome→hi.getD len≤mx.getD cap) (hm:mx.getD cap≤cap) (w:World):
 (Instr.sliceBounds isS len cap low high max).run P w=.ok (lo.getD 0,hi.getD len,mx.getD cap) w:=by
 cases max<;>cases mx<;>first|exact h3.elim|skip
 · cases high<;>cases hi<;>first|exact h2.elim|skip
   · cases low<;>cases lo<;>first|exact h1.elim|skip
     · simp[Instr.sliceBounds]
     · obtain⟨k1,rfl⟩:=h1
       simp only[Option.getD_some,Option.getD_none] at hl;simp[Instr.sliceBounds,run_sliceBound hl w]
   · obtain⟨k2,rfl⟩:=h2
     have hh:=hh rfl;simp only[Option.getD_some,Option.getD_none] at hh hl
     cases low<;>cases lo<;>first|exact h1.elim|skip
     · simp[Instr.sliceBounds,run_sliceBound hh w]
     · obtain⟨k1,rfl⟩:=h1
       simp only[Option.getD_some] at hl;simp[Instr.sliceBounds,run_sliceBound hl w,run_sliceBound hh w]
 · obtain⟨k3,rfl⟩:=h3
   cases high<;>cases hi<;>first|exact h2.elim|skip
   · simp at h4
   · obtain⟨k2,rfl⟩:=h2
     have hh:=hh rfl;simp only[Option.getD_some] at hh hm hl
     cases low<;>cases lo<;>first|exact h1.elim|skip
     · simp[Instr.sliceBounds,run_sliceBound hh w,run_sliceBound hm w]
     · obtain⟨k1,rfl⟩:=h1
       simp only[Option.getD_some] at hl;simp[Instr.sliceBounds,run_sliceBound hl w,run_sliceBound hh w,run_sliceBound hm w]
theorem aOv {t:TypeId} {x:Operand} {lo hi:Option Operand} {x':Arg} {lo' hi':Option Arg} (ho:o.op=.slice t x lo hi none) (hx:argOf g x=some x') (hlo:optArg g lo=some lo')
 (hhi:optArg g hi=some hi') (ht:P.underlying t=some .string):OpOK P g o (.slstr x' lo' hi'):=by
 intro s a G H w v H' hw hs h;have vx:=aV hw hs hx;simp only[aop] at h;split at h
 · rename_i str l r h1 h2 h3
   rw[h1] at vx;have e1:=vx.cT;have o1:=eW hw hs hlo h2;have o2:=eW hw hs hhi h3;split at h
   · rename_i hc
     obtain⟨c1,c2⟩:=hc;simp only[Option.some.injEq,Prod.mk.injEq] at h;obtain⟨rfl,rfl⟩:=h
     have hsz:(⟨str.toArray⟩:ByteArray).size=str.length:=by simp[ByteArray.size]
     have hb:=gG (P:=P) (isS:=false) (len:=str.length) (cap:=str.length) (max:=none) (mx:=none) o1 o2 trivial (by simp) c1 (fun _=>by simpa using c2) (by simp) w;refine OpOK.pure' hw (u:=.string ((⟨str.toArray⟩:ByteArray).extract (l.getD 0) (r.getD str.length))) ?_ ?_
     · simp only[execOp,ho,Instr.sliceAt,Sem.run_bind,run_underlying ht w,Result.andThen_ok,Instr.slice,e1,hsz,Option.map_none,hb,Option.isSome_none,Bool.false_eq_true,if_false]
       rfl
     · have :(⟨str.toArray⟩:ByteArray).extract (l.getD 0) (r.getD str.length)=⟨((str.drop (l.getD 0)).take (r.getD str.length -l.getD 0)).toArray⟩:=by
        apply ByteArray.ext;simp[ByteArray.data_extract,List.extract_eq_take_drop]
       rw[this];exact VR.aAt _ _ _
   · cases h
 · cases h
theorem zO {els:List (List AV)} {sz:Nat} (hu:∀e∈els,e.length=sz) (l:Nat):(els.drop l).flatten=els.flatten.drop (l*sz):=by
 induction els generalizing l with
 |nil=>simp
 |cons e r ih=>
  cases l with
  |zero=>simp
  |succ l=>
   have he:e.length=sz:=hu e (by simp);rw[List.drop_succ_cons,ih (fun e he=>hu e (by simp[he])),List.flatten_cons,Nat.succ_mul,Nat.add_comm,←he,List.drop_length_add_append]
theorem zQ {els:List (List AV)} {sz:Nat} (hu:∀e∈els,e.length=sz) (l:Nat):(els.take l).flatten=els.flatten.take (l*sz):=by
 induction els generalizing l with
 |nil=>simp
 |cons e r ih=>
  cases l with
  |zero=>simp
  |succ l=>
   have he:e.length=sz:=hu e (by simp);rw[List.take_succ_cons,List.flatten_cons,ih (fun e he=>hu e (by simp[he])),List.flatten_cons,Nat.succ_mul,Nat.add_comm,←he,List.take_length_add_append]
theorem VR.aCo {G:Gh} {w:World} {sz:Nat} {els:List (List AV)} {b o':Nat} {us:Nat→Value} (hu:∀e∈els,e.length=sz)
 (h:∀j,j<els.flatten.length→G.imm b (o'+j)∧w.cell? ⟨b,o'+j,none⟩=some (us j)∧(els.flatten.getD j undefA).one=true)
 (hv:∀j,j<els.flatten.length→VR G w (els.flatten.getD j undefA) (us j)) (l n:Nat) (hn:l+n≤els.length) {tag cap:Nat}
 (ht:TagOK G tag b (o'+l*sz+n*sz) sz n cap):VR G w (.aT tag sz ((els.drop l).take n)) (.slice (some ⟨b,o'+l*sz,none⟩) n cap):=by
 have hu1:∀e∈els.drop l,e.length=sz:=fun e he=>hu e (List.mem_of_mem_drop he);have hu2:∀e∈(els.drop l).take n,e.length=sz:=fun e he=>hu1 e (List.mem_of_mem_take he)
 have hfl:((els.drop l).take n).flatten=(els.flatten.drop (l*sz)).take (n*sz):=by rw[zQ hu1,zO hu]
 have hlen:((els.drop l).take n).length=n:=by simp;omega
 have htot:=length_flatten hu
 have hb:l*sz+n*sz≤els.flatten.length:=by rw[htot,←Nat.add_mul];exact Nat.mul_le_mul_right _ hn
 have :=VR.aT (G:=G) (w:=w) tag sz ((els.drop l).take n) b (o'+l*sz) cap (fun j=>us (l*sz+j)) hu2 (fun j hj=>by
  rw[hfl] at hj ⊢;simp only[List.length_take,List.length_drop] at hj;rw[bY _ _ _ _ _ (by omega),Nat.add_assoc]
  exact h _ (by omega)) (fun j hj=>by
  rw[hfl] at hj ⊢;simp only[List.length_take,List.length_drop] at hj;rw[bY _ _ _ _ _ (by omega)]
  exact hv _ (by omega)) (by rw[hlen];exact ht)
 rwa [hlen] at this
theorem VR.fO {G:Gh} {w:World} (sz b o' cap:Nat) (tag:Nat) (ht:tag=0∨(tag=1∧cap=0)):VR G w (.aT tag sz []) (.slice (some ⟨b,o',none⟩) 0 cap):=
 VR.aT tag sz [] b o' cap (fun _=>undef) (fun e he=>by cases he) (fun j hj=>by simp at hj) (fun j hj=>by simp at hj) (by
  refine⟨Nat.zero_le _,?_⟩
  rcases ht with rfl|⟨rfl,rfl⟩
  · trivial
  · rfl)
theorem aSj {t e:TypeId} {sz:Nat} {x:Operand} {lo hi mx:Option Operand} {x':Arg} {lo' hi' mx':Option Arg} (ho:o.op=.slice t x lo hi mx) (hx:argOf g x=some x') (hlo:optArg g lo=some lo')
 (hhi:optArg g hi=some hi') (hmx:optArg g mx=some mx') (ht:sliceP P t=some (e,sz)):OpOK P g o (.slsl sz x' lo' hi' mx'):=by
 intro s a G H w v H' hw hs h;have vx:=aV hw hs hx;obtain⟨hu,hsz⟩:=eX ht;simp only[aop] at h;split at h
 · rename_i l r m h1 h2 h3
   have o1:=eW hw hs hlo h1;have o2:=eW hw hs hhi h2;have o3:=eW hw hs hmx h3;split at h
   · rename_i hms
     simp only[Option.map_eq_some_iff,Prod.mk.injEq] at h;obtain⟨v',h,rfl,rfl⟩:=h
     have hrun:∀(p:Option Addr) (len cap:Nat),a.eval x=.slice p len cap→l.getD 0≤r.getD len→(r.isSome→r.getD len≤m.getD cap)→m.getD cap≤cap→
      (execOp a.eval o).run P w=.ok (.value (.slice (if m.getD cap=l.getD 0 then p else p.map (·.add (l.getD 0*sz))) (r.getD len -l.getD 0) (m.getD cap -l.getD 0))) w:=by
      intro p len cap hxv c1 c2 c3;have hb:=gG (P:=P) (isS:=true) (len:=len) (cap:=cap) o1 o2 o3 hms c1 c2 c3 w;simp only[execOp,ho,Instr.sliceAt,Sem.run_bind,run_underlying hu w,Result.andThen_ok,Instr.slice,hxv,hb,bX hsz w];rfl
     unfold sliceA at h;split at h
     · rename_i hid
       rw[hid] at vx;generalize hxv:a.eval x=u at vx;cases vx;split at h
       · rename_i hc
         obtain⟨c1,c2,c3⟩:=hc;obtain rfl:=Option.some.inj h;have :=hrun none 0 0 hxv (by omega) (fun _=>by rw[c2,c3];exact Nat.le_refl _) (by rw[c3];exact Nat.le_refl _);rw[c1,c2,c3] at this;exact OpOK.pure' hw this .nilsl
       · cases h
     · rename_i tag sz' els hid
       rw[hid] at vx;generalize hxv:a.eval x=u at vx
       cases vx with
       |aT _ _ _ b o' cap us hun hh hv htag=>
        have htl:=htag.1;simp only at h;split at h
        · rename_i hc
          obtain⟨rfl,c1,c2⟩:=hc;have hpart:=VR.aCo hun hh hv;split at h
          · rename_i m'
            split at h
            · rename_i hc2
              obtain⟨c3,c4⟩:=hc2;obtain rfl:=Option.some.inj h;have :=hrun _ _ _ hxv c1 (fun _=>by simpa using c3) (by simp;omega);simp only[Option.getD_some,Option.map_some,dD] at this;refine OpOK.pure' hw this ?_;by_cases hml:m'=l.getD 0
              · rw[if_pos hml]
                have h0:r.getD els.length -l.getD 0=0:=by omega
                have h0':m' -l.getD 0=0:=by omega
                rw[h0,h0',List.take_zero];exact VR.fO _ _ _ _ _ (by by_cases hmr:m'=r.getD els.length<;>simp[hmr])
              · rw[if_neg hml]
                refine hpart _ _ (by omega) ⟨by omega,?_⟩;by_cases hmr:m'=r.getD els.length
                · rw[if_pos hmr];omega
                · rw[if_neg hmr];trivial
            · cases h
          · have hr0:=hrun _ _ _ hxv c1 (fun _=>by simp;omega) (by simp)
            simp only[Option.getD_none,Option.map_some,dD] at hr0;split at h
            · rename_i hc2
              obtain⟨c3,c4⟩:=hc2;obtain rfl:=Option.some.inj h;rw[c3] at hr0;refine OpOK.pure' hw hr0 ?_;by_cases hcl:cap=l.getD 0
              · rw[if_pos hcl]
                have h0:els.length -l.getD 0=0:=by omega
                have hd:els.drop (l.getD 0)=[]:=List.drop_eq_nil_of_le (by omega);rw[h0,hd]
                rcases c4 with c4|c4
                · omega
                · match tag,c4,htag with
                  |0,_,_=>exact VR.fO _ _ _ _ _ (.inl rfl)
                  |1,_,htag=>exact VR.fO _ _ _ _ _ (.inr ⟨rfl,by omega⟩)
              · rw[if_neg hcl]
                have hd:els.drop (l.getD 0)=(els.drop (l.getD 0)).take (els.length -l.getD 0):=by rw[List.take_of_length_le];simp
                rw[hd];refine hpart _ _ (by omega) ⟨by omega,?_⟩;have h2:=htag.2
                have hmul:o'+l.getD 0*sz'+(els.length -l.getD 0)*sz'=o'+els.length*sz':=by
                 rw[Nat.add_assoc,←Nat.add_mul];congr 2;omega
                match tag,h2,c4 with
                |0,_,_=>trivial
                |1,h2,_=>show cap -l.getD 0=els.length -l.getD 0;rw[h2]
                |k+2,⟨lc,h2,h3,h4,h5,h6⟩,_=>
                 refine⟨lc,h2,h3,by rw[hmul];exact h4,h5,?_⟩;rw[h6];congr 1;omega
            · obtain rfl:=Option.some.inj h
              refine OpOK.pure' hw hr0 ?_;by_cases hcl:cap=l.getD 0
              · rw[if_pos hcl]
                have h0:r.getD els.length -l.getD 0=0:=by omega
                rw[h0,List.take_zero];exact VR.fO _ _ _ _ _ (.inl rfl)
              · rw[if_neg hcl]
                exact hpart _ _ (by omega) ⟨by omega,trivial⟩
        · cases h
       |lstE _ _ b o' s' htag=>
        simp only[List.length_nil] at h;split at h
        · rename_i hc
          obtain⟨rfl,c1,c2⟩:=hc
          have hl0:l.getD 0=0:=by omega
          have hr0:r.getD 0=0:=by omega
          split at h
          · rename_i m'
            split at h
            · rename_i hc2
              obtain⟨c3,c4⟩:=hc2;obtain rfl:=Option.some.inj h
              have hm0:m'=0:=by omega
              subst hm0;have :=hrun _ _ _ hxv (by omega) (fun _=>by simpa using c3) (by simp);simp only[Option.getD_some,hl0,hr0,if_true,Nat.sub_zero] at this;refine OpOK.pure' hw this ?_;rw[List.drop_nil,List.take_nil];exact .lstE _ _ _ _ _ (by split<;>omega)
            · cases h
          · have hr1:=hrun _ _ _ hxv (by omega) (fun _=>by simp;omega) (by simp)
            simp only[Option.getD_none,hl0,hr0,if_true,Nat.sub_zero] at hr1;split at h
            · obtain rfl:=Option.some.inj h
              refine OpOK.pure' hw hr1 ?_;rw[List.drop_nil];exact .lstE _ _ _ _ _ htag
            · obtain rfl:=Option.some.inj h
              refine OpOK.pure' hw hr1 ?_;rw[List.drop_nil,List.take_nil];exact .lstE _ _ _ _ _ (by omega)
        · cases h
     · rename_i id sz' off len cap hid
       rw[hid] at vx;generalize hxv:a.eval x=u at vx
       cases vx with
       |sl _ _ _ _ _ cap' lc hl hlen hin hcap=>
        simp only at h;split at h
        · rename_i hc
          obtain⟨rfl,c1⟩:=hc
          have hcc:cap≤cap':=by omega
          split at h
          · rename_i m'
            split at h
            · rename_i hc2
              obtain⟨c3,c4⟩:=hc2;have :=hrun _ _ _ hxv c1 (fun _=>by simpa using c3) (by simp;omega);simp only[Option.getD_some,Option.map_some,dD] at this;split at h
              · rename_i hml
                obtain rfl:=Option.some.inj h;rw[if_pos hml] at this
                have h0:r.getD len -l.getD 0=0:=by omega
                have h0':m' -l.getD 0=0:=by omega
                rw[h0,h0'] at this;exact OpOK.pure' hw this (.sl id sz' off 0 0 0 lc hl (Nat.le_refl _) (by have :off+cap*sz'≤lc.siz:=hin;omega) (.inl rfl))
              · rename_i hml
                obtain rfl:=Option.some.inj h;rw[if_neg hml,Nat.add_assoc] at this;refine OpOK.pure' hw this (.sl id sz' (off+l.getD 0*sz') _ _ _ lc hl (by omega) ?_ (.inl rfl))
                have e1:off+l.getD 0*sz'+(m' -l.getD 0)*sz'=off+m'*sz':=by rw[Nat.add_assoc,←Nat.add_mul];congr 2;omega
                have e2:m'*sz'≤cap*sz':=Nat.mul_le_mul_right _ c4;omega
            · cases h
          · split at h
            · rename_i c3
              have :=hrun _ _ _ hxv c1 (fun _=>by simp;omega) (by simp);simp only[Option.getD_none,Option.map_some,dD] at this;split at h
              · rename_i hlc
                obtain rfl:=Option.some.inj h
                have h0:r.getD len -l.getD 0=0:=by omega
                rw[h0] at this;refine OpOK.pure' hw this ?_;split
                · exact VR.fO _ _ _ _ _ (.inl rfl)
                · exact VR.fO _ _ _ _ _ (.inl rfl)
              · rename_i hlc
                obtain rfl:=Option.some.inj h;rw[if_neg (by omega),Nat.add_assoc] at this
                have e1:off+l.getD 0*sz'+(cap -l.getD 0)*sz'=off+cap*sz':=by rw[Nat.add_assoc,←Nat.add_mul];congr 2;omega
                have e2:off+l.getD 0*sz'+(cap' -l.getD 0)*sz'=off+cap'*sz':=by rw[Nat.add_assoc,←Nat.add_mul];congr 2;omega
                refine OpOK.pure' hw this (.sl id sz' (off+l.getD 0*sz') _ _ _ lc hl (by omega) (by omega) ?_)
                rcases hcap with hcap|⟨q1,q2,q3⟩
                · exact .inl (by omega)
                · exact .inr ⟨by omega,by omega,by omega⟩
            · cases h
        · cases h
     · cases h
   · cases h
 · cases h
theorem dW (sz:Nat):∀(n:Nat) (cs:List AV),n*sz≤cs.length→(chunkF sz n cs).flatten=cs.take (n*sz)∧(chunkF sz n cs).length=n∧∀e∈chunkF sz n cs,e.length=sz
 |0,cs,_=>⟨by simp[chunkF],rfl,fun e he=>by cases he⟩
 |n+1,cs,h=>by
  have hm:(n+1)*sz=sz+n*sz:=by rw[Nat.succ_mul];omega
  obtain⟨h1,h2,h3⟩:=dW sz n (cs.drop sz) (by simp;omega);refine⟨?_,by simp[chunkF,h2],fun e he=>?_⟩
  · rw[chunkF,List.flatten_cons,h1,hm,List.take_add]
  · rcases List.mem_cons.1 he with rfl|he
    · simp;omega
    · exact h3 e he
theorem aOu {t:TypeId} {n sz:Nat} {b:Bool} {x:Operand} {lo hi mx:Option Operand} {x':Arg} {lo' hi' mx':Option Arg} (ho:o.op=.slice t x lo hi mx) (hx:argOf g x=some x') (hlo:optArg g lo=some lo')
 (hhi:optArg g hi=some hi') (hmx:optArg g mx=some mx') (ht:arrayP P t=some (n,sz,b)):OpOK P g o (.slarr n sz x' lo' hi' mx'):=by
 intro s a G H w v H' hw hs h;have vx:=aV hw hs hx;obtain⟨e,hu,hsz,hb⟩:=lE ht;simp only[aop] at h;split at h
 · rename_i l r m h1 h2 h3
   have o1:=eW hw hs hlo h1;have o2:=eW hw hs hhi h2;have o3:=eW hw hs hmx h3;simp only[Option.map_eq_some_iff,Prod.mk.injEq] at h;obtain⟨v',h,rfl,rfl⟩:=h;unfold sliceArrA at h;simp only at h;split at h
   · rename_i hc
     obtain⟨c1,c2,c3,c4⟩:=hc;have hbd:=gG (P:=P) (isS:=false) (len:=n) (cap:=n) o1 o2 o3 c4 c1 (fun _=>c2) c3 w
     have hrun:∀bl o',a.eval x=.pointer (some ⟨bl,o',none⟩)→
      (execOp a.eval o).run P w=.ok (.value (.slice (some (if m.getD n=l.getD 0 then⟨bl,o',none⟩ else⟨bl,o'+l.getD 0*sz,none⟩)) (r.getD n -l.getD 0) (m.getD n -l.getD 0))) w:=by
      intro bl o' hxv;simp only[execOp,ho,Instr.sliceAt,Sem.run_bind,run_underlying hu w,Result.andThen_ok,hxv,Instr.sureAddr,Sem.run_pure,hbd,bX hsz w,dD]
     split at h
     · rename_i id off hid
       rw[hid] at vx;split at h
       · rename_i cs hcs
         obtain⟨opn,hg⟩:=Heap.fB hcs;split at h
         · rename_i hin
           generalize hxv:a.eval x=u at vx
           cases vx with
           |ref _ _ lc hl=>
            have hsiz:=(hw.cells id lc cs opn hl hg).1;have hr0:=hrun _ _ hxv;split at h
            · rename_i hml
              obtain rfl:=Option.some.inj h;rw[if_pos hml] at hr0
              have h0:r.getD n -l.getD 0=0:=by omega
              have h0':m.getD n -l.getD 0=0:=by omega
              rw[h0,h0'] at hr0;exact OpOK.pure' hw hr0 (.sl id sz off 0 0 0 lc hl (Nat.le_refl _) (by omega) (.inl rfl))
            · rename_i hml
              obtain rfl:=Option.some.inj h;rw[if_neg hml,Nat.add_assoc] at hr0;refine OpOK.pure' hw hr0 (.sl id sz (off+l.getD 0*sz) _ _ _ lc hl (by omega) ?_ (.inl rfl))
              have e1:off+l.getD 0*sz+(m.getD n -l.getD 0)*sz=off+m.getD n*sz:=by rw[Nat.add_assoc,←Nat.add_mul];congr 2;omega
              have e2:m.getD n*sz≤n*sz:=Nat.mul_le_mul_right _ c3;omega
         · cases h
       · cases h
     · rename_i cs hid
       rw[hid] at vx;split at h
       · rename_i hin
         obtain rfl:=Option.some.inj h;generalize hxv:a.eval x=u at vx
         cases vx with
         |pl _ b' o' us hh hv=>
          have hr0:=hrun _ _ hxv;refine OpOK.pure' hw hr0 ?_;obtain⟨f1,f2,f3⟩:=dW sz n cs hin;by_cases hml:m.getD n=l.getD 0
          · rw[if_pos hml]
            have h0:r.getD n -l.getD 0=0:=by omega
            have h0':m.getD n -l.getD 0=0:=by omega
            rw[h0,h0',List.take_zero];exact VR.fO _ _ _ _ _ (by by_cases hmr:m.getD n=r.getD n<;>simp[hmr])
          · rw[if_neg hml]
            refine VR.aCo (us:=us) f3 (fun j hj=>?_) (fun j hj=>?_) _ _ (by omega) ⟨by omega,?_⟩
            · rw[f1] at hj ⊢
              simp at hj;rw[getD_take _ _ _ _ (by omega)];exact hh j (by omega)
            · rw[f1] at hj ⊢
              simp at hj;rw[getD_take _ _ _ _ (by omega)];exact hv j (by omega)
            · by_cases hmr:m.getD n=r.getD n
              · rw[if_pos hmr];omega
              · rw[if_neg hmr];trivial
       · cases h
     · cases h
   · cases h
 · cases h
theorem aSi {t e:TypeId} {n:Nat} {x:Operand} {x':Arg} (ho:o.op=.sliceToArrayPointer t x) (hx:argOf g x=some x') (ht:P.underlying t=some (.array n e)):OpOK P g o (.s2ap n x'):=by
 intro s a G H w v H' hw hs h;have vx:=aV hw hs hx
 have hrun:∀(p:Option Addr) (len cap:Nat),a.eval x=.slice p len cap→n≤len→(execOp a.eval o).run P w=.ok (.value (.pointer p)) w:=by
  intro p len cap hxv hle
  have :¬len<n:=by omega
  simp[execOp,ho,Instr.arrayAt,run_underlying ht w,hxv,this]
 simp only[aop] at h;split at h
 · rename_i tag sz els hid
   rw[hid] at vx;generalize hxv:a.eval x=u at vx
   cases vx with
   |aT _ _ _ b o' cap us hun hh hv htag=>
    split at h
    · rename_i hle
      simp only[Option.some.injEq,Prod.mk.injEq] at h;obtain⟨rfl,rfl⟩:=h;exact OpOK.pure' hw (hrun _ _ _ hxv hle.1) (.pl _ b o' us hh hv)
    · cases h
   |lstE=>simp at h
 · rename_i id sz off len cap hid
   rw[hid] at vx;generalize hxv:a.eval x=u at vx
   cases vx with
   |sl _ _ _ _ _ cap' lc hl hlen hin hcap=>
    split at h
    · rename_i hle
      simp only[Option.some.injEq,Prod.mk.injEq] at h;obtain⟨rfl,rfl⟩:=h;exact OpOK.pure' hw (hrun _ _ _ hxv hle) (.ref id off lc hl)
    · cases h
 · cases h
end
end
end Go.Av
