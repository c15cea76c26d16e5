/-
  Part of the proof of statement 9
-/
import Derived.Test.YtogfcjbgeebfkaaGreatDoorA01
import Derived.Laws.BytesArg
set_option linter.unusedVariables false
set_option linter.unusedSimpArgs false
namespace Go.Av
open Go
section
theorem EA(off:Nat):∀(l:List Value) (k:Nat) (cells:Array Value),
 ((l.zipIdx k).foldl (fun(cs:Array Value) (p:Value×Nat)=>cs.setIfInBounds (off+p.2) p.1) cells).size=cells.size/\
 ∀i,((l.zipIdx k).foldl (fun(cs:Array Value) (p:Value×Nat)=>cs.setIfInBounds (off+p.2) p.1) cells)[i]?=
  if off+k<=i/\i<off+k+l.length/\i<cells.size then l[i -(off+k)]? else cells[i]?
 |[],k,cells=>⟨rfl,fun i=>by
    rw[if_neg]
    . rfl
    grind⟩
 |v::r,k,cells=>by
  have z:=EA off r (k+1) (cells.setIfInBounds (off+k) v);simp only[List.zipIdx_cons,List.foldl_cons]
  grind
theorem tR(a:Array Value)(j:Nat)(d:Value):a.toList.getD j d=(a[j]?).getD d:=by simp
theorem TO(off:Nat)(a cells:Array Value):
 (a.zipIdx.foldl (fun(cs:Array Value) (p:Value×Nat)=>cs.setIfInBounds (off+p.2) p.1) cells).size=cells.size/\
 ∀i,(a.zipIdx.foldl (fun(cs:Array Value) (p:Value×Nat)=>cs.setIfInBounds (off+p.2) p.1) cells)[i]?=
  if off<=i/\i<off+a.size/\i<cells.size then a[i -off]? else cells[i]?:=by
 have h:=EA off a.toList 0 cells
 grind[Array.toList_zipIdx]
theorem aFa{G:Gh}{w:World}{cs vs:List AV}{cells a:Array Value}{off:Nat}(h:jH G w cs cells.toList)(J:jH G w vs a.toList)(T:off+vs.length<=cs.length):
 jH G w (iT cs off vs) (a.zipIdx.foldl (fun(cs:Array Value) (p:Value×Nat)=>cs.setIfInBounds (off+p.2) p.1) cells).toList:=by
 obtain⟨O,Z⟩:=TO off a cells;have D:=h.1;have B:=J.1;refine⟨by grind[sO],fun j Y=>?_⟩;rw[sO _ _ _ T] at Y;rw[OE _ _ _ _ T,tR,Z j];by_cases R:off<=j/\j<off+vs.length
 . have :=J.2 (j -off) A0
   grind
 have :=h.2 j Y
 grind
def yN(g:bL)(b:Nat->Option (Nat×Nat)):List (Nat×Operand)->Option (List (Nat×Nat×Arg))
 |[]=>some []
 |(i,x)::r=>match b i,bO g x,yN g b r with
  |some (off,n),some y,some ys=>some ((off,n,y)::ys)
  |_,_,_=>none
theorem QH{g:bL}{G:Gh}{H:aA}{w:World}{s:List AV}{a:Act}(L:WR g G H w)(M:SR G w s a){b place':Nat->Option (Nat×Nat)}(m:∀i p,b i=some p->place' i=some p):
 ∀(T:List (Nat×Operand)) (ps:List (Nat×Nat×Arg)) (cs I:List AV) (cells:Array Value),yN g b T=some ps->LG (Arg.eval g s) cs ps=some I->jH G w cs cells.toList->(∀c∈cs,c.one=true)->
  ∃f,Instr.fill place' cells (T.map fun(i,x)=>(i,a.eval x))=some f/\jH G w I f.toList/\∀c∈I,c.one=true
 |[],ps,cs,I,cells,h1,h2,hc,h3=>by obtain rfl:=Aa h1;obtain rfl:=Aa h2;exact⟨cells,rfl,hc,h3⟩
 |(i,x)::r,ps,cs,I,cells,h1,h2,hc,h3=>by
  unfold yN at h1;split at h1
  . rename_i off n y ys X d E;obtain rfl:=Aa h1;simp only[LG] at h2;split at h2
    . rename_i j;obtain⟨l,k,c3⟩:=j;have W:=(bM L M d).cellsOf c3;have Q:=hc.1;have h:=W.1.1;have C:=aFa hc W.1 (by omega:off+_<=cs.length);obtain⟨f,N,V⟩:=QH L M m r ys _ I _ E h2 C (fun c e=>(Qo e).elim (h3 c) (W.2 c));simp only[Cg,Instr.fill,m _ _ X]
      grind
    grind
  grind
def ME(P:Program):List Field->Option (List (Nat×Nat))
 |[]=>some []
 |f::r=>match mD P f.type,ME P r with
  |some n,some l=>some ((f.offset,n)::l)
  |_,_=>none
theorem run_places{P:Program}(w:World):∀{fs:List Field} {l:List (Nat×Nat)},ME P fs=some l->
 (fs.mapM (fun f=>do pure (f.offset,<-sizeOf f.type):Field->Sem (Nat×Nat))).run P w=.ok l w
 |[],l,h=>by obtain rfl:=Aa h;rfl
 |f::r,l,h=>by
  unfold ME at h;split at h
  . rename_i n l' A U;have z:=run_places w U;simp_all[eV]
  grind
section
variable {P:Program} {g:bL} {o:Oper}
variable{t:TypeId}{T:Array (Nat×Operand)}{z:Value}{zs:List AV}{ps:List (Nat×Nat×Arg)}
theorem On{fs:Array Field}{l:List (Nat×Nat)}(S:o.op=.build t T)(K:P.underlying t=some (.struct fs))
 (b:nK P t=some z) (Z:lG z.cells.toList=some zs) (U:ME P fs.toList=some l) (m:yN g (l[·]?) T.toList=some ps):cV P g o (.build zs ps):=by
 intro s a G H w v H' L M h;simp only[dS,Ad,Ap] at h;obtain⟨cs,F,rfl,rfl⟩:=h;have R:=nR Z G w;obtain⟨f,N,J,O⟩:=QH L M (place':=(l.toArray[·]?)) (fun i p m=>by grind) T.toList ps zs cs z.cells m F R.1 R.2;refine cV.pure' L (u:=.agg f) ?_ (by simpa using VR.Zr J O);have X:=run_places w U;simp only[execOp,S,Instr.build,Sem.run_bind,nA b w,run_underlying K w,Result.andThen_ok,Array.mapM_eq_mapM_toList,Sem.run_map,X,Io,N];rfl
variable{e:TypeId}{n sz:Nat}
theorem Qy(S:o.op=.build t T)(K:P.underlying t=some (.array n e))
 (I:mD P e=some sz) (b:nK P t=some z) (Z:lG z.cells.toList=some zs) (m:yN g (fun i=>some (i*sz,sz)) T.toList=some ps):cV P g o (.build zs ps):=by
 intro s a G H w v H' L M h;simp only[dS,Ad,Ap] at h;obtain⟨cs,F,rfl,rfl⟩:=h;have R:=nR Z G w;obtain⟨f,N,J,O⟩:=QH L M (place':=fun i=>some (i*sz,sz)) (fun i p m=>m) T.toList ps zs cs z.cells m F R.1 R.2;refine cV.pure' L (u:=.agg f) ?_ (by simpa using VR.Zr J O);simp only[execOp,S,Instr.build,Sem.run_bind,nA b w,run_underlying K w,Result.andThen_ok,eV I w,Io,N];rfl
def Lq(g:bL):Nat->List (Nat×Operand)->Option (List Arg)
 |_,[]=>some []
 |k,(i,x)::r=>if i=k then match bO g x,Lq g (k+1) r with
  |some y,some ys=>some (y::ys)
  |_,_=>none
  else none
theorem Th{ev:Arg->AV}{sz:Nat}:∀{ys:List Arg} {els:List (List AV)},NQ ev sz ys=some els->∀e∈els,e.length=sz
 |[],els,h=>by obtain rfl:=Aa h;simp
 |y::ys,els,h=>by
  simp only[NQ] at h;split at h
  . simp only[Ad] at h;obtain⟨n,K,rfl⟩:=h;intro e he
    rcases Bd.1 he with rfl|he
    . omega
    exact Th K e he
  grind
theorem QG{G:Gh}{H:aA}{w:World}{s:List AV}{a:Act}(L:WR g G H w)(M:SR G w s a)(sz:Nat):
 ∀(T:List (Nat×Operand)) (ys:List Arg) (k:Nat) (els:List (List AV)) (pre:List AV) (cells:Array Value),Lq g k T=some ys->NQ (Arg.eval g s) sz ys=some els->
  pre.length=k*sz->cells.size=(k+T.length)*sz->(∀j,j<k*sz->VR G w (pre.getD j aB) (cells.toList.getD j undef))->(∀c∈pre,c.one=true)->
  ∃f,Instr.fill (fun i=>some (i*sz,sz)) cells (T.map fun(i,x)=>(i,a.eval x))=some f/\jH G w (pre++els.flatten) f.toList/\∀c∈pre++els.flatten,c.one=true
 |[],ys,k,els,pre,cells,h1,Z,hp,hc,hv,h3=>by obtain rfl:=Aa h1;obtain rfl:=Aa Z;refine⟨cells,rfl,⟨by simp at hc ⊢;omega,fun j Y=>?_⟩,by simpa using h3⟩;simp only[List.flatten_nil,Bx] at Y ⊢;exact hv j A0
 |(i,x)::r,ys,k,els,pre,cells,h1,Z,hp,hc,hv,h3=>by
  simp only[Lq] at h1;split at h1
  . rename_i F;subst F;split at h1
    . rename_i y d Q E;obtain rfl:=Aa h1;simp only[NQ] at Z;split at Z
      . rename_i l;simp only[Ad] at Z;obtain⟨n,Z,rfl⟩:=Z;obtain⟨o,c3⟩:=l;have W:=(bM L M Q).cellsOf c3;have h:=W.1.1;simp only[Ef] at h;have q:(i+(r.length+1))*sz=i*sz+sz+r.length*sz:=(by rw[Bo,Dm];omega);have B:(i+1)*sz=i*sz+sz:=Dm i sz;simp only[Ba] at hc;obtain⟨b,m⟩:=TO (i*sz) (a.eval x).cells cells
        obtain⟨f,N,V,S⟩:=QG L M sz r d (i+1) n (pre++(Arg.eval g s y).cells) ((a.eval x).cells.zipIdx.foldl (fun(cs:Array Value) (p:Value×Nat)=>cs.setIfInBounds (i*sz+p.2) p.1) cells) E Z
         (by simp[hp,o,B]) (by rw[b,hc];congr 1;omega) (fun j Y=>by
           rw[tR,m j,getD_eq,Dp];by_cases D:j<pre.length
           . rw[if_pos D,if_neg A0];have :=hv j A0
             rwa [getD_eq,tR] at this
           . rw[if_neg D,if_pos A0];have :=W.1.2 (j -pre.length) A0;rw[getD_eq,tR] at this;rw[<-hp]
             exact this) (fun c hc=>by
           rcases Ar.1 hc with hc|hc
           . exact h3 c hc
           exact W.2 c hc)
        refine⟨f,?_,by simpa [Dg] using V,by simpa [Dg] using S⟩;simp only[Cg,Instr.fill]
        have e:(decide ((a.eval x).cells.size≠sz)||decide (i*sz+(a.eval x).cells.size>cells.size))=false:=by simp;omega
        rw[e];exact N
      cases Z
    cases h1
  cases h1
variable{len:Nat}
theorem aHs{ys:List Arg}(S:o.op=.buildSlice t len T)(q:oU P t=some (e,sz))(C:nK P e=some z)
 (Q:len=T.size) (A:len*sz<=2^24) (m:Lq g 0 T.toList=some ys):cV P g o (.Qs sz ys):=by
 intro s a G H w v H' L M h;obtain⟨K,I⟩:=mK q;simp only[dS,Ad,Ap] at h;obtain⟨els,i,rfl,rfl⟩:=h;have E:=Th i
 have d:els.length=T.size:=by
  have k1:∀{l:List (Nat×Operand)} {k:Nat} {ys:List Arg},Lq g k l=some ys->ys.length=l.length:=by
   intro l
   induction l with
   |nil=>intro k ys h;obtain rfl:=Aa h;rfl
   |cons p r B=>grind[Lq]
  have k2:∀{ys:List Arg} {els:List (List AV)},NQ (Arg.eval g s) sz ys=some els->els.length=ys.length:=by
   intro ys
   induction ys with
   |nil=>intro els h;obtain rfl:=Aa h;rfl
   |cons y r B=>
    intro els h;simp only[NQ] at h;split at h
    . simp only[Ad] at h;obtain⟨n,D,rfl⟩:=h;simp[B D]
    cases h
  rw[k2 i,k1 m];simp
 let b:Array Value:=if len*sz=0 then #[] else z.cells
 obtain⟨f,N,J,O⟩:=QG L M sz T.toList ys 0 els [] ((Array.range (len*sz)).map (b[· %b.size]!)) m i A2 (by simp[Q]) (fun j Y=>by simp at Y) (fun c R=>by cases R);have x:jI w {w with heap:=w.heap.push (.cells f e)} (.cells (f.toList++[]).toArray e (0,0)):=⟨by simp,.now⟩;obtain⟨r1,r2,F⟩:=L.rn els.flatten f.toList [] J x;refine⟨.value (.slice (some ⟨w.heap.size,0,none⟩) len len),_,_,_,?_,.inl rfl,r1,r2,?_⟩
 . have X:¬len*sz>2^24:=by omega
   by_cases u:len*sz=0
   . simp only[b,if_pos u] at N;simp only[execOp,S,Instr.buildSlice,Sem.run_bind,run_underlying K w,eV I w,Result.andThen_ok,if_neg X,if_pos u,Sem.run_pure,Io,N];rfl
   simp only[b,if_neg u] at N;simp only[execOp,S,Instr.buildSlice,Sem.run_bind,run_underlying K w,eV I w,Result.andThen_ok,if_neg X,if_neg u,nA C w,Sem.run_pure,Io,N];rfl
 rw[Q,<-d];exact VR.bJ 1 sz els w.heap.size 0 els.length (fun j=>f.toList.getD j undef) E (fun j Y=>⟨(F j Y).1,(F j Y).2.1,O _ (Qn Y)⟩) (fun j Y=>(F j Y).2.2) ⟨Ae _,rfl⟩
def OV:Option Value->Option Nat->Prop
 |none,none=>True
 |some u,some m=>∃k,u=.int k (m:Int)
 |_,_=>False
variable{G:Gh}{w:World}
theorem qD{H:aA}{s:List AV}{a:Act}(L:WR g G H w)(M:SR G w s a){x:Option Operand}{y:Option Arg}{n:Option Nat}(C:sD g x=some y)
 (A:eM (Arg.eval g s) y=some n):OV (x.map a.eval) n:=by
 cases x with
 |none=>obtain rfl:=Aa C;obtain rfl:=Aa A;trivial
 |some x=>simp only[sD,Ad] at C;obtain⟨J,Q,rfl⟩:=C;simp only[eM,Ad] at A;obtain⟨m,p,rfl⟩:=A;obtain⟨k,_,E⟩:=vM p (bM L M Q);exact⟨k,E⟩
theorem run_sliceBound{k:IntKind}{m y:Nat}{c:BoundsCode}(h:m<=y)(w:World):(Instr.sliceBound (.int k (m:Int)) y c).run P w=.ok m w:=by
 have o:(0:Int)<=(m:Int)/\(m:Int)<=(y:Int):=by omega
 simp only[Instr.sliceBound,asIntOf,Sem.run_bind,Sem.run_pure,Result.andThen_ok,if_pos o,Int.toNat_natCast]
theorem uE{isS:Bool}{cap:Nat}{low a max:Option Value}{lo F mx:Option Nat}(O:OV low lo)(Z:OV a F)(W:OV max mx)(h4:mx.isSome->F.isSome)
 (U:lo.getD 0<=F.getD len) (X:F.isSome->F.getD len<=mx.getD cap) (p:mx.getD cap<=cap) (w:World):
 (Instr.sliceBounds isS len cap low a max).run P w=.ok (lo.getD 0,F.getD len,mx.getD cap) w:=by
 cases max<;>cases mx<;>first|exact W.elim|skip
 . cases a<;>cases F<;>first|exact Z.elim|skip
   . cases low<;>cases lo<;>first|exact O.elim|skip
     . rfl
     obtain⟨k1,rfl⟩:=O;simp only[By,Eb] at U;simp[Instr.sliceBounds,run_sliceBound U w]
   obtain⟨k2,rfl⟩:=Z;have X:=X rfl;simp only[By,Eb] at X U
   cases low<;>cases lo<;>first|exact O.elim|skip
   . simp[Instr.sliceBounds,run_sliceBound X w]
   obtain⟨k1,rfl⟩:=O;simp only[By] at U;simp[Instr.sliceBounds,run_sliceBound U w,run_sliceBound X w]
 obtain⟨k3,rfl⟩:=W
 cases a<;>cases F<;>first|exact Z.elim|skip
 . grind
 obtain⟨k2,rfl⟩:=Z;have X:=X rfl;simp only[By] at X p U
 cases low<;>cases lo<;>first|exact O.elim|skip
 . simp[Instr.sliceBounds,run_sliceBound X w,run_sliceBound p w]
 obtain⟨k1,rfl⟩:=O;simp only[By] at U;simp[Instr.sliceBounds,run_sliceBound U w,run_sliceBound X w,run_sliceBound p w]
variable{lo F:Option Operand}{x:Operand}{D:Arg}
theorem aHv{c N:Option Arg}(S:o.op=.slice t x lo F none)(C:bO g x=some D)(E:sD g lo=some c)
 (Q:sD g F=some N) (q:P.underlying t=some .string):cV P g o (.RZ D c N):=by
 intro s a G H w v H' L M h;have W:=bM L M C;simp only[dS] at h;split at h
 . rename_i n l r O Z b;rw[O] at W;have T:=W.jQ;have o1:=qD L M E Z;have o2:=qD L M Q b;split at h
   . rename_i R;obtain⟨y,m⟩:=R;obtain⟨rfl,rfl⟩:=h;have I:(⟨n.toArray⟩:ByteArray).size=n.length:=(by rfl);have X:=uE (P:=P) (isS:=false) (len:=n.length) (cap:=n.length) (max:=none) (mx:=none) o1 o2 trivial A2 y (fun _=>by grind) A2 w;refine cV.pure' L (u:=.string ((⟨n.toArray⟩:ByteArray).extract (l.getD 0) (r.getD n.length))) ?_ ?_
     . simp only[execOp,S,Instr.sliceAt,Sem.run_bind,run_underlying q w,Result.andThen_ok,Instr.slice,T,I,Option.map_none,X,Co,Bs,Cv];rfl
     have :(⟨n.toArray⟩:ByteArray).extract (l.getD 0) (r.getD n.length)=⟨((n.drop (l.getD 0)).take (r.getD n.length -l.getD 0)).toArray⟩:=by apply ByteArray.ext;simp
     rw[this];exact VR.WE _ _ _
   grind
 grind
variable{els:List (List AV)}
theorem VE(K:∀e∈els,e.length=sz)(l:Nat):(els.drop l).flatten=els.flatten.drop (l*sz):=by
 induction els generalizing l with
 |nil=>simp
 |cons e r z=>
  cases l with
  |zero=>simp
  |succ l=>have B:e.length=sz:=K e A2;rw[Iv,z (fun e B=>K e (by grind)),Cl,Dm,Iy,<-B,List.drop_length_add_append]
theorem LH(K:∀e∈els,e.length=sz)(l:Nat):(els.take l).flatten=els.flatten.take (l*sz):=by
 induction els generalizing l with
 |nil=>simp
 |cons e r z=>
  cases l with
  |zero=>simp
  |succ l=>have B:e.length=sz:=K e A2;rw[Gf,Cl,z (fun e B=>K e (by grind)),Cl,Dm,Iy,<-B,List.take_length_add_append]
theorem VR.YM{b o':Nat}{us:Nat->Value}(K:∀e∈els,e.length=sz)
 (h:∀j,j<els.flatten.length->G.iZ b (o'+j)/\w.cell? ⟨b,o'+j,none⟩=some (us j)/\(els.flatten.getD j aB).one=true)
 (J:∀j,j<els.flatten.length->VR G w (els.flatten.getD j aB) (us j)) (l n:Nat) (A:l+n<=els.length) {tag cap:Nat}
 (q:aRn G tag b (o'+l*sz+n*sz) sz n cap):VR G w (.bJ tag sz ((els.drop l).take n)) (.slice (some ⟨b,o'+l*sz,none⟩) n cap):=by
 have a:∀e∈els.drop l,e.length=sz:=fun e B=>K e (Gx B);have c:∀e∈(els.drop l).take n,e.length=sz:=fun e B=>a e (Cw B);have i:((els.drop l).take n).flatten=(els.flatten.drop (l*sz)).take (n*sz):=by rw[LH a,VE K]
 have Q:((els.drop l).take n).length=n:=by simp;omega
 have :=VR.bJ (G:=G) (w:=w) tag sz ((els.drop l).take n) b (o'+l*sz) cap (fun j=>us (l*sz+j)) c (fun j Y=>by
  grind) (fun j Y=>by
  grind) (by rw[Q];exact q)
 rwa [Q] at this
theorem VR.sC(sz b o' cap:Nat)(tag:Nat)(q:tag=0\/(tag=1/\cap=0)):VR G w (.bJ tag sz []) (.slice (some ⟨b,o',none⟩) 0 cap):=
 VR.bJ tag sz [] b o' cap (fun _=>undef) (fun e B=>by grind) (fun j Y=>by grind) (fun j Y=>by grind) (by
  refine⟨Bk _,?_⟩
  grind)
theorem aPr{mx:Option Operand}{zf rP V:Option Arg}(S:o.op=.slice t x lo F mx)(C:bO g x=some D)(E:sD g lo=some zf)
 (yk:sD g F=some rP) (a7:sD g mx=some V) (q:oU P t=some (e,sz)):cV P g o (.j9 sz D zf rP V):=by
 intro s a G H w v H' L M h;have W:=bM L M C;obtain⟨K,I⟩:=mK q;simp only[dS] at h;split at h
 . rename_i l r m O Z h3;have o1:=qD L M E O;have o2:=qD L M yk Z;have o3:=qD L M a7 h3;split at h
   . rename_i ab;simp only[Ad,Ap] at h;obtain⟨v',h,rfl,rfl⟩:=h
     have z:∀(p:Option Addr) (len cap:Nat),a.eval x=.slice p len cap->l.getD 0<=r.getD len->(r.isSome->r.getD len<=m.getD cap)->m.getD cap<=cap->
      (execOp a.eval o).run P w=.ok (.value (.slice (if m.getD cap=l.getD 0 then p else p.map (·.add (l.getD 0*sz))) (r.getD len -l.getD 0) (m.getD cap -l.getD 0))) w:=by
      intro p len cap f y c2 c3;have hb:=uE (P:=P) (isS:=true) (len:=len) (cap:=cap) o1 o2 o3 ab y c2 c3 w;simp only[execOp,S,Instr.sliceAt,Sem.run_bind,run_underlying K w,Result.andThen_ok,Instr.slice,f,hb,eV I w];rfl
     unfold uG at h;split at h
     . rename_i d;rw[d] at W;generalize f:a.eval x=u at W;cases W;split at h
       . rename_i R;obtain⟨y,c2,c3⟩:=R;obtain rfl:=Aa h;have :=z none 0 0 f A0 (fun _=>by rw[c2,c3];exact Ae _) (by rw[c3];exact Ae _);rw[y,c2,c3] at this;exact cV.pure' L this .bE
       cases h
     . rename_i tag N els d;rw[d] at W;generalize f:a.eval x=u at W
       cases W with
       |bJ _ _ _ b o' cap us WX X J vZ=>
        have af:=vZ.1;simp only at h;split at h
        . rename_i R;obtain⟨rfl,y,c2⟩:=R;have a6:=VR.YM WX X J;split at h
          . rename_i Y;split at h
            . rename_i j;obtain⟨c3,c4⟩:=j;obtain rfl:=Aa h;have :=z _ _ _ f y (fun _=>by simpa using c3) Zaf;simp only[By,Ct,lL] at this;refine cV.pure' L this ?_;by_cases TY:Y=l.getD 0
              . rw[if_pos TY];have h0:r.getD els.length -l.getD 0=0:=A0;have A:Y -l.getD 0=0:=A0;rw[h0,A,Ia];exact VR.sC _ _ _ _ _ (by by_cases i:Y=r.getD els.length<;>simp[i])
              rw[if_neg TY];refine a6 _ _ A0 ⟨by omega,?_⟩;by_cases i:Y=r.getD els.length
              . rw[if_pos i];omega
              rw[if_neg i];trivial
            cases h
          have Rw:=z _ _ _ f y (fun _=>by simp;omega) A2;simp only[Eb,Ct,lL] at Rw;split at h
          . rename_i j;obtain⟨c3,c4⟩:=j;obtain rfl:=Aa h;rw[c3] at Rw;refine cV.pure' L Rw ?_;by_cases U:cap=l.getD 0
            . rw[if_pos U];have h0:els.length -l.getD 0=0:=A0;have hd:els.drop (l.getD 0)=[]:=List.drop_eq_nil_of_le A0;rw[h0,hd]
              rcases c4 with c4|c4
              . omega
              match tag,c4,vZ with
              |0,_,_=>exact VR.sC _ _ _ _ _ (.inl rfl)
              |1,_,vZ=>exact VR.sC _ _ _ _ _ (.inr ⟨rfl,by omega⟩)
            rw[if_neg U];have hd:els.drop (l.getD 0)=(els.drop (l.getD 0)).take (els.length -l.getD 0):=(by rw[Au];simp);rw[hd];refine a6 _ _ A0 ⟨by omega,?_⟩;have Z:=vZ.2
            have n:o'+l.getD 0*N+(els.length -l.getD 0)*N=o'+els.length*N:=by rw[Bm,<-Bo];congr 2;omega
            match tag,Z,c4 with
            |0,_,_=>trivial
            |1,Z,_=>show cap -l.getD 0=els.length -l.getD 0;rw[Z]
            |k+2,⟨B,Z,h3,h4,h5,h6⟩,_=>refine⟨B,Z,h3,by rw[n];exact h4,h5,?_⟩;rw[h6];congr 1;omega
          obtain rfl:=Aa h;refine cV.pure' L Rw ?_;by_cases U:cap=l.getD 0
          . rw[if_pos U];have h0:r.getD els.length -l.getD 0=0:=A0;rw[h0,Ia];exact VR.sC _ _ _ _ _ (.inl rfl)
          rw[if_neg U];exact a6 _ _ A0 ⟨by omega,trivial⟩
        cases h
       |wY _ _ b o' s' vZ=>
        simp only[Ca] at h;split at h
        . rename_i R;obtain⟨rfl,y,c2⟩:=R;have Mg:l.getD 0=0:=A0;have Rw:r.getD 0=0:=A0;split at h
          . rename_i Y;split at h
            . rename_i j;obtain⟨c3,c4⟩:=j;obtain rfl:=Aa h;have ad:Y=0:=A0;subst ad;have :=z _ _ _ f A0 (fun _=>by simpa using c3) A2;simp only[By,Mg,Rw,if_true,Hy] at this;refine cV.pure' L this ?_;rw[Lc,List.take_nil];exact .wY _ _ _ _ _ ZaN
            cases h
          have c:=z _ _ _ f A0 (fun _=>by simp;omega) A2;simp only[Eb,Mg,Rw,if_true,Hy] at c;split at h
          . obtain rfl:=Aa h;refine cV.pure' L c ?_;rw[Lc];exact .wY _ _ _ _ _ vZ
          obtain rfl:=Aa h;refine cV.pure' L c ?_;rw[Lc,List.take_nil];exact .wY _ _ _ _ _ A0
        cases h
     . rename_i id N off len cap d;rw[d] at W;generalize f:a.eval x=u at W
       cases W with
       |sl _ _ _ _ _ lN B hl Q T pP=>
        simp only at h;split at h
        . rename_i R;obtain⟨rfl,y⟩:=R;have ag:cap<=lN:=A0;split at h
          . rename_i Y;split at h
            . rename_i j;obtain⟨c3,c4⟩:=j;have :=z _ _ _ f y (fun _=>by simpa using c3) Zaf;simp only[By,Ct,lL] at this;split at h
              . rename_i TY;obtain rfl:=Aa h;rw[if_pos TY] at this;have h0:r.getD len -l.getD 0=0:=A0;have A:Y -l.getD 0=0:=A0;rw[h0,A] at this;exact cV.pure' L this (.sl id N off 0 0 0 B hl (Ae _) (by have :off+cap*N<=B.Wa:=T;omega) (.inl rfl))
              rename_i TY;obtain rfl:=Aa h;rw[if_neg TY,Bm] at this;refine cV.pure' L this (.sl id N (off+l.getD 0*N) _ _ _ B hl A0 ?_ (.inl rfl));have e1:off+l.getD 0*N+(Y -l.getD 0)*N=off+Y*N:=Zbv;have e2:Y*N<=cap*N:=Bf _ c4;omega
            cases h
          split at h
          . rename_i c3;have :=z _ _ _ f y (fun _=>by simp;omega) A2;simp only[Eb,Ct,lL] at this;split at h
            . rename_i ae;obtain rfl:=Aa h;have h0:r.getD len -l.getD 0=0:=A0;rw[h0] at this;refine cV.pure' L this ?_;split
              . exact VR.sC _ _ _ _ _ (.inl rfl)
              exact VR.sC _ _ _ _ _ (.inl rfl)
            rename_i ae;obtain rfl:=Aa h;rw[if_neg A0,Bm] at this;have e1:off+l.getD 0*N+(cap -l.getD 0)*N=off+cap*N:=Zbv;have e2:off+l.getD 0*N+(lN -l.getD 0)*N=off+lN*N:=Zbv;refine cV.pure' L this (.sl id N (off+l.getD 0*N) _ _ _ B hl A0 A0 ?_)
            rcases pP with pP|⟨q1,q2,q3⟩
            . exact .inl A0
            exact .inr ⟨by omega,by omega,by omega⟩
          cases h
        cases h
     cases h
   cases h
 cases h
theorem mH(sz:Nat):∀(n:Nat) (cs:List AV),n*sz<=cs.length->(gO sz n cs).flatten=cs.take (n*sz)/\(gO sz n cs).length=n/\∀e∈gO sz n cs,e.length=sz
 |0,cs,_=>⟨by simp[gO],rfl,fun e he=>by cases he⟩
 |n+1,cs,h=>by
  have p:(n+1)*sz=sz+n*sz:=by rw[Dm];omega
  obtain⟨O,Z,W⟩:=mH sz n (cs.drop sz) Zaf;refine⟨?_,by simp[gO,Z],fun e he=>?_⟩
  . rw[gO,Cl,O,p,List.take_add]
  rcases Bd.1 he with rfl|he
  . simp;omega
  exact W e he
theorem aHu{b:Bool}{mx:Option Operand}{c N V:Option Arg}(S:o.op=.slice t x lo F mx)(C:bO g x=some D)(E:sD g lo=some c)
 (Q:sD g F=some N) (a6:sD g mx=some V) (q:DM P t=some (n,sz,b)):cV P g o (.HW n sz D c N V):=by
 intro s a G H w v H' L M h;have W:=bM L M C;obtain⟨e,K,I,hb⟩:=DN q;simp only[dS] at h;split at h
 . rename_i l r m O Z h3;have o1:=qD L M E O;have o2:=qD L M Q Z;have o3:=qD L M a6 h3;simp only[Ad,Ap] at h;obtain⟨v',h,rfl,rfl⟩:=h;unfold jZ at h;simp only at h;split at h
   . rename_i R;obtain⟨c1,c2,c3,c4⟩:=R;have y:=uE (P:=P) (isS:=false) (len:=n) (cap:=n) o1 o2 o3 c4 c1 (fun _=>c2) c3 w
     have z:∀bl o',a.eval x=.pointer (some ⟨bl,o',none⟩)->
      (execOp a.eval o).run P w=.ok (.value (.slice (some (if m.getD n=l.getD 0 then⟨bl,o',none⟩ else⟨bl,o'+l.getD 0*sz,none⟩)) (r.getD n -l.getD 0) (m.getD n -l.getD 0))) w:=by
      intro bl o' f;simp only[execOp,S,Instr.sliceAt,Sem.run_bind,run_underlying K w,Result.andThen_ok,f,Instr.sureAddr,Sem.run_pure,y,eV I w,lL]
     split at h
     . rename_i id off d;rw[d] at W;split at h
       . rename_i cs PA;obtain⟨fB,hg⟩:=aA.qS PA;split at h
         . rename_i T;generalize f:a.eval x=u at W
           cases W with
           |ref _ _ B U=>
            have a7:=(L.cells id B cs fB U hg).1;have k:=z _ _ f;split at h
            . rename_i p;obtain rfl:=Aa h;rw[if_pos p] at k;have h0:r.getD n -l.getD 0=0:=A0;have A:m.getD n -l.getD 0=0:=A0;rw[h0,A] at k;exact cV.pure' L k (.sl id sz off 0 0 0 B U (Ae _) A0 (.inl rfl))
            rename_i p;obtain rfl:=Aa h;rw[if_neg p,Bm] at k;refine cV.pure' L k (.sl id sz (off+l.getD 0*sz) _ _ _ B U A0 ?_ (.inl rfl));have e1:off+l.getD 0*sz+(m.getD n -l.getD 0)*sz=off+m.getD n*sz:=Zbv;have e2:m.getD n*sz<=n*sz:=Bf _ c3;omega
         cases h
       cases h
     . rename_i cs d;rw[d] at W;split at h
       . rename_i T;obtain rfl:=Aa h;generalize f:a.eval x=u at W
         cases W with
         |pl _ b' o' us X J=>
          have k:=z _ _ f;refine cV.pure' L k ?_;obtain⟨f1,f2,f3⟩:=mH sz n cs T;by_cases p:m.getD n=l.getD 0
          . rw[if_pos p];have h0:r.getD n -l.getD 0=0:=A0;have A:m.getD n -l.getD 0=0:=A0;rw[h0,A,Ia];exact VR.sC _ _ _ _ _ (by by_cases i:m.getD n=r.getD n<;>simp[i])
          rw[if_neg p];refine VR.YM (us:=us) f3 (fun j Y=>?_) (fun j Y=>?_) _ _ A0 ⟨by omega,?_⟩
          . rw[f1] at Y ⊢;simp at Y;rw[getD_take _ _ _ _ A0];exact X j A0
          . rw[f1] at Y ⊢;simp at Y;rw[getD_take _ _ _ _ A0];exact J j A0
          by_cases i:m.getD n=r.getD n
          . rw[if_pos i];omega
          rw[if_neg i];trivial
       cases h
     cases h
   cases h
 cases h
theorem aPq(S:o.op=.sliceToArrayPointer t x)(C:bO g x=some D)(q:P.underlying t=some (.array n e)):cV P g o (.jz n D):=by
 intro s a G H w v H' L M h;have W:=bM L M C
 have z:∀(p:Option Addr) (len cap:Nat),a.eval x=.slice p len cap->n<=len->(execOp a.eval o).run P w=.ok (.value (.pointer p)) w:=by
  intro p len cap f k;have :¬len<n:=by omega
  simp[execOp,S,Instr.arrayAt,run_underlying q w,f,this]
 simp only[dS] at h;split at h
 . rename_i tag sz els d;rw[d] at W;generalize f:a.eval x=u at W
   cases W with
   |bJ _ _ _ b o' cap us I X J c=>
    split at h
    . rename_i k;obtain⟨rfl,rfl⟩:=h;exact cV.pure' L (z _ _ _ f k.1) (.pl _ b o' us X J)
    grind
   |wY=>grind
 . rename_i id sz off len cap d;rw[d] at W;generalize f:a.eval x=u at W
   cases W with
   |sl _ _ _ _ _ V B U Q T A=>
    split at h
    . rename_i k;obtain⟨rfl,rfl⟩:=h;exact cV.pure' L (z _ _ _ f k) (.ref id off B U)
    grind
 grind
end
end
section
variable{G:Gh}{w:World}{xs:List AV}{us:List Value}
theorem jH.append{ys:List AV}{vs:List Value}(O:jH G w xs us)(Z:jH G w ys vs):jH G w (xs++ys) (us++vs):=by
 have D:=O.1;have B:=Z.1;refine⟨by grind,fun j Y=>?_⟩;simp at Y;rw[getD_eq,getD_eq,Dp,Dp];by_cases R:j<xs.length
 . rw[if_pos R,if_pos A0];exact O.2 j R
 have :=Z.2 (j -xs.length) A0
 grind
theorem jH.take(h:jH G w xs us)(n:Nat):jH G w (xs.take n) (us.take n):=by have l:=h.1;refine⟨by grind,fun j Y=>?_⟩;simp only[Et] at Y;rw[getD_take _ _ _ _ A0,getD_take _ _ _ _ A0];exact h.2 j A0
theorem pY(P:Program){g:bL}{G:Gh}{H:aA}{w:World}(L:WR g G H w){sz:Nat}{x:AV}{u:Value}{ys:List (List AV)}(h:dJ H sz x=some ys)(J:VR G w x u):
 (∀e∈ys,e.length=sz)/\(∀c∈ys.flatten,c.one=true)/\(Builtin.lenOf u).run P w=.ok ys.length w/\
 ∃vs:List Value,jH G w ys.flatten vs/\∀n,n<=ys.length->(Builtin.firstCells sz n u).run P w=.ok (vs.take (n*sz)).toArray w:=by
 have d:∀{l:List AV},(∀j,j<l.length->(l.getD j aB).one=true)->∀c∈l,c.one=true:=fun {l} U c R=>by obtain⟨j,Y,rfl⟩:=Gy.1 R;have :=U j Y;simpa [getD_eq,Af Y] using this
 have cells:∀{b o':Nat} {l:List AV},(∀j,j<l.length->∃v,w.cell? ⟨b,o'+j,none⟩=some v/\VR G w (l.getD j aB) v)->
  ∃vs:List Value,jH G w l vs/\∀m,m<=l.length->(loadCells ⟨b,o',none⟩ m).run P w=.ok (vs.take m).toArray w:=fun {b o' l} R=>by
  obtain⟨us,O,Z,W⟩:=Ps R;refine⟨us,⟨O,W⟩,fun m p=>?_⟩
  have :=xR P w b o' (us.take m) (fun j Y=>by
   simp at Y;rw[getD_take _ _ _ _ A0]
   exact Z j A0)
  rwa [show(us.take m).length=m by simp;omega] at this
 cases J with
 |bE=>obtain rfl:=Aa h;refine⟨fun e B=>(by cases B),fun c R=>(by simp at R),rfl,[],jH.nil G w,fun n A=>?_⟩;simp[Builtin.firstCells]
 |bJ tag N els b o' cap us I X a o=>
  simp only[dJ] at h;split at h
  . rename_i M;subst M;obtain rfl:=Aa h;obtain⟨vs,O,Z⟩:=cells (l:=els.flatten) (b:=b) (o':=o') (fun j Y=>⟨us j,(X j Y).2.1,a j Y⟩);refine⟨I,d fun j Y=>(X j Y).2.2,rfl,vs,O,fun n A=>?_⟩;have :=Z (n*N) (by rw[length_flatten I];exact Bf _ A);simpa [Builtin.firstCells] using this
  cases h
 |wY tag N b o' S o=>
  simp only[dJ] at h;split at h
  . obtain rfl:=Aa h;refine⟨fun e B=>(by cases B),fun c R=>(by simp at R),rfl,[],jH.nil G w,fun n A=>?_⟩;obtain rfl:n=0:=by simpa using A
    simp[Builtin.firstCells,loadCells,loadCellsFrom]
  cases h
 |str str=>
  simp only[dJ] at h;split at h
  . rename_i M;subst M;obtain rfl:=Aa h
    have i:(UH str.data.toList).flatten=str.data.toList.map fun b=>AV.int .u8 b.toNat:=by
     unfold UH
     induction str.data.toList with
     |nil=>rfl
     |cons b r z=>simp[z]
    refine⟨fun e B=>?_,fun c R=>?_,?_,str.data.toList.map fun b=>.int .u8 b.toNat,?_,fun n A=>?_⟩
    . simp only[UH,Bb] at B;obtain⟨b,_,rfl⟩:=B;rfl
    . rw[i] at R;simp only[Bb] at R;obtain⟨b,_,rfl⟩:=R;rfl
    . have :str.size=(UH str.data.toList).length:=(by rw[UH,Ah,Ef];rfl);simp only[Builtin.lenOf,this];rfl
    . rw[i];refine⟨by simp,fun j Y=>?_⟩;simp at Y;simp only[getD_eq,Eg,Af (show j<str.data.toList.length by simpa using Y),Ct,By];exact .int _ _
    simp only[Builtin.firstCells,Df]
    have :((str.extract 0 n).data.map fun b=>(Value.int .u8 b.toNat))=((str.data.toList.map fun b=>Value.int .u8 b.toNat).take n).toArray:=by apply Array.ext';simp[ByteArray.data_extract,List.extract_eq_take_drop]
    rw[<-this];rfl
  cases h
 |sl id N off len cap V l U Q T C=>
  simp only[dJ] at h;split at h
  . rename_i M;subst M;split at h
    . rename_i cs F;obtain⟨q,t⟩:=aA.qS F;split at h
      . rename_i k;obtain rfl:=Aa h;obtain⟨f,s,y⟩:=mH N len (cs.drop off) Zaf;have E:=(L.cells id l cs q U t).2.2.2.1
        obtain⟨vs,O,Z⟩:=cells (l:=(cs.drop off).take (len*N)) (b:=l.dE) (o':=l.base+off) (fun j Y=>by
         simp at Y
         exact Na L U t k j A0)
        refine⟨y,?_,by simp[Builtin.lenOf,s],vs,by rw[f];exact O,fun n A=>?_⟩
        . rw[f];exact fun c R=>E c (Gx (Cw R))
        rw[s] at A;have D:n*N<=len*N:=Bf _ A;have :=Z (n*N) Zaf;simpa [Builtin.firstCells] using this
      cases h
    cases h
  cases h
 |_=>simp[dJ] at h
theorem TR(a:Nat):∀(r c:Nat),Builtin.growBy a r c<=max c (a+(a+768) / 4)
 |0,c=>Nat.le_max_left _ _
 |r+1,c=>by
  simp only[Builtin.growBy];split
  . omega
  have :=TR a r (c+(c+768) / 4);omega
theorem nextslicecap_le{need cap:Nat}(h:cap<need):Builtin.nextslicecap need cap<=2*need+192:=by
 unfold Builtin.nextslicecap;split
 . omega
 split
 . omega
 have :=TR need 4 cap;omega
def NF(w:World)(o:Go.Obj):World:={w with heap:=w.heap.push o,drawn:=w.drawn+1}
section
variable {P:Program}
variable{m:TypeId}{i:TypeInfo}
theorem yQ(h:P.info? m=some i)(w:World):(typeInfo m).run P w=.ok i w:=by simp[typeInfo,program,Sem.run,h]
variable{w:World}{t t2:TypeId}{d:TypeDesc}{sz sLen sCap:Nat}{base:Option Addr}{u:Value}{vs:List Value}
theorem rK{ty:TypeId}{n:Nat}(q:P.underlying t=some (.slice m))(I:mD P m=some sz)
 (Z:P.underlying t2=some d) (hd:∀k,d≠ .int k) (Q:(Builtin.lenOf u).run P w=.ok n w) (N:(Builtin.firstCells sz n u).run P w=.ok vs.toArray w) (b:sLen+n<=sCap):
 (Builtin.append_ #[t,t2] ty #[.slice base sLen sCap,u]).run P w=
   ((match base with|some a=>storeCells (a.add (sLen*sz)) vs|none=>pure ():Sem Unit).run P w).andThen fun _ w'=>.ok (.slice base (sLen+n) sCap) w':=by
 have s:(match d with|.int _=>true|_=>false)=false:=by simp
 unfold Builtin.append_;simp only[Ff,Gj,Fp,Sem.run_bind,run_underlying q w,run_underlying Z w,eV I w,Result.andThen_ok,Sem.run_pure,s,Bs,Cv,Q,if_pos b,Ey,if_true,N];cases base<;>simp
theorem EW{need WZ:Nat}{e:TypeId}(w:World):∃c,need<=c/\(choose (.appendCap need WZ e)).run P w=.ok c {w with drawn:=w.drawn+1}:=
 ⟨need+(w.tape w.drawn (.appendCap need WZ e))%(2^63 -need),by omega,by rfl⟩
theorem run_askRoom(n:Nat)(w:World):(askRoom n).run P w=.ok () w:=by simp
variable{z:Value}
theorem run_append_grow{ty:TypeId}{n:Nat}{os:List Value}(q:P.underlying t=some (.slice m))(I:mD P m=some sz)
 (Z:P.underlying t2=some d) (hd:∀k,d≠ .int k) (F:P.info? m=some i) (p:1<=i.bytes) (s:nK P m=some z) (r:z.cells.size=sz) (Q:(Builtin.lenOf u).run P w=.ok n w)
 (S:(Builtin.firstCells sz sLen (.slice base sLen sCap)).run P {w with drawn:=w.drawn+1}=.ok os.toArray {w with drawn:=w.drawn+1})
 (hf:(Builtin.firstCells sz n u).run P {w with drawn:=w.drawn+1}=.ok vs.toArray {w with drawn:=w.drawn+1}) (b:¬sLen+n<=sCap) (A:(sLen+n)*i.bytes<=2^40):
 ∃cap rest,sLen+n<=cap/\rest.length=(cap -(sLen+n))*sz/\
  (Builtin.append_ #[t,t2] ty #[.slice base sLen sCap,u]).run P w=.ok (.slice (some ⟨w.heap.size,0,none⟩) (sLen+n) cap) (NF w (.cells (os++vs++rest).toArray m)):=by
 have g:(match d with|.int _=>true|_=>false)=false:=by cases d<;>first|rfl|exact absurd rfl (hd _)
 obtain⟨cap,N,j⟩:=EW (P:=P) (need:=sLen+n) (WZ:=sCap) (e:=m) w;have K:¬((((sLen+n:Nat):Int)>IntKind.i64.max)/\(False\/i.bytes=0)):=fun X=>X.2.elim id (fun o=>by omega);have f:=nextslicecap_le (need:=sLen+n) (cap:=sCap) A0;have l:Builtin.nextslicecap (sLen+n) sCap*i.bytes<=(2*(sLen+n)+192)*i.bytes:=Bf _ f;have h:(2*(sLen+n)+192)*i.bytes=2*((sLen+n)*i.bytes)+192*i.bytes:=by rw[Bo,Cf]
 have c:i.bytes<=(sLen+n)*i.bytes:=Gr _ A0;have a:¬Builtin.nextslicecap (sLen+n) sCap*i.bytes>2^48:=by omega
 refine⟨cap,(Builtin.zeroCells z.cells (cap -(sLen+n))).toList,N,by simp[Builtin.zeroCells,r],?_⟩;unfold Builtin.append_;simp only[Ff,Gj,Fp,Sem.run_bind,run_underlying q w,run_underlying Z w,eV I w,Result.andThen_ok,Sem.run_pure,g,Bs,Cv,Q,if_neg b,Ey,if_true,yQ F w,if_neg K,if_neg a,j,yQ F {w with drawn:=w.drawn+1},run_askRoom,S,hf,nA s {w with drawn:=w.drawn+1}]
 have B:os.toArray++vs.toArray++Builtin.zeroCells z.cells (cap -(sLen+n))=(os++vs++(Builtin.zeroCells z.cells (cap -(sLen+n))).toList).toArray:=by simp
 rw[B];rfl
theorem SO(w:World)(o:Go.Obj):jI w (NF w o) o:=⟨rfl,.now⟩
variable{G:Gh}{H:aA}
theorem ie{g:bL}(L:WR g G H w)(N:Bool){sz:Nat}{els:List (List AV)}{vs rest:List Value}{e:TypeId}{cap:Nat}
 (K:∀x∈els,x.length=sz) (O:∀c∈els.flatten,c.one=true) (J:jH G w els.flatten vs) (A:els.length<=cap) (a:rest.length=(cap -els.length)*sz):
 ∃E,WR g E (mQ H N sz els).2 (NF w (.cells (vs++rest).toArray e))/\Ext G H w E (mQ H N sz els).2 (NF w (.cells (vs++rest).toArray e))/\
  VR E (NF w (.cells (vs++rest).toArray e)) (mQ H N sz els).1 (.slice (some ⟨w.heap.size,0,none⟩) els.length cap):=by
 have m:=SO w (.cells (vs++rest).toArray e);have i:=length_flatten K;have X:=J.1;have n:els.length*sz+(cap -els.length)*sz=cap*sz:=by rw[<-Bo];grind
 cases N with
 |true=>
  obtain⟨r1,r2⟩:=L.aQf els.flatten vs rest J O true (fun h=>by grind) (Clear.zero _) m;refine⟨_,r1,r2,?_⟩
  have :=VR.sl (G:=G.eA H.next ⟨w.heap.size,0,els.flatten.length,(vs++rest).length⟩) (w:=NF w (.cells (vs++rest).toArray e)) H.next sz 0 els.length els.length cap
   ⟨w.heap.size,0,els.flatten.length,(vs++rest).length⟩ (by simp[Gh.eA]) (Ae _) (by grind)
   (.inr ⟨by grind,A,by grind⟩)
  exact this
 |false=>
  obtain⟨E,U,r1,r2,F⟩:=L.aQg els.flatten vs rest J (Clear.zero _) m;refine⟨E,r1,r2,?_⟩;refine VR.bJ (H.next+2) sz els w.heap.size 0 cap (fun j=>vs.getD j undef) K (fun j Y=>⟨(F j Y).1,(F j Y).2.1,O _ (Qn Y)⟩) (fun j Y=>(F j Y).2.2) ⟨A,?_⟩
  grind
theorem WR.drew{g:bL}(h:WR g G H w):WR g G H {w with drawn:=w.drawn+1}:=h.of_heap rfl
theorem VR.drew{a:AV}(h:VR G w a u):VR G {w with drawn:=w.drawn+1} a u:=
 h.mono (fun _ _ h=>h) (fun b o F=>⟨F,rfl⟩)
theorem zw{g:bL}{o:Oper}{c:Call}{x y:Operand}{x' y':Arg}{ab:TypeId}{mu:Bool}(ho:o.op=.call c)(hc:c.callee=.builtin .append)(ha:c.args= #[x,y])
 (C:bO g x=some x') (hy:bO g y=some y') (SQ:c.argTypes= #[t,t2]) (ht:P.underlying t=some (.slice ab)) (I:mD P ab=some sz) (h2:P.underlying t2=some d) (hd:∀k,d≠ .int k)
 (F:P.info? ab=some i) (AS:1<=i.bytes) (hz:nK P ab=some z) (FW:z.cells.size=sz):cV P g o (.append sz i.bytes mu x' y'):=by
 intro s a G H w v H' L M h;have W:=bM L M C;have vy:=bM L M hy;simp only[dS] at h;split at h
 . rename_i ys NM;obtain⟨yu,y1,WQ,IA,yv,yf⟩:=pY P L NM vy;have b4:=yf ys.length (Ae _);obtain⟨_,_,_,aq,az,b5⟩:=pY P L.drew NM vy.drew;have Z:=length_flatten yu;have ye:∀{m:Nat} {l:List Value},l.length=m->l.take m=l:=fun {m l} U=>by rw[Au A0]
   have ar:(Builtin.firstCells sz ys.length (a.eval y)).run P w=.ok IA.toArray w:=by rw[b4,ye (by rw[yv.1,Z])]
   have bl:(Builtin.firstCells sz ys.length (a.eval y)).run P {w with drawn:=w.drawn+1}=.ok aq.toArray {w with drawn:=w.drawn+1}:=by rw[b5 ys.length (Ae _),ye (by rw[az.1,Z])]
   have b0:jH G w ys.flatten aq:=⟨az.1,fun j Y=>(az.2 j Y).mono (fun _ _ h=>h) (fun b o F=>⟨F,rfl⟩)⟩
   have gY:∀{p:Option Addr} {sl sc:Nat} {r:Value} {w':World},a.eval x=.slice p sl sc->(Builtin.append_ #[t,t2] o.type #[.slice p sl sc,a.eval y]).run P w=.ok r w'->(execOp a.eval o).run P w=.ok (.value r) w':=by intro p sl sc r w' f hr;simp[execOp,ho,resolve,hc,ha,SQ,invoke,builtin,f,hr]
   have oj:ys=[]->∀{p:Option Addr} {sl sc:Nat},a.eval x=.slice p sl sc->sl<=sc->(execOp a.eval o).run P w=.ok (.value (.slice p sl sc)) w:=by intro VM p sl sc f ak;subst VM;have VY:IA=[]:=(by have :=yv.1;simpa using this);subst VY;refine gY f ?_;have :=rK (P:=P) (ty:=o.type) (base:=p) (sLen:=sl) (sCap:=sc) ht I h2 hd WQ ar (by simpa using ak);rw[this];cases p<;>rfl
   have TV:∀(mu:Bool) {p:Option Addr} {sl sc:Nat} {els:List (List AV)} {os:List Value} {G0:Gh} {H0:aA},WR g G0 H0 w->Ext G H w G0 H0 w->a.eval x=.slice p sl sc->els.length=sl->(∀e∈els,e.length=sz)->(∀c∈els.flatten,c.one=true)->
    jH G0 w els.flatten os->(Builtin.firstCells sz sl (.slice p sl sc)).run P {w with drawn:=w.drawn+1}=.ok os.toArray {w with drawn:=w.drawn+1}->¬sl+ys.length<=sc->(sl+ys.length)*i.bytes<=2^40->
    ∃n u w' E,(execOp a.eval o).run P w=.ok n w'/\Su n u/\WR g E (mQ H0 mu sz (els++ys)).2 w'/\Ext G H w E (mQ H0 mu sz (els++ys)).2 w'/\VR E w' (mQ H0 mu sz (els++ys)).1 u:=by
    intro mu p sl sc els os G0 H0 b6 aO f U K h1 J hf CU A;obtain⟨cap,rest,c1,c2,hr⟩:=run_append_grow (P:=P) (ty:=o.type) ht I h2 hd F AS hz FW WQ hf bl CU A;have bn:jH G0 w ys.flatten aq:=b0.ext aO
    obtain⟨E,r1,r2,r3⟩:=ie b6 mu (sz:=sz) (els:=els++ys) (vs:=os++aq) (rest:=rest) (e:=ab) (cap:=cap)
     (fun e he=>(Ar.1 he).elim (K e) (yu e)) (fun c hc=>by rw[Fa] at hc;exact(Ar.1 hc).elim (h1 c) (y1 c)) (by rw[Fa];exact J.append bn)
     (by simp[U];exact c1) (by simp[U];exact c2)
    refine⟨_,_,_,E,gY f hr,.inl rfl,r1,aO.trans r2,?_⟩;have Q:(els++ys).length=sl+ys.length:=(by simp[U]);rw[Q] at r3;exact r3
   unfold gE at h;split at h
   . rename_i aN;have VM:ys=[]:=by simpa using aN
     have an:∀{p:Option Addr} {sl sc:Nat} {va:AV},a.eval x=.slice p sl sc->sl<=sc->VR G w va (.slice p sl sc)->
      ∃n u w' E,(execOp a.eval o).run P w=.ok n w'/\Su n u/\WR g E H w'/\Ext G H w E H w'/\VR E w' va u:=
      fun f ak b7=>cV.pure' L (oj VM f ak) b7
     have ad:=W;split at h
     . rename_i a7;simp only[Aj,Ap] at h;obtain⟨rfl,rfl⟩:=h;rw[a7] at W;generalize f:a.eval x=u at W ad;cases W;exact an f (Ae _) ad
     . rename_i a7;simp only[Aj,Ap] at h;obtain⟨rfl,rfl⟩:=h;rw[a7] at W;generalize f:a.eval x=u at W ad
       cases W with
       |bJ _ _ _ _ _ _ _ _ _ _ vZ=>exact an f vZ.1 ad
       |wY=>exact an f (Ae _) ad
     . rename_i a7;simp only[Aj,Ap] at h;obtain⟨rfl,rfl⟩:=h;rw[a7] at W;generalize f:a.eval x=u at W ad
       cases W with
       |sl _ _ _ _ _ _ _ _ Q _ pP=>exact an f A0 ad
     cases h
   rename_i aN
   have bE:1<=ys.length:=by
    cases ys with
    |nil=>simp at aN
    |cons _ _=>simp
   split at h
   . rename_i a7;rw[a7] at W;generalize f:a.eval x=u at W;cases W;split at h
     . rename_i A;simp only[Aj] at h;have :=TV mu (els:=[]) (os:=[]) L (Ext.refl G H w) f rfl (fun e he=>by cases he) (fun c hc=>by simp at hc) (jH.nil G w) (by simp[Builtin.firstCells]) A0 Zcy;simp only[Dt] at this;rw[h] at this;exact this
     cases h
   . rename_i tag N els a7;rw[a7] at W;split at h
     . rename_i hc;obtain⟨rfl,A⟩:=hc;generalize f:a.eval x=u at W;obtain⟨eu,T,_,Mz,ev',aj⟩:=pY P L.drew (sz:=N) (x:=.bJ tag N els) (ys:=els) (by simp[dJ]) W.drew;have ae:jH G w els.flatten Mz:=⟨ev'.1,fun j Y=>(ev'.2 j Y).mono (fun _ _ h=>h) (fun b o F=>⟨F,rfl⟩)⟩;have ag:=length_flatten eu
       have af:∀{q:Value},q=u->(Builtin.firstCells N els.length q).run P {w with drawn:=w.drawn+1}=.ok Mz.toArray {w with drawn:=w.drawn+1}:=fun hq=>by rw[hq,aj els.length (Ae _),ye (by rw[ev'.1,ag])]
       cases W with
       |wY _ _ b o' s' vZ=>
        match tag,h,vZ with
        |0,h,_=>cases h
        |1,h,_=>simp only[Aj] at h;have :=TV mu (els:=[]) (os:=Mz) L (Ext.refl G H w) f rfl eu T ae (af rfl) A0 A;rw[h] at this;exact this
       |bJ _ _ _ b o' cap us WX X J vZ=>
        match tag,h,vZ with
        |0,h,_=>cases h
        |1,h,vZ=>simp only[Aj] at h;have VI:cap=els.length:=vZ.2;have :=TV mu (els:=els) (os:=Mz) L (Ext.refl G H w) f rfl eu T ae (af rfl) A0 A;rw[h] at this;exact this
        |k+2,h,vZ=>
         obtain⟨l,t1,a6,t3,t4,t5⟩:=vZ.2;have ak:=vZ.1;simp only at h;split at h
         . rename_i Xu;simp only[Aj,Ap] at h;obtain⟨rfl,rfl⟩:=h;have nI:H.live k:=⟨_,Xu,rfl⟩;have hk:=L.kill k;have yj:=(Ext.refl G H w).kill k;by_cases zX:els.length+ys.length<=cap
           ·
            obtain⟨ca,el,fz,q1,q2,q3⟩:=L.room k l t1 (.inr Xu)
            have TY:ys.length*N+(cap -els.length -ys.length)*N=l.ext:=by rw[t5,<-Bo];congr 1;omega
            have ay:IA.length=ys.length*N:=(by rw[yv.1,Z]);have ED:∀j,j<IA.length->j<l.ext:=fun j Y=>by omega
            obtain⟨w',hr,K⟩:=fY P b (o'+els.length*N) IA 0 w ⟨ca,el,fz,by rw[<-a6];exact q1,by omega⟩
             (fun j Y=>by rw[Di,<-t3,<-a6];exact q3 j (ED j Y)) (qC yv y1)
            rw[Di] at K
            have S:∀j,j<IA.length->¬G.iZ b (o'+els.length*N+j):=fun j Y=>by rw[<-t3,<-a6];exact L.lV k l t1 nI j (ED j Y)
            have vU:∀id l',G.loc id=some l'->(H.set k .dead).live id->l.dE≠l'.dE\/l.base+l.ext<=l'.base\/l'.base+l'.ext<=l.base:=fun id l' pS R=>by
             rcases aA.mX.1 R with ⟨_,X⟩|⟨cU,R⟩
             . cases X
             exact L.mV k id l l' (Ne.symm cU) t1 pS nI R
            have Ol:=hk.write K S (fun id l' pS R=>by
             rcases vU id l' pS R with tF|tF|tF
             . exact .inl (by rw[<-a6];exact Ne.symm tF)
             . exact .inr (.inr A0)
             exact .inr (.inl A0)) ⟨ca,el,fz,by rw[<-a6];exact q1⟩
            have O:w.heap.size<=b\/∃fQ l0,G.loc fQ=some l0/\H.live fQ/\l0.dE=b:=.inr ⟨k,l,t1,nI,a6⟩;have ZV:=yj.write K S L.jJ O;obtain⟨aK,B,u2,u3,u4⟩:=K.row ca el fz (by rw[<-a6];exact q1)
            have oi:∀j,j<IA.length->w'.cell? ⟨b,o'+els.length*N+j,none⟩=some (IA.getD j undef):=fun j Y=>by rw[nQ B];exact u4 j Y (by have :=ED j Y;omega)
            have CM:=Ol.pK b (o'+els.length*N) IA.length (fun j Y=>⟨_,oi j Y⟩) (fun id l' pS R=>by
             rcases vU id l' pS R with tF|tF|tF
             . exact .inl (by rw[<-a6];exact Ne.symm tF)
             . exact .inr (.inr A0)
             exact .inr (.inl A0))
            have WV:=ZV.pK b (o'+els.length*N) IA.length O;have yh:=WV.Pg .tok ⟨b,o'+els.length*N+IA.length,0,l.ext -IA.length⟩ CM.lt O
            have aE:=CM.Pg .tok ⟨b,o'+els.length*N+IA.length,0,l.ext -IA.length⟩ (fun id l' pS R=>by
             rcases vU id l' pS R with tF|tF|tF
             . exact .inl (by rw[<-a6];exact tF)
             . exact .inr (.inl (by simp only;omega))
             . exact .inr (.inr (by simp only;omega))) (fun j Y F=>by
             simp only at Y F
             rcases F with F|⟨_,_,F⟩
             . have :=L.lV k l t1 nI (IA.length+j) A0;rw[a6,t3,<-Bm] at this;exact this F
             . omega) (fun GN bC AT=>by cases AT) (fun _=>⟨aK,el,fz,B,by simp only;omega,fun j Y=>by
             simp only at Y ⊢;rw[K.frozen (by rw[<-a6];exact q1)];have :=q3 (IA.length+j) A0;rw[a6,t3,<-Bm] at this
             exact this⟩) (fun AT=>by cases AT)
            refine⟨.value (.slice (some ⟨b,o',none⟩) (els.length+ys.length) cap),.slice (some ⟨b,o',none⟩) (els.length+ys.length) cap,w',_,gY f ?_,.inl rfl,aE,yh,?_⟩
            . have :=rK (P:=P) (ty:=o.type) (base:=some ⟨b,o',none⟩) (sLen:=els.length) (sCap:=cap) ht I h2 hd WQ ar zX;exact Zb9
            have Q:(els++ys).length=els.length+ys.length:=A2;rw[<-Q]
            have al:∀j,(els.flatten++ys.flatten).getD j aB=if j<els.flatten.length then els.flatten.getD j aB else ys.flatten.getD (j -els.flatten.length) aB:=fun j=>by rw[getD_eq,Dp];split<;>rfl
            refine VR.bJ (H.next+2) N (els++ys) b o' cap (fun j=>if j<els.flatten.length then us j else IA.getD (j -els.flatten.length) undef)
             (fun e he=>(Ar.1 he).elim (eu e) (yu e)) (fun j Y=>?_) (fun j Y=>?_) ⟨by simp;exact zX,?_⟩
            . rw[Fa] at Y ⊢;rw[al];by_cases D:j<els.flatten.length
              . rw[if_pos D,if_pos D];have :=X j D;refine⟨(yh.iZ _ _ this.1).1,by rw[(yh.iZ _ _ this.1).2];exact this.2.1,this.2.2⟩
              rw[if_neg D,if_neg D];simp only[An] at Y;have OH:j -els.flatten.length<IA.length:=(by rw[yv.1];omega);have JM:o'+j=o'+els.length*N+(j -els.flatten.length):=(by rw[ag] at D ⊢;omega);refine⟨.inr ⟨rfl,by omega,by omega⟩,by rw[JM];exact oi _ OH,?_⟩;exact y1 _ (Qn (by rw[<-yv.1];exact OH))
            . rw[Fa] at Y ⊢;rw[al];by_cases D:j<els.flatten.length
              . rw[if_pos D,if_pos D];exact(J j D).ext yh
              rw[if_neg D,if_neg D];simp only[An] at Y;exact(yv.2 (j -els.flatten.length) A0).ext yh
            refine⟨⟨b,o'+els.length*N+IA.length,0,l.ext -IA.length⟩,by simp only[Gh.eA,aA.aZ,if_true],rfl,?_,rfl,?_⟩
            . simp only[Q,Bo];omega
            simp only[Q];rw[ay,<-TY,Nat.add_sub_cancel_left];congr 1;omega
           exact TV false (els:=els) (os:=Mz) hk yj f rfl eu T ae (af rfl) zX A
         cases h
     cases h
   . rename_i id N off len cap a7;rw[a7] at W;split at h
     . rename_i hc;obtain⟨rfl,A,bt⟩:=hc;split at h
       . rename_i cs fB hg;generalize f:a.eval x=u at W
         cases W with
         |sl _ _ _ _ _ V l U Q iG pP=>
          obtain⟨a1,a2,a3,a4,a5⟩:=L.cells id l cs fB U hg;obtain⟨ca,el,fz,b1,b2,b3⟩:=L.room id l U (.inl ⟨cs,fB,hg⟩);split at h
          . rename_i zX;split at h
            . rename_i bD;simp only[Aj,Ap] at h;obtain⟨rfl,rfl⟩:=h;have ay:IA.length=ys.length*N:=(by rw[yv.1,Z]);have bb:len*N+ys.length*N<=cap*N:=by rw[<-Bo];exact Bf _ zX
              obtain⟨w',hr,K⟩:=fY P l.dE (l.base+off+len*N) IA 0 w ⟨ca,el,fz,b1,by omega⟩
               (fun j Y=>by rw[Di,Bm,Bm];exact b3 (off+(len*N+j)) A0) (qC yv y1)
              rw[Di,Bm] at K;obtain⟨r1,r2⟩:=L.store U hg yv y1 (by rw[Z];omega) K;refine⟨.value (.slice (some ⟨l.dE,l.base+off,none⟩) (len+ys.length) V),.slice (some ⟨l.dE,l.base+off,none⟩) (len+ys.length) V,w',G,gY f ?_,.inl rfl,r1,r2,VR.sl id N off (len+ys.length) cap V l U zX iG pP⟩;have :=rK (P:=P) (ty:=o.type) (base:=some ⟨l.dE,l.base+off,none⟩) (sLen:=len) (sCap:=V) ht I h2 hd WQ ar A0;exact Zb9
            cases h
          rename_i zX;split at h
          . rename_i CT;obtain⟨c1,c2⟩:=CT
            have bz:V=cap:=by
             rcases pP with pP|⟨p1,p2,p3⟩
             . exact pP
             rcases c2 with c2|c2
             . have :=a3 c2;have ba:V*N=cap*N:=A0;exact Nat.eq_of_mul_eq_mul_right bt ba
             omega
            subst bz
            obtain⟨eu,T,_,Mz,ev',aj⟩:=pY P L.drew (sz:=N) (x:=.sl id N off len V) (ys:=gO N len (cs.drop off)) (by
             have aF:H.fP id=some cs:=by simp[aA.fP,hg]
             simp[dJ,aF,c1]) (VR.sl id N off len V V l U Q iG pP:VR G w _ _).drew
            have ae:jH G w (gO N len (cs.drop off)).flatten Mz:=⟨ev'.1,fun j Y=>(ev'.2 j Y).mono (fun _ _ h=>h) (fun b o F=>⟨F,rfl⟩)⟩;obtain⟨f1,f2,f3⟩:=mH N len (cs.drop off) Zaf;have ag:=length_flatten eu
            have af:(Builtin.firstCells N len (.slice (some ⟨l.dE,l.base+off,none⟩) len V)).run P {w with drawn:=w.drawn+1}=.ok Mz.toArray {w with drawn:=w.drawn+1}:=by rw[aj len A0,ye (by rw[ev'.1,ag,f2])]
            simp only[Aj] at h;have :=TV mu (els:=gO N len (cs.drop off)) (os:=Mz) L (Ext.refl G H w) f f2 eu T ae af A0 A;rw[h] at this;exact this
          split at h
          . rename_i bf;obtain⟨b9,br,bc,PA⟩:=bf;subst b9 br bc;simp only[Aj,Ap] at h;obtain⟨rfl,rfl⟩:=h
            obtain⟨eu,T,_,Mz,ev',aj⟩:=pY P L.drew (sz:=N) (x:=.sl id N 0 len len) (ys:=gO N len (cs.drop 0)) (by
             have aF:H.fP id=some cs:=by simp[aA.fP,hg]
             simp[dJ,aF,PA]) (VR.sl id N 0 len len V l U Q iG pP:VR G w _ _).drew
            have ae:jH G w (gO N len (cs.drop 0)).flatten Mz:=⟨ev'.1,fun j Y=>(ev'.2 j Y).mono (fun _ _ h=>h) (fun b o F=>⟨F,rfl⟩)⟩;obtain⟨f1,f2,f3⟩:=mH N len (cs.drop 0) Zaf;have ag:=length_flatten eu
            have af:(Builtin.firstCells N len (.slice (some ⟨l.dE,l.base+0,none⟩) len V)).run P {w with drawn:=w.drawn+1}=.ok Mz.toArray {w with drawn:=w.drawn+1}:=by rw[aj len A0,ye (by rw[ev'.1,ag,f2])]
            have bk:(gO N len (cs.drop 0)).flatten=cs:=(by rw[f1,Fm,Au A0]);have nI:H.live id:=⟨_,hg,rfl⟩;have hk:=L.kill id;have yj:=(Ext.refl G H w).kill id;by_cases VS:len+ys.length<=V
            ·
             have bs:len*N=l.Wa/\len<=V/\V*N=l.ext:=by
              rcases pP with X|⟨p1,p2,p3⟩
              . omega
              exact⟨by omega,p2,by omega⟩
             obtain⟨g1,g2,g3⟩:=bs;have ay:IA.length=ys.length*N:=(by rw[yv.1,Z]);have bb:len*N+ys.length*N<=V*N:=by rw[<-Bo];exact Bf _ VS
             obtain⟨w',hr,K⟩:=fY P l.dE (l.base+0+len*N) IA 0 w ⟨ca,el,fz,b1,by omega⟩
              (fun j Y=>by rw[Di,Di,Bm];exact b3 (len*N+j) A0) (qC yv y1)
             rw[Di,Di] at K
             have S:∀j,j<IA.length->¬G.iZ l.dE (l.base+len*N+j):=fun j Y=>by rw[Bm];exact L.lV id l U nI _ A0
             have vU:∀mI l',G.loc mI=some l'->(H.set id .dead).live mI->l.dE≠l'.dE\/l.base+l.ext<=l'.base\/l'.base+l'.ext<=l.base:=fun mI l' pS R=>by
              rcases aA.mX.1 R with ⟨_,X⟩|⟨cU,R⟩
              . cases X
              exact L.mV id mI l l' (Ne.symm cU) U pS nI R
             have Ol:=hk.write K S (fun mI l' pS R=>by
              rcases vU mI l' pS R with tF|tF|tF
              . exact .inl (Ne.symm tF)
              . exact .inr (.inr A0)
              exact .inr (.inl A0)) ⟨ca,el,fz,b1⟩
             have O:w.heap.size<=l.dE\/∃fQ l0,G.loc fQ=some l0/\H.live fQ/\l0.dE=l.dE:=.inr ⟨id,l,U,nI,rfl⟩;have ZV:=yj.write K S L.jJ O;obtain⟨aK,B,u2,u3,u4⟩:=K.row ca el fz b1
             have oi:∀j,j<IA.length->w'.cell? ⟨l.dE,l.base+len*N+j,none⟩=some (IA.getD j undef):=fun j Y=>by rw[nQ B];exact u4 j Y A0
             have CZ:(cs++ys.flatten).length=(len+ys.length)*N:=by rw[An,PA,Z,Bo]
             have al:∀j,(cs++ys.flatten).getD j aB=if j<cs.length then cs.getD j aB else ys.flatten.getD (j -cs.length) aB:=fun j=>by rw[getD_eq,Dp];split<;>rfl
             have yh:=ZV.Pg (.cells (cs++ys.flatten) true) ⟨l.dE,l.base,(cs++ys.flatten).length,l.ext⟩ Ol.lt O
             have aE:=Ol.Pg (.cells (cs++ys.flatten) true) ⟨l.dE,l.base,(cs++ys.flatten).length,l.ext⟩ vU
              (fun j Y F=>L.lV id l U nI j Y F)
              (fun GN bC AT=>by
                simp only[eG.cells.injEq] at AT;obtain⟨rfl,rfl⟩:=AT;refine⟨rfl,(by simp only;rw[CZ,Bo];omega),(fun X=>(by cases X)),fun c hc=>(Ar.1 hc).elim (a4 c) (y1 c),fun j Y=>?_⟩;rw[al];by_cases D:j<cs.length
                . rw[if_pos D];obtain⟨u,v1,v2⟩:=a5 j D;exact⟨u,(show w'.cell? ⟨l.dE,l.base+j,none⟩=some u from K.cell (.inr (.inl A0)) v1),v2.ext ZV⟩
                rw[if_neg D];simp only[An] at Y;have OH:j -cs.length<IA.length:=(by rw[yv.1];omega);have JM:l.base+j=l.base+len*N+(j -cs.length):=A0;refine⟨_,(show w'.cell? ⟨l.dE,l.base+j,none⟩=_ from ?_),(yv.2 (j -cs.length) A0).ext ZV⟩;rw[JM]
                exact oi _ OH)
              (fun _=>⟨aK,el,fz,B,by simp only;omega,fun j Y=>by
                simp only at Y ⊢;rw[K.frozen b1]
                exact b3 j Y⟩) (fun AT=>by cases AT)
             refine⟨.value (.slice (some ⟨l.dE,l.base+0,none⟩) (len+ys.length) V),.slice (some ⟨l.dE,l.base+0,none⟩) (len+ys.length) V,w',_,gY f ?_,.inl rfl,aE,yh,?_⟩
             . have :=rK (P:=P) (ty:=o.type) (base:=some ⟨l.dE,l.base+0,none⟩) (sLen:=len) (sCap:=V) ht I h2 hd WQ ar VS;exact Zb9
             exact VR.sl H.next N 0 (len+ys.length) (len+ys.length) V ⟨l.dE,l.base,(cs++ys.flatten).length,l.ext⟩ (by simp only[Gh.eA,aA.aZ,if_true]) (Ae _)
              (by simp only;rw[CZ];omega) (.inr ⟨by simp only;rw[CZ];omega,VS,by simp only;omega⟩)
            have hn:=TV true (els:=gO N len (cs.drop 0)) (os:=Mz) hk yj f f2 eu T ae af VS A
            have e0:mQ (H.set id .dead) true N (gO N len (cs.drop 0)++ys)=(.sl H.next N 0 (len+ys.length) (len+ys.length),(H.set id .dead).alloc (.cells (cs++ys.flatten) true)):=by simp only[mQ,if_true,An,f2,Fa,bk,aA.aZ]
            rw[e0] at hn;exact hn
          cases h
       cases h
     cases h
   cases h
 cases h
end
end
section
theorem qY(zs:List AV):∀(n k:Nat),k<n*zs.length->(List.replicate n zs).flatten.getD k aB=zs.getD (k%zs.length) aB
 |0,k,h=>by omega
 |n+1,k,h=>by
  rw[Iu,Cl,getD_eq,Dp];rw[Dm] at h;by_cases E:k<zs.length
  . simp[if_pos,E,Bl]
  rw[if_neg E];have :=qY zs n (k -zs.length) A0;rw[getD_eq] at this;rw[this,<-Nat.mod_eq_sub_mod A0]
theorem UK{G:Gh}{w:World}{zs:List AV}{z:Array Value}(h:jH G w zs z.toList)(u:1<=zs.length)(n m:Nat)(p:m=n*zs.length):
 jH G w (List.replicate n zs).flatten ((Array.range m).map fun i=>z[i%z.size]!).toList:=by
 have U:=h.1;refine⟨by simp[*],fun k E=>?_⟩;have R:k<n*zs.length:=by simp_all
 rw[qY zs n k R,tR];have a:k%zs.length<zs.length:=Bz _ u;have :=h.2 (k%zs.length) a
 grind
section
variable {P:Program} {g:bL} {o:Oper}
variable{zs:List AV}
theorem HR(O:∀c∈zs,c.one=true)(n:Nat):∀c∈(List.replicate n zs).flatten,c.one=true:=fun c R=>by grind[List.mem_flatten]
theorem ZQ(n:Nat)(h:n<=2^40):IntKind.i64.wrap (n:Int)=(n:Int):=by
 have X:IntKind.i64.bits=64:=rfl;unfold IntKind.wrap
 grind
variable{t e:TypeId}{sz:Nat}{i:TypeInfo}{z:Value}{x y:Operand}{D J:Arg}
theorem OC(S:o.op=.makeSlice t x y)(C:bO g x=some D)(Y:bO g y=some J)(q:oU P t=some (e,sz))
 (F:P.info? e=some i) (E:nK P e=some z) (Z:lG z.cells.toList=some zs) (u:1<=sz) (AS:1<=i.bytes):HG P g o (.mO sz i.bytes zs D J):=by
 intro s a G H H' w T val N L M h d dA V r;have W:=bM L M C;have A:=bM L M Y;obtain⟨K,I⟩:=mK q;simp only[CS] at h;split at h
 . rename_i l c U R;obtain⟨k1,e1,b⟩:=vM U W;obtain⟨k2,e2,f2⟩:=vM R A;split at h
   . rename_i fL;obtain⟨c1,c2,c3⟩:=fL;obtain⟨rfl,rfl⟩:=h;have B:=nR Z G w
     have j:c<=2^40:=by have :1*c<=i.bytes*c:=Bf _ AS;omega
     have w1:=ZQ l A0;have w2:=ZQ c j;have k:1<=zs.length:=A0;have X:=UK B.1 k c (c*sz) (by rw[c3]);have m:jI w {w with heap:=w.heap.push (.cells ((Array.range (c*sz)).map fun i=>z.cells[i%z.cells.size]!) e)} (.cells (((Array.range (c*sz)).map fun i=>z.cells[i%z.cells.size]!).toList++[]).toArray e (0,0)):=⟨by rw[Bx,Array.toArray_toList],.now⟩;have p:=L.AI N d _ _ [] X (HR B.2 c) false (fun _=>rfl) dA V r (Clear.zero _) m;refine⟨.slice (some ⟨w.heap.size,0,none⟩) l c,_,_,?_,p,?_⟩
     . have t1:(decide ((c:Int)<0)||decide ((i.bytes:Int)*(c:Int)>2^48))=false:=by
        simp;omega
       have t2:¬((l:Int)<0):=A0;have O:¬((l:Int)>(c:Int)):=A0;simp only[execOp,S,Instr.makeSlice,Sem.run_bind,run_underlying K w,Result.andThen_ok,b,f2,asInt,asIntOf,Sem.run_pure,yQ F w,w1,w2,t1,Ab t2,Ab O,Ld,Bs,Cv,run_askRoom,Int.toNat_natCast,eV I w];by_cases v:c*sz=0
       . have n:∀f:Nat->Value,(Array.range 0).map f= #[]:=fun f=>by simp
         simp only[v,if_true,Sem.run_bind,Sem.run_pure,Result.andThen_ok,n];rfl
       simp only[v,Cv,Sem.run_bind,nA E w,Sem.run_pure,Result.andThen_ok];rfl
     have Q:(List.replicate c zs).flatten.length=c*sz:=(by simp[c3]);refine VR.sl N sz 0 l c c ⟨w.heap.size,0,(List.replicate c zs).flatten.length,(((Array.range (c*sz)).map fun i=>z.cells[i%z.cells.size]!).toList++[]).length⟩ (by simp only[Gh.eA,if_true]) c1 (by simp only[Q];omega) (.inl rfl)
   cases h
 cases h
theorem ik(S:o.op=.makeSlice t x y)(C:bO g x=some D)(Q:bO g y=some J)(q:oU P t=some (e,sz))
 (F:P.info? e=some i) (s:nK P e=some z) (Z:lG z.cells.toList=some zs) (u:1<=sz) (p:1<=i.bytes):cV P g o (.mO sz i.bytes zs D J):=
 (OC S C Q q F s Z u p).op fun _ _=>rfl
theorem aGr:∀{l:List (Nat×Operand)} {k:Nat} {ys:List Arg},Lq g k l=some ys->ys.length=l.length:=by
 intro l
 induction l with
 |nil=>intro k ys h;obtain rfl:=Aa h;rfl
 |cons p r z=>grind[Lq]
def Vw(N:Bool)(sz:Nat)(ys:List Arg):Bool:=N&&Nat.beq sz 1&&(match ys with|[.const (.str [])]=>true|_=>false)
variable{len:Nat}{T:Array (Nat×Operand)}{ys:List Arg}
theorem QI{l:Bool}(S:o.op=.buildSlice t len T)(q:oU P t=some (e,sz))(n:nK P e=some z)
 (Q:len=T.size) (A:len*sz<=2^24) (m:Lq g 0 T.toList=some ys) (V:Vw l sz ys=true):HG P g o (.mO 1 1 [.str []] (.const (.int .i64 1)) (.const (.int .i64 1))):=by
 intro s a G H H' w k val N L M h d y B r;obtain⟨K,I⟩:=mK q;simp only[Vw,Ak] at V;obtain⟨⟨_,i⟩,E⟩:=V;obtain rfl:sz=1:=Ch i
 have E:ys=[.const (.str [])]:=by
  split at E
  . rfl
  cases E
 subst E;have J:T.size=1:=by have :=aGr m;simpa using this.symm
 obtain rfl:len=1:=by omega
 have b:k=.cells [.str []] false/\val=fun id=>.sl id 1 0 1 1:=by
  have e:CS (Arg.eval g s) (.mO 1 1 [.str []] (.const (.int .i64 1)) (.const (.int .i64 1)))=some (.cells [.str []] false,fun id=>.sl id 1 0 1 1):=by simp[CS,Arg.eval,asNat]
  rw[e] at h;simp only[Aj,Ap] at h;exact⟨h.1.symm,h.2.symm⟩
 obtain⟨rfl,rfl⟩:=b;obtain⟨f,v,u,O⟩:=QG L M 1 T.toList [.const (.str [])] 0 [[.str []]] [] ((Array.range (1*1)).map (z.cells[· %z.cells.size]!)) m rfl A2 (by simp[J]) (fun j Y=>by simp at Y) (fun c R=>by cases R);have x:jI w {w with heap:=w.heap.push (.cells f e)} (.cells (f.toList++[]).toArray e (0,0)):=⟨by simp,.now⟩;have p:=L.AI N d [.str []] f.toList [] u O false (fun _=>rfl) y B r (Clear.zero _) x;refine⟨.slice (some ⟨w.heap.size,0,none⟩) 1 1,_,_,?_,p,?_⟩
 . simp only[execOp,S,Instr.buildSlice,Sem.run_bind,run_underlying K w,eV I w,Result.andThen_ok,if_neg (show ¬1*1>2^24 by omega),if_neg (show ¬1*1=0 by omega),nA n w,Sem.run_pure,Io,v];rfl
 exact VR.sl N 1 0 1 1 1 ⟨w.heap.size,0,1,(f.toList++[]).length⟩ (by simp only[Gh.eA,if_true];rfl) (Ae _) A2 (.inl rfl)
theorem zx{N:Bool}(S:o.op=.buildSlice t len T)(q:oU P t=some (e,sz))(s:nK P e=some z)
 (Q:len=T.size) (A:len*sz<=2^24) (m:Lq g 0 T.toList=some ys) (V:Vw N sz ys=true):cV P g o (.mO 1 1 [.str []] (.const (.int .i64 1)) (.const (.int .i64 1))):=
 (QI S q s Q A m V).op fun _ _=>rfl
variable{c:Call}
theorem aPe{m:TypeId}(S:o.op=.call c)(R:c.callee=.builtin .copy)(ha:c.args= #[x,y])
 (C:bO g x=some D) (hy:bO g y=some J) (O:c.argTypes[0]?=some t) (ht:P.underlying t=some (.slice m)) (I:mD P m=some sz):cV P g o (.copy sz D J):=by
 intro s a G H w v H' L M h;have W:=bM L M C;have A:=bM L M hy;simp only[dS] at h
 have b:∀{p:Option Addr} {dl dc:Nat} {n:Nat} {vs:List Value},a.eval x=.slice p dl dc->(Builtin.lenOf (a.eval y)).run P w=.ok n w->(Builtin.firstCells sz (Nat.min n dl) (a.eval y)).run P w=.ok vs.toArray w->
  ∀{w':World},((match p with|some q=>storeCells q vs|none=>pure ():Sem Unit).run P w=.ok () w')->(execOp a.eval o).run P w=.ok (.value (.int .i64 (Nat.min n dl:Nat))) w':=by
  intro p dl dc n vs f U hf w' V;simp only[execOp,S,resolve,R,ha,List.map_toArray,Cg,Hi,f,Sem.run_bind,Sem.run_pure,Result.andThen_ok,invoke,builtin,Builtin.copy_,O,Ff,Gj,Fp,run_underlying ht w,U,eV I w,hf]
  cases p with
  |none=>simp at V;subst V;simp[goInt]
  |some q=>simp only at V;simp[V,goInt]
 split at h
 . rename_i ys E d;rw[d] at W;generalize f:a.eval x=u at W;cases W;simp only[Aj,Ap] at h;obtain⟨rfl,rfl⟩:=h;obtain⟨yu,e,WQ,z,F,B⟩:=pY P L E A
   have :=b f WQ (vs:=[]) (by
    have :=B 0 (Bk _);rw[show Nat.min ys.length 0=0 from Nat.min_zero _]
    simpa using this) (w':=w) rfl
   exact cV.pure' L this (.int _ _)
 . rename_i ys id N off len cap E d;rw[d] at W;obtain⟨yu,e,WQ,z,F,B⟩:=pY P L E A;split at h
   . rename_i ad;subst ad;split at h
     . rename_i cs r hg;split at h
       . rename_i T;simp only[Aj,Ap] at h;obtain⟨rfl,rfl⟩:=h;generalize f:a.eval x=u at W
         cases W with
         |sl _ _ _ _ _ lN l U Q ag pP=>
          obtain⟨a1,a2,a3,i,a5⟩:=L.cells id l cs r U hg;obtain⟨ca,el,fz,b1,b2,k⟩:=L.room id l U (.inl ⟨cs,r,hg⟩);have Z:=length_flatten yu;have ab:min ys.length len<=ys.length:=Ir _ _;have ae:min ys.length len*N<=ys.length*N:=Bf _ ab;have af:=F.1;have a6:(ys.take (min ys.length len)).flatten=ys.flatten.take (min ys.length len*N):=LH yu _;have a7:=F.take (min ys.length len*N);rw[<-a6] at a7;have X:(z.take (min ys.length len*N)).length=min ys.length len*N:=by simp;omega
          obtain⟨w',V,K⟩:=fY P l.dE (l.base+off) (z.take (min ys.length len*N)) 0 w ⟨ca,el,fz,b1,by omega⟩
           (fun j Y=>by rw[Di,Bm];exact k (off+j) A0) (qC a7 (fun c R=>by
             rw[a6] at R
             exact e c (Cw R)))
          obtain⟨r1,r2⟩:=L.store U hg a7 (fun c R=>by rw[a6] at R;exact e c (Cw R)) (by rw[a6];simp;omega) K;refine⟨_,_,w',G,b f WQ (B _ ab) V,.inl rfl,r1,r2,.int _ _⟩
       cases h
     cases h
   cases h
 cases h
theorem bCi{m:TypeId}(S:o.op=.call c)(R:c.callee=.builtin .clear)(I:c.args= #[x])
 (C:bO g x=some D) (O:c.argTypes[0]?=some t) (q:P.underlying t=some (.slice m)) (hz:nK P m=some z) (FW:lG z.cells.toList=some zs):cV P g o (.clr sz zs D):=by
 intro s a G H w v H' L M h;have W:=bM L M C
 have b:∀{u:Value} {w':World},a.eval x=u->(Builtin.clear_ c.argTypes o.type #[u]).run P w=.ok (.tuple #[]) w'->(execOp a.eval o).run P w=.ok (.value (.tuple #[])) w':=by intro u w' f V;simp[execOp,S,resolve,R,I,invoke,builtin,f,V]
 simp only[dS] at h;split at h
 . exact Zaz
 . rename_i d;rw[d] at W;generalize f:a.eval x=u at W;simp only[Aj,Ap] at h;obtain⟨rfl,rfl⟩:=h;cases W<;>exact cV.pure' L (b f (by simp[Builtin.clear_,O,run_underlying q w])) (VR.oV G w)
 . exact Zaz
 . rename_i id N off len cap a7 d;rw[d] at W;split at h
   . rename_i y;obtain⟨y,J⟩:=y;subst y;split at h
     . rename_i cs r hg;split at h
       . rename_i T;simp only[Aj,Ap] at h;obtain⟨rfl,rfl⟩:=h;generalize f:a.eval x=u at W
         cases W with
         |sl _ _ _ _ _ lN l U Q ad A=>
          obtain⟨a1,a2,a3,a4,a5⟩:=L.cells id l cs r U hg;obtain⟨p,el,fz,b1,b2,k⟩:=L.room id l U (.inl ⟨cs,r,hg⟩);have B:=nR FW G w;have a6:z.cells.size=zs.length:=(by simpa using B.1.1);have i:(List.replicate len zs).flatten.length=len*N:=by simp[J]
          have F:jH G w (List.replicate len zs).flatten (Builtin.zeroCells z.cells len).toList:=by
           by_cases ab:0<N
           . exact UK B.1 A0 len (len*z.cells.size) (by rw[a6])
           have h0:N=0:=A0;have SY:zs=[]:=Hv.1 A0;refine⟨?_,fun j Y=>?_⟩
           . rw[i];simp[Builtin.zeroCells,a6,J]
           rw[i,h0,Nat.mul_zero] at Y;omega
          have E:=HR B.2 len;have X:=F.1
          obtain⟨w',V,K⟩:=fY P l.dE (l.base+off) (Builtin.zeroCells z.cells len).toList 0 w ⟨p,el,fz,b1,by omega⟩
           (fun j Y=>by rw[Di,Bm];exact k (off+j) A0) (qC F E)
          obtain⟨r1,r2⟩:=L.store U hg F E (by rw[i];exact T) K;have Z:len≠0:=fun e=>a7 e;refine⟨_,_,w',G,b f ?_,.inl rfl,r1,r2,VR.oV G w'⟩
          cases len with
          |zero=>exact absurd rfl Z
          |succ n=>simp only[Builtin.clear_,O,Ff,Gj,Sem.run_bind,run_underlying q w,Result.andThen_ok,nA hz w,V,Sem.run_pure]
       cases h
     cases h
   cases h
 cases h
theorem aHp{c A:TypeId}(S:o.op=.convert c A x)(C:bO g x=some D)(ei:P.underlying c=some (.slice e))(t:P.underlying A=some .string)
 (B:P.underlying e=some (.int .u8)):cV P g o (.HI D):=by
 intro s a G H w v H' L M h;have W:=bM L M C;simp only[dS] at h;generalize al:Arg.eval g s D=va at W h;split at h
 . cases h
 rename_i ak;split at h
 . rename_i els i;simp only[Ad,Ap] at h;obtain⟨N,d,rfl,rfl⟩:=h;obtain⟨R,e1,ay,a7,ev,p⟩:=pY P L i W;have m:=length_flatten R;have ar:a7.length=els.length:=by rw[ev.1,m,Df]
   have a6:=p els.length (Ae _);rw[Df,Au A0] at a6
   have key:∀(els:List (List AV)) (N:List UInt8),bytesOf els=some N->∃q:List Int,els.flatten=q.map (fun n=>AV.int .u8 n)/\N=q.map fun n=>UInt8.ofNat n.toNat:=by
    intro els
    induction els with
    |nil=>intro N X;obtain rfl:=Aa X;exact⟨[],rfl,rfl⟩
    |cons e r z=>
     intro N X
     match e,X with
     |[.int .u8 n],X=>simp only[bytesOf,Ad] at X;obtain⟨ag,GQ,rfl⟩:=X;obtain⟨q,O,Z⟩:=z ag GQ;exact⟨n::q,by simp[O],by simp[Z]⟩
   obtain⟨q,k1,k2⟩:=key els N d
   have ae:a7=q.map (fun n=>Value.int .u8 n):=by
    apply Ga;intro j;have aq:els.flatten.length=q.length:=(by rw[k1];simp);by_cases Y:j<q.length
    . have :=ev.2 j A0;rw[k1] at this;have e2:(q.map fun n=>AV.int .u8 n).getD j aB=.int .u8 (q[j]):=(by simp[getD_eq,Y]);rw[e2] at this;have :=this.jP;rw[zT a7 undef j (by rw[ev.1];omega),this];simp[Y]
    rw[Cu (by rw[ev.1];omega),Cu Zaf]
   have aj:VR G w (.str N) (.string ⟨N.toArray⟩):=VR.WE _ _ _
   have y:∀u:Value,a.eval x=u->(convert c A u).run P w=.ok (.string ⟨N.toArray⟩) w->∃n u w' E,(execOp a.eval o).run P w=.ok n w'/\Su n u/\WR g E H w'/\Ext G H w E H w'/\VR E w' (.str N) u:=fun u K V=>cV.pure' L (by simp[execOp,S,K,V]) aj
   generalize f:a.eval x=u at W a6
   have ab:∀{b o' len cap:Nat},u=.slice (some ⟨b,o',none⟩) len cap->len=els.length->(convert c A u).run P w=.ok (.string ⟨N.toArray⟩) w:=by
    intro b o' len cap ad pS;subst ad pS
    have af:(loadCells ⟨b,o',none⟩ els.length).run P w=.ok (q.map (Value.int .u8)).toArray w:=by rw[ae] at a6;simpa [Builtin.firstCells] using a6
    rw[run_convert_bytes_string w c A e _ els.length cap ei B t,run_bytesToString w _ els.length cap q af,foldl_push_bytes,k2];simp[ByteArray.empty,ByteArray.emptyWithCapacity];rfl
   cases W with
   |bE=>simp[dJ] at i;subst i;simp[bytesOf] at d;subst d;refine y _ f ?_;simp only[convert,Sem.run_bind,run_underlying ei w,run_underlying t w,Result.andThen_ok,run_underlying B w,Conv.bytesToString];rfl
   |bJ tag fJ DW b o' cap us I hh J vZ=>
    simp only[dJ] at i;split at i
    . obtain rfl:=Aa i;exact y _ f (ab rfl rfl)
    cases i
   |wY tag fJ b o' s' vZ=>
    simp only[dJ] at i;split at i
    . obtain rfl:=Aa i;simp[bytesOf] at d;subst d;refine y _ f ?_;rw[run_convert_bytes_string w c A e _ 0 0 ei B t,run_bytesToString w _ 0 0 [] (by simp[loadCells,loadCellsFrom])];rfl
    cases i
   |sl id fJ off len cap lN l U Q T pP=>
    refine y _ f (ab rfl ?_);simp only[dJ] at i;split at i
    . split at i
      . split at i
        . rename_i F k;obtain rfl:=Aa i;rename_i an cs;have :=(mH 1 len (cs.drop off) Zaf).2.1;omega
        cases i
      cases i
    cases i
   |str s=>exact absurd rfl (ak _)
   |_=>simp[dJ] at i
 cases h
end
end
section
section
variable {P:Program} {g:bL} {o:Oper}
theorem Ye(h:Array Go.Obj)(x:Go.Obj)(f:Go.Obj->Go.Obj):(h.push x).modify h.size f=h.push (f x):=by grind
variable{x:Operand}{D:Arg}
theorem TM{c A e:TypeId}(S:o.op=.convert c A x)(C:bO g x=some D)(l:P.underlying c=some .string)(t:P.underlying A=some (.slice e))
 (B:P.underlying e=some (.int .u8)):HG P g o (.EY D):=by
 intro s a G H H' w T val N L M h d y V fF;have W:=bM L M C;simp only[CS] at h;split at h
 . rename_i n u;rw[u] at W;have f:=W.jQ;simp only[Aj,Ap] at h;obtain⟨rfl,rfl⟩:=h;have I:(⟨n.toArray⟩:ByteArray).size=n.length:=by simp[ByteArray.size]
   obtain⟨cap,nt,R⟩:=EW (P:=P) (need:=n.length) (WZ:=0) (e:=e) w
   let vs:List Value:=n.map fun b=>.int .u8 b.toNat
   let rest:List Value:=List.replicate (cap -n.length) (.int .u8 0);let w':World:={w with heap:=w.heap.push (.cells (vs++rest).toArray e (cap,cap+1)),drawn:=w.drawn+1}
   have i:(UH n).flatten=n.map fun b=>AV.int .u8 b.toNat:=by
    unfold UH;clear u W f I nt R
    induction n with
    |nil=>rfl
    |cons b r z=>simp[z]
   have X:vs.length=n.length:=(by simp[vs]);have O:rest.length=cap -n.length:=by simp[rest]
   have J:jH G w (UH n).flatten vs:=by rw[i];refine⟨by simp[vs],fun j Y=>?_⟩;simp at Y;simp only[vs,getD_eq,Eg,Af Y,Ct,By];exact .int _ _
   have m:jI w w' (.cells (vs++rest).toArray e (cap,cap+1)):=⟨rfl,.now⟩
   obtain⟨E,U,p,F⟩:=L.Tu N d _ vs rest J y V fF (fz:=(cap,cap+1)) (fun o' k=>by
    simp only[Gu,An,X,O] at k
    simp;omega) m
   have WX:∀x∈UH n,x.length=1:=fun x C=>by simp only[UH,Bb] at C;obtain⟨b,_,rfl⟩:=C;rfl
   have Q:(UH n).length=n.length:=(by simp[UH]);have v:(UH n).flatten.length=n.length:=(by rw[i];simp);refine⟨.slice (some ⟨w.heap.size,0,none⟩) n.length cap,w',E,?_,p,?_⟩
   . have K:(convert c A (.string ⟨n.toArray⟩)).run P w=(Conv.stringToBytes e ⟨n.toArray⟩).run P w:=by
      simp only[convert,Sem.run_bind,run_underlying l w,run_underlying t w,Result.andThen_ok,run_underlying B w]
     have Z:(((⟨n.toArray⟩:ByteArray).data.map fun b=>(Value.int .u8 b.toNat))++Array.replicate (cap -n.length) (.int .u8 0))=(vs++rest).toArray:=by simp[vs,rest]
     have q:(Conv.stringToBytes e ⟨n.toArray⟩).run P w=.ok (.slice (some ⟨w.heap.size,0,none⟩) n.length cap) w':=by simp only[Conv.stringToBytes,I,Sem.run_bind,R,Result.andThen_ok,Z];simp only[newRow,newObj,markStringish,shape,freeze,Sem.run_bind,Sem.run,Result.andThen_ok,World.shape?,Array.getElem?_push_size,World.freeze,Nat.one_ne_zero,Cv,Sem.run_pure];rw[Ye];simp only[Gu,An,X,O];have :n.length+(cap -n.length)=cap:=A0;simp[this,w']
     simp[execOp,S,f,K,q]
   have :=VR.bJ (G:=E) (w:=w') (N+2) 1 (UH n) w.heap.size 0 cap (fun j=>vs.getD j undef) WX (fun j Y=>⟨(F j Y).1,(F j Y).2.1,by
    rw[i] at Y ⊢;simp at Y;simp only[getD_eq,Eg,Af Y,Ct,By]
    rfl⟩) (fun j Y=>(F j Y).2.2) ⟨by omega,⟨_,U,rfl,by simp only[v,Q];omega,rfl,by simp only[O,Q,Df]⟩⟩
   rw[Q] at this;exact this
 cases h
theorem aHx{c A e:TypeId}(S:o.op=.convert c A x)(C:bO g x=some D)(l:P.underlying c=some .string)(t:P.underlying A=some (.slice e))
 (B:P.underlying e=some (.int .u8)):cV P g o (.EY D):=
 (TM S C l t B).op fun _ _=>rfl
variable{G:Gh}{H H':aA}{w w':World}
theorem WR.GD(h:WR g G H w)(N:Nat)(o:eG)(x:Go.Obj)(S:o.dE=true)(d:G.loc N=none)(y:∀m,H'.get m=if m=N then some o else H.get m)(V:H.next<=H'.next)(e:N<H'.next)
 (p:jI w w' x) (f:(∀a u,VR G w a u->VR G w' a u)->Mn g G w' ⟨w.heap.size,0,0,1⟩ o):Made g G H w N o (G.eA N ⟨w.heap.size,0,0,1⟩) H' w':=by
 have c:=h.JU p;have B:=Ext.JU h p
 refine⟨c.KV N _ _ d y V e (fun id l' U J=>.inl (Ne.symm (Nat.ne_of_lt (h.oP U J)))) (fun j _ F=>?_) (fun I D A=>by rw[A] at S;cases S) (fun hh=>?_) (fun _=>?_),
  ⟨⟨w.heap.size,0,0,1⟩,rfl,by simp[Gh.eA],fun id z=>by grind[Gh.eA]⟩,fun {G0 H0 w0} e0 PB=>(e0.trans B).KV N _ _ d y V PB (.inl e0.size),fun b o F=>.inl F,fun b o F=>F,p.size,p.WZ⟩
 . exact ZbW
 . rcases hh with ⟨_,_,hh⟩|hh<;>rw[hh] at S<;>cases S
 exact⟨rfl,rfl,f fun a u J=>J.mono B.loc B.iZ⟩
theorem WR.aAg(h:WR g G H w)(N:Nat)(d:G.loc N=none)(y:∀m,H'.get m=if m=N then some (.map []) else H.get m)(V:H.next<=H'.next)(e:N<H'.next)
 (p:jI w w' (.map #[] 0)):Made g G H w N (.map []) (G.eA N ⟨w.heap.size,0,0,1⟩) H' w':=
 h.GD N _ _ rfl d y V e p fun _=>⟨#[],0,p.new,rfl,⟨fun i F=>absurd F (Al i),fun i j F=>absurd F (Al i)⟩,fun j Y=>absurd Y (Al j)⟩
variable{t I vt:TypeId}{r:Option Operand}
theorem ND(S:o.op=.makeMap t r)(q:P.underlying t=some (.map I vt))(V:r=none\/∃k n,r=some (.const (.int k n))):HG P g o .CN:=by
 intro s a G H H' w T val N L M h d y c b;obtain⟨rfl,rfl⟩:=h;have m:jI w {w with heap:=w.heap.push (.map #[] 0)} (.map #[] 0):=⟨rfl,.now⟩;have p:=L.aAg N d y c b m;refine⟨.map (some w.heap.size),_,_,?_,p,?_⟩
 . rcases V with rfl|⟨k,n,rfl⟩
   . simp[execOp,S,Instr.makeMap,newObj,Sem.run]
   simp[execOp,S,Instr.makeMap,run_underlying q w,Act.eval,asInt,asIntOf,newObj,Sem.run]
 exact VR.map N ⟨w.heap.size,0,0,1⟩ (by simp[Gh.eA])
theorem YX(S:o.op=.makeMap t r)(q:P.underlying t=some (.map I vt))(V:r=none\/∃k n,r=some (.const (.int k n))):cV P g o .CN:=
 (ND S q V).op fun _ _=>rfl
def Ll(P:Program)(t:TypeId):Option Sk:=
 match P.underlying t with
 |some .bool=>some .b
 |some (.int _)=>some .i
 |some .string=>some .s
 |some (.struct _)|some (.array _ _)=>(pU P 60 t).map .f
 |_=>none
def PI:Sk->Bool
 |.f _=>false
 |_=>true
variable{k:Sk}
theorem OX{d:TypeDesc}(E:Ll P I=some k)(m:PI k=true)(hd:P.underlying I=some d){x y:AV}{u v:Value}{b:Bool}(h:sameKey k x y=some b)(C:VR G w x u)(Q:VR G w y v):
 Instr.sameNow d u v=some b:=by
 unfold Ll at E;rw[hd] at E
 cases x<;>cases y<;>simp only[sameKey] at h<;>first
  |(cases h;done)
  |skip
 . cases k<;>simp only[] at h<;>first|(cases h;done)|skip
   obtain rfl:=Aa h;rw[C.lM,Q.lM];cases d<;>simp at E<;>rfl
 . cases k<;>simp only[] at h<;>first|(cases h)|skip
   split at h
   . rename_i a;obtain rfl:=Aa h;subst a;rw[C.jP,Q.jP];cases d<;>simp at E<;>simp[Instr.sameNow]
   grind
 . cases k<;>simp only[] at h<;>first|(cases h;done)|skip
   obtain rfl:=Aa h;rw[C.jQ,Q.jQ];cases d<;>simp at E;simp[Instr.sameNow,Aj,beq_toListBytes,ByteArray.toList_mk]
 cases k<;>simp only[] at h<;>first|(cases h)|(cases m)
theorem BX{α:Type}(P:Program)(w:World)(f:α->PUnit->Sem (ForInStep PUnit)):∀(l:List α),(∀x∈l,∀r,(f x r).run P w=.ok (.yield PUnit.unit) w)->(forIn l PUnit.unit f:Sem PUnit).run P w=.ok PUnit.unit w
 |[],_=>by simp
 |x::l,h=>by simp only[List.forIn_cons,Sem.run_bind,h x A2,Result.andThen_ok];exact BX P w f l fun y Q=>h y (by grind)
theorem JX{P:Program}(w:World)(em:Bool):∀(f:Nat) (t:TypeId) (ks:List Sk),pU P f t=some ks->∀(d:Nat) (b:Bool) (us:List Value),gP P t=some b->us.length=ks.length->
 (Instr.checkKey em (d+f) t (valOf b us)).run P w=.ok () w:=by
 intro f
 induction f with
 |zero=>intro t ks h;cases h
 |succ f ih=>
  intro t ks h d b us hb hl;rw[show d+(f+1)=(d+f)+1 from rfl,Instr.checkKey];simp only[pU] at h;split at h
  . exact ZaQ
  . exact ZaQ
  . exact ZaQ
  . rename_i fs hu;split at h
    . cases h
    have hbt:b=true:=(by simp only[gP,hu,Aj] at hb;exact hb.symm);subst hbt;simp only[valOf,if_true,Sem.run_bind,run_underlying hu w,Result.andThen_ok]
    have key:∀(l:List Field) (off:Nat) (zc:List Sk),GK P (pU P f) off l=some zc->off+zc.length<=us.length->
     ∀x∈l,(if x.name≠ "_" then(do Instr.checkKey em (d+f) x.type (←part x.type us.toArray x.offset)) else pure ():Sem Unit).run P w=.ok () w:=by
     intro l
     induction l with
     |nil=>intro off zc _ _ x hx;cases hx
     |cons fd l ihl=>
      intro off zc hs hi x hx;simp only[GK] at hs;split at hs
      . rename_i hc;split at hs
        . rename_i k hk;split at hs
          . rename_i nO;simp only[Ad] at hs;obtain⟨ks2,hs2,rfl⟩:=hs;simp only[An] at hi
            rcases Bd.1 hx with rfl|hx
            . obtain⟨bf,VG,VH⟩:=BY hk;have p1:=oI nO VG w (us:=us) (off:=x.offset) A0 VH;simp only[ne_eq,if_pos hc.1,Sem.run_bind,p1,Result.andThen_ok];exact ih x.type k hk d bf _ VG Zaf
            exact ihl (off+k.length) ks2 hs2 A0 x hx
          cases hs
        cases hs
      cases hs
    have h1:=key fs.toList 0 ks h A0
    rw[<-Array.forIn_toList,BX P w _ fs.toList (fun x hx r=>by
     have :=h1 x hx;split at this
     . rename_i hn;rw[if_pos hn];simp only[Sem.run_bind] at this ⊢;generalize (part x.type us.toArray x.offset).run P w=rr at this ⊢
       cases rr with
       |ok p w1=>simp only[Result.andThen_ok] at this ⊢;rw[this];simp
       |halt q w1=>cases this
     rename_i hn;rw[if_neg hn]
     simp)]
    simp
  . rename_i n e hu;have hbt:b=true:=by simp only[gP,hu,Aj] at hb;exact hb.symm
    subst hbt;split at h
    . rename_i k hk;split at h
      . rename_i nO;obtain rfl:=Aa h;obtain⟨bf,VG,VH⟩:=BY hk;simp only[valOf,if_true,Sem.run_bind,run_underlying hu w,Result.andThen_ok];have hlk:((List.replicate n k).flatten).length=n*k.length:=A2;rw[hlk] at hl;simp only[Std.Legacy.Range.forIn_eq_forIn_range',Std.Legacy.Range.size,Hy,Nat.add_one_sub_one,Ht]
        rw[BX P w _ (List.range' 0 n) (fun i hi r=>by
         have rP:i<n:=by have :=List.mem_range'_1.1 hi;omega
         have iG:i*k.length+k.length<=us.length:=by rw[hl,<-Dm];exact Bf _ rP
         have p1:=oI nO VG w (us:=us) (off:=i*k.length) iG VH
         simp only[Sem.run_bind,eV nO w,Result.andThen_ok,p1,ih e k hk d bf _ VG (show((us.drop (i*k.length)).take k.length).length=k.length by simp;omega),Sem.run_pure])]
        simp
      cases h
    cases h
  cases h
theorem fg{sh:List Sk}(E:Ll P I=some (.f sh)):pU P 60 I=some sh/\gP P I=some true/\∃d,P.underlying I=some d/\(∀u v,Instr.sameNow d u v=none):=by
 unfold Ll at E
 split at E<;>rename_i K<;>first
  |(cases E)
  |(simp only[Ad,Sk.f.injEq] at E
    obtain⟨_,O,rfl⟩:=E;refine⟨O,by grind[gP],_,K,fun u v=>?_⟩
    rfl)
theorem run_checkKey(E:Ll P I=some k)(b:Bool)(d:Nat){x:AV}{u:Value}{w:World}(C:VR G w x u)(N:Qd k x=true):
 (Instr.checkKey b (d+60) I u).run P w=.ok () w:=by
 by_cases m:PI k=true
 . unfold Ll at E;rw[show d+60=(d+59)+1 from rfl,Instr.checkKey]
   split at E<;>rename_i K<;>first
    |(cases E;done)
    |(simp only[Ad] at E;obtain⟨_,_,rfl⟩:=E;cases m)
    |(simp only[Sem.run_bind,run_underlying K w,Result.andThen_ok]
      rfl)
 cases k with
 |f sh=>
  obtain⟨O,Z,_⟩:=fg E
  cases x<;>simp only[Qd] at N<;>first|(cases N)|skip
  obtain⟨us,T,D,_,_⟩:=C.xD;subst T;have :=JX w b 60 I sh O d true us Z (by grind);assumption
 |_=>exact absurd rfl m
theorem Nz{G:Gh}{w:World}{I:TypeId}{k:Sk}{d:TypeDesc}(E:Ll P I=some k)(m:PI k=true)(hd:P.underlying I=some d){x:AV}{u:Value}(C:VR G w x u):
 ∀(es:List (AV×AV)) (ents:List MapEntry) (i:Nat) (r:Option (Nat×AV)),nX k x es i=some r->ents.length=es.length->
  (∀j,j<es.length->VR G w (es.getD j (aB,aB)).1 (ents.getD j default).key/\VR G w (es.getD j (aB,aB)).2 (ents.getD j default).val)->
  ∃S,Instr.findNow d u ents i=some S/\((r=none/\S=none)\/∃j av n,r=some (j,av)/\S=some (j,n)/\VR G w av n/\i<=j/\j<i+es.length/\sameKey k x (es.getD (j -i) (aB,aB)).1=some true)
 |[],[],i,r,h,hl,hv=>by obtain rfl:=Aa h;exact⟨none,rfl,.inl ⟨rfl,rfl⟩⟩
 |[],_::_,i,r,h,hl,hv=>by grind
 |(y,z)::es,[],i,r,h,hl,hv=>by grind
 |(y,z)::es,e::ents,i,r,h,hl,hv=>by
  have o:=hv 0 A2;simp only[Dj] at o;simp only[nX] at h;split at h
  . rename_i M;obtain rfl:=Aa h;have A:=OX E m hd M C o.1;refine⟨some (i,e.val),by simp[Instr.findNow,A],.inr ⟨i,z,e.val,rfl,rfl,o.2,Ae _,by simp,by grind⟩⟩
  . rename_i M;have A:=OX E m hd M C o.1
    obtain⟨S,O,Z⟩:=Nz E m hd C es ents (i+1) r h (by grind) (fun j Y=>by
     have :=hv (j+1) (by grind)
     grind)
    refine⟨S,by simp_all[Instr.findNow,A],?_⟩
    grind
  grind
theorem Ny{G:Gh}{w:World}{I:TypeId}{sh:List Sk}(E:Ll P I=some (.f sh)){x:AV}{u:Value}(C:VR G w x u):
 ∀(es:List (AV×AV)) (ents:List MapEntry) (i:Nat) (r:Option (Nat×AV)),nX (.f sh) x es i=some r->ents.length=es.length->
  (∀j,j<es.length->VR G w (es.getD j (aB,aB)).1 (ents.getD j default).key/\VR G w (es.getD j (aB,aB)).2 (ents.getD j default).val)->
  ∃S,(Instr.findAsking I u ents i).run P w=.ok S w/\((r=none/\S=none)\/∃j av n,r=some (j,av)/\S=some (j,n)/\VR G w av n/\i<=j/\j<i+es.length/\sameKey (.f sh) x (es.getD (j -i) (aB,aB)).1=some true)
 |[],[],i,r,h,hl,hv=>by obtain rfl:=Aa h;exact⟨none,by simp[Instr.findAsking],.inl ⟨rfl,rfl⟩⟩
 |[],_::_,i,r,h,hl,hv=>by simp at hl
 |(y,z)::es,[],i,r,h,hl,hv=>by simp at hl
 |(y,z)::es,e::ents,i,r,h,hl,hv=>by
  obtain⟨O,Z,_⟩:=fg E;have o:=hv 0 A2;simp only[Dj] at o;simp only[nX] at h
  have d:∀b,sameKey (.f sh) x y=some b->(Op.equal I u e.key).run P w=.ok b w:=by
   intro b M
   cases x<;>cases y<;>simp only[sameKey] at M<;>first|(cases M;done)|skip
   rename_i xs ys;obtain⟨us,T,D,_,l⟩:=C.xD;obtain⟨vs,a,B,_,v2⟩:=o.1.xD;rw[T,a];have :=XX 60 I sh O true Z (10000 -60) G w xs ys us vs b M ⟨D,l⟩ ⟨B,v2⟩;have W:(Op.equalIn 10000 I (.agg us.toArray) (.agg vs.toArray)).run P w=.ok b w:=(by simpa [valOf] using this);exact W
  split at h
  . rename_i M;obtain rfl:=Aa h;refine⟨some (i,e.val),by simp[Instr.findAsking,d _ M],.inr ⟨i,z,e.val,rfl,rfl,o.2,Ae _,by simp,by simpa using M⟩⟩
  . rename_i M
    obtain⟨S,O,Z⟩:=Ny E C es ents (i+1) r h (by simpa using hl) (fun j Y=>by
     have :=hv (j+1) Za0
     simpa using this)
    refine⟨S,by simp[Instr.findAsking,d _ M];exact O,?_⟩
    grind
  cases h
theorem run_findKey(E:Ll P I=some k){x:AV}{u:Value}(C:VR G w x u){es:List (AV×AV)}{ents:Array MapEntry}{r:Option (Nat×AV)}(h:nX k x es 0=some r)(U:ents.size=es.length)
 (J:∀j,j<es.length->VR G w (es.getD j (aB,aB)).1 (ents.getD j default).key/\VR G w (es.getD j (aB,aB)).2 (ents.getD j default).val):
 ∃S,(Instr.findKey I u ents.toList).run P w=.ok S w/\((r=none/\S=none)\/∃j av n,r=some (j,av)/\S=some (j,n)/\VR G w av n/\j<es.length/\sameKey k x (es.getD j (aB,aB)).1=some true):=by
 have R:∀j,j<es.length->VR G w (es.getD j (aB,aB)).1 (ents.toList.getD j default).key/\VR G w (es.getD j (aB,aB)).2 (ents.toList.getD j default).val:=fun j Y=>by simp_all
 have y:∀{S:Option (Nat×Value)},((r=none/\S=none)\/∃j av n,r=some (j,av)/\S=some (j,n)/\VR G w av n/\0<=j/\j<0+es.length/\sameKey k x (es.getD (j -0) (aB,aB)).1=some true)->
  ((r=none/\S=none)\/∃j av n,r=some (j,av)/\S=some (j,n)/\VR G w av n/\j<es.length/\sameKey k x (es.getD j (aB,aB)).1=some true):=by
  simp
 by_cases m:PI k=true
 . obtain⟨d,hd⟩:∃d,P.underlying I=some d:=by
    grind[Ll]
   obtain⟨S,O,Z⟩:=Nz E m hd C es ents.toList 0 r h A0 R;refine⟨S,?_,y Z⟩;simp only[Instr.findKey,Sem.run_bind,run_underlying hd w,Result.andThen_ok,O];rfl
 cases k with
 |f sh=>
  obtain⟨_,_,d,hd,A⟩:=fg E;obtain⟨S,O,Z⟩:=Ny E C es ents.toList 0 r h A0 R;simp only[Instr.findKey,Sem.run_bind,run_underlying hd w,Result.andThen_ok]
  cases T:ents.toList with
  |nil=>simp_all[T,Instr.findAsking,Sem.run_pure,Result.ok.injEq,and_true,Instr.findNow]
  |cons e l=>simp_all[T,Instr.findNow,A]
 |_=>exact absurd rfl m
variable{ents:Array MapEntry}{n:Nat}
theorem run_getObj_map{r:Nat}(h:w.heap[r]?=some (.map ents n)):(getObj r).run P w=.ok (.map ents n) w:=by simp[getObj,Sem.run,h]
theorem zy{Q:Value}{z:AV}{ok:Bool}{i:Operand}{c:Arg}(S:o.op=.lookup t x i ok)(hx:bO g x=some D)(F:bO g i=some c)(ht:P.underlying t=some (.map I vt))
 (E:Ll P I=some k) (hz:nK P vt=some Q) (ab:ofConst Q=some z):cV P g o (.lookup k z ok D c):=by
 intro s a G H w v H' L M h;have W:=bM L M hx;have R:=bM L M F;have e:=nA hz w;have V:=JR ab G w
 have J:∀{p q:AV} {B u2:Value},VR G w p B->VR G w q u2->VR G w (.jS [p,q]) (.tuple #[B,u2]):=fun O Z=>.jS [_,_] [_,_] rfl (O.cons (Z.cons (jH.nil G w))).2
 simp only[dS] at h;split at h
 . rename_i m;have a6:∀b,(Instr.checkKey b 10000 I (a.eval i)).run P w=.ok () w:=fun b=>run_checkKey E b 9940 R m;split at h
   . rename_i d;rw[d] at W;generalize f:a.eval x=u at W;cases W;obtain⟨rfl,rfl⟩:=h
     have y:(Instr.findKey I (a.eval i) []).run P w=.ok none w:=by
      obtain⟨r',O,Z⟩:=run_findKey (P:=P) E R (es:=[]) (ents:= #[]) (r:=none) rfl rfl (fun j hj=>absurd hj (Al j))
      rcases Z with ⟨_,rfl⟩|⟨j,av,n,X,_⟩
      . exact O
      cases X
     refine cV.pure' L (u:=if ok then .tuple #[Q,.bool false] else Q) ?_ Zb8;simp only[execOp,S,f,Instr.lookup,Sem.run_bind,run_underlying ht w,Result.andThen_ok,Sem.run_pure,a6,y,e]
   . rename_i id d;rw[d] at W;generalize f:a.eval x=u at W
     cases W with
     |map _ l U=>
      split at h
      . rename_i es hg;obtain⟨_,_,ents,ad,C,Y,A,K⟩:=L.jK id l _ U hg rfl;have a7:=run_getObj_map (P:=P) C;split at h
        . rename_i j av N;obtain⟨rfl,rfl⟩:=h;obtain⟨r',O,Z⟩:=run_findKey (P:=P) E R N Y K
          rcases Z with ⟨X,_⟩|⟨j',ae,n,T,e2,e3,_⟩
          . cases X
          cases T;subst e2;refine cV.pure' L (u:=if ok then .tuple #[n,.bool true] else n) ?_ (by cases ok<;>simp <;>first|exact e3|exact J e3 (.bool true));simp only[execOp,S,f,Instr.lookup,Sem.run_bind,run_underlying ht w,Result.andThen_ok,a7,Sem.run_pure,a6,O]
        . rename_i N;obtain⟨rfl,rfl⟩:=h;obtain⟨r',O,Z⟩:=run_findKey (P:=P) E R N Y K
          rcases Z with ⟨_,e2⟩|⟨j',ae,n,T,_⟩
          . subst e2;refine cV.pure' L (u:=if ok then .tuple #[Q,.bool false] else Q) ?_ Zb8;simp only[execOp,S,f,Instr.lookup,Sem.run_bind,run_underlying ht w,Result.andThen_ok,a7,Sem.run_pure,a6,O,e]
          cases T
        cases h
      cases h
   cases h
 cases h
theorem WR.JZ(h:WR g G H w){id:Nat}{l:Loc}{o o':eG}{x:Go.Obj}(U:G.loc id=some l)(t:H.get id=some o)(S:o.dE=true)(yy:o'.dE=true)
 (I:w'.heap=w.heap.setIfInBounds l.dE x) (Z:DJ w w') (f:(∀a u,VR G w a u->VR G w' a u)->w'.heap[l.dE]?=some x->Mn g G w' l o'):
 WR g G (H.set id o') w'/\Ext G H w G (H.set id o') w':=by
 have d:H.live id:=⟨_,t,Qh S⟩;obtain⟨C,m2,K⟩:=h.jK id l _ U t S;have fF:=K.lt S
 have JL:∀b,b≠l.dE->w'.heap[b]?=w.heap[b]?:=fun b X=>by rw[I,Array.getElem?_setIfInBounds_ne];exact Ne.symm X
 have vY:w'.heap[l.dE]?=some x:=by rw[I];simp[fF]
 have pR:∀b o,G.iZ b o->b≠l.dE:=fun b o F X=>by obtain⟨v,J⟩:=h.jJ b o F;obtain⟨c,q,fz,R,_⟩:=DP J;rw[X] at R;exact K.EM S R
 have P:∀b o,G.iZ b o->w'.cell? ⟨b,o,none⟩=w.cell? ⟨b,o,none⟩:=fun b o F=>gL (JL b (pR b o F));have N:∀{a u},VR G w a u->VR G w' a u:=fun J=>J.mono (fun _ _ h=>h) (fun b o F=>⟨F,P b o F⟩)
 have z:∀{i l'},i≠id->G.loc i=some l'->H.live i->l'.dE≠l.dE:=fun {i l'} F LZ W X=>by
  obtain⟨T,f,L⟩:=W
  cases T with
  |cells cs r=>obtain⟨c,q,fz,R,_⟩:=h.room i l' LZ (.inl ⟨cs,r,f⟩);rw[X] at R;exact K.EM S R
  |tok=>obtain⟨c,q,fz,R,_⟩:=h.room i l' LZ (.inr f);rw[X] at R;exact K.EM S R
  |dead=>cases L
  |_=>
   obtain⟨n1,n2,_⟩:=h.jK i l' _ LZ f rfl
   rcases h.mV i id l' l F LZ U ⟨_,f,rfl⟩ d with hd|hd|hd
   . exact hd X
   . omega
   omega
 have y:∀{m},m≠id->(H.set id o').get m=H.get m:=fun p=>by rw[aA.aH,if_neg p]
 have V:(H.set id o').get id=some o':=by rw[aA.aH,if_pos rfl]
 have k:∀{m},(H.set id o').live m->H.live m:=fun {m} J=>by
  rcases aA.mX.1 J with ⟨rfl,_⟩|⟨_,J⟩
  . exact d
  exact J
 refine⟨{
  cells:=fun i l' cs r O h2=>by
   have F:i≠id:=fun e=>by rw[e,V] at h2;cases h2;cases yy
   rw[y F] at h2;obtain⟨a1,Q,s,a4,M⟩:=h.cells i l' cs r O h2;refine⟨a1,Q,s,a4,fun j Y=>?_⟩;obtain⟨u,hu,Oj⟩:=M j Y;exact⟨u,by rw[gL (JL _ (z F O ⟨_,h2,rfl⟩))];exact hu,N Oj⟩
  room:=fun i l' O h2=>by
   have F:i≠id:=fun e=>by rw[e,V] at h2;rcases h2 with ⟨_,_,h2⟩|h2<;>cases h2<;>cases yy
   rw[y F] at h2;obtain⟨c,q,fz,a1,Q,s⟩:=h.room i l' O h2;have X:=z F O (by rcases h2 with ⟨cs,r,h2⟩|h2<;>exact⟨_,h2,rfl⟩);exact⟨c,q,fz,by rw[JL _ X];exact a1,Q,fun j Y=>by rw[mY (JL _ X)];exact s j Y⟩
  mV:=fun i i' D B A O h2 W rT=>h.mV i i' D B A O h2 (k W) (k rT)
  lV:=fun i l' O W=>h.lV i l' O (k W)
  jK:=fun i l' T O h2 E=>by
   by_cases F:i=id
   . subst F;obtain rfl:=Aa (O.symm.trans U);rw[V] at h2;cases h2;exact⟨C,m2,f (fun _ _=>N) vY⟩
   rw[y F] at h2;obtain⟨a1,Q,s⟩:=h.jK i l' T O h2 E;exact⟨a1,Q,s.mono (JL _ (z F O ⟨_,h2,Qh E⟩)) fun _ _=>N⟩
  lt:=h.lt
  jJ:=fun b o F=>by rw[P b o F];exact h.jJ b o F
  kQ:=fun n cs A=>N (h.kQ n cs A)
  FV:=fun n cs A h0=>let⟨c,q,fz,a1,Q⟩:=h.FV n cs A h0;⟨c,q,fz,by rw[JL n (fun e=>K.EM S (e▸a1))];exact a1,Q⟩
  mo:=h.mo},?_⟩
 exact {
  loc:=fun _ _ h=>h
  iZ:=fun b o F=>⟨F,P b o F⟩
  size:=by rw[I];simp
  frame:=fun b X A=>JL b (fun e=>A id l U d e.symm)
  nM:=fun i l' O W=>.inr ⟨i,l',O,k W,rfl⟩
  qG:=fun _ _ h=>.inl h
  next:=Ae _
  news:=fun _ _ h h'=>by rw[h] at h';cases h'
  dead:=fun _ _ _ J=>k J
  mo:=rfl
  same:=Z.toB _}
theorem WR.aJj(h:WR g G H w){id:Nat}{l:Loc}{es es':List (AV×AV)}{ents ents':Array MapEntry}{n clock':Nat}(U:G.loc id=some l)(t:H.get id=some (.map es))
 (p:w.heap[l.dE]?=some (.map ents n)) (I:w'.heap=w.heap.setIfInBounds l.dE (.map ents' clock')) (Z:DJ w w') (L:ents'.size=es'.length) (P:Wd ents' clock')
 (J:∀j,j<es'.length->VR G w (es'.getD j (aB,aB)).1 (ents'.getD j default).key/\VR G w (es'.getD j (aB,aB)).2 (ents'.getD j default).val):
 WR g G (H.set id (.map es')) w'/\Ext G H w G (H.set id (.map es')) w':=
 h.JZ U t rfl rfl I Z fun N W=>⟨ents',clock',W,L,P,fun j Y=>⟨N _ _ (J j Y).1,N _ _ (J j Y).2⟩⟩
theorem zV(ents:Array MapEntry)(i:Nat)(f:MapEntry->MapEntry)(j:Nat)(Y:j<ents.size):(ents.modify i f).getD j default=if i=j then f (ents.getD j default) else ents.getD j default:=by
 simp only[Cs,Gt]
 grind
theorem Wd.modify(h:Wd ents n)(i:Nat)(f:MapEntry->MapEntry)(N:∀e,(f e).born=e.born):Wd (ents.modify i f) n:=by
 have X:∀j,j<ents.size->((ents.modify i f).getD j default).born=(ents.getD j default).born:=fun j Y=>by grind[zV]
 refine⟨fun j Y=>?_,fun j k Y E B=>?_⟩
 . rw[Array.size_modify] at Y;rw[X j Y];exact h.1 j Y
 rw[Array.size_modify] at Y E;rw[X j Y,X k E] at B;exact h.2 j k Y E B
theorem Wd.push(h:Wd ents n)(e:MapEntry)(B:e.born=n):Wd (ents.push e) (n+1):=by
 have X:∀j,j<(ents.push e).size->((ents.push e).getD j default).born=if j<ents.size then(ents.getD j default).born else n:=fun j Y=>by
  simp only[Cs,Array.getElem?_push]
  grind
 refine⟨fun j Y=>?_,fun j k Y E q=>?_⟩
 . rw[X j Y];by_cases O:j<ents.size
   . rw[if_pos O];have :=h.1 j O;omega
   grind
 rw[X j Y,X k E] at q;rw[Array.size_push] at Y E;by_cases O:j<ents.size<;>by_cases Z:k<ents.size
 . rw[if_pos O,if_pos Z] at q;exact h.2 j k O Z q
 . rw[if_pos O,if_neg Z] at q;have :=h.1 j O;omega
 . rw[if_neg O,if_pos Z] at q;have :=h.1 k Z;omega
 omega
theorem Nv{G:Gh}{w:World}(d:Nat):∀(sh:List Sk) (xs ys:List AV) (us vs:List Value),cD sh xs ys=some true->jH G w xs us->jH G w ys vs->
 us.length=vs.length/\(vs.zip us).all (fun p=>Instr.sameBits d p.1 p.2)=true
 |[],xs,ys,us,vs,h,hx,hy=>by
  cases xs<;>cases ys<;>simp only[cD] at h<;>first|(cases h;done)|skip
  have O:=hx.1;have Z:=hy.1;simp_all
 |k::sh,xs,ys,us,vs,h,hx,hy=>by
  cases xs with
  |nil=>grind[cD]
  |cons x xs=>
   cases ys with
   |nil=>grind[cD]
   |cons y ys=>
    have O:=hx.1;have Z:=hy.1
    cases us with
    |nil=>grind
    |cons u us=>
     cases vs with
     |nil=>grind
     |cons v vs=>
      have a:=hx.2 0 A2;have e:=hy.2 0 A2;simp only[Dj] at a e;have c:jH G w xs us:=⟨by grind,fun j Y=>by have :=hx.2 (j+1) (by grind);grind⟩;have ty:jH G w ys vs:=⟨by grind,fun j Y=>by have :=hy.2 (j+1) (by grind);grind⟩
      have i:∀{b:Bool},(cD sh xs ys).map (b&& ·)=some true->(b=true->Instr.sameBits d v u=true)->(u::us).length=(v::vs).length/\((v::vs).zip (u::us)).all (fun p=>Instr.sameBits d p.1 p.2)=true:=by intro b f X;simp only[Ad,Ak] at f;obtain⟨r,V,m,rfl⟩:=f;obtain⟨g,l⟩:=Nv d sh xs ys us vs V c ty;simp_all
      cases k<;>cases x<;>cases y<;>simp only[cD] at h<;>first|(cases h;done)|skip
      . simp_all[Dl,a.lM,e.lM,Instr.sameBits]
      . simp_all[Dl,a.jP,e.jP,Instr.sameBits]
      simp_all[Dl,a.jQ,e.jQ,Instr.sameBits,beq_toListBytes]
theorem Vz{x y:AV}{u v:Value}(d:Nat)(h:sameKey k x y=some true)(C:VR G w x u)(Q:VR G w y v):Instr.sameBits (d+1) v u=true:=by
 cases x<;>cases y<;>simp only[sameKey] at h<;>first
  |(cases h)
  |skip
 . grind[C.lM,Q.lM,Instr.sameBits]
 . grind[C.jP,Q.jP,Instr.sameBits]
 . grind[C.jQ,Q.jQ,Instr.sameBits,beq_toListBytes]
 cases k<;>simp only[] at h<;>first|(cases h)|skip
 rename_i xs ys sh;obtain⟨us,T,D,_,l⟩:=C.xD;obtain⟨vs,P,B,_,v2⟩:=Q.xD;obtain⟨g,a⟩:=Nv d sh xs ys us vs h ⟨D,l⟩ ⟨B,v2⟩;simp_all[Instr.sameBits,Gu,g,Hg,Dk]
theorem YW{i y:Operand}{x' c J:Arg}(ho:o.op=.mapUpdate t x i y\/o.op=.insert t x i y)(hx:bO g x=some x')(F:bO g i=some c)(Q:bO g y=some J)
 (ht:P.underlying t=some (.map I vt)) (E:Ll P I=some k):cV P g o (.Qm k x' c J):=by
 intro s a G H w v H' L M h;have W:=bM L M hx;have R:=bM L M F;have A:=bM L M Q;have ab:Qd k (Arg.eval g s c)=true->(Instr.checkKey false 10000 I (a.eval i)).run P w=.ok () w:=fun m=>run_checkKey E false 9940 R m;simp only[dS] at h;split at h
 . rename_i m;have WT:=ab m;split at h
   . rename_i id d;rw[d] at W;generalize f:a.eval x=u at W
     cases W with
     |map _ l U=>
      split at h
      . rename_i es hg;obtain⟨_,_,ents,n,C,Y,mb,K⟩:=L.jK id l _ U hg rfl;have p:=run_getObj_map (P:=P) C
        have z:∀{w':World},(Instr.mapUpdate t (.map (some l.dE)) (a.eval i) (a.eval y)).run P w=.ok () w'->(execOp a.eval o).run P w=.ok .skip w':=fun V=>by rcases ho with ho|ho<;>simp[execOp,ho,f,V]
        have GV:∀(en:Array MapEntry) (cl:Nat),(setObj l.dE (.map en cl)).run P w=.ok () {w with heap:=w.heap.setIfInBounds l.dE (.map en cl)}:=fun en cl=>by simp[setObj,Sem.run,C]
        split at h
        . rename_i j av N;simp only[Aj,Ap] at h;obtain⟨rfl,rfl⟩:=h;obtain⟨S,O,Z⟩:=run_findKey (P:=P) E R N Y K
          rcases Z with ⟨X,_⟩|⟨j',ad,vv,T,e2,B,e4,e5⟩
          . cases X
          cases T;subst e2;have a6:=Vz 9999 e5 R (K j e4).1
          obtain⟨r1,r2⟩:=L.aJj (es':=es.set j (Arg.eval g s c,Arg.eval g s J)) (ents':=ents.modify j fun e=>{e with key:=a.eval i,val:=a.eval y}) (clock':=n) (w':={w with heap:=w.heap.setIfInBounds l.dE (.map (ents.modify j fun e=>{e with key:=a.eval i,val:=a.eval y}) n)}) U hg C rfl .now (by simp[Y]) (mb.modify _ _ fun _=>rfl) (fun q D=>by
           simp only[Kc] at D;rw[zV _ _ _ _ A0,getD_eq,List.getElem?_set];by_cases b:j=q
           . rw[if_pos b,if_pos b];rw[if_pos e4];exact⟨R,A⟩
           rw[if_neg b,if_neg b]
           exact K q D)
          refine⟨.skip,undef,_,G,z ?_,.inr ⟨rfl,rfl⟩,r1,r2,VR.oV G _⟩
          have QP:((ents[j]?).map (·.key)).getD (a.eval i)=(ents.getD j default).key:=by have a7:j<ents.size:=A0;simp[Array.getD,a7]
          simp only[Instr.mapUpdate,Sem.run_bind,run_underlying ht w,Result.andThen_ok,p,WT,O,Instr.keyThatStays,QP,a6,if_true,Sem.run_pure,GV]
        . rename_i N;obtain⟨rfl,rfl⟩:=h;obtain⟨S,O,Z⟩:=run_findKey (P:=P) E R N Y K
          rcases Z with ⟨_,e2⟩|⟨j',ad,vv,T,_⟩
          . subst e2
            obtain⟨r1,r2⟩:=L.aJj (es':=es++[(Arg.eval g s c,Arg.eval g s J)]) (ents':=ents.push {key:=a.eval i,val:=a.eval y,born:=n}) (clock':=n+1) (w':={w with heap:=w.heap.setIfInBounds l.dE (.map (ents.push {key:=a.eval i,val:=a.eval y,born:=n}) (n+1))}) U hg C rfl .now (by simp[Y]) (mb.push _ rfl) (fun q D=>by
             simp only[An,Ba,Ca] at D;rw[getD_eq,Dp,Cs,Array.getElem?_push];by_cases b:q<es.length
             . rw[if_pos b,if_neg A0];have :=K q b
               rwa [Cs] at this
             rw[if_neg b,if_pos A0];have r:q -es.length=0:=A0;rw[r]
             exact⟨R,A⟩)
            refine⟨.skip,undef,_,G,z ?_,.inr ⟨rfl,rfl⟩,r1,r2,VR.oV G _⟩;simp only[Instr.mapUpdate,Sem.run_bind,run_underlying ht w,Result.andThen_ok,p,WT,O,GV]
          cases T
        cases h
      cases h
   cases h
 cases h
end
end
def lX:Operand->Bool
 |.const _=>true
 |_=>false
def uA(P:Program)(g:bL)(op:BinOp)(t:TypeId)(x y:Operand):Option eJ:=
 match bO g x,bO g y with
 |some x',some y'=>
  if op=.eql\/op=.neq then
   match P.underlying t with
   |some .bool=>some (.eqb (op== .neq) x' y')
   |some (.struct _)|some (.array _ _)=>
    match pU P 60 t with
    |some c=>if P.eqGuardType P.depth t=false then some (.eqf (op== .neq) c x' y') else none
    |none=>none
   |some (.pointer _)=>some (.eqn (op== .neq) .ptr (lX x||lX y) x' y')
   |some (.interface _)=>some (.eqn (op== .neq) .ifc (lX x||lX y) x' y')
   |some (.slice _)=>some (.eqn (op== .neq) .sli (lX x||lX y) x' y')
   |some (.map _ _)=>some (.eqn (op== .neq) .mp (lX x||lX y) x' y')
   |some (.func _ _ _)=>some (.eqn (op== .neq) .fn (lX x||lX y) x' y')
   |_=>some (.bin op x' y')
  else some (.bin op x' y')
 |_,_=>none
def pH(P:Program)(g:bL)(c A:TypeId)(x:Operand):Option eJ:=
 match bO g x with
 |some D=>
  match P.underlying c,P.underlying A with
  |some _,some (.int k)=>some (.Pw k D)
  |some .string,some (.slice e)=>if P.underlying e matches some (.int .u8) then some (.EY D) else none
  |some (.slice e),some .string=>if P.underlying e matches some (.int .u8) then some (.HI D) else none
  |_,_=>none
 |none=>none
def mT(P:Program)(g:bL)(t:TypeId)(x:Operand)(lo F mx:Option Operand):Option eJ:=
 match bO g x,sD g lo,sD g F,sD g mx with
 |some x',some zf,some rP,some mx'=>
  match DM P t with
  |some (n,sz,_)=>some (.HW n sz x' zf rP mx')
  |none=>
   match oU P t with
   |some (_,sz)=>some (.j9 sz x' zf rP mx')
   |none=>
    match P.underlying t,mx with
    |some .string,none=>some (.RZ x' zf rP)
    |_,_=>none
 |_,_,_,_=>none
def uB(P:Program)(g:bL)(c:Call):Option eJ:=
 match c.args.toList,c.argTypes[0]? with
 |[x],some t=>
  match P.underlying t,bO g x with
  |some .string,some x'=>some (.lens x')
  |some (.slice _),some x'=>some (.fh x')
  |_,_=>none
 |_,_=>none
def jX(P:Program)(g:bL)(N:Bool)(c:Call):Option eJ:=
 match c.args.toList,c.argTypes.toList with
 |[x,y],[t,t2]=>
  match bO g x,bO g y,oU P t with
  |some x',some y',some (e,sz)=>
   match P.info? e,nK P e,P.underlying t2 with
   |some _,some _,some (.int _)=>none
   |some i,some z,some _=>if 1<=i.bytes/\z.cells.size=sz then some (.append sz i.bytes N x' y') else none
   |_,_,_=>none
  |_,_,_=>none
 |_,_=>none
def pG(P:Program)(g:bL)(N:Bool)(c:Call):Option eJ:=
 match c.callee with
 |.builtin .len=>uB P g c
 |.builtin .append=>jX P g N c
 |.builtin .copy=>match c.args.toList,c.argTypes[0]? with
  |[x,y],some t=>match bO g x,bO g y,oU P t with
   |some x',some y',some (_,sz)=>some (.copy sz x' y')
   |_,_,_=>none
  |_,_=>none
 |.value f=>match bO g f,pL g c.args.toList with
  |some f',some azs=>some (.call f' azs)
  |_,_=>none
 |.builtin .max=>match c.args.toList with
  |[x,y]=>match bO g x,bO g y with
   |some x',some y'=>some (.YP x' y')
   |_,_=>none
  |_=>none
 |.builtin .min=>match c.args.toList with
  |[x,y]=>match bO g x,bO g y with
   |some x',some y'=>some (.YR x' y')
   |_,_=>none
  |_=>none
 |.builtin .clear=>match c.args.toList,c.argTypes[0]? with
  |[x],some t=>match bO g x,oU P t with
   |some x',some (e,sz)=>match nK P e with
    |some z=>(lG z.cells.toList).map fun zs=>.clr sz zs x'
    |none=>none
   |_,_=>none
  |_,_=>none
 |_=>none
def tu(P:Program)(t:TypeId):Option AV:=
 match nK P t with
 |some z=>ofConst z
 |none=>none
def Px(P:Program)(g:bL)(N:Bool)(o:Oper):Option eJ:=
 match o.op with
 |.move x|.assign x=>(bO g x).map .wE
 |.pick c x y=>match bO g c,bO g x,bO g y with
  |some c',some D,some y'=>some (.pick c' D y')
  |_,_,_=>none
 |.alloc t=>match nK P t with
  |some z=>(lG z.cells.toList).map .alloc
  |none=>none
 |.box _ x=>(bO g x).map .box
 |.build t parts=>match nK P t with
  |some z=>match lG z.cells.toList,P.underlying t with
   |some zs,some (.struct fs)=>match ME P fs.toList with
    |some l=>(yN g (l[·]?) parts.toList).map (.build zs)
    |none=>none
   |some zs,some (.array _ e)=>match mD P e with
    |some sz=>(yN g (fun i=>some (i*sz,sz)) parts.toList).map (.build zs)
    |none=>none
   |_,_=>none
  |none=>none
 |.buildSlice t len parts=>match oU P t with
  |some (e,sz)=>match nK P e,Lq g 0 parts.toList with
   |some _,some ys=>if len=parts.size/\len*sz<=2^24 then(if Vw N sz ys=true then some (.mO 1 1 [.str []] (.const (.int .i64 1)) (.const (.int .i64 1))) else some (.Qs sz ys)) else none
   |_,_=>none
  |none=>none
 |.load t x=>match bO g x,gP P t,mD P t with
  |some D,some agg,some n=>some (.load agg n D)
  |_,_,_=>none
 |.store t x y=>match bO g x,bO g y,mD P t with
  |some D,some y',some n=>some (.store n D y')
  |_,_,_=>none
 |.nilCheck x=>(bO g x).map .Qv
 |.binOp op t x y _=>uA P g op t x y
 |.unOp op _ x=>(bO g x).map (.un op)
 |.convert src dst x=>pH P g src dst x
 |.sliceToArrayPointer t x=>match bO g x,P.underlying t with
  |some D,some (.array n _)=>some (.jz n D)
  |_,_=>none
 |.makeInterface t x=>match bO g x,P.underlying t with
  |some _,some (.interface _)=>none
  |some D,some _=>some (.h8 t D)
  |_,_=>none
 |.makeFunc fn fs cs=>match pL g fs.toList,pL g cs.toList with
  |some fs',some GN=>some (.gq fn fs' GN)
  |_,_=>none
 |.makeMap t r=>match P.underlying t,r with
  |some (.map _ _),none=>some .CN
  |some (.map _ _),some (.const (.int _ _))=>some .CN
  |_,_=>none
 |.makeSlice t x y=>match bO g x,bO g y,oU P t with
  |some D,some y',some (e,sz)=>match P.info? e,nK P e with
   |some i,some z=>match lG z.cells.toList with
    |some zs=>if 1<=sz/\1<=i.bytes then some (.mO sz i.bytes zs D y') else none
    |none=>none
   |_,_=>none
  |_,_,_=>none
 |.slice t x lo hi mx=>mT P g t x lo hi mx
 |.fieldAddr t x i=>match bO g x,cu P t i with
  |some D,some (off,_,_)=>some (.VA off D)
  |_,_=>none
 |.indexAddr t x i=>match bO g x,bO g i with
  |some D,some i'=>match DM P t with
   |some (n,sz,_)=>some (.VZ (some n) sz D i')
   |none=>match oU P t with
    |some (_,sz)=>some (.VZ none sz D i')
    |none=>none
  |_,_=>none
 |.index t x i=>match bO g x,bO g i with
  |some D,some i'=>match DM P t with
   |some (n,sz,b)=>some (.idx n sz b D i')
   |none=>if P.underlying t matches some .string then some (.idxs D i') else none
  |_,_=>none
 |.lookup t x i ok=>match bO g x,bO g i,P.underlying t with
  |some D,some i',some (.map kt vt)=>match Ll P kt,tu P vt with
   |some k,some z=>some (.lookup k z ok D i')
   |_,_=>none
  |_,_,_=>none
 |.mapUpdate t m i x|.insert t m i x=>match bO g m,bO g i,bO g x,P.underlying t with
  |some m',some i',some D,some (.map kt _)=>(Ll P kt).map fun k=>.Qm k m' i' D
  |_,_,_,_=>none
 |.typeAssert x _ t ok=>match bO g x,P.underlying t,tu P t with
  |some _,some (.interface _),_=>none
  |some D,some _,some z=>some (.ki t ok z D)
  |_,_,_=>none
 |.extract x i=>(bO g x).map fun D=>.QD D i
 |.range t x=>match bO g x,P.underlying t with
  |some D,some (.map _ _)=>some (.yK D)
  |_,_=>none
 |.next x s=>match bO g x,s with
  |some D,false=>some (.HP D)
  |_,_=>none
 |.entry x=>(bO g x).map .BQ
 |.call c=>pG P g N c
 |.panic x=>(bO g x).map .panic
 |.defer c=>match c.callee with
  |.value f=>match bO g f,pL g c.args.toList with
   |some f',some azs=>some (.nD f' azs)
   |_,_=>none
  |_=>none
 |_=>none
def eJ.plain:eJ->Bool
 |.call _ _|.panic _|.nD _ _|.yK _|.HP _|.BQ _=>false
 |_=>true
variable{op:BinOp}
theorem aEt(h:op=.eql\/op=.neq):op=if(op== .neq) then .neq else .eql:=by grind
variable{t:TypeId}
theorem Yv{P:Program}{f:Nat}{c:List Sk}(h:pU P f t=some c){d:TypeDesc}(K:P.underlying t=some d)(hd:(∃fs,d=.struct fs)\/∃n e,d=.array n e):gP P t=some true:=by grind[gP]
variable{x:Operand}{r:eJ}
theorem wg{P:Program}{g:bL}{o:Oper}{t2:TypeId}{y:Operand}(S:o.op=.binOp op t x y t2)(h:uA P g op t x y=some r):cV P g o r:=by
 have U:(lX x||lX y)=true->(∃c,x=.const c)\/∃c,y=.const c:=fun X=>by cases x<;>cases y<;>simp[lX] at X ⊢
 have e:∀{d:TypeDesc} {k:Nk},P.underlying t=some d->(match (some d:Option TypeDesc) with|some (.pointer _)=>some Nk.ptr|some (.interface _)=>some .ifc|some (.slice _)=>some .sli|some (.map _ _)=>some .mp|some (.func _ _ _)=>some .fn|_=>none)=some k->nkP P t=some k:=fun K E=>by grind[nkP]
 unfold uA at h;split at h
 . rename_i D J C Q;split at h
   . rename_i b
     split at h<;>rename_i K<;>first
      |(obtain rfl:=Aa h;exact bCj S (aEt b) K C Q)
      |(obtain rfl:=Aa h;exact bCl S (aEt b) (e K rfl) U C Q)
      |(split at h
        . rename_i i a;split at h
          . rename_i f;obtain rfl:=Aa h;exact bCk S (aEt b) A0 a (Yv a K A2) f C Q
          grind
        grind)
      |(obtain rfl:=Aa h;exact aHq S C Q)
   obtain rfl:=Aa h;exact aHq S C Q
 grind
theorem ao{P:Program}{g:bL}{o:Oper}{c A:TypeId}(S:o.op=.convert c A x)(h:pH P g c A x=some r):cV P g o r:=by
 unfold pH at h;split at h
 . rename_i D C;split at h
   . rename_i d k M hd;obtain rfl:=Aa h;exact aHr S C M hd
   . rename_i e M hd;split at h
     . rename_i B;obtain rfl:=Aa h;exact aHx S C M hd B
     cases h
   . rename_i e M hd;split at h
     . rename_i B;obtain rfl:=Aa h;exact aHp S C M hd B
     cases h
   cases h
 cases h
theorem XG{P:Program}{g:bL}{o:Oper}{lo F mx:Option Operand}(S:o.op=.slice t x lo F mx)(h:mT P g t x lo F mx=some r):cV P g o r:=by
 unfold mT at h;split at h
 . rename_i D c N V C E Q a;split at h
   . rename_i n sz b q;obtain rfl:=Aa h;exact aHu S C E Q a q
   split at h
   . rename_i e sz q;obtain rfl:=Aa h;exact aPr S C E Q a q
   split at h
   . rename_i q;obtain rfl:=Aa h;exact aHv S C E Q q
   grind
 grind
variable{c:Call}
theorem Pm(h:c.args.toList=[x]):c.args= #[x]:=by grind
theorem KW{y:Operand}(h:c.args.toList=[x,y]):c.args= #[x,y]:=by grind
theorem wu{P:Program}{g:bL}{o:Oper}(S:o.op=.call c)(R:c.callee=.builtin .len)(h:uB P g c=some r):cV P g o r:=by
 unfold uB at h;split at h
 . rename_i x t I O;split at h
   . rename_i D q C;obtain rfl:=Aa h;exact aPj S R (Pm I) C O q
   . rename_i e D q C;obtain rfl:=Aa h;exact aPi S R (Pm I) C O q
   cases h
 cases h
variable{N:Bool}
theorem Um{P:Program}{g:bL}{o:Oper}(S:o.op=.call c)(R:c.callee=.builtin .append)(h:jX P g N c=some r):cV P g o r:=by
 unfold jX at h;split at h
 . rename_i x y t t2 b O;have a:c.argTypes= #[t,t2]:=by apply Array.ext';simpa using O
   split at h
   . rename_i D J e sz C Q q;obtain⟨K,I⟩:=mK q;split at h
     . cases h
     . rename_i i z d hd F s Z;split at h
       . rename_i G;obtain rfl:=Aa h;exact zw S R (KW b) C Q a K I Z (fun k B=>hd k B) F G.1 s G.2
       cases h
     cases h
   cases h
 cases h
theorem Rt{P:Program}{z:AV}(h:tu P t=some z):∃Q,nK P t=some Q/\ofConst Q=some z:=by grind[tu]
theorem aw{P:Program}{g:bL}{mu:Bool}{o:Oper}(h:Px P g mu o=some r)(w:r.plain=true):cV P g o r:=by
 unfold Px at h;split at h
 . rename_i x S;simp only[Ad] at h;obtain⟨D,C,rfl⟩:=h;exact qt (.inl S) C
 . rename_i x S;simp only[Ad] at h;obtain⟨D,C,rfl⟩:=h;exact qt (.inr S) C
 . rename_i c x y S;split at h
   . rename_i c' D J R C Q;obtain rfl:=Aa h;exact aPp S R C Q
   cases h
 . rename_i t S;split at h
   . rename_i z s;simp only[Ad] at h;obtain⟨zs,Z,rfl⟩:=h;exact aHo S s Z
   cases h
 . rename_i t x S;simp only[Ad] at h;obtain⟨D,C,rfl⟩:=h;exact bCh S C
 . rename_i t T S;split at h
   . rename_i z s;split at h
     . rename_i zs fs Z K;split at h
       . rename_i l U;simp only[Ad] at h;obtain⟨ps,tI,rfl⟩:=h;exact On S K s Z U tI
       cases h
     . rename_i zs n e Z K;split at h
       . rename_i sz L;simp only[Ad] at h;obtain⟨ps,tI,rfl⟩:=h;exact Qy S K L s Z tI
       cases h
     cases h
   cases h
 . rename_i t len T S;split at h
   . rename_i e sz q;split at h
     . rename_i z ys s NM;split at h
       . rename_i G;split at h
         . rename_i V;obtain rfl:=Aa h;exact zx S q s G.1 G.2 NM V
         obtain rfl:=Aa h;exact aHs S q s G.1 G.2 NM
       cases h
     cases h
   cases h
 . rename_i t x S;split at h
   . rename_i D ab n C tE A;obtain rfl:=Aa h;exact aPk S C tE A
   cases h
 . rename_i t x y S;split at h
   . rename_i D J n C Q A;obtain rfl:=Aa h;exact aHw S C Q A
   cases h
 . rename_i x S;simp only[Ad] at h;obtain⟨D,C,rfl⟩:=h;exact aHt S C
 . rename_i op t x y t2 S;exact wg S h
 . rename_i op t x S;simp only[Ad] at h;obtain⟨D,C,rfl⟩:=h;exact bMi S C
 . rename_i a6 a7 x S;exact ao S h
 . rename_i t x S;split at h
   . rename_i D n e C q;obtain rfl:=Aa h;exact aPq S C q
   cases h
 . rename_i t x S;split at h
   . cases h
   . rename_i D d a C q;obtain rfl:=Aa h;refine aPo S C ?_;rw[q]
     cases d<;>first|rfl|exact absurd rfl (a _)
   cases h
 . rename_i fn fs cs S;split at h
   . rename_i W GN N R;obtain rfl:=Aa h;exact aPn S N R
   cases h
 . rename_i t H S;split at h
   . rename_i k v q;obtain rfl:=Aa h;exact YX S q (.inl rfl)
   . rename_i k v j n q;obtain rfl:=Aa h;exact YX S q (.inr ⟨_,_,rfl⟩)
   cases h
 . rename_i t x y S;split at h
   . rename_i D J e sz C Q q;split at h
     . rename_i i z F s;split at h
       . rename_i zs Z;split at h
         . rename_i G;obtain rfl:=Aa h;exact ik S C Q q F s Z G.1 G.2
         cases h
       cases h
     cases h
   cases h
 . rename_i t x lo F mx S;exact XG S h
 . rename_i t x i S;split at h
   . rename_i D off n b C N;obtain rfl:=Aa h;exact aPg S C N
   cases h
 . rename_i t x i S;split at h
   . rename_i D M C F;split at h
     . rename_i n sz b q;obtain rfl:=Aa h;exact YV S C F q
     split at h
     . rename_i e sz q;obtain rfl:=Aa h;exact ij S C F q
     cases h
   cases h
 . rename_i t x i S;split at h
   . rename_i D M C F;split at h
     . rename_i n sz b q;obtain rfl:=Aa h;exact bCm S C F q
     split at h
     . rename_i CL;obtain rfl:=Aa h;exact aPh S C F CL
     cases h
   cases h
 . rename_i t x i ok S;split at h
   . rename_i D M kt vt C F q;split at h
     . rename_i k z E s;obtain rfl:=Aa h;obtain⟨zv,X,u⟩:=Rt s;exact zy S C F q E X u
     cases h
   cases h
 . rename_i t m i x S;split at h
   . rename_i Y M D kt vt p F C q;simp only[Ad] at h;obtain⟨k,E,rfl⟩:=h;exact YW (.inl S) p F C q E
   cases h
 . rename_i t m i x S;split at h
   . rename_i Y M D kt vt p F C q;simp only[Ad] at h;obtain⟨k,E,rfl⟩:=h;exact YW (.inr S) p F C q E
   cases h
 . rename_i x ti t ok S;split at h
   . cases h
   . rename_i D d z a C q s;obtain rfl:=Aa h;obtain⟨zv,X,u⟩:=Rt s;exact aPs S C q (fun ms B=>a ms B) X u
   cases h
 . rename_i x i S;simp only[Ad] at h;obtain⟨D,C,rfl⟩:=h;exact aPf S C
 . rename_i t x S;exact Za7
 . rename_i x st S;exact Za7
 . rename_i x S;simp only[Ad] at h;obtain⟨D,C,rfl⟩:=h;cases w
 . rename_i c S;unfold pG at h;split at h
   . rename_i R;exact wu S R h
   . rename_i R;exact Um S R h
   . rename_i R;split at h
     . rename_i x y t I O;split at h
       . rename_i D J e sz C Q q;obtain rfl:=Aa h;obtain⟨K,L⟩:=mK q;exact aPe S R (KW I) C Q O K L
       cases h
     cases h
   . rename_i f R;exact Za7
   . rename_i R;split at h
     . rename_i x y I;split at h
       . rename_i D J C Q;obtain rfl:=Aa h;exact aPl S R (KW I) C Q
       cases h
     cases h
   . rename_i R;split at h
     . rename_i x y I;split at h
       . rename_i D J C Q;obtain rfl:=Aa h;exact aPm S R (KW I) C Q
       cases h
     cases h
   . rename_i R;split at h
     . rename_i x t I O;split at h
       . rename_i D e sz C q;obtain⟨K,L⟩:=mK q;split at h
         . rename_i z s;simp only[Ad] at h;obtain⟨zs,Z,rfl⟩:=h;exact bCi S R (Pm I) C O K s Z
         cases h
       cases h
     cases h
   cases h
 . rename_i x S;simp only[Ad] at h;obtain⟨D,C,rfl⟩:=h;cases w
 . rename_i c S;split at h
   . exact Za7
   cases h
 cases h
def eJ.fresh:eJ->Bool
 |.alloc _|.box _|.CN|.mO _ _ _ _ _|.EY _=>true
 |_=>false
theorem aMu{P:Program}{g:bL}{o:Oper}(h:Px P g N o=some r)(m:r.fresh=true):HG P g o r:=by
 unfold Px at h;split at h
 case h_4=>
  rename_i t S;split at h
  . rename_i z s;simp only[Ad] at h;obtain⟨zs,Z,rfl⟩:=h;exact TL S s Z
  cases h
 case h_5=>rename_i t x S;simp only[Ad] at h;obtain⟨D,C,rfl⟩:=h;exact my S C
 case h_7=>
  rename_i t len T S;split at h
  . rename_i e sz q;split at h
    . rename_i z ys s E;split at h
      . rename_i G;split at h
        . rename_i V;obtain rfl:=Aa h;exact QI S q s G.1 G.2 E V
        obtain rfl:=Aa h;cases m
      cases h
    cases h
  cases h
 case h_13=>
  rename_i c A x S;unfold pH at h;split at h
  . rename_i D C;split at h
    . obtain rfl:=Aa h;cases m
    . rename_i e M hd;split at h
      . rename_i B;obtain rfl:=Aa h;exact TM S C M hd B
      cases h
    . split at h
      . obtain rfl:=Aa h;cases m
      cases h
    cases h
  cases h
 case h_17=>
  rename_i t H S;split at h
  . rename_i k v q;obtain rfl:=Aa h;exact ND S q (.inl rfl)
  . rename_i k v j n q;obtain rfl:=Aa h;exact ND S q (.inr ⟨_,_,rfl⟩)
  cases h
 case h_18=>
  rename_i t x y S;split at h
  . rename_i D J e sz C Q q;split at h
    . rename_i i z F s;split at h
      . rename_i zs Z;split at h
        . rename_i G;obtain rfl:=Aa h;exact OC S C Q q F s Z G.1 G.2
        cases h
      cases h
    cases h
  cases h
 all_goals exfalso
 all_goals (try unfold uA at h)
 all_goals (try unfold mT at h)
 all_goals (try unfold pG at h)
 all_goals (try unfold uB at h)
 all_goals (try unfold jX at h)
 all_goals repeat' (split at h)
 all_goals first
  |(cases h;done)
  |(obtain rfl:=Aa h;cases m)
  |(simp only[Ad] at h;obtain⟨_,_,rfl⟩:=h;cases m)
end Go.Av
