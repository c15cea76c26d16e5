/-
  Part of the proof of statement 13
-/
import Derived.Test.YtogfcjbgeebfkaaGreatDoorB01
import Derived.Laws.BytesArg
set_option linter.unusedVariables false
set_option linter.unusedSimpArgs false
namespace Go.Av
open Go
section
theorem DI(off:Nat):∀(l:List Value) (k:Nat) (cells:Array Value),
 ((l.zipIdx k).foldl (fun(cs:Array Value) (p:Value×Nat)=>cs.setIfInBounds (off+p.2) p.1) cells).size=cells.size/\
 ∀i,((l.zipIdx k).foldl (fun(cs:Array Value) (p:Value×Nat)=>cs.setIfInBounds (off+p.2) p.1) cells)[i]?=
  if off+k<=i/\i<off+k+l.length/\i<cells.size then l[i -(off+k)]? else cells[i]?
 |[],k,cells=>⟨rfl,fun i=>by
    rw[if_neg]
    . rfl
    grind⟩
 |v::r,k,cells=>by
  have K:=DI off r (k+1) (cells.setIfInBounds (off+k) v);simp only[List.zipIdx_cons,List.foldl_cons]
  grind
theorem sY(a:Array Value)(j:Nat)(d:Value):a.toList.getD j d=(a[j]?).getD d:=by simp
theorem TE(off:Nat)(a cells:Array Value):
 (a.zipIdx.foldl (fun(cs:Array Value) (p:Value×Nat)=>cs.setIfInBounds (off+p.2) p.1) cells).size=cells.size/\
 ∀i,(a.zipIdx.foldl (fun(cs:Array Value) (p:Value×Nat)=>cs.setIfInBounds (off+p.2) p.1) cells)[i]?=
  if off<=i/\i<off+a.size/\i<cells.size then a[i -off]? else cells[i]?:=by
 have h:=DI off a.toList 0 cells
 grind[Array.toList_zipIdx]
theorem aEk{G:Gh}{w:World}{cs vs:List AV}{cells a:Array Value}{off:Nat}(h:jD G w cs cells.toList)(J:jD G w vs a.toList)(y:off+vs.length<=cs.length):
 jD G w (gH cs off vs) (a.zipIdx.foldl (fun(cs:Array Value) (p:Value×Nat)=>cs.setIfInBounds (off+p.2) p.1) cells).toList:=by
 obtain⟨O,Z⟩:=TE off a cells;have L:=h.1;have b:=J.1;refine⟨by grind[sH],fun j Y=>?_⟩;rw[sH _ _ _ y] at Y;rw[Nh _ _ _ _ y,sY,Z j];by_cases R:off<=j/\j<off+vs.length
 . have :=J.2 (j -off) A0
   grind
 have :=h.2 j Y
 grind
def xW(g:bL)(b:Nat->Option (Nat×Nat)):List (Nat×Operand)->Option (List (Nat×Nat×Arg))
 |[]=>some []
 |(i,x)::r=>match b i,bN g x,xW g b r with
  |some (off,n),some y,some ys=>some ((off,n,y)::ys)
  |_,_,_=>none
theorem Pu{g:bL}{G:Gh}{H:aB}{w:World}{s:List AV}{a:Act}(L:WR g G H w)(M:SR G w s a){b place':Nat->Option (Nat×Nat)}(m:∀i p,b i=some p->place' i=some p):
 ∀(q:List (Nat×Operand)) (S:List (Nat×Nat×Arg)) (cs t:List AV) (cells:Array Value),xW g b q=some S->KR (Arg.eval g s) cs S=some t->jD G w cs cells.toList->(∀c∈cs,c.one=true)->
  ∃C,Instr.fill place' cells (q.map fun(i,x)=>(i,a.eval x))=some C/\jD G w t C.toList/\∀c∈t,c.one=true
 |[],S,cs,t,cells,h1,h2,hc,h3=>by obtain rfl:=Aa h1;obtain rfl:=Aa h2;exact⟨cells,rfl,hc,h3⟩
 |(i,x)::r,S,cs,t,cells,h1,h2,hc,h3=>by
  unfold xW at h1;split at h1
  . rename_i off n y ys d f E;obtain rfl:=Aa h1;simp only[KR] at h2;split at h2
    . rename_i j;obtain⟨I,X,c3⟩:=j;have K:=(bM L M f).cellsOf c3;have Q:=hc.1;have h:=K.1.1;have B:=aEk hc K.1 (by omega:off+_<=cs.length);obtain⟨C,N,V⟩:=Pu L M m r ys _ t _ E h2 B (fun c e=>(Qc e).elim (h3 c) (K.2 c));simp only[Bw,Instr.fill,m _ _ d]
      grind
    grind
  grind
def Lp(P:Program):List Field->Option (List (Nat×Nat))
 |[]=>some []
 |f::r=>match lV P f.type,Lp P r with
  |some n,some l=>some ((f.offset,n)::l)
  |_,_=>none
theorem run_places{P:Program}(w:World):∀{fs:List Field} {l:List (Nat×Nat)},Lp P fs=some l->
 (fs.mapM (fun f=>do pure (f.offset,<-sizeOf f.type):Field->Sem (Nat×Nat))).run P w=.ok l w
 |[],l,h=>by obtain rfl:=Aa h;rfl
 |f::r,l,h=>by
  unfold Lp at h;split at h
  . rename_i n l' A U;have K:=run_places w U;simp_all[fC]
  grind
section
variable {P:Program} {g:bL} {o:Oper}
variable{t:TypeId}{q:Array (Nat×Operand)}{z:Value}{zs:List AV}{S:List (Nat×Nat×Arg)}
theorem OW{fs:Array Field}{l:List (Nat×Nat)}(c:o.op=.build t q)(B:P.underlying t=some (.struct fs))
 (b:nG P t=some z) (Z:lC z.cells.toList=some zs) (U:Lp P fs.toList=some l) (m:xW g (l[·]?) q.toList=some S):cV P g o (.build zs S):=by
 intro s a G H w v H' L M h;simp only[dU,Ae,An] at h;obtain⟨cs,F,rfl,rfl⟩:=h;have R:=nP Z G w;obtain⟨C,N,J,O⟩:=Pu L M (place':=(l.toArray[·]?)) (fun i p m=>by grind) q.toList S zs cs z.cells m F R.1 R.2;refine cV.pure' L (u:=.agg C) ?_ (by simpa using VR.Zc J O);have d:=run_places w U;simp only[execOp,c,Instr.build,Sem.run_bind,mQ b w,run_underlying B w,Result.andThen_ok,Array.mapM_eq_mapM_toList,Sem.run_map,d,Ie,N];rfl
variable{e:TypeId}{n sz:Nat}
theorem Qk(c:o.op=.build t q)(B:P.underlying t=some (.array n e))
 (A:lV P e=some sz) (b:nG P t=some z) (Z:lC z.cells.toList=some zs) (m:xW g (fun i=>some (i*sz,sz)) q.toList=some S):cV P g o (.build zs S):=by
 intro s a G H w v H' L M h;simp only[dU,Ae,An] at h;obtain⟨cs,F,rfl,rfl⟩:=h;have R:=nP Z G w;obtain⟨C,N,J,O⟩:=Pu L M (place':=fun i=>some (i*sz,sz)) (fun i p m=>m) q.toList S zs cs z.cells m F R.1 R.2;refine cV.pure' L (u:=.agg C) ?_ (by simpa using VR.Zc J O);simp only[execOp,c,Instr.build,Sem.run_bind,mQ b w,run_underlying B w,Result.andThen_ok,fC A w,Ie,N];rfl
def LX(g:bL):Nat->List (Nat×Operand)->Option (List Arg)
 |_,[]=>some []
 |k,(i,x)::r=>if i=k then match bN g x,LX g (k+1) r with
  |some y,some ys=>some (y::ys)
  |_,_=>none
  else none
theorem TW{ev:Arg->AV}{sz:Nat}:∀{ys:List Arg} {els:List (List AV)},Mu ev sz ys=some els->∀e∈els,e.length=sz
 |[],els,h=>by obtain rfl:=Aa h;simp
 |y::ys,els,h=>by
  simp only[Mu] at h;split at h
  . simp only[Ae] at h;obtain⟨f,M,rfl⟩:=h;intro e he
    rcases Ba.1 he with rfl|he
    . omega
    exact TW M e he
  grind
theorem Pt{G:Gh}{H:aB}{w:World}{s:List AV}{a:Act}(L:WR g G H w)(M:SR G w s a)(sz:Nat):
 ∀(q:List (Nat×Operand)) (ys:List Arg) (k:Nat) (els:List (List AV)) (pre:List AV) (cells:Array Value),LX g k q=some ys->Mu (Arg.eval g s) sz ys=some els->
  pre.length=k*sz->cells.size=(k+q.length)*sz->(∀j,j<k*sz->VR G w (pre.getD j aC) (cells.toList.getD j undef))->(∀c∈pre,c.one=true)->
  ∃C,Instr.fill (fun i=>some (i*sz,sz)) cells (q.map fun(i,x)=>(i,a.eval x))=some C/\jD G w (pre++els.flatten) C.toList/\∀c∈pre++els.flatten,c.one=true
 |[],ys,k,els,pre,cells,h1,Z,hp,hc,hv,h3=>by obtain rfl:=Aa h1;obtain rfl:=Aa Z;refine⟨cells,rfl,⟨by simp at hc ⊢;omega,fun j Y=>?_⟩,by simpa using h3⟩;simp only[List.flatten_nil,Bx] at Y ⊢;exact hv j A0
 |(i,x)::r,ys,k,els,pre,cells,h1,Z,hp,hc,hv,h3=>by
  simp only[LX] at h1;split at h1
  . rename_i F;subst F;split at h1
    . rename_i y b Q E;obtain rfl:=Aa h1;simp only[Mu] at Z;split at Z
      . rename_i e;simp only[Ae] at Z;obtain⟨f,Z,rfl⟩:=Z;obtain⟨I,c3⟩:=e;have K:=(bM L M Q).cellsOf c3;have h:=K.1.1;simp only[Ej] at h;have t:(i+(r.length+1))*sz=i*sz+sz+r.length*sz:=(by rw[Bn,Cy];omega);have U:(i+1)*sz=i*sz+sz:=Cy i sz;simp only[As] at hc;obtain⟨u,P⟩:=TE (i*sz) (a.eval x).cells cells
        obtain⟨C,N,V,S⟩:=Pt L M sz r b (i+1) f (pre++(Arg.eval g s y).cells) ((a.eval x).cells.zipIdx.foldl (fun(cs:Array Value) (p:Value×Nat)=>cs.setIfInBounds (i*sz+p.2) p.1) cells) E Z
         (by simp[hp,I,U]) (by rw[u,hc];congr 1;omega) (fun j Y=>by
           rw[sY,P j,getD_eq,Dp];by_cases D:j<pre.length
           . rw[if_pos D,if_neg A0];have :=hv j A0
             rwa [getD_eq,sY] at this
           . rw[if_neg D,if_pos A0];have :=K.1.2 (j -pre.length) A0;rw[getD_eq,sY] at this;rw[<-hp]
             exact this) (fun c hc=>by
           rcases Ar.1 hc with hc|hc
           . exact h3 c hc
           exact K.2 c hc)
        refine⟨C,?_,by simpa [Di] using V,by simpa [Di] using S⟩;simp only[Bw,Instr.fill]
        have d:(decide ((a.eval x).cells.size≠sz)||decide (i*sz+(a.eval x).cells.size>cells.size))=false:=by simp;omega
        rw[d];exact N
      cases Z
    cases h1
  cases h1
variable{len:Nat}
theorem aHa{ys:List Arg}(S:o.op=.buildSlice t len q)(W:oP P t=some (e,sz))(u:nG P e=some z)
 (Q:len=q.size) (T:len*sz<=2^24) (m:LX g 0 q.toList=some ys):cV P g o (.Qf sz ys):=by
 intro s a G H w v H' L M h;obtain⟨B,A⟩:=mD W;simp only[dU,Ae,An] at h;obtain⟨els,d,rfl,rfl⟩:=h;have b:=TW d
 have D:els.length=q.size:=by
  have k1:∀{l:List (Nat×Operand)} {k:Nat} {ys:List Arg},LX g k l=some ys->ys.length=l.length:=by
   intro l
   induction l with
   |nil=>intro k ys h;obtain rfl:=Aa h;rfl
   |cons p r K=>grind[LX]
  have k2:∀{ys:List Arg} {els:List (List AV)},Mu (Arg.eval g s) sz ys=some els->els.length=ys.length:=by
   intro ys
   induction ys with
   |nil=>intro els h;obtain rfl:=Aa h;rfl
   |cons y r K=>
    intro els h;simp only[Mu] at h;split at h
    . simp only[Ae] at h;obtain⟨f,E,rfl⟩:=h;simp[K E]
    cases h
  rw[k2 d,k1 m];simp
 let i:Array Value:=if len*sz=0 then #[] else z.cells
 obtain⟨C,N,J,O⟩:=Pt L M sz q.toList ys 0 els [] ((Array.range (len*sz)).map (i[· %i.size]!)) m d A3 (by simp[Q]) (fun j Y=>by simp at Y) (fun c R=>by cases R);have x:jG w {w with heap:=w.heap.push (.cells C e)} (.cells (C.toList++[]).toArray e (0,0)):=⟨by simp,.now⟩;obtain⟨r1,r2,r3⟩:=L.qj els.flatten C.toList [] J x;refine⟨.value (.slice (some ⟨w.heap.size,0,none⟩) len len),_,_,_,?_,.inl rfl,r1,r2,?_⟩
 . have X:¬len*sz>2^24:=by omega
   by_cases n:len*sz=0
   . simp only[i,if_pos n] at N;simp only[execOp,S,Instr.buildSlice,Sem.run_bind,run_underlying B w,fC A w,Result.andThen_ok,if_neg X,if_pos n,Sem.run_pure,Ie,N];rfl
   simp only[i,if_neg n] at N;simp only[execOp,S,Instr.buildSlice,Sem.run_bind,run_underlying B w,fC A w,Result.andThen_ok,if_neg X,if_neg n,mQ u w,Sem.run_pure,Ie,N];rfl
 rw[Q,<-D];exact VR.bK 1 sz els w.heap.size 0 els.length (fun j=>C.toList.getD j undef) b (fun j Y=>⟨(r3 j Y).1,(r3 j Y).2.1,O _ (Qb Y)⟩) (fun j Y=>(r3 j Y).2.2) ⟨Ad _,rfl⟩
def OV:Option Value->Option Nat->Prop
 |none,none=>True
 |some u,some m=>∃k,u=.int k (m:Int)
 |_,_=>False
variable{G:Gh}{w:World}
theorem qA{H:aB}{s:List AV}{a:Act}(L:WR g G H w)(M:SR G w s a){x:Option Operand}{y:Option Arg}{n:Option Nat}(C:rW g x=some y)
 (A:eD (Arg.eval g s) y=some n):OV (x.map a.eval) n:=by
 cases x with
 |none=>obtain rfl:=Aa C;obtain rfl:=Aa A;trivial
 |some x=>simp only[rW,Ae] at C;obtain⟨J,Q,rfl⟩:=C;simp only[eD,Ae] at A;obtain⟨m,t,rfl⟩:=A;obtain⟨k,_,E⟩:=uR t (bM L M Q);exact⟨k,E⟩
theorem run_sliceBound{k:IntKind}{m y:Nat}{c:BoundsCode}(h:m<=y)(w:World):(Instr.sliceBound (.int k (m:Int)) y c).run P w=.ok m w:=by
 have G:(0:Int)<=(m:Int)/\(m:Int)<=(y:Int):=by omega
 simp only[Instr.sliceBound,asIntOf,Sem.run_bind,Sem.run_pure,Result.andThen_ok,if_pos G,Int.toNat_natCast]
theorem tK{isS:Bool}{cap:Nat}{b a max:Option Value}{lo F mx:Option Nat}(O:OV b lo)(Z:OV a F)(B:OV max mx)(h4:mx.isSome->F.isSome)
 (U:lo.getD 0<=F.getD len) (X:F.isSome->F.getD len<=mx.getD cap) (t:mx.getD cap<=cap) (w:World):
 (Instr.sliceBounds isS len cap b a max).run P w=.ok (lo.getD 0,F.getD len,mx.getD cap) w:=by
 cases max<;>cases mx<;>first|exact B.elim|skip
 . cases a<;>cases F<;>first|exact Z.elim|skip
   . cases b<;>cases lo<;>first|exact O.elim|skip
     . rfl
     obtain⟨k1,rfl⟩:=O;simp only[By,Du] at U;simp[Instr.sliceBounds,run_sliceBound U w]
   obtain⟨k2,rfl⟩:=Z;have X:=X rfl;simp only[By,Du] at X U
   cases b<;>cases lo<;>first|exact O.elim|skip
   . simp[Instr.sliceBounds,run_sliceBound X w]
   obtain⟨k1,rfl⟩:=O;simp only[By] at U;simp[Instr.sliceBounds,run_sliceBound U w,run_sliceBound X w]
 obtain⟨k3,rfl⟩:=B
 cases a<;>cases F<;>first|exact Z.elim|skip
 . grind
 obtain⟨k2,rfl⟩:=Z;have X:=X rfl;simp only[By] at X t U
 cases b<;>cases lo<;>first|exact O.elim|skip
 . simp[Instr.sliceBounds,run_sliceBound X w,run_sliceBound t w]
 obtain⟨k1,rfl⟩:=O;simp only[By] at U;simp[Instr.sliceBounds,run_sliceBound U w,run_sliceBound X w,run_sliceBound t w]
variable{lo F:Option Operand}{x:Operand}{D:Arg}
theorem aHd{c N:Option Arg}(S:o.op=.slice t x lo F none)(C:bN g x=some D)(i:rW g lo=some c)
 (E:rW g F=some N) (W:P.underlying t=some .string):cV P g o (.RJ D c N):=by
 intro s a G H w v H' L M h;have K:=bM L M C;simp only[dU] at h;split at h
 . rename_i n l r O Z B;rw[O] at K;have T:=K.jL;have o1:=qA L M i Z;have o2:=qA L M E B;split at h
   . rename_i R;obtain⟨I,b⟩:=R;obtain⟨rfl,rfl⟩:=h;have A:(⟨n.toArray⟩:ByteArray).size=n.length:=(by rfl);have X:=tK (P:=P) (isS:=false) (len:=n.length) (cap:=n.length) (max:=none) (mx:=none) o1 o2 trivial A3 I (fun _=>by grind) A3 w;refine cV.pure' L (u:=.string ((⟨n.toArray⟩:ByteArray).extract (l.getD 0) (r.getD n.length))) ?_ ?_
     . simp only[execOp,S,Instr.sliceAt,Sem.run_bind,run_underlying W w,Result.andThen_ok,Instr.slice,T,A,Option.map_none,X,Ci,Br,Db];rfl
     have :(⟨n.toArray⟩:ByteArray).extract (l.getD 0) (r.getD n.length)=⟨((n.drop (l.getD 0)).take (r.getD n.length -l.getD 0)).toArray⟩:=by apply ByteArray.ext;simp
     rw[this];exact VR.Vs _ _ _
   grind
 grind
variable{els:List (List AV)}
theorem Uq(B:∀e∈els,e.length=sz)(l:Nat):(els.drop l).flatten=els.flatten.drop (l*sz):=by
 induction els generalizing l with
 |nil=>simp
 |cons e r K=>
  cases l with
  |zero=>simp
  |succ l=>have z:e.length=sz:=B e A3;rw[Gj,K (fun e z=>B e (by grind)),Cb,Cy,Iu,<-z,Iv]
theorem KS(B:∀e∈els,e.length=sz)(l:Nat):(els.take l).flatten=els.flatten.take (l*sz):=by
 induction els generalizing l with
 |nil=>simp
 |cons e r K=>
  cases l with
  |zero=>simp
  |succ l=>have z:e.length=sz:=B e A3;rw[Ft,Cb,K (fun e z=>B e (by grind)),Cb,Cy,Iu,<-z,List.take_length_add_append]
theorem VR.Xv{b o':Nat}{us:Nat->Value}(B:∀e∈els,e.length=sz)
 (h:∀j,j<els.flatten.length->G.iA b (o'+j)/\w.cell? ⟨b,o'+j,none⟩=some (us j)/\(els.flatten.getD j aC).one=true)
 (J:∀j,j<els.flatten.length->VR G w (els.flatten.getD j aC) (us j)) (l n:Nat) (A:l+n<=els.length) {tag cap:Nat}
 (W:aQy G tag b (o'+l*sz+n*sz) sz n cap):VR G w (.bK tag sz ((els.drop l).take n)) (.slice (some ⟨b,o'+l*sz,none⟩) n cap):=by
 have a:∀e∈els.drop l,e.length=sz:=fun e z=>B e (Gz z);have c:∀e∈(els.drop l).take n,e.length=sz:=fun e z=>a e (Cu z);have i:((els.drop l).take n).flatten=(els.flatten.drop (l*sz)).take (n*sz):=by rw[KS a,Uq B]
 have Q:((els.drop l).take n).length=n:=by simp;omega
 have :=VR.bK (G:=G) (w:=w) tag sz ((els.drop l).take n) b (o'+l*sz) cap (fun j=>us (l*sz+j)) c (fun j Y=>by
  grind) (fun j Y=>by
  grind) (by rw[Q];exact W)
 rwa [Q] at this
theorem VR.rU(sz b o' cap:Nat)(tag:Nat)(W:tag=0\/(tag=1/\cap=0)):VR G w (.bK tag sz []) (.slice (some ⟨b,o',none⟩) 0 cap):=
 VR.bK tag sz [] b o' cap (fun _=>undef) (fun e z=>by grind) (fun j Y=>by grind) (fun j Y=>by grind) (by
  refine⟨Bh _,?_⟩
  grind)
theorem aOv{mx:Option Operand}{x':Arg}{yh rE V:Option Arg}(S:o.op=.slice t x lo F mx)(C:bN g x=some x')(i:rW g lo=some yh)
 (xr:rW g F=some rE) (ab:rW g mx=some V) (W:oP P t=some (e,sz)):cV P g o (.Yi sz x' yh rE V):=by
 intro s a G H w v H' L M h;have K:=bM L M C;obtain⟨hu,A⟩:=mD W;simp only[dU] at h;split at h
 . rename_i l r m O Z B;have o1:=qA L M i O;have o2:=qA L M xr Z;have o3:=qA L M ab B;split at h
   . rename_i ad;simp only[Ae,An] at h;obtain⟨v',h,rfl,rfl⟩:=h
     have c:∀(p:Option Addr) (len cap:Nat),a.eval x=.slice p len cap->l.getD 0<=r.getD len->(r.isSome->r.getD len<=m.getD cap)->m.getD cap<=cap->
      (execOp a.eval o).run P w=.ok (.value (.slice (if m.getD cap=l.getD 0 then p else p.map (·.add (l.getD 0*sz))) (r.getD len -l.getD 0) (m.getD cap -l.getD 0))) w:=by
      intro p len cap q I X c3;have hb:=tK (P:=P) (isS:=true) (len:=len) (cap:=cap) o1 o2 o3 ad I X c3 w;simp only[execOp,S,Instr.sliceAt,Sem.run_bind,run_underlying hu w,Result.andThen_ok,Instr.slice,q,hb,fC A w];rfl
     unfold nA at h;split at h
     . rename_i f;rw[f] at K;generalize q:a.eval x=u at K;cases K;split at h
       . rename_i R;obtain⟨I,X,c3⟩:=R;obtain rfl:=Aa h;have :=c none 0 0 q A0 (fun _=>by rw[X,c3];exact Ad _) (by rw[c3];exact Ad _);rw[I,X,c3] at this;exact cV.pure' L this .bG
       cases h
     . rename_i tag N els f;rw[f] at K;generalize q:a.eval x=u at K
       cases K with
       |bK _ _ _ b o' cap us WK hh J E=>
        have ag:=E.1;simp only at h;split at h
        . rename_i R;obtain⟨rfl,I,X⟩:=R;have a7:=VR.Xv WK hh J;split at h
          . rename_i Y;split at h
            . rename_i d;obtain⟨c3,c4⟩:=d;obtain rfl:=Aa h;have :=c _ _ _ q I (fun _=>by simpa using c3) Zag;simp only[By,Cq,lI] at this;refine cV.pure' L this ?_;by_cases TP:Y=l.getD 0
              . rw[if_pos TP];have h0:r.getD els.length -l.getD 0=0:=A0;have XW:Y -l.getD 0=0:=A0;rw[h0,XW,Hv];exact VR.rU _ _ _ _ _ (by by_cases z:Y=r.getD els.length<;>simp[z])
              rw[if_neg TP];refine a7 _ _ A0 ⟨by omega,?_⟩;by_cases z:Y=r.getD els.length
              . rw[if_pos z];omega
              rw[if_neg z];trivial
            cases h
          have Q:=c _ _ _ q I (fun _=>by simp;omega) A3;simp only[Du,Cq,lI] at Q;split at h
          . rename_i d;obtain⟨c3,c4⟩:=d;obtain rfl:=Aa h;rw[c3] at Q;refine cV.pure' L Q ?_;by_cases QB:cap=l.getD 0
            . rw[if_pos QB];have h0:els.length -l.getD 0=0:=A0;have hd:els.drop (l.getD 0)=[]:=List.drop_eq_nil_of_le A0;rw[h0,hd]
              rcases c4 with c4|c4
              . omega
              match tag,c4,E with
              |0,_,_=>exact VR.rU _ _ _ _ _ (.inl rfl)
              |1,_,E=>exact VR.rU _ _ _ _ _ (.inr ⟨rfl,by omega⟩)
            rw[if_neg QB];have hd:els.drop (l.getD 0)=(els.drop (l.getD 0)).take (els.length -l.getD 0):=(by rw[Bd];simp);rw[hd];refine a7 _ _ A0 ⟨by omega,?_⟩;have Z:=E.2
            have D:o'+l.getD 0*N+(els.length -l.getD 0)*N=o'+els.length*N:=by rw[Bm,<-Bn];congr 2;omega
            match tag,Z,c4 with
            |0,_,_=>trivial
            |1,Z,_=>show cap -l.getD 0=els.length -l.getD 0;rw[Z]
            |k+2,⟨j,Z,B,h4,h5,h6⟩,_=>refine⟨j,Z,B,by rw[D];exact h4,h5,?_⟩;rw[h6];congr 1;omega
          obtain rfl:=Aa h;refine cV.pure' L Q ?_;by_cases QB:cap=l.getD 0
          . rw[if_pos QB];have h0:r.getD els.length -l.getD 0=0:=A0;rw[h0,Hv];exact VR.rU _ _ _ _ _ (.inl rfl)
          rw[if_neg QB];exact a7 _ _ A0 ⟨by omega,trivial⟩
        cases h
       |wE _ _ b o' s' E=>
        simp only[Bo] at h;split at h
        . rename_i R;obtain⟨rfl,I,X⟩:=R;have n:l.getD 0=0:=A0;have Q:r.getD 0=0:=A0;split at h
          . rename_i Y;split at h
            . rename_i d;obtain⟨c3,c4⟩:=d;obtain rfl:=Aa h;have y:Y=0:=A0;subst y;have :=c _ _ _ q A0 (fun _=>by simpa using c3) A3;simp only[By,n,Q,if_true,Is] at this;refine cV.pure' L this ?_;rw[Ky,List.take_nil];exact .wE _ _ _ _ _ ZaU
            cases h
          have a6:=c _ _ _ q A0 (fun _=>by simp;omega) A3;simp only[Du,n,Q,if_true,Is] at a6;split at h
          . obtain rfl:=Aa h;refine cV.pure' L a6 ?_;rw[Ky];exact .wE _ _ _ _ _ E
          obtain rfl:=Aa h;refine cV.pure' L a6 ?_;rw[Ky,List.take_nil];exact .wE _ _ _ _ _ A0
        cases h
     . rename_i id N off len cap f;rw[f] at K;generalize q:a.eval x=u at K
       cases K with
       |sl _ _ _ _ _ lK j U af iP T=>
        simp only at h;split at h
        . rename_i R;obtain⟨rfl,I⟩:=R;have aj:cap<=lK:=A0;split at h
          . rename_i Y;split at h
            . rename_i d;obtain⟨c3,c4⟩:=d;have :=c _ _ _ q I (fun _=>by simpa using c3) Zag;simp only[By,Cq,lI] at this;split at h
              . rename_i TP;obtain rfl:=Aa h;rw[if_pos TP] at this;have h0:r.getD len -l.getD 0=0:=A0;have XW:Y -l.getD 0=0:=A0;rw[h0,XW] at this;exact cV.pure' L this (.sl id N off 0 0 0 j U (Ad _) (by have :off+cap*N<=j.WO:=iP;omega) (.inl rfl))
              rename_i TP;obtain rfl:=Aa h;rw[if_neg TP,Bm] at this;refine cV.pure' L this (.sl id N (off+l.getD 0*N) _ _ _ j U A0 ?_ (.inl rfl));have e1:off+l.getD 0*N+(Y -l.getD 0)*N=off+Y*N:=Zbg;have e2:Y*N<=cap*N:=Bc _ c4;omega
            cases h
          split at h
          . rename_i c3;have :=c _ _ _ q I (fun _=>by simp;omega) A3;simp only[Du,Cq,lI] at this;split at h
            . rename_i ae;obtain rfl:=Aa h;have h0:r.getD len -l.getD 0=0:=A0;rw[h0] at this;refine cV.pure' L this ?_;split
              . exact VR.rU _ _ _ _ _ (.inl rfl)
              exact VR.rU _ _ _ _ _ (.inl rfl)
            rename_i ae;obtain rfl:=Aa h;rw[if_neg A0,Bm] at this;have e1:off+l.getD 0*N+(cap -l.getD 0)*N=off+cap*N:=Zbg;have e2:off+l.getD 0*N+(lK -l.getD 0)*N=off+lK*N:=Zbg;refine cV.pure' L this (.sl id N (off+l.getD 0*N) _ _ _ j U A0 A0 ?_)
            rcases T with T|⟨q1,q2,q3⟩
            . exact .inl A0
            exact .inr ⟨by omega,by omega,by omega⟩
          cases h
        cases h
     cases h
   cases h
 cases h
theorem mB(sz:Nat):∀(n:Nat) (cs:List AV),n*sz<=cs.length->(gE sz n cs).flatten=cs.take (n*sz)/\(gE sz n cs).length=n/\∀e∈gE sz n cs,e.length=sz
 |0,cs,_=>⟨by simp[gE],rfl,fun e he=>by cases he⟩
 |n+1,cs,h=>by
  have t:(n+1)*sz=sz+n*sz:=by rw[Cy];omega
  obtain⟨O,Z,B⟩:=mB sz n (cs.drop sz) Zag;refine⟨?_,by simp[gE,Z],fun e he=>?_⟩
  . rw[gE,Cb,O,t,List.take_add]
  rcases Ba.1 he with rfl|he
  . simp;omega
  exact B e he
theorem aHc{b:Bool}{mx:Option Operand}{c N V:Option Arg}(S:o.op=.slice t x lo F mx)(C:bN g x=some D)(i:rW g lo=some c)
 (E:rW g F=some N) (a6:rW g mx=some V) (W:CQ P t=some (n,sz,b)):cV P g o (.HL n sz D c N V):=by
 intro s a G H w v H' L M h;have K:=bM L M C;obtain⟨e,B,A,hb⟩:=CR W;simp only[dU] at h;split at h
 . rename_i l r m h1 Z h3;have o1:=qA L M i h1;have o2:=qA L M E Z;have o3:=qA L M a6 h3;simp only[Ae,An] at h;obtain⟨v',h,rfl,rfl⟩:=h;unfold jV at h;simp only at h;split at h
   . rename_i R;obtain⟨I,c2,c3,c4⟩:=R;have WG:=tK (P:=P) (isS:=false) (len:=n) (cap:=n) o1 o2 o3 c4 I (fun _=>c2) c3 w
     have jZ:∀O o',a.eval x=.pointer (some ⟨O,o',none⟩)->
      (execOp a.eval o).run P w=.ok (.value (.slice (some (if m.getD n=l.getD 0 then⟨O,o',none⟩ else⟨O,o'+l.getD 0*sz,none⟩)) (r.getD n -l.getD 0) (m.getD n -l.getD 0))) w:=by
      intro O o' q;simp only[execOp,S,Instr.sliceAt,Sem.run_bind,run_underlying B w,Result.andThen_ok,q,Instr.sureAddr,Sem.run_pure,WG,fC A w,lI]
     split at h
     . rename_i id off f;rw[f] at K;split at h
       . rename_i cs Oi;obtain⟨eU,d⟩:=aB.qL Oi;split at h
         . rename_i y;generalize q:a.eval x=u at K
           cases K with
           |ref _ _ lc U=>
            have a7:=(L.cells id lc cs eU U d).1;have Q:=jZ _ _ q;split at h
            . rename_i p;obtain rfl:=Aa h;rw[if_pos p] at Q;have h0:r.getD n -l.getD 0=0:=A0;have XW:m.getD n -l.getD 0=0:=A0;rw[h0,XW] at Q;exact cV.pure' L Q (.sl id sz off 0 0 0 lc U (Ad _) A0 (.inl rfl))
            rename_i p;obtain rfl:=Aa h;rw[if_neg p,Bm] at Q;refine cV.pure' L Q (.sl id sz (off+l.getD 0*sz) _ _ _ lc U A0 ?_ (.inl rfl));have T:off+l.getD 0*sz+(m.getD n -l.getD 0)*sz=off+m.getD n*sz:=Zbg;have e2:m.getD n*sz<=n*sz:=Bc _ c3;omega
         cases h
       cases h
     . rename_i cs f;rw[f] at K;split at h
       . rename_i y;obtain rfl:=Aa h;generalize q:a.eval x=u at K
         cases K with
         |pl _ k o' us X J=>
          have Q:=jZ _ _ q;refine cV.pure' L Q ?_;obtain⟨f1,f2,f3⟩:=mB sz n cs y;by_cases p:m.getD n=l.getD 0
          . rw[if_pos p];have h0:r.getD n -l.getD 0=0:=A0;have XW:m.getD n -l.getD 0=0:=A0;rw[h0,XW,Hv];exact VR.rU _ _ _ _ _ (by by_cases z:m.getD n=r.getD n<;>simp[z])
          rw[if_neg p];refine VR.Xv (us:=us) f3 (fun j Y=>?_) (fun j Y=>?_) _ _ A0 ⟨by omega,?_⟩
          . rw[f1] at Y ⊢;simp at Y;rw[getD_take _ _ _ _ A0];exact X j A0
          . rw[f1] at Y ⊢;simp at Y;rw[getD_take _ _ _ _ A0];exact J j A0
          by_cases z:m.getD n=r.getD n
          . rw[if_pos z];omega
          rw[if_neg z];trivial
       cases h
     cases h
   cases h
 cases h
theorem aOu(S:o.op=.sliceToArrayPointer t x)(C:bN g x=some D)(W:P.underlying t=some (.array n e)):cV P g o (.jj n D):=by
 intro s a G H w v H' L M h;have K:=bM L M C
 have c:∀(p:Option Addr) (len cap:Nat),a.eval x=.slice p len cap->n<=len->(execOp a.eval o).run P w=.ok (.value (.pointer p)) w:=by
  intro p len cap q m;have :¬len<n:=by omega
  simp[execOp,S,Instr.arrayAt,run_underlying W w,q,this]
 simp only[dU] at h;split at h
 . rename_i tag sz els f;rw[f] at K;generalize q:a.eval x=u at K
   cases K with
   |bK _ _ _ b o' cap us d X J E=>
    split at h
    . rename_i m;obtain⟨rfl,rfl⟩:=h;exact cV.pure' L (c _ _ _ q m.1) (.pl _ b o' us X J)
    grind
   |wE=>grind
 . rename_i id sz off len cap f;rw[f] at K;generalize q:a.eval x=u at K
   cases K with
   |sl _ _ _ _ _ V j U Q y T=>
    split at h
    . rename_i m;obtain⟨rfl,rfl⟩:=h;exact cV.pure' L (c _ _ _ q m) (.ref id off j U)
    grind
 grind
end
end
section
variable{G:Gh}{w:World}{xs:List AV}{us:List Value}
theorem jD.append{ys:List AV}{vs:List Value}(O:jD G w xs us)(Z:jD G w ys vs):jD G w (xs++ys) (us++vs):=by
 have L:=O.1;have p:=Z.1;refine⟨by grind,fun j Y=>?_⟩;simp at Y;rw[getD_eq,getD_eq,Dp,Dp];by_cases R:j<xs.length
 . rw[if_pos R,if_pos A0];exact O.2 j R
 have :=Z.2 (j -xs.length) A0
 grind
theorem jD.take(h:jD G w xs us)(n:Nat):jD G w (xs.take n) (us.take n):=by have l:=h.1;refine⟨by grind,fun j Y=>?_⟩;simp only[Fb] at Y;rw[getD_take _ _ _ _ A0,getD_take _ _ _ _ A0];exact h.2 j A0
theorem pT(P:Program){g:bL}{G:Gh}{H:aB}{w:World}(L:WR g G H w){sz:Nat}{x:AV}{u:Value}{ys:List (List AV)}(h:dM H sz x=some ys)(J:VR G w x u):
 (∀e∈ys,e.length=sz)/\(∀c∈ys.flatten,c.one=true)/\(Builtin.lenOf u).run P w=.ok ys.length w/\
 ∃vs:List Value,jD G w ys.flatten vs/\∀n,n<=ys.length->(Builtin.firstCells sz n u).run P w=.ok (vs.take (n*sz)).toArray w:=by
 have f:∀{l:List AV},(∀j,j<l.length->(l.getD j aC).one=true)->∀c∈l,c.one=true:=fun {l} U c R=>by obtain⟨j,Y,rfl⟩:=Hd.1 R;have :=U j Y;simpa [getD_eq,Ai Y] using this
 have cells:∀{b o':Nat} {l:List AV},(∀j,j<l.length->∃v,w.cell? ⟨b,o'+j,none⟩=some v/\VR G w (l.getD j aC) v)->
  ∃vs:List Value,jD G w l vs/\∀m,m<=l.length->(loadCells ⟨b,o',none⟩ m).run P w=.ok (vs.take m).toArray w:=fun {b o' l} R=>by
  obtain⟨us,O,Z,B⟩:=Pb R;refine⟨us,⟨O,B⟩,fun m t=>?_⟩
  have :=wW P w b o' (us.take m) (fun j Y=>by
   simp at Y;rw[getD_take _ _ _ _ A0]
   exact Z j A0)
  rwa [show(us.take m).length=m by simp;omega] at this
 cases J with
 |bG=>obtain rfl:=Aa h;refine⟨fun e z=>(by cases z),fun c R=>(by simp at R),rfl,[],jD.nil G w,fun n A=>?_⟩;simp[Builtin.firstCells]
 |bK tag N els b o' cap us s X a E=>
  simp only[dM] at h;split at h
  . rename_i M;subst M;obtain rfl:=Aa h;obtain⟨vs,O,Z⟩:=cells (l:=els.flatten) (b:=b) (o':=o') (fun j Y=>⟨us j,(X j Y).2.1,a j Y⟩);refine⟨s,f fun j Y=>(X j Y).2.2,rfl,vs,O,fun n A=>?_⟩;have :=Z (n*N) (by rw[length_flatten s];exact Bc _ A);simpa [Builtin.firstCells] using this
  cases h
 |wE tag N b o' D E=>
  simp only[dM] at h;split at h
  . obtain rfl:=Aa h;refine⟨fun e z=>(by cases z),fun c R=>(by simp at R),rfl,[],jD.nil G w,fun n A=>?_⟩;obtain rfl:n=0:=by simpa using A
    simp[Builtin.firstCells,loadCells,loadCellsFrom]
  cases h
 |str str=>
  simp only[dM] at h;split at h
  . rename_i M;subst M;obtain rfl:=Aa h
    have i:(ZM str.data.toList).flatten=str.data.toList.map fun b=>AV.int .u8 b.toNat:=by
     unfold ZM
     induction str.data.toList with
     |nil=>rfl
     |cons b r K=>simp[K]
    refine⟨fun e z=>?_,fun c R=>?_,?_,str.data.toList.map fun b=>.int .u8 b.toNat,?_,fun n A=>?_⟩
    . simp only[ZM,Be] at z;obtain⟨b,_,rfl⟩:=z;rfl
    . rw[i] at R;simp only[Be] at R;obtain⟨b,_,rfl⟩:=R;rfl
    . have :str.size=(ZM str.data.toList).length:=(by rw[ZM,Ah,Ej];rfl);simp only[Builtin.lenOf,this];rfl
    . rw[i];refine⟨by simp,fun j Y=>?_⟩;simp at Y;simp only[getD_eq,Dw,Ai (show j<str.data.toList.length by simpa using Y),Cq,By];exact .int _ _
    simp only[Builtin.firstCells,Df]
    have :((str.extract 0 n).data.map fun b=>(Value.int .u8 b.toNat))=((str.data.toList.map fun b=>Value.int .u8 b.toNat).take n).toArray:=by apply Array.ext';simp[ByteArray.data_extract,List.extract_eq_take_drop]
    rw[<-this];rfl
  cases h
 |sl id N off len cap V l U Q y T=>
  simp only[dM] at h;split at h
  . rename_i M;subst M;split at h
    . rename_i cs F;obtain⟨C,d⟩:=aB.qL F;split at h
      . rename_i k;obtain rfl:=Aa h;obtain⟨q,p,S⟩:=mB N len (cs.drop off) Zag;have W:=(L.cells id l cs C U d).2.2.2.1
        obtain⟨vs,O,Z⟩:=cells (l:=(cs.drop off).take (len*N)) (b:=l.dE) (o':=l.base+off) (fun j Y=>by
         simp at Y
         exact NG L U d k j A0)
        refine⟨S,?_,by simp[Builtin.lenOf,p],vs,by rw[q];exact O,fun n A=>?_⟩
        . rw[q];exact fun c R=>W c (Gz (Cu R))
        rw[p] at A;have o:n*N<=len*N:=Bc _ A;have :=Z (n*N) Zag;simpa [Builtin.firstCells] using this
      cases h
    cases h
  cases h
 |_=>simp[dM] at h
theorem TH(a:Nat):∀(r c:Nat),Builtin.growBy a r c<=max c (a+(a+768) / 4)
 |0,c=>Nat.le_max_left _ _
 |r+1,c=>by
  simp only[Builtin.growBy];split
  . omega
  have :=TH a r (c+(c+768) / 4);omega
theorem nextslicecap_le{need cap:Nat}(h:cap<need):Builtin.nextslicecap need cap<=2*need+192:=by
 unfold Builtin.nextslicecap;split
 . omega
 split
 . omega
 have :=TH need 4 cap;omega
def Mh(w:World)(o:Go.Obj):World:={w with heap:=w.heap.push o,drawn:=w.drawn+1}
section
variable {P:Program}
variable{m:TypeId}{i:TypeInfo}
theorem xZ(h:P.info? m=some i)(w:World):(typeInfo m).run P w=.ok i w:=by simp[typeInfo,program,Sem.run,h]
variable{w:World}{t t2:TypeId}{d:TypeDesc}{sz sLen sCap:Nat}{base:Option Addr}{u:Value}{vs:List Value}
theorem rC{ty:TypeId}{n:Nat}(W:P.underlying t=some (.slice m))(A:lV P m=some sz)
 (Z:P.underlying t2=some d) (hd:∀k,d≠ .int k) (Q:(Builtin.lenOf u).run P w=.ok n w) (N:(Builtin.firstCells sz n u).run P w=.ok vs.toArray w) (v:sLen+n<=sCap):
 (Builtin.append_ #[t,t2] ty #[.slice base sLen sCap,u]).run P w=
   ((match base with|some a=>storeCells (a.add (sLen*sz)) vs|none=>pure ():Sem Unit).run P w).andThen fun _ w'=>.ok (.slice base (sLen+n) sCap) w':=by
 have s:(match d with|.int _=>true|_=>false)=false:=by simp
 unfold Builtin.append_;simp only[Ez,Gk,Fo,Sem.run_bind,run_underlying W w,run_underlying Z w,fC A w,Result.andThen_ok,Sem.run_pure,s,Br,Db,Q,if_pos v,Fl,if_true,N];cases base<;>simp
theorem EE{need WM:Nat}{e:TypeId}(w:World):∃c,need<=c/\(choose (.appendCap need WM e)).run P w=.ok c {w with drawn:=w.drawn+1}:=
 ⟨need+(w.tape w.drawn (.appendCap need WM e))%(2^63 -need),by omega,by rfl⟩
theorem run_askRoom(n:Nat)(w:World):(askRoom n).run P w=.ok () w:=by simp
variable{z:Value}
theorem run_append_grow{ty:TypeId}{n:Nat}{os:List Value}(W:P.underlying t=some (.slice m))(A:lV P m=some sz)
 (Z:P.underlying t2=some d) (hd:∀k,d≠ .int k) (F:P.info? m=some i) (q:1<=i.bytes) (s:nG P m=some z) (g:z.cells.size=sz) (Q:(Builtin.lenOf u).run P w=.ok n w)
 (S:(Builtin.firstCells sz sLen (.slice base sLen sCap)).run P {w with drawn:=w.drawn+1}=.ok os.toArray {w with drawn:=w.drawn+1})
 (hf:(Builtin.firstCells sz n u).run P {w with drawn:=w.drawn+1}=.ok vs.toArray {w with drawn:=w.drawn+1}) (v:¬sLen+n<=sCap) (T:(sLen+n)*i.bytes<=2^40):
 ∃cap rest,sLen+n<=cap/\rest.length=(cap -(sLen+n))*sz/\
  (Builtin.append_ #[t,t2] ty #[.slice base sLen sCap,u]).run P w=.ok (.slice (some ⟨w.heap.size,0,none⟩) (sLen+n) cap) (Mh w (.cells (os++vs++rest).toArray m)):=by
 have a:(match d with|.int _=>true|_=>false)=false:=by cases d<;>first|rfl|exact absurd rfl (hd _)
 obtain⟨cap,N,h⟩:=EE (P:=P) (need:=sLen+n) (WM:=sCap) (e:=m) w;have B:¬((((sLen+n:Nat):Int)>IntKind.i64.max)/\(False\/i.bytes=0)):=fun X=>X.2.elim id (fun G=>by omega);have R:=nextslicecap_le (need:=sLen+n) (cap:=sCap) A0;have D:Builtin.nextslicecap (sLen+n) sCap*i.bytes<=(2*(sLen+n)+192)*i.bytes:=Bc _ R;have b:(2*(sLen+n)+192)*i.bytes=2*((sLen+n)*i.bytes)+192*i.bytes:=by rw[Bn,Cf]
 have c:i.bytes<=(sLen+n)*i.bytes:=Gs _ A0;have I:¬Builtin.nextslicecap (sLen+n) sCap*i.bytes>2^48:=by omega
 refine⟨cap,(Builtin.zeroCells z.cells (cap -(sLen+n))).toList,N,by simp[Builtin.zeroCells,g],?_⟩;unfold Builtin.append_;simp only[Ez,Gk,Fo,Sem.run_bind,run_underlying W w,run_underlying Z w,fC A w,Result.andThen_ok,Sem.run_pure,a,Br,Db,Q,if_neg v,Fl,if_true,xZ F w,if_neg B,if_neg I,h,xZ F {w with drawn:=w.drawn+1},run_askRoom,S,hf,mQ s {w with drawn:=w.drawn+1}]
 have f:os.toArray++vs.toArray++Builtin.zeroCells z.cells (cap -(sLen+n))=(os++vs++(Builtin.zeroCells z.cells (cap -(sLen+n))).toList).toArray:=by simp
 rw[f];rfl
theorem Ru(w:World)(o:Go.Obj):jG w (Mh w o) o:=⟨rfl,.now⟩
variable{G:Gh}{H:aB}
theorem ei{g:bL}(L:WR g G H w)(N:Bool){sz:Nat}{els:List (List AV)}{vs rest:List Value}{e:TypeId}{cap:Nat}
 (B:∀x∈els,x.length=sz) (O:∀c∈els.flatten,c.one=true) (J:jD G w els.flatten vs) (T:els.length<=cap) (a:rest.length=(cap -els.length)*sz):
 ∃E,WR g E (lE H N sz els).2 (Mh w (.cells (vs++rest).toArray e))/\Ext G H w E (lE H N sz els).2 (Mh w (.cells (vs++rest).toArray e))/\
  VR E (Mh w (.cells (vs++rest).toArray e)) (lE H N sz els).1 (.slice (some ⟨w.heap.size,0,none⟩) els.length cap):=by
 have m:=Ru w (.cells (vs++rest).toArray e);have i:=length_flatten B;have F:=J.1;have D:els.length*sz+(cap -els.length)*sz=cap*sz:=by rw[<-Bn];grind
 cases N with
 |true=>
  obtain⟨r1,r2⟩:=L.aPl els.flatten vs rest J O true (fun h=>by grind) (Clear.zero _) m;refine⟨_,r1,r2,?_⟩
  have :=VR.sl (G:=G.eG H.next ⟨w.heap.size,0,els.flatten.length,(vs++rest).length⟩) (w:=Mh w (.cells (vs++rest).toArray e)) H.next sz 0 els.length els.length cap
   ⟨w.heap.size,0,els.flatten.length,(vs++rest).length⟩ (by simp[Gh.eG]) (Ad _) (by grind)
   (.inr ⟨by grind,T,by grind⟩)
  exact this
 |false=>
  obtain⟨E,U,r1,r2,r3⟩:=L.aPm els.flatten vs rest J (Clear.zero _) m;refine⟨E,r1,r2,?_⟩;refine VR.bK (H.next+2) sz els w.heap.size 0 cap (fun j=>vs.getD j undef) B (fun j Y=>⟨(r3 j Y).1,(r3 j Y).2.1,O _ (Qb Y)⟩) (fun j Y=>(r3 j Y).2.2) ⟨T,?_⟩
  grind
theorem WR.drew{g:bL}(h:WR g G H w):WR g G H {w with drawn:=w.drawn+1}:=h.of_heap rfl
theorem VR.drew{a:AV}(h:VR G w a u):VR G {w with drawn:=w.drawn+1} a u:=
 h.mono (fun _ _ h=>h) (fun b o F=>⟨F,rfl⟩)
theorem yy{g:bL}{o:Oper}{c:Call}{x y:Operand}{x' y':Arg}{a7:TypeId}{mu:Bool}(ho:o.op=.call c)(hc:c.callee=.builtin .append)(ha:c.args= #[x,y])
 (C:bN g x=some x') (hy:bN g y=some y') (Ry:c.argTypes= #[t,t2]) (W:P.underlying t=some (.slice a7)) (nL:lV P a7=some sz) (h2:P.underlying t2=some d) (hd:∀k,d≠ .int k)
 (F:P.info? a7=some i) (AB:1<=i.bytes) (hz:nG P a7=some z) (FD:z.cells.size=sz):cV P g o (.append sz i.bytes mu x' y'):=by
 intro s a G H w v H' L hs h;have K:=bM L hs C;have vy:=bM L hs hy;simp only[dU] at h;split at h
 . rename_i ys Mq;obtain⟨yu,y1,WC,HN,yv,yf⟩:=pT P L Mq vy;have b5:=yf ys.length (Ad _);obtain⟨_,_,_,aq,az,b6⟩:=pT P L.drew Mq vy.drew;have Z:=length_flatten yu;have ye:∀{m:Nat} {l:List Value},l.length=m->l.take m=l:=fun {m l} U=>by rw[Bd A0]
   have ar:(Builtin.firstCells sz ys.length (a.eval y)).run P w=.ok HN.toArray w:=by rw[b5,ye (by rw[yv.1,Z])]
   have bl:(Builtin.firstCells sz ys.length (a.eval y)).run P {w with drawn:=w.drawn+1}=.ok aq.toArray {w with drawn:=w.drawn+1}:=by rw[b6 ys.length (Ad _),ye (by rw[az.1,Z])]
   have b4:jD G w ys.flatten aq:=⟨az.1,fun j Y=>(az.2 j Y).mono (fun _ _ h=>h) (fun b o F=>⟨F,rfl⟩)⟩
   have gZ:∀{p:Option Addr} {sl sc:Nat} {r:Value} {w':World},a.eval x=.slice p sl sc->(Builtin.append_ #[t,t2] o.type #[.slice p sl sc,a.eval y]).run P w=.ok r w'->(execOp a.eval o).run P w=.ok (.value r) w':=by intro p sl sc r w' eY hr;simp[execOp,ho,resolve,hc,ha,Ry,invoke,builtin,eY,hr]
   have mz:ys=[]->∀{p:Option Addr} {sl sc:Nat},a.eval x=.slice p sl sc->sl<=sc->(execOp a.eval o).run P w=.ok (.value (.slice p sl sc)) w:=by intro Ux p sl sc eY aj;subst Ux;have VH:HN=[]:=(by have :=yv.1;simpa using this);subst VH;refine gZ eY ?_;have :=rC (P:=P) (ty:=o.type) (base:=p) (sLen:=sl) (sCap:=sc) W nL h2 hd WC ar (by simpa using aj);rw[this];cases p<;>rfl
   have TL:∀(mu:Bool) {p:Option Addr} {sl sc:Nat} {els:List (List AV)} {os:List Value} {G0:Gh} {H0:aB},WR g G0 H0 w->Ext G H w G0 H0 w->a.eval x=.slice p sl sc->els.length=sl->(∀e∈els,e.length=sz)->(∀c∈els.flatten,c.one=true)->
    jD G0 w els.flatten os->(Builtin.firstCells sz sl (.slice p sl sc)).run P {w with drawn:=w.drawn+1}=.ok os.toArray {w with drawn:=w.drawn+1}->¬sl+ys.length<=sc->(sl+ys.length)*i.bytes<=2^40->
    ∃n u w' G',(execOp a.eval o).run P w=.ok n w'/\SX n u/\WR g G' (lE H0 mu sz (els++ys)).2 w'/\Ext G H w G' (lE H0 mu sz (els++ys)).2 w'/\VR G' w' (lE H0 mu sz (els++ys)).1 u:=by
    intro mu p sl sc els os G0 H0 b7 aO eY U hu O J hf Ol IY;obtain⟨cap,rest,I,c2,hr⟩:=run_append_grow (P:=P) (ty:=o.type) W nL h2 hd F AB hz FD WC hf bl Ol IY;have bm:jD G0 w ys.flatten aq:=b4.ext aO
    obtain⟨G',r1,r2,r3⟩:=ei b7 mu (sz:=sz) (els:=els++ys) (vs:=os++aq) (rest:=rest) (e:=a7) (cap:=cap)
     (fun e he=>(Ar.1 he).elim (hu e) (yu e)) (fun c hc=>by rw[Ex] at hc;exact(Ar.1 hc).elim (O c) (y1 c)) (by rw[Ex];exact J.append bm)
     (by simp[U];exact I) (by simp[U];exact c2)
    refine⟨_,_,_,G',gZ eY hr,.inl rfl,r1,aO.trans r2,?_⟩;have Q:(els++ys).length=sl+ys.length:=(by simp[U]);rw[Q] at r3;exact r3
   unfold fM at h;split at h
   . rename_i aK;have Ux:ys=[]:=by simpa using aK
     have an:∀{p:Option Addr} {sl sc:Nat} {va:AV},a.eval x=.slice p sl sc->sl<=sc->VR G w va (.slice p sl sc)->
      ∃n u w' G',(execOp a.eval o).run P w=.ok n w'/\SX n u/\WR g G' H w'/\Ext G H w G' H w'/\VR G' w' va u:=
      fun eY aj b8=>cV.pure' L (mz Ux eY aj) b8
     have ab:=K;split at h
     . rename_i f;simp only[Aj,An] at h;obtain⟨rfl,rfl⟩:=h;rw[f] at K;generalize eY:a.eval x=u at K ab;cases K;exact an eY (Ad _) ab
     . rename_i f;simp only[Aj,An] at h;obtain⟨rfl,rfl⟩:=h;rw[f] at K;generalize eY:a.eval x=u at K ab
       cases K with
       |bK _ _ _ _ _ _ _ _ _ _ E=>exact an eY E.1 ab
       |wE=>exact an eY (Ad _) ab
     . rename_i f;simp only[Aj,An] at h;obtain⟨rfl,rfl⟩:=h;rw[f] at K;generalize eY:a.eval x=u at K ab
       cases K with
       |sl _ _ _ _ _ _ _ _ Q _ pI=>exact an eY A0 ab
     cases h
   rename_i aK
   have bt:1<=ys.length:=by
    cases ys with
    |nil=>simp at aK
    |cons _ _=>simp
   split at h
   . rename_i f;rw[f] at K;generalize eY:a.eval x=u at K;cases K;split at h
     . rename_i IY;simp only[Aj] at h;have :=TL mu (els:=[]) (os:=[]) L (Ext.refl G H w) eY rfl (fun e he=>by cases he) (fun c hc=>by simp at hc) (jD.nil G w) (by simp[Builtin.firstCells]) A0 (by simpa using IY);simp only[Cw] at this;rw[h] at this;exact this
     cases h
   . rename_i tag N els f;rw[f] at K;split at h
     . rename_i hc;obtain⟨rfl,IY⟩:=hc;generalize eY:a.eval x=u at K;obtain⟨eu,e1,_,Mc,ev',ag⟩:=pT P L.drew (sz:=N) (x:=.bK tag N els) (ys:=els) (by simp[dM]) K.drew;have ad:jD G w els.flatten Mc:=⟨ev'.1,fun j Y=>(ev'.2 j Y).mono (fun _ _ h=>h) (fun b o F=>⟨F,rfl⟩)⟩;have af:=length_flatten eu
       have ae:∀{q:Value},q=u->(Builtin.firstCells N els.length q).run P {w with drawn:=w.drawn+1}=.ok Mc.toArray {w with drawn:=w.drawn+1}:=fun hq=>by rw[hq,ag els.length (Ad _),ye (by rw[ev'.1,af])]
       cases K with
       |wE _ _ b o' s' E=>
        match tag,h,E with
        |0,h,_=>cases h
        |1,h,_=>simp only[Aj] at h;have :=TL mu (els:=[]) (os:=Mc) L (Ext.refl G H w) eY rfl eu e1 ad (ae rfl) A0 IY;rw[h] at this;exact this
       |bK _ _ _ b o' cap us WK X J E=>
        match tag,h,E with
        |0,h,_=>cases h
        |1,h,E=>simp only[Aj] at h;have QB:cap=els.length:=E.2;have :=TL mu (els:=els) (os:=Mc) L (Ext.refl G H w) eY rfl eu e1 ad (ae rfl) A0 IY;rw[h] at this;exact this
        |k+2,h,E=>
         obtain⟨l,t1,a6,t3,t4,t5⟩:=E.2;have aj:=E.1;simp only at h;split at h
         . rename_i aN;simp only[Aj,An] at h;obtain⟨rfl,rfl⟩:=h;have nD:H.live k:=⟨_,aN,rfl⟩;have hk:=L.kill k;have xq:=(Ext.refl G H w).kill k;by_cases yV:els.length+ys.length<=cap
           ·
            obtain⟨ca,T,fz,q1,q2,q3⟩:=L.room k l t1 (.inr aN)
            have TP:ys.length*N+(cap -els.length -ys.length)*N=l.ext:=by rw[t5,<-Bn];congr 1;omega
            have ay:HN.length=ys.length*N:=(by rw[yv.1,Z]);have DM:∀j,j<HN.length->j<l.ext:=fun j Y=>by omega
            obtain⟨w',hr,hu⟩:=fX P b (o'+els.length*N) HN 0 w ⟨ca,T,fz,by rw[<-a6];exact q1,by omega⟩
             (fun j Y=>by rw[Cv,<-t3,<-a6];exact q3 j (DM j Y)) (pZ yv y1)
            rw[Cv] at hu
            have mZ:∀j,j<HN.length->¬G.iA b (o'+els.length*N+j):=fun j Y=>by rw[<-t3,<-a6];exact L.kI k l t1 nD j (DM j Y)
            have uZ:∀id l',G.loc id=some l'->(H.set k .dead).live id->l.dE≠l'.dE\/l.base+l.ext<=l'.base\/l'.base+l'.ext<=l.base:=fun id l' pK R=>by
             rcases aB.mM.1 R with ⟨_,X⟩|⟨cU,R⟩
             . cases X
             exact L.lL k id l l' (Ne.symm cU) t1 pK nD R
            have M:=hk.write hu mZ (fun id l' pK R=>by
             rcases uZ id l' pK R with sN|sN|sN
             . exact .inl (by rw[<-a6];exact Ne.symm sN)
             . exact .inr (.inr A0)
             exact .inr (.inl A0)) ⟨ca,T,fz,by rw[<-a6];exact q1⟩
            have B:w.heap.size<=b\/∃fO l0,G.loc fO=some l0/\H.live fO/\l0.dE=b:=.inr ⟨k,l,t1,nD,a6⟩;have ZF:=xq.write hu mZ L.iE B;obtain⟨aF,u1,u2,u3,u4⟩:=hu.row ca T fz (by rw[<-a6];exact q1)
            have my:∀j,j<HN.length->w'.cell? ⟨b,o'+els.length*N+j,none⟩=some (HN.getD j undef):=fun j Y=>by rw[nO u1];exact u4 j Y (by have :=DM j Y;omega)
            have CA:=M.pF b (o'+els.length*N) HN.length (fun j Y=>⟨_,my j Y⟩) (fun id l' pK R=>by
             rcases uZ id l' pK R with sN|sN|sN
             . exact .inl (by rw[<-a6];exact Ne.symm sN)
             . exact .inr (.inr A0)
             exact .inr (.inl A0))
            have WH:=ZF.pF b (o'+els.length*N) HN.length B;have S:=WH.PU .tok ⟨b,o'+els.length*N+HN.length,0,l.ext -HN.length⟩ CA.lt B
            have aA:=CA.PU .tok ⟨b,o'+els.length*N+HN.length,0,l.ext -HN.length⟩ (fun id l' pK R=>by
             rcases uZ id l' pK R with sN|sN|sN
             . exact .inl (by rw[<-a6];exact sN)
             . exact .inr (.inl (by simp only;omega))
             . exact .inr (.inr (by simp only;omega))) (fun j Y F=>by
             simp only at Y F
             rcases F with F|⟨_,_,F⟩
             . have :=L.kI k l t1 nD (HN.length+j) A0;rw[a6,t3,<-Bm] at this;exact this F
             . omega) (fun FY br A=>by cases A) (fun _=>⟨aF,T,fz,u1,by simp only;omega,fun j Y=>by
             simp only at Y ⊢;rw[hu.frozen (by rw[<-a6];exact q1)];have :=q3 (HN.length+j) A0;rw[a6,t3,<-Bm] at this
             exact this⟩) (fun A=>by cases A)
            refine⟨.value (.slice (some ⟨b,o',none⟩) (els.length+ys.length) cap),.slice (some ⟨b,o',none⟩) (els.length+ys.length) cap,w',_,gZ eY ?_,.inl rfl,aA,S,?_⟩
            . have :=rC (P:=P) (ty:=o.type) (base:=some ⟨b,o',none⟩) (sLen:=els.length) (sCap:=cap) W nL h2 hd WC ar yV;exact ZbV
            have Q:(els++ys).length=els.length+ys.length:=A3;rw[<-Q]
            have ak:∀j,(els.flatten++ys.flatten).getD j aC=if j<els.flatten.length then els.flatten.getD j aC else ys.flatten.getD (j -els.flatten.length) aC:=fun j=>by rw[getD_eq,Dp];split<;>rfl
            refine VR.bK (H.next+2) N (els++ys) b o' cap (fun j=>if j<els.flatten.length then us j else HN.getD (j -els.flatten.length) undef)
             (fun e he=>(Ar.1 he).elim (eu e) (yu e)) (fun j Y=>?_) (fun j Y=>?_) ⟨by simp;exact yV,?_⟩
            . rw[Ex] at Y ⊢;rw[ak];by_cases D:j<els.flatten.length
              . rw[if_pos D,if_pos D];have :=X j D;refine⟨(S.iA _ _ this.1).1,by rw[(S.iA _ _ this.1).2];exact this.2.1,this.2.2⟩
              rw[if_neg D,if_neg D];simp only[Aq] at Y;have IZ:j -els.flatten.length<HN.length:=(by rw[yv.1];omega);have AR:o'+j=o'+els.length*N+(j -els.flatten.length):=(by rw[af] at D ⊢;omega);refine⟨.inr ⟨rfl,by omega,by omega⟩,by rw[AR];exact my _ IZ,?_⟩;exact y1 _ (Qb (by rw[<-yv.1];exact IZ))
            . rw[Ex] at Y ⊢;rw[ak];by_cases D:j<els.flatten.length
              . rw[if_pos D,if_pos D];exact(J j D).ext S
              rw[if_neg D,if_neg D];simp only[Aq] at Y;exact(yv.2 (j -els.flatten.length) A0).ext S
            refine⟨⟨b,o'+els.length*N+HN.length,0,l.ext -HN.length⟩,by simp only[Gh.eG,aB.bB,if_true],rfl,?_,rfl,?_⟩
            . simp only[Q,Bn];omega
            simp only[Q];rw[ay,<-TP,Nat.add_sub_cancel_left];congr 1;omega
           exact TL false (els:=els) (os:=Mc) hk xq eY rfl eu e1 ad (ae rfl) yV IY
         cases h
     cases h
   . rename_i id N off len cap f;rw[f] at K;split at h
     . rename_i hc;obtain⟨rfl,IY,bp⟩:=hc;split at h
       . rename_i cs eU hg;generalize eY:a.eval x=u at K
         cases K with
         |sl _ _ _ _ _ V l U Q iP pI=>
          obtain⟨a1,a2,a3,a4,a5⟩:=L.cells id l cs eU U hg;obtain⟨ca,T,fz,b1,b2,b3⟩:=L.room id l U (.inl ⟨cs,eU,hg⟩);split at h
          . rename_i yV;split at h
            . rename_i bs;simp only[Aj,An] at h;obtain⟨rfl,rfl⟩:=h;have ay:HN.length=ys.length*N:=(by rw[yv.1,Z]);have bb:len*N+ys.length*N<=cap*N:=by rw[<-Bn];exact Bc _ yV
              obtain⟨w',hr,hu⟩:=fX P l.dE (l.base+off+len*N) HN 0 w ⟨ca,T,fz,b1,by omega⟩
               (fun j Y=>by rw[Cv,Bm,Bm];exact b3 (off+(len*N+j)) A0) (pZ yv y1)
              rw[Cv,Bm] at hu;obtain⟨r1,r2⟩:=L.store U hg yv y1 (by rw[Z];omega) hu;refine⟨.value (.slice (some ⟨l.dE,l.base+off,none⟩) (len+ys.length) V),.slice (some ⟨l.dE,l.base+off,none⟩) (len+ys.length) V,w',G,gZ eY ?_,.inl rfl,r1,r2,VR.sl id N off (len+ys.length) cap V l U yV iP pI⟩;have :=rC (P:=P) (ty:=o.type) (base:=some ⟨l.dE,l.base+off,none⟩) (sLen:=len) (sCap:=V) W nL h2 hd WC ar A0;exact ZbV
            cases h
          rename_i yV;split at h
          . rename_i BZ;obtain⟨I,c2⟩:=BZ
            have bq:V=cap:=by
             rcases pI with pI|⟨p1,p2,p3⟩
             . exact pI
             rcases c2 with c2|c2
             . have :=a3 c2;have ba:V*N=cap*N:=A0;exact Nat.eq_of_mul_eq_mul_right bp ba
             omega
            subst bq
            obtain⟨eu,e1,_,Mc,ev',ag⟩:=pT P L.drew (sz:=N) (x:=.sl id N off len V) (ys:=gE N len (cs.drop off)) (by
             have aE:H.eV id=some cs:=by simp[aB.eV,hg]
             simp[dM,aE,I]) (VR.sl id N off len V V l U Q iP pI:VR G w _ _).drew
            have ad:jD G w (gE N len (cs.drop off)).flatten Mc:=⟨ev'.1,fun j Y=>(ev'.2 j Y).mono (fun _ _ h=>h) (fun b o F=>⟨F,rfl⟩)⟩;obtain⟨f1,f2,f3⟩:=mB N len (cs.drop off) Zag;have af:=length_flatten eu
            have ae:(Builtin.firstCells N len (.slice (some ⟨l.dE,l.base+off,none⟩) len V)).run P {w with drawn:=w.drawn+1}=.ok Mc.toArray {w with drawn:=w.drawn+1}:=by rw[ag len A0,ye (by rw[ev'.1,af,f2])]
            simp only[Aj] at h;have :=TL mu (els:=gE N len (cs.drop off)) (os:=Mc) L (Ext.refl G H w) eY f2 eu e1 ad ae A0 IY;rw[h] at this;exact this
          split at h
          . rename_i bf;obtain⟨b9,bn,bc,Oi⟩:=bf;subst b9 bn bc;simp only[Aj,An] at h;obtain⟨rfl,rfl⟩:=h
            obtain⟨eu,e1,_,Mc,ev',ag⟩:=pT P L.drew (sz:=N) (x:=.sl id N 0 len len) (ys:=gE N len (cs.drop 0)) (by
             have aE:H.eV id=some cs:=by simp[aB.eV,hg]
             simp[dM,aE,Oi]) (VR.sl id N 0 len len V l U Q iP pI:VR G w _ _).drew
            have ad:jD G w (gE N len (cs.drop 0)).flatten Mc:=⟨ev'.1,fun j Y=>(ev'.2 j Y).mono (fun _ _ h=>h) (fun b o F=>⟨F,rfl⟩)⟩;obtain⟨f1,f2,f3⟩:=mB N len (cs.drop 0) Zag;have af:=length_flatten eu
            have ae:(Builtin.firstCells N len (.slice (some ⟨l.dE,l.base+0,none⟩) len V)).run P {w with drawn:=w.drawn+1}=.ok Mc.toArray {w with drawn:=w.drawn+1}:=by rw[ag len A0,ye (by rw[ev'.1,af,f2])]
            have bj:(gE N len (cs.drop 0)).flatten=cs:=(by rw[f1,Eo,Bd A0]);have nD:H.live id:=⟨_,hg,rfl⟩;have hk:=L.kill id;have xq:=(Ext.refl G H w).kill id;by_cases VC:len+ys.length<=V
            ·
             have bo:len*N=l.WO/\len<=V/\V*N=l.ext:=by
              rcases pI with X|⟨p1,p2,p3⟩
              . omega
              exact⟨by omega,p2,by omega⟩
             obtain⟨g1,g2,g3⟩:=bo;have ay:HN.length=ys.length*N:=(by rw[yv.1,Z]);have bb:len*N+ys.length*N<=V*N:=by rw[<-Bn];exact Bc _ VC
             obtain⟨w',hr,hu⟩:=fX P l.dE (l.base+0+len*N) HN 0 w ⟨ca,T,fz,b1,by omega⟩
              (fun j Y=>by rw[Cv,Cv,Bm];exact b3 (len*N+j) A0) (pZ yv y1)
             rw[Cv,Cv] at hu
             have mZ:∀j,j<HN.length->¬G.iA l.dE (l.base+len*N+j):=fun j Y=>by rw[Bm];exact L.kI id l U nD _ A0
             have uZ:∀lZ l',G.loc lZ=some l'->(H.set id .dead).live lZ->l.dE≠l'.dE\/l.base+l.ext<=l'.base\/l'.base+l'.ext<=l.base:=fun lZ l' pK R=>by
              rcases aB.mM.1 R with ⟨_,X⟩|⟨cU,R⟩
              . cases X
              exact L.lL id lZ l l' (Ne.symm cU) U pK nD R
             have M:=hk.write hu mZ (fun lZ l' pK R=>by
              rcases uZ lZ l' pK R with sN|sN|sN
              . exact .inl (Ne.symm sN)
              . exact .inr (.inr A0)
              exact .inr (.inl A0)) ⟨ca,T,fz,b1⟩
             have B:w.heap.size<=l.dE\/∃fO l0,G.loc fO=some l0/\H.live fO/\l0.dE=l.dE:=.inr ⟨id,l,U,nD,rfl⟩;have ZF:=xq.write hu mZ L.iE B;obtain⟨aF,u1,u2,u3,u4⟩:=hu.row ca T fz b1
             have my:∀j,j<HN.length->w'.cell? ⟨l.dE,l.base+len*N+j,none⟩=some (HN.getD j undef):=fun j Y=>by rw[nO u1];exact u4 j Y A0
             have Mn:(cs++ys.flatten).length=(len+ys.length)*N:=by rw[Aq,Oi,Z,Bn]
             have ak:∀j,(cs++ys.flatten).getD j aC=if j<cs.length then cs.getD j aC else ys.flatten.getD (j -cs.length) aC:=fun j=>by rw[getD_eq,Dp];split<;>rfl
             have S:=ZF.PU (.cells (cs++ys.flatten) true) ⟨l.dE,l.base,(cs++ys.flatten).length,l.ext⟩ M.lt B
             have aA:=M.PU (.cells (cs++ys.flatten) true) ⟨l.dE,l.base,(cs++ys.flatten).length,l.ext⟩ uZ
              (fun j Y F=>L.kI id l U nD j Y F)
              (fun FY br A=>by
                simp only[eS.cells.injEq] at A;obtain⟨rfl,rfl⟩:=A;refine⟨rfl,(by simp only;rw[Mn,Bn];omega),(fun X=>(by cases X)),fun c hc=>(Ar.1 hc).elim (a4 c) (y1 c),fun j Y=>?_⟩;rw[ak];by_cases D:j<cs.length
                . rw[if_pos D];obtain⟨u,v1,v2⟩:=a5 j D;exact⟨u,(show w'.cell? ⟨l.dE,l.base+j,none⟩=some u from hu.cell (.inr (.inl A0)) v1),v2.ext ZF⟩
                rw[if_neg D];simp only[Aq] at Y;have IZ:j -cs.length<HN.length:=(by rw[yv.1];omega);have AR:l.base+j=l.base+len*N+(j -cs.length):=A0;refine⟨_,(show w'.cell? ⟨l.dE,l.base+j,none⟩=_ from ?_),(yv.2 (j -cs.length) A0).ext ZF⟩;rw[AR]
                exact my _ IZ)
              (fun _=>⟨aF,T,fz,u1,by simp only;omega,fun j Y=>by
                simp only at Y ⊢;rw[hu.frozen b1]
                exact b3 j Y⟩) (fun A=>by cases A)
             refine⟨.value (.slice (some ⟨l.dE,l.base+0,none⟩) (len+ys.length) V),.slice (some ⟨l.dE,l.base+0,none⟩) (len+ys.length) V,w',_,gZ eY ?_,.inl rfl,aA,S,?_⟩
             . have :=rC (P:=P) (ty:=o.type) (base:=some ⟨l.dE,l.base+0,none⟩) (sLen:=len) (sCap:=V) W nL h2 hd WC ar VC;exact ZbV
             exact VR.sl H.next N 0 (len+ys.length) (len+ys.length) V ⟨l.dE,l.base,(cs++ys.flatten).length,l.ext⟩ (by simp only[Gh.eG,aB.bB,if_true]) (Ad _)
              (by simp only;rw[Mn];omega) (.inr ⟨by simp only;rw[Mn];omega,VC,by simp only;omega⟩)
            have hn:=TL true (els:=gE N len (cs.drop 0)) (os:=Mc) hk xq eY f2 eu e1 ad ae VC IY
            have e0:lE (H.set id .dead) true N (gE N len (cs.drop 0)++ys)=(.sl H.next N 0 (len+ys.length) (len+ys.length),(H.set id .dead).alloc (.cells (cs++ys.flatten) true)):=by simp only[lE,if_true,Aq,f2,Ex,bj,aB.bB]
            rw[e0] at hn;exact hn
          cases h
       cases h
     cases h
   cases h
 cases h
end
end
section
theorem qQ(zs:List AV):∀(n k:Nat),k<n*zs.length->(List.replicate n zs).flatten.getD k aC=zs.getD (k%zs.length) aC
 |0,k,h=>by omega
 |n+1,k,h=>by
  rw[Iq,Cb,getD_eq,Dp];rw[Cy] at h;by_cases E:k<zs.length
  . simp[if_pos,E,Bk]
  rw[if_neg E];have :=qQ zs n (k -zs.length) A0;rw[getD_eq] at this;rw[this,<-Nat.mod_eq_sub_mod A0]
theorem Tu{G:Gh}{w:World}{zs:List AV}{z:Array Value}(h:jD G w zs z.toList)(p:1<=zs.length)(n m:Nat)(t:m=n*zs.length):
 jD G w (List.replicate n zs).flatten ((Array.range m).map fun i=>z[i%z.size]!).toList:=by
 have U:=h.1;refine⟨by simp[*],fun k E=>?_⟩;have q:k<n*zs.length:=by simp_all
 rw[qQ zs n k q,sY];have a:k%zs.length<zs.length:=Bz _ p;have :=h.2 (k%zs.length) a
 grind
section
variable {P:Program} {g:bL} {o:Oper}
variable{zs:List AV}
theorem HF(O:∀c∈zs,c.one=true)(n:Nat):∀c∈(List.replicate n zs).flatten,c.one=true:=fun c R=>by grind[List.mem_flatten]
theorem ZA(n:Nat)(h:n<=2^40):IntKind.i64.wrap (n:Int)=(n:Int):=by
 have X:IntKind.i64.bits=64:=rfl;unfold IntKind.wrap
 grind
variable{t e:TypeId}{sz:Nat}{i:TypeInfo}{z:Value}{x y:Operand}{D J:Arg}
theorem Nf(S:o.op=.makeSlice t x y)(C:bN g x=some D)(hy:bN g y=some J)(W:oP P t=some (e,sz))
 (F:P.info? e=some i) (hz:nG P e=some z) (Z:lC z.cells.toList=some zs) (AR:1<=sz) (q:1<=i.bytes):GM P g o (.mJ sz i.bytes zs D J):=by
 intro s a G H H' w ob val d L M h E dB V r;have K:=bM L M C;have O:=bM L M hy;obtain⟨B,A⟩:=mD W;simp only[BX] at h;split at h
 . rename_i l c U R;obtain⟨k1,T,u⟩:=uR U K;obtain⟨k2,e2,f2⟩:=uR R O;split at h
   . rename_i p;obtain⟨I,X,c3⟩:=p;obtain⟨rfl,rfl⟩:=h;have k:=nP Z G w
     have b:c<=2^40:=by have :1*c<=i.bytes*c:=Bc _ q;omega
     have w1:=ZA l A0;have w2:=ZA c b;have j:1<=zs.length:=A0;have v:=Tu k.1 j c (c*sz) (by rw[c3]);have m:jG w {w with heap:=w.heap.push (.cells ((Array.range (c*sz)).map fun i=>z.cells[i%z.cells.size]!) e)} (.cells (((Array.range (c*sz)).map fun i=>z.cells[i%z.cells.size]!).toList++[]).toArray e (0,0)):=⟨by rw[Bx,Array.toArray_toList],.now⟩;have hm:=L.zQ d E _ _ [] v (HF k.2 c) false (fun _=>rfl) dB V r (Clear.zero _) m;refine⟨.slice (some ⟨w.heap.size,0,none⟩) l c,_,_,?_,hm,?_⟩
     . have t1:(decide ((c:Int)<0)||decide ((i.bytes:Int)*(c:Int)>2^48))=false:=by
        simp;omega
       have t2:¬((l:Int)<0):=A0;have Y:¬((l:Int)>(c:Int)):=A0;simp only[execOp,S,Instr.makeSlice,Sem.run_bind,run_underlying B w,Result.andThen_ok,u,f2,asInt,asIntOf,Sem.run_pure,xZ F w,w1,w2,t1,Ac t2,Ac Y,Lc,Br,Db,run_askRoom,Int.toNat_natCast,fC A w];by_cases N:c*sz=0
       . have n:∀f:Nat->Value,(Array.range 0).map f= #[]:=fun f=>by simp
         simp only[N,if_true,Sem.run_bind,Sem.run_pure,Result.andThen_ok,n];rfl
       simp only[N,Db,Sem.run_bind,mQ hz w,Sem.run_pure,Result.andThen_ok];rfl
     have Q:(List.replicate c zs).flatten.length=c*sz:=(by simp[c3]);refine VR.sl d sz 0 l c c ⟨w.heap.size,0,(List.replicate c zs).flatten.length,(((Array.range (c*sz)).map fun i=>z.cells[i%z.cells.size]!).toList++[]).length⟩ (by simp only[Gh.eG,if_true]) I (by simp only[Q];omega) (.inl rfl)
   cases h
 cases h
theorem eo(S:o.op=.makeSlice t x y)(C:bN g x=some D)(Q:bN g y=some J)(W:oP P t=some (e,sz))
 (F:P.info? e=some i) (s:nG P e=some z) (Z:lC z.cells.toList=some zs) (p:1<=sz) (q:1<=i.bytes):cV P g o (.mJ sz i.bytes zs D J):=
 (Nf S C Q W F s Z p q).op fun _ _=>rfl
theorem aGc:∀{l:List (Nat×Operand)} {k:Nat} {ys:List Arg},LX g k l=some ys->ys.length=l.length:=by
 intro l
 induction l with
 |nil=>intro k ys h;obtain rfl:=Aa h;rfl
 |cons p r K=>grind[LX]
def Vj(N:Bool)(sz:Nat)(ys:List Arg):Bool:=N&&Nat.beq sz 1&&(match ys with|[.const (.str [])]=>true|_=>false)
variable{N:Bool}{len:Nat}{q:Array (Nat×Operand)}{ys:List Arg}
theorem Pv(S:o.op=.buildSlice t len q)(W:oP P t=some (e,sz))(l:nG P e=some z)
 (Q:len=q.size) (T:len*sz<=2^24) (m:LX g 0 q.toList=some ys) (V:Vj N sz ys=true):GM P g o (.mJ 1 1 [.str []] (.const (.int .i64 1)) (.const (.int .i64 1))):=by
 intro s a G H H' w k val d L M h f u v r;obtain⟨B,A⟩:=mD W;simp only[Vj,Ak] at V;obtain⟨⟨_,i⟩,E⟩:=V;obtain rfl:sz=1:=Ch i
 have E:ys=[.const (.str [])]:=by
  split at E
  . rfl
  cases E
 subst E;have X:q.size=1:=by have :=aGc m;simpa using this.symm
 obtain rfl:len=1:=by omega
 have b:k=.cells [.str []] false/\val=fun id=>.sl id 1 0 1 1:=by
  have e:BX (Arg.eval g s) (.mJ 1 1 [.str []] (.const (.int .i64 1)) (.const (.int .i64 1)))=some (.cells [.str []] false,fun id=>.sl id 1 0 1 1):=by simp[BX,Arg.eval,asNat]
  rw[e] at h;simp only[Aj,An] at h;exact⟨h.1.symm,h.2.symm⟩
 obtain⟨rfl,rfl⟩:=b;obtain⟨C,p,J,O⟩:=Pt L M 1 q.toList [.const (.str [])] 0 [[.str []]] [] ((Array.range (1*1)).map (z.cells[· %z.cells.size]!)) m rfl A3 (by simp[X]) (fun j Y=>by simp at Y) (fun c R=>by cases R);have x:jG w {w with heap:=w.heap.push (.cells C e)} (.cells (C.toList++[]).toArray e (0,0)):=⟨by simp,.now⟩;have n:=L.zQ d f [.str []] C.toList [] J O false (fun _=>rfl) u v r (Clear.zero _) x;refine⟨.slice (some ⟨w.heap.size,0,none⟩) 1 1,_,_,?_,n,?_⟩
 . simp only[execOp,S,Instr.buildSlice,Sem.run_bind,run_underlying B w,fC A w,Result.andThen_ok,if_neg (show ¬1*1>2^24 by omega),if_neg (show ¬1*1=0 by omega),mQ l w,Sem.run_pure,Ie,p];rfl
 exact VR.sl d 1 0 1 1 1 ⟨w.heap.size,0,1,(C.toList++[]).length⟩ (by simp only[Gh.eG,if_true];rfl) (Ad _) A3 (.inl rfl)
theorem yz(S:o.op=.buildSlice t len q)(W:oP P t=some (e,sz))(s:nG P e=some z)
 (Q:len=q.size) (T:len*sz<=2^24) (m:LX g 0 q.toList=some ys) (V:Vj N sz ys=true):cV P g o (.mJ 1 1 [.str []] (.const (.int .i64 1)) (.const (.int .i64 1))):=
 (Pv S W s Q T m V).op fun _ _=>rfl
variable{c:Call}
theorem aOi{m:TypeId}(S:o.op=.call c)(R:c.callee=.builtin .copy)(I:c.args= #[x,y])
 (C:bN g x=some D) (hy:bN g y=some J) (O:c.argTypes[0]?=some t) (W:P.underlying t=some (.slice m)) (nL:lV P m=some sz):cV P g o (.copy sz D J):=by
 intro s a G H w v H' L M h;have K:=bM L M C;have z:=bM L M hy;simp only[dU] at h
 have b:∀{p:Option Addr} {dl dc:Nat} {n:Nat} {vs:List Value},a.eval x=.slice p dl dc->(Builtin.lenOf (a.eval y)).run P w=.ok n w->(Builtin.firstCells sz (Nat.min n dl) (a.eval y)).run P w=.ok vs.toArray w->
  ∀{w':World},((match p with|some q=>storeCells q vs|none=>pure ():Sem Unit).run P w=.ok () w')->(execOp a.eval o).run P w=.ok (.value (.int .i64 (Nat.min n dl:Nat))) w':=by
  intro p dl dc n vs eY U hf w' V;simp only[execOp,S,resolve,R,I,List.map_toArray,Bw,Er,eY,Sem.run_bind,Sem.run_pure,Result.andThen_ok,invoke,builtin,Builtin.copy_,O,Ez,Gk,Fo,run_underlying W w,U,fC nL w,hf]
  cases p with
  |none=>simp at V;subst V;simp[goInt]
  |some q=>simp only at V;simp[V,goInt]
 split at h
 . rename_i ys E f;rw[f] at K;generalize eY:a.eval x=u at K;cases K;simp only[Aj,An] at h;obtain⟨rfl,rfl⟩:=h;obtain⟨A,e,WC,k,F,X⟩:=pT P L E z
   have :=b eY WC (vs:=[]) (by
    have :=X 0 (Bh _);rw[show Nat.min ys.length 0=0 from Nat.min_zero _]
    simpa using this) (w':=w) rfl
   exact cV.pure' L this (.int _ _)
 . rename_i ys id N off len cap E f;rw[f] at K;obtain⟨A,e,WC,k,F,X⟩:=pT P L E z;split at h
   . rename_i ad;subst ad;split at h
     . rename_i cs r d;split at h
       . rename_i iP;simp only[Aj,An] at h;obtain⟨rfl,rfl⟩:=h;generalize eY:a.eval x=u at K
         cases K with
         |sl _ _ _ _ _ lK l U Q aj pI=>
          obtain⟨a1,a2,a3,i,a5⟩:=L.cells id l cs r U d;obtain⟨ca,T,fz,b1,b2,b3⟩:=L.room id l U (.inl ⟨cs,r,d⟩);have Z:=length_flatten A;have ab:min ys.length len<=ys.length:=Ik _ _;have ae:min ys.length len*N<=ys.length*N:=Bc _ ab;have af:=F.1;have a6:(ys.take (min ys.length len)).flatten=ys.flatten.take (min ys.length len*N):=KS A _;have a7:=F.take (min ys.length len*N);rw[<-a6] at a7;have ag:(k.take (min ys.length len*N)).length=min ys.length len*N:=by simp;omega
          obtain⟨w',V,B⟩:=fX P l.dE (l.base+off) (k.take (min ys.length len*N)) 0 w ⟨ca,T,fz,b1,by omega⟩
           (fun j Y=>by rw[Cv,Bm];exact b3 (off+j) A0) (pZ a7 (fun c R=>by
             rw[a6] at R
             exact e c (Cu R)))
          obtain⟨r1,r2⟩:=L.store U d a7 (fun c R=>by rw[a6] at R;exact e c (Cu R)) (by rw[a6];simp;omega) B;refine⟨_,_,w',G,b eY WC (X _ ab) V,.inl rfl,r1,r2,.int _ _⟩
       cases h
     cases h
   cases h
 cases h
theorem bCh{m:TypeId}(S:o.op=.call c)(R:c.callee=.builtin .clear)(I:c.args= #[x])
 (C:bN g x=some D) (O:c.argTypes[0]?=some t) (W:P.underlying t=some (.slice m)) (hz:nG P m=some z) (Z:lC z.cells.toList=some zs):cV P g o (.clr sz zs D):=by
 intro s a G H w v H' L M h;have K:=bM L M C
 have b:∀{u:Value} {w':World},a.eval x=u->(Builtin.clear_ c.argTypes o.type #[u]).run P w=.ok (.tuple #[]) w'->(execOp a.eval o).run P w=.ok (.value (.tuple #[])) w':=by intro u w' q V;simp[execOp,S,resolve,R,I,invoke,builtin,q,V]
 simp only[dU] at h;split at h
 . exact Zax
 . rename_i f;rw[f] at K;generalize q:a.eval x=u at K;simp only[Aj,An] at h;obtain⟨rfl,rfl⟩:=h;cases K<;>exact cV.pure' L (b q (by simp[Builtin.clear_,O,run_underlying W w])) (VR.oQ G w)
 . exact Zax
 . rename_i id N off len cap a6 f;rw[f] at K;split at h
   . rename_i A;obtain⟨A,J⟩:=A;subst A;split at h
     . rename_i cs r d;split at h
       . rename_i y;simp only[Aj,An] at h;obtain⟨rfl,rfl⟩:=h;generalize q:a.eval x=u at K
         cases K with
         |sl _ _ _ _ _ lK l U Q ab pI=>
          obtain⟨a1,a2,a3,a4,a5⟩:=L.cells id l cs r U d;obtain⟨p,T,fz,b1,b2,b3⟩:=L.room id l U (.inl ⟨cs,r,d⟩);have k:=nP Z G w;have X:z.cells.size=zs.length:=(by simpa using k.1.1);have i:(List.replicate len zs).flatten.length=len*N:=by simp[J]
          have E:jD G w (List.replicate len zs).flatten (Builtin.zeroCells z.cells len).toList:=by
           by_cases a7:0<N
           . exact Tu k.1 A0 len (len*z.cells.size) (by rw[X])
           have h0:N=0:=A0;have SD:zs=[]:=Jo.1 A0;refine⟨?_,fun j Y=>?_⟩
           . rw[i];simp[Builtin.zeroCells,X,J]
           rw[i,h0,Nat.mul_zero] at Y;omega
          have xQ:=HF k.2 len;have F:=E.1
          obtain⟨w',V,B⟩:=fX P l.dE (l.base+off) (Builtin.zeroCells z.cells len).toList 0 w ⟨p,T,fz,b1,by omega⟩
           (fun j Y=>by rw[Cv,Bm];exact b3 (off+j) A0) (pZ E xQ)
          obtain⟨r1,r2⟩:=L.store U d E xQ (by rw[i];exact y) B;have WJ:len≠0:=fun e=>a6 e;refine⟨_,_,w',G,b q ?_,.inl rfl,r1,r2,VR.oQ G w'⟩
          cases len with
          |zero=>exact absurd rfl WJ
          |succ n=>simp only[Builtin.clear_,O,Ez,Gk,Sem.run_bind,run_underlying W w,Result.andThen_ok,mQ hz w,V,Sem.run_pure]
       cases h
     cases h
   cases h
 cases h
theorem aGx{I A:TypeId}(S:o.op=.convert I A x)(C:bN g x=some D)(cd:P.underlying I=some (.slice e))(k:P.underlying A=some .string)
 (z:P.underlying e=some (.int .u8)):cV P g o (.GO D):=by
 intro s a G H w v H' L M h;have K:=bM L M C;simp only[dU] at h;generalize ak:Arg.eval g s D=i at K h;split at h
 . cases h
 rename_i aj;split at h
 . rename_i els d;simp only[Ae,An] at h;obtain⟨N,f,rfl,rfl⟩:=h;obtain⟨eu,e1,ar,a7,ev,t⟩:=pT P L d K;have c:=length_flatten eu;have aq:a7.length=els.length:=by rw[ev.1,c,Df]
   have a6:=t els.length (Ad _);rw[Df,Bd A0] at a6
   have key:∀(els:List (List AV)) (N:List UInt8),bytesOf els=some N->∃W:List Int,els.flatten=W.map (fun n=>AV.int .u8 n)/\N=W.map fun n=>UInt8.ofNat n.toNat:=by
    intro els
    induction els with
    |nil=>intro N X;obtain rfl:=Aa X;exact⟨[],rfl,rfl⟩
    |cons e r ih=>
     intro N X
     match e,X with
     |[.int .u8 n],X=>simp only[bytesOf,Ae] at X;obtain⟨af,GC,rfl⟩:=X;obtain⟨W,h1,Z⟩:=ih af GC;exact⟨n::W,by simp[h1],by simp[Z]⟩
   obtain⟨W,k1,k2⟩:=key els N f
   have R:a7=W.map (fun n=>Value.int .u8 n):=by
    apply Gd;intro j;have an:els.flatten.length=W.length:=(by rw[k1];simp);by_cases Y:j<W.length
    . have :=ev.2 j A0;rw[k1] at this;have e2:(W.map fun n=>AV.int .u8 n).getD j aC=.int .u8 (W[j]):=(by simp[getD_eq,Y]);rw[e2] at this;have :=this.jK;rw[yS a7 undef j (by rw[ev.1];omega),this];simp[Y]
    rw[Cr (by rw[ev.1];omega),Cr Zag]
   have ag:VR G w (.str N) (.string ⟨N.toArray⟩):=VR.Vs _ _ _
   have p:∀u:Value,a.eval x=u->(convert I A u).run P w=.ok (.string ⟨N.toArray⟩) w->∃n u w' E,(execOp a.eval o).run P w=.ok n w'/\SX n u/\WR g E H w'/\Ext G H w E H w'/\VR E w' (.str N) u:=fun u B V=>cV.pure' L (by simp[execOp,S,B,V]) ag
   generalize q:a.eval x=u at K a6
   have ab:∀{b o' len cap:Nat},u=.slice (some ⟨b,o',none⟩) len cap->len=els.length->(convert I A u).run P w=.ok (.string ⟨N.toArray⟩) w:=by
    intro b o' len cap ad pK;subst ad pK
    have ae:(loadCells ⟨b,o',none⟩ els.length).run P w=.ok (W.map (Value.int .u8)).toArray w:=by rw[R] at a6;simpa [Builtin.firstCells] using a6
    rw[run_convert_bytes_string w I A e _ els.length cap cd z k,run_bytesToString w _ els.length cap W ae,foldl_push_bytes,k2];simp[ByteArray.empty,ByteArray.emptyWithCapacity];rfl
   cases K with
   |bG=>simp[dM] at d;subst d;simp[bytesOf] at f;subst f;refine p _ q ?_;simp only[convert,Sem.run_bind,run_underlying cd w,run_underlying k w,Result.andThen_ok,run_underlying z w,Conv.bytesToString];rfl
   |bK tag fH DC b o' cap us WK hh J vE=>
    simp only[dM] at d;split at d
    . obtain rfl:=Aa d;exact p _ q (ab rfl rfl)
    cases d
   |wE tag fH b o' s' vE=>
    simp only[dM] at d;split at d
    . obtain rfl:=Aa d;simp[bytesOf] at f;subst f;refine p _ q ?_;rw[run_convert_bytes_string w I A e _ 0 0 cd z k,run_bytesToString w _ 0 0 [] (by simp[loadCells,loadCellsFrom])];rfl
    cases d
   |sl id fH off len cap lK l U Q y T=>
    refine p _ q (ab rfl ?_);simp only[dM] at d;split at d
    . split at d
      . split at d
        . rename_i F m;obtain rfl:=Aa d;rename_i O cs;have :=(mB 1 len (cs.drop off) Zag).2.1;omega
        cases d
      cases d
    cases d
   |str s=>exact absurd rfl (aj _)
   |_=>simp[dM] at d
 cases h
end
end
section
section
variable {P:Program} {g:bL} {o:Oper}
theorem YP(h:Array Go.Obj)(x:Go.Obj)(f:Go.Obj->Go.Obj):(h.push x).modify h.size f=h.push (f x):=by grind
variable{x:Operand}{D:Arg}
theorem TC{I A e:TypeId}(S:o.op=.convert I A x)(C:bN g x=some D)(l:P.underlying I=some .string)(k:P.underlying A=some (.slice e))
 (z:P.underlying e=some (.int .u8)):GM P g o (.EG D):=by
 intro s a G H H' w ob val d L M h f c V Z;have K:=bM L M C;simp only[BX] at h;split at h
 . rename_i n v;rw[v] at K;have q:=K.jL;simp only[Aj,An] at h;obtain⟨rfl,rfl⟩:=h;have O:(⟨n.toArray⟩:ByteArray).size=n.length:=by simp[ByteArray.size]
   obtain⟨cap,N,R⟩:=EE (P:=P) (need:=n.length) (WM:=0) (e:=e) w
   let vs:List Value:=n.map fun b=>.int .u8 b.toNat
   let rest:List Value:=List.replicate (cap -n.length) (.int .u8 0);let w':World:={w with heap:=w.heap.push (.cells (vs++rest).toArray e (cap,cap+1)),drawn:=w.drawn+1}
   have i:(ZM n).flatten=n.map fun b=>AV.int .u8 b.toNat:=by
    unfold ZM;clear v K q O N R
    induction n with
    |nil=>rfl
    |cons b r W=>simp[W]
   have F:vs.length=n.length:=(by simp[vs]);have X:rest.length=cap -n.length:=by simp[rest]
   have J:jD G w (ZM n).flatten vs:=by rw[i];refine⟨by simp[vs],fun j Y=>?_⟩;simp at Y;simp only[vs,getD_eq,Dw,Ai Y,Cq,By];exact .int _ _
   have m:jG w w' (.cells (vs++rest).toArray e (cap,cap+1)):=⟨rfl,.now⟩
   obtain⟨E,U,t,r3⟩:=L.Tf d f _ vs rest J c V Z (fz:=(cap,cap+1)) (fun o' T=>by
    simp only[Gw,Aq,F,X] at T
    simp;omega) m
   have WK:∀x∈ZM n,x.length=1:=fun x C=>by simp only[ZM,Be] at C;obtain⟨b,_,rfl⟩:=C;rfl
   have Q:(ZM n).length=n.length:=(by simp[ZM]);have y:(ZM n).flatten.length=n.length:=(by rw[i];simp);refine⟨.slice (some ⟨w.heap.size,0,none⟩) n.length cap,w',E,?_,t,?_⟩
   . have B:(convert I A (.string ⟨n.toArray⟩)).run P w=(Conv.stringToBytes e ⟨n.toArray⟩).run P w:=by
      simp only[convert,Sem.run_bind,run_underlying l w,run_underlying k w,Result.andThen_ok,run_underlying z w]
     have p:(((⟨n.toArray⟩:ByteArray).data.map fun b=>(Value.int .u8 b.toNat))++Array.replicate (cap -n.length) (.int .u8 0))=(vs++rest).toArray:=by simp[vs,rest]
     have u:(Conv.stringToBytes e ⟨n.toArray⟩).run P w=.ok (.slice (some ⟨w.heap.size,0,none⟩) n.length cap) w':=by simp only[Conv.stringToBytes,O,Sem.run_bind,R,Result.andThen_ok,p];simp only[newRow,newObj,markStringish,shape,freeze,Sem.run_bind,Sem.run,Result.andThen_ok,World.shape?,Array.getElem?_push_size,World.freeze,Nat.one_ne_zero,Db,Sem.run_pure];rw[YP];simp only[Gw,Aq,F,X];have :n.length+(cap -n.length)=cap:=A0;simp[this,w']
     simp[execOp,S,q,B,u]
   have :=VR.bK (G:=E) (w:=w') (d+2) 1 (ZM n) w.heap.size 0 cap (fun j=>vs.getD j undef) WK (fun j Y=>⟨(r3 j Y).1,(r3 j Y).2.1,by
    rw[i] at Y ⊢;simp at Y;simp only[getD_eq,Dw,Ai Y,Cq,By]
    rfl⟩) (fun j Y=>(r3 j Y).2.2) ⟨by omega,⟨_,U,rfl,by simp only[y,Q];omega,rfl,by simp only[X,Q,Df]⟩⟩
   rw[Q] at this;exact this
 cases h
theorem aHf{I A e:TypeId}(S:o.op=.convert I A x)(C:bN g x=some D)(l:P.underlying I=some .string)(k:P.underlying A=some (.slice e))
 (z:P.underlying e=some (.int .u8)):cV P g o (.EG D):=
 (TC S C l k z).op fun _ _=>rfl
variable{G:Gh}{H H':aB}{w w':World}
theorem WR.FN(h:WR g G H w)(d:Nat)(o:eS)(x:Go.Obj)(S:o.dE=true)(f:G.loc d=none)(c:∀m,H'.get m=if m=d then some o else H.get m)(V:H.next<=H'.next)(M:d<H'.next)
 (p:jG w w' x) (P:(∀a u,VR G w a u->VR G w' a u)->MQ g G w' ⟨w.heap.size,0,0,1⟩ o):Made g G H w d o (G.eG d ⟨w.heap.size,0,0,1⟩) H' w':=by
 have e:=h.JI p;have z:=Ext.JI h p
 refine⟨e.KJ d _ _ f c V M (fun id l' U J=>.inl (Ne.symm (Nat.ne_of_lt (h.mE U J)))) (fun j _ F=>?_) (fun t k A=>by rw[A] at S;cases S) (fun hh=>?_) (fun _=>?_),
  ⟨⟨w.heap.size,0,0,1⟩,rfl,by simp[Gh.eG],fun id s=>by grind[Gh.eG]⟩,fun {G0 H0 w0} e0 Oj=>(e0.trans z).KJ d _ _ f c V Oj (.inl e0.size),fun b o F=>.inl F,fun b o F=>F,p.size,p.WM⟩
 . exact ZbH
 . rcases hh with ⟨_,_,hh⟩|hh<;>rw[hh] at S<;>cases S
 exact⟨rfl,rfl,P fun a u J=>J.mono z.loc z.iA⟩
theorem WR.zk(h:WR g G H w)(d:Nat)(f:G.loc d=none)(c:∀m,H'.get m=if m=d then some (.map []) else H.get m)(V:H.next<=H'.next)(M:d<H'.next)
 (p:jG w w' (.map #[] 0)):Made g G H w d (.map []) (G.eG d ⟨w.heap.size,0,0,1⟩) H' w':=
 h.FN d _ _ rfl f c V M p fun _=>⟨#[],0,p.new,rfl,⟨fun i F=>absurd F (Am i),fun i j F=>absurd F (Am i)⟩,fun j Y=>absurd Y (Am j)⟩
variable{t c vt:TypeId}{r:Option Operand}
theorem Mg(S:o.op=.makeMap t r)(W:P.underlying t=some (.map c vt))(V:r=none\/∃k n,r=some (.const (.int k n))):GM P g o .BT:=by
 intro s a G H H' w z val d L M h f i j e;obtain⟨rfl,rfl⟩:=h;have m:jG w {w with heap:=w.heap.push (.map #[] 0)} (.map #[] 0):=⟨rfl,.now⟩;have b:=L.zk d f i j e m;refine⟨.map (some w.heap.size),_,_,?_,b,?_⟩
 . rcases V with rfl|⟨k,n,rfl⟩
   . simp[execOp,S,Instr.makeMap,newObj,Sem.run]
   simp[execOp,S,Instr.makeMap,run_underlying W w,Act.eval,asInt,asIntOf,newObj,Sem.run]
 exact VR.map d ⟨w.heap.size,0,0,1⟩ (by simp[Gh.eG])
theorem YF(S:o.op=.makeMap t r)(W:P.underlying t=some (.map c vt))(V:r=none\/∃k n,r=some (.const (.int k n))):cV P g o .BT:=
 (Mg S W V).op fun _ _=>rfl
def LQ(P:Program)(t:TypeId):Option Sk:=
 match P.underlying t with
 |some .bool=>some .b
 |some (.int _)=>some .i
 |some .string=>some .s
 |some (.struct _)|some (.array _ _)=>(pQ P 60 t).map .f
 |_=>none
def Ou:Sk->Bool
 |.f _=>false
 |_=>true
variable{k:Sk}
theorem OC{d:TypeDesc}(E:LQ P c=some k)(m:Ou k=true)(hd:P.underlying c=some d){x y:AV}{u v:Value}{b:Bool}(h:sameKey k x y=some b)(C:VR G w x u)(Q:VR G w y v):
 Instr.sameNow d u v=some b:=by
 unfold LQ at E;rw[hd] at E
 cases x<;>cases y<;>simp only[sameKey] at h<;>first
  |(cases h;done)
  |skip
 . cases k<;>simp only[] at h<;>first|(cases h;done)|skip
   obtain rfl:=Aa h;rw[C.lJ,Q.lJ];cases d<;>simp at E<;>rfl
 . cases k<;>simp only[] at h<;>first|(cases h)|skip
   split at h
   . rename_i a;obtain rfl:=Aa h;subst a;rw[C.jK,Q.jK];cases d<;>simp at E<;>simp[Instr.sameNow]
   grind
 . cases k<;>simp only[] at h<;>first|(cases h;done)|skip
   obtain rfl:=Aa h;rw[C.jL,Q.jL];cases d<;>simp at E;simp[Instr.sameNow,Aj,beq_toListBytes,ByteArray.toList_mk]
 cases k<;>simp only[] at h<;>first|(cases h)|(cases m)
theorem BF{α:Type}(P:Program)(w:World)(f:α->PUnit->Sem (ForInStep PUnit)):∀(l:List α),(∀x∈l,∀r,(f x r).run P w=.ok (.yield PUnit.unit) w)->(forIn l PUnit.unit f:Sem PUnit).run P w=.ok PUnit.unit w
 |[],_=>by simp
 |x::l,h=>by simp only[List.forIn_cons,Sem.run_bind,h x A3,Result.andThen_ok];exact BF P w f l fun y Q=>h y (by grind)
theorem JL{P:Program}(w:World)(em:Bool):∀(f:Nat) (t:TypeId) (ks:List Sk),pQ P f t=some ks->∀(d:Nat) (b:Bool) (us:List Value),gR P t=some b->us.length=ks.length->
 (Instr.checkKey em (d+f) t (valOf b us)).run P w=.ok () w:=by
 intro f
 induction f with
 |zero=>intro t ks h;cases h
 |succ f ih=>
  intro t ks h d b us hb hl;rw[show d+(f+1)=(d+f)+1 from rfl,Instr.checkKey];simp only[pQ] at h;split at h
  . exact ZaL
  . exact ZaL
  . exact ZaL
  . rename_i fs hu;split at h
    . cases h
    have hbt:b=true:=(by simp only[gR,hu,Aj] at hb;exact hb.symm);subst hbt;simp only[valOf,if_true,Sem.run_bind,run_underlying hu w,Result.andThen_ok]
    have key:∀(l:List Field) (off:Nat) (yc:List Sk),FR P (pQ P f) off l=some yc->off+yc.length<=us.length->
     ∀x∈l,(if x.name≠ "_" then(do Instr.checkKey em (d+f) x.type (←part x.type us.toArray x.offset)) else pure ():Sem Unit).run P w=.ok () w:=by
     intro l
     induction l with
     |nil=>intro off yc _ _ x hx;cases hx
     |cons fd l ihl=>
      intro off yc hs hi x hx;simp only[FR] at hs;split at hs
      . rename_i hc;split at hs
        . rename_i k hk;split at hs
          . rename_i nL;simp only[Ae] at hs;obtain⟨ks2,hs2,rfl⟩:=hs;simp only[Aq] at hi
            rcases Ba.1 hx with rfl|hx
            . obtain⟨bf,Ur,Us⟩:=BG hk;have p1:=oF nL Ur w (us:=us) (off:=x.offset) A0 Us;simp only[ne_eq,if_pos hc.1,Sem.run_bind,p1,Result.andThen_ok];exact ih x.type k hk d bf _ Ur Zag
            exact ihl (off+k.length) ks2 hs2 A0 x hx
          cases hs
        cases hs
      cases hs
    have h1:=key fs.toList 0 ks h A0
    rw[<-Array.forIn_toList,BF P w _ fs.toList (fun x hx r=>by
     have :=h1 x hx;split at this
     . rename_i hn;rw[if_pos hn];simp only[Sem.run_bind] at this ⊢;generalize (part x.type us.toArray x.offset).run P w=rr at this ⊢
       cases rr with
       |ok p w1=>simp only[Result.andThen_ok] at this ⊢;rw[this];simp
       |halt q w1=>cases this
     rename_i hn;rw[if_neg hn]
     simp)]
    simp
  . rename_i n e hu;have hbt:b=true:=by simp only[gR,hu,Aj] at hb;exact hb.symm
    subst hbt;split at h
    . rename_i k hk;split at h
      . rename_i nL;obtain rfl:=Aa h;obtain⟨bf,Ur,Us⟩:=BG hk;simp only[valOf,if_true,Sem.run_bind,run_underlying hu w,Result.andThen_ok];have hlk:((List.replicate n k).flatten).length=n*k.length:=A3;rw[hlk] at hl;simp only[Std.Legacy.Range.forIn_eq_forIn_range',Std.Legacy.Range.size,Is,Nat.add_one_sub_one,Ho]
        rw[BF P w _ (List.range' 0 n) (fun i hi r=>by
         have rE:i<n:=by have :=List.mem_range'_1.1 hi;omega
         have iP:i*k.length+k.length<=us.length:=by rw[hl,<-Cy];exact Bc _ rE
         have p1:=oF nL Ur w (us:=us) (off:=i*k.length) iP Us
         simp only[Sem.run_bind,fC nL w,Result.andThen_ok,p1,ih e k hk d bf _ Ur (show((us.drop (i*k.length)).take k.length).length=k.length by simp;omega),Sem.run_pure])]
        simp
      cases h
    cases h
  cases h
theorem cz{sh:List Sk}(E:LQ P c=some (.f sh)):pQ P 60 c=some sh/\gR P c=some true/\∃d,P.underlying c=some d/\(∀u v,Instr.sameNow d u v=none):=by
 unfold LQ at E
 split at E<;>rename_i B<;>first
  |(cases E)
  |(simp only[Ae,Sk.f.injEq] at E
    obtain⟨_,O,rfl⟩:=E;refine⟨O,by grind[gR],_,B,fun u v=>?_⟩
    rfl)
theorem run_checkKey(E:LQ P c=some k)(b:Bool)(d:Nat){x:AV}{u:Value}{w:World}(C:VR G w x u)(l:QQ k x=true):
 (Instr.checkKey b (d+60) c u).run P w=.ok () w:=by
 by_cases m:Ou k=true
 . unfold LQ at E;rw[show d+60=(d+59)+1 from rfl,Instr.checkKey]
   split at E<;>rename_i B<;>first
    |(cases E;done)
    |(simp only[Ae] at E;obtain⟨_,_,rfl⟩:=E;cases m)
    |(simp only[Sem.run_bind,run_underlying B w,Result.andThen_ok]
      rfl)
 cases k with
 |f sh=>
  obtain⟨O,Z,_⟩:=cz E
  cases x<;>simp only[QQ] at l<;>first|(cases l)|skip
  obtain⟨us,T,L,_,_⟩:=C.wL;subst T;have :=JL w b 60 c sh O d true us Z (by grind);assumption
 |_=>exact absurd rfl m
theorem Nc{G:Gh}{w:World}{c:TypeId}{k:Sk}{d:TypeDesc}(E:LQ P c=some k)(m:Ou k=true)(hd:P.underlying c=some d){x:AV}{u:Value}(C:VR G w x u):
 ∀(es:List (AV×AV)) (ents:List MapEntry) (i:Nat) (r:Option (Nat×AV)),nS k x es i=some r->ents.length=es.length->
  (∀j,j<es.length->VR G w (es.getD j (aC,aC)).1 (ents.getD j default).key/\VR G w (es.getD j (aC,aC)).2 (ents.getD j default).val)->
  ∃n,Instr.findNow d u ents i=some n/\((r=none/\n=none)\/∃j av S,r=some (j,av)/\n=some (j,S)/\VR G w av S/\i<=j/\j<i+es.length/\sameKey k x (es.getD (j -i) (aC,aC)).1=some true)
 |[],[],i,r,h,hl,hv=>by obtain rfl:=Aa h;exact⟨none,rfl,.inl ⟨rfl,rfl⟩⟩
 |[],_::_,i,r,h,hl,hv=>by grind
 |(y,z)::es,[],i,r,h,hl,hv=>by grind
 |(y,z)::es,e::ents,i,r,h,hl,hv=>by
  have a:=hv 0 A3;simp only[Ce] at a;simp only[nS] at h;split at h
  . rename_i M;obtain rfl:=Aa h;have A:=OC E m hd M C a.1;refine⟨some (i,e.val),by simp[Instr.findNow,A],.inr ⟨i,z,e.val,rfl,rfl,a.2,Ad _,by simp,by grind⟩⟩
  . rename_i M;have A:=OC E m hd M C a.1
    obtain⟨n,O,Z⟩:=Nc E m hd C es ents (i+1) r h (by grind) (fun j Y=>by
     have :=hv (j+1) (by grind)
     grind)
    refine⟨n,by simp_all[Instr.findNow,A],?_⟩
    grind
  grind
theorem Nb{G:Gh}{w:World}{c:TypeId}{sh:List Sk}(E:LQ P c=some (.f sh)){x:AV}{u:Value}(C:VR G w x u):
 ∀(es:List (AV×AV)) (ents:List MapEntry) (i:Nat) (r:Option (Nat×AV)),nS (.f sh) x es i=some r->ents.length=es.length->
  (∀j,j<es.length->VR G w (es.getD j (aC,aC)).1 (ents.getD j default).key/\VR G w (es.getD j (aC,aC)).2 (ents.getD j default).val)->
  ∃n,(Instr.findAsking c u ents i).run P w=.ok n w/\((r=none/\n=none)\/∃j av S,r=some (j,av)/\n=some (j,S)/\VR G w av S/\i<=j/\j<i+es.length/\sameKey (.f sh) x (es.getD (j -i) (aC,aC)).1=some true)
 |[],[],i,r,h,hl,hv=>by obtain rfl:=Aa h;exact⟨none,by simp[Instr.findAsking],.inl ⟨rfl,rfl⟩⟩
 |[],_::_,i,r,h,hl,hv=>by simp at hl
 |(y,z)::es,[],i,r,h,hl,hv=>by simp at hl
 |(y,z)::es,e::ents,i,r,h,hl,hv=>by
  obtain⟨O,Z,_⟩:=cz E;have a:=hv 0 A3;simp only[Ce] at a;simp only[nS] at h
  have l:∀b,sameKey (.f sh) x y=some b->(Op.equal c u e.key).run P w=.ok b w:=by
   intro b M
   cases x<;>cases y<;>simp only[sameKey] at M<;>first|(cases M;done)|skip
   rename_i xs ys;obtain⟨us,T,L,_,D⟩:=C.wL;obtain⟨vs,o,p,_,v2⟩:=a.1.wL;rw[T,o];have :=XI 60 c sh O true Z (10000 -60) G w xs ys us vs b M ⟨L,D⟩ ⟨p,v2⟩;have B:(Op.equalIn 10000 c (.agg us.toArray) (.agg vs.toArray)).run P w=.ok b w:=(by simpa [valOf] using this);exact B
  split at h
  . rename_i M;obtain rfl:=Aa h;refine⟨some (i,e.val),by simp[Instr.findAsking,l _ M],.inr ⟨i,z,e.val,rfl,rfl,a.2,Ad _,by simp,by simpa using M⟩⟩
  . rename_i M
    obtain⟨n,O,Z⟩:=Nb E C es ents (i+1) r h (by simpa using hl) (fun j Y=>by
     have :=hv (j+1) ZaV
     simpa using this)
    refine⟨n,by simp[Instr.findAsking,l _ M];exact O,?_⟩
    grind
  cases h
theorem run_findKey(E:LQ P c=some k){x:AV}{u:Value}(C:VR G w x u){es:List (AV×AV)}{ents:Array MapEntry}{r:Option (Nat×AV)}(h:nS k x es 0=some r)(U:ents.size=es.length)
 (J:∀j,j<es.length->VR G w (es.getD j (aC,aC)).1 (ents.getD j default).key/\VR G w (es.getD j (aC,aC)).2 (ents.getD j default).val):
 ∃n,(Instr.findKey c u ents.toList).run P w=.ok n w/\((r=none/\n=none)\/∃j av S,r=some (j,av)/\n=some (j,S)/\VR G w av S/\j<es.length/\sameKey k x (es.getD j (aC,aC)).1=some true):=by
 have R:∀j,j<es.length->VR G w (es.getD j (aC,aC)).1 (ents.toList.getD j default).key/\VR G w (es.getD j (aC,aC)).2 (ents.toList.getD j default).val:=fun j Y=>by simp_all
 have p:∀{n:Option (Nat×Value)},((r=none/\n=none)\/∃j av S,r=some (j,av)/\n=some (j,S)/\VR G w av S/\0<=j/\j<0+es.length/\sameKey k x (es.getD (j -0) (aC,aC)).1=some true)->
  ((r=none/\n=none)\/∃j av S,r=some (j,av)/\n=some (j,S)/\VR G w av S/\j<es.length/\sameKey k x (es.getD j (aC,aC)).1=some true):=by
  simp
 by_cases m:Ou k=true
 . obtain⟨d,hd⟩:∃d,P.underlying c=some d:=by
    grind[LQ]
   obtain⟨n,O,Z⟩:=Nc E m hd C es ents.toList 0 r h A0 R;refine⟨n,?_,p Z⟩;simp only[Instr.findKey,Sem.run_bind,run_underlying hd w,Result.andThen_ok,O];rfl
 cases k with
 |f sh=>
  obtain⟨_,_,d,hd,A⟩:=cz E;obtain⟨n,O,Z⟩:=Nb E C es ents.toList 0 r h A0 R;simp only[Instr.findKey,Sem.run_bind,run_underlying hd w,Result.andThen_ok]
  cases F:ents.toList with
  |nil=>simp_all[F,Instr.findAsking,Sem.run_pure,Result.ok.injEq,and_true,Instr.findNow]
  |cons e l=>simp_all[F,Instr.findNow,A]
 |_=>exact absurd rfl m
variable{ents:Array MapEntry}{n:Nat}
theorem run_getObj_map{r:Nat}(h:w.heap[r]?=some (.map ents n)):(getObj r).run P w=.ok (.map ents n) w:=by simp[getObj,Sem.run,h]
theorem za{J:Value}{z:AV}{ok:Bool}{i:Operand}{I:Arg}(ho:o.op=.lookup t x i ok)(hx:bN g x=some D)(F:bN g i=some I)(W:P.underlying t=some (.map c vt))
 (E:LQ P c=some k) (hz:nG P vt=some J) (a7:ofConst J=some z):cV P g o (.lookup k z ok D I):=by
 intro s a G H w v H' L M h;have K:=bM L M hx;have B:=bM L M F;have e:=mQ hz w;have nq:=JG a7 G w
 have A:∀{p q:AV} {u1 u2:Value},VR G w p u1->VR G w q u2->VR G w (.iV [p,q]) (.tuple #[u1,u2]):=fun O Z=>.iV [_,_] [_,_] rfl (O.cons (Z.cons (jD.nil G w))).2
 simp only[dU] at h;split at h
 . rename_i m;have V:∀b,(Instr.checkKey b 10000 c (a.eval i)).run P w=.ok () w:=fun b=>run_checkKey E b 9940 B m;split at h
   . rename_i f;rw[f] at K;generalize eY:a.eval x=u at K;cases K;obtain⟨rfl,rfl⟩:=h
     have y:(Instr.findKey c (a.eval i) []).run P w=.ok none w:=by
      obtain⟨r',O,Z⟩:=run_findKey (P:=P) E B (es:=[]) (ents:= #[]) (r:=none) rfl rfl (fun j hj=>absurd hj (Am j))
      rcases Z with ⟨_,rfl⟩|⟨j,av,S,X,_⟩
      . exact O
      cases X
     refine cV.pure' L (u:=if ok then .tuple #[J,.bool false] else J) ?_ ZbP;simp only[execOp,ho,eY,Instr.lookup,Sem.run_bind,run_underlying W w,Result.andThen_ok,Sem.run_pure,V,y,e]
   . rename_i id f;rw[f] at K;generalize eY:a.eval x=u at K
     cases K with
     |map _ l U=>
      split at h
      . rename_i es d;obtain⟨_,_,ents,n,R,Y,mb,m3⟩:=L.iT id l _ U d rfl;have a6:=run_getObj_map (P:=P) R;split at h
        . rename_i j av N;obtain⟨rfl,rfl⟩:=h;obtain⟨r',O,Z⟩:=run_findKey (P:=P) E B N Y m3
          rcases Z with ⟨X,_⟩|⟨Q,ab,S,T,e2,C,_⟩
          . cases X
          cases T;subst e2;refine cV.pure' L (u:=if ok then .tuple #[S,.bool true] else S) ?_ (by cases ok<;>simp <;>first|exact C|exact A C (.bool true));simp only[execOp,ho,eY,Instr.lookup,Sem.run_bind,run_underlying W w,Result.andThen_ok,a6,Sem.run_pure,V,O]
        . rename_i N;obtain⟨rfl,rfl⟩:=h;obtain⟨r',O,Z⟩:=run_findKey (P:=P) E B N Y m3
          rcases Z with ⟨_,e2⟩|⟨Q,ab,S,T,_⟩
          . subst e2;refine cV.pure' L (u:=if ok then .tuple #[J,.bool false] else J) ?_ ZbP;simp only[execOp,ho,eY,Instr.lookup,Sem.run_bind,run_underlying W w,Result.andThen_ok,a6,Sem.run_pure,V,O,e]
          cases T
        cases h
      cases h
   cases h
 cases h
theorem WR.JN(h:WR g G H w){id:Nat}{l:Loc}{o o':eS}{x:Go.Obj}(U:G.loc id=some l)(d:H.get id=some o)(S:o.dE=true)(D:o'.dE=true)
 (I:w'.heap=w.heap.setIfInBounds l.dE x) (W:CK w w') (P:(∀a u,VR G w a u->VR G w' a u)->w'.heap[l.dE]?=some x->MQ g G w' l o'):
 WR g G (H.set id o') w'/\Ext G H w G (H.set id o') w':=by
 have f:H.live id:=⟨_,d,LZ S⟩;obtain⟨m1,m2,m3⟩:=h.iT id l _ U d S;have eZ:=m3.lt S
 have JC:∀b,b≠l.dE->w'.heap[b]?=w.heap[b]?:=fun b X=>by rw[I,Array.getElem?_setIfInBounds_ne];exact Ne.symm X
 have yX:w'.heap[l.dE]?=some x:=by rw[I];simp[eZ]
 have mZ:∀b o,G.iA b o->b≠l.dE:=fun b o F X=>by obtain⟨v,J⟩:=h.iE b o F;obtain⟨c,T,fz,R,_⟩:=CT J;rw[X] at R;exact m3.DW S R
 have V:∀b o,G.iA b o->w'.cell? ⟨b,o,none⟩=w.cell? ⟨b,o,none⟩:=fun b o F=>fN (JC b (mZ b o F));have Z:∀{a u},VR G w a u->VR G w' a u:=fun J=>J.mono (fun _ _ h=>h) (fun b o F=>⟨F,V b o F⟩)
 have s:∀{i l'},i≠id->G.loc i=some l'->H.live i->l'.dE≠l.dE:=fun {i l'} F LK K X=>by
  obtain⟨z,P,C⟩:=K
  cases z with
  |cells cs r=>obtain⟨c,T,fz,R,_⟩:=h.room i l' LK (.inl ⟨cs,r,P⟩);rw[X] at R;exact m3.DW S R
  |tok=>obtain⟨c,T,fz,R,_⟩:=h.room i l' LK (.inr P);rw[X] at R;exact m3.DW S R
  |dead=>cases C
  |_=>
   obtain⟨n1,n2,_⟩:=h.iT i l' _ LK P rfl
   rcases h.lL i id l' l F LK U ⟨_,P,rfl⟩ f with hd|hd|hd
   . exact hd X
   . omega
   omega
 have dB:∀{m},m≠id->(H.set id o').get m=H.get m:=fun t=>by rw[aB.aD,if_neg t]
 have a6:(H.set id o').get id=some o':=by rw[aB.aD,if_pos rfl]
 have k:∀{m},(H.set id o').live m->H.live m:=fun {m} J=>by
  rcases aB.mM.1 J with ⟨rfl,_⟩|⟨_,J⟩
  . exact f
  exact J
 refine⟨{
  cells:=fun i l' cs r O h2=>by
   have F:i≠id:=fun e=>by rw[e,a6] at h2;cases h2;cases D
   rw[dB F] at h2;obtain⟨a1,y,Q,a4,N⟩:=h.cells i l' cs r O h2;refine⟨a1,y,Q,a4,fun j Y=>?_⟩;obtain⟨u,B,OS⟩:=N j Y;exact⟨u,by rw[fN (JC _ (s F O ⟨_,h2,rfl⟩))];exact B,Z OS⟩
  room:=fun i l' O h2=>by
   have F:i≠id:=fun e=>by rw[e,a6] at h2;rcases h2 with ⟨_,_,h2⟩|h2<;>cases h2<;>cases D
   rw[dB F] at h2;obtain⟨c,T,fz,a1,y,Q⟩:=h.room i l' O h2;have X:=s F O (by rcases h2 with ⟨cs,r,h2⟩|h2<;>exact⟨_,h2,rfl⟩);exact⟨c,T,fz,by rw[JC _ X];exact a1,y,fun j Y=>by rw[kV (JC _ X)];exact Q j Y⟩
  lL:=fun i i' L p A O h2 K q=>h.lL i i' L p A O h2 (k K) (k q)
  kI:=fun i l' O K=>h.kI i l' O (k K)
  iT:=fun i l' z O h2 E=>by
   by_cases F:i=id
   . subst F;obtain rfl:=Aa (O.symm.trans U);rw[a6] at h2;cases h2;exact⟨m1,m2,P (fun _ _=>Z) yX⟩
   rw[dB F] at h2;obtain⟨a1,y,Q⟩:=h.iT i l' z O h2 E;exact⟨a1,y,Q.mono (JC _ (s F O ⟨_,h2,LZ E⟩)) fun _ _=>Z⟩
  lt:=h.lt
  iE:=fun b o F=>by rw[V b o F];exact h.iE b o F
  jE:=fun n cs A=>Z (h.jE n cs A)
  BP:=fun n cs A h0=>let⟨c,T,fz,a1,y⟩:=h.BP n cs A h0;⟨c,T,fz,by rw[JC n (fun e=>m3.DW S (e▸a1))];exact a1,y⟩
  mo:=h.mo},?_⟩
 exact {
  loc:=fun _ _ h=>h
  iA:=fun b o F=>⟨F,V b o F⟩
  size:=by rw[I];simp
  frame:=fun b X A=>JC b (fun e=>A id l U f e.symm)
  mV:=fun i l' O K=>.inr ⟨i,l',O,k K,rfl⟩
  pM:=fun _ _ h=>.inl h
  next:=Ad _
  news:=fun _ _ h M=>by rw[h] at M;cases M
  dead:=fun _ _ _ J=>k J
  mo:=rfl
  same:=W.toB _}
theorem WR.aIq(h:WR g G H w){id:Nat}{l:Loc}{es es':List (AV×AV)}{ents ents':Array MapEntry}{n clock':Nat}(U:G.loc id=some l)(d:H.get id=some (.map es))
 (t:w.heap[l.dE]?=some (.map ents n)) (I:w'.heap=w.heap.setIfInBounds l.dE (.map ents' clock')) (W:CK w w') (L:ents'.size=es'.length) (T:WT ents' clock')
 (J:∀j,j<es'.length->VR G w (es'.getD j (aC,aC)).1 (ents'.getD j default).key/\VR G w (es'.getD j (aC,aC)).2 (ents'.getD j default).val):
 WR g G (H.set id (.map es')) w'/\Ext G H w G (H.set id (.map es')) w':=
 h.JN U d rfl rfl I W fun Z A=>⟨ents',clock',A,L,T,fun j Y=>⟨Z _ _ (J j Y).1,Z _ _ (J j Y).2⟩⟩
theorem yT(ents:Array MapEntry)(i:Nat)(f:MapEntry->MapEntry)(j:Nat)(Y:j<ents.size):(ents.modify i f).getD j default=if i=j then f (ents.getD j default) else ents.getD j default:=by
 simp only[Cp,Gv]
 grind
theorem WT.modify(h:WT ents n)(i:Nat)(f:MapEntry->MapEntry)(N:∀e,(f e).born=e.born):WT (ents.modify i f) n:=by
 have X:∀j,j<ents.size->((ents.modify i f).getD j default).born=(ents.getD j default).born:=fun j Y=>by grind[yT]
 refine⟨fun j Y=>?_,fun j k Y E z=>?_⟩
 . rw[Array.size_modify] at Y;rw[X j Y];exact h.1 j Y
 rw[Array.size_modify] at Y E;rw[X j Y,X k E] at z;exact h.2 j k Y E z
theorem WT.push(h:WT ents n)(e:MapEntry)(z:e.born=n):WT (ents.push e) (n+1):=by
 have X:∀j,j<(ents.push e).size->((ents.push e).getD j default).born=if j<ents.size then(ents.getD j default).born else n:=fun j Y=>by
  simp only[Cp,Array.getElem?_push]
  grind
 refine⟨fun j Y=>?_,fun j k Y E u=>?_⟩
 . rw[X j Y];by_cases O:j<ents.size
   . rw[if_pos O];have :=h.1 j O;omega
   grind
 rw[X j Y,X k E] at u;rw[Array.size_push] at Y E;by_cases O:j<ents.size<;>by_cases Z:k<ents.size
 . rw[if_pos O,if_pos Z] at u;exact h.2 j k O Z u
 . rw[if_pos O,if_neg Z] at u;have :=h.1 j O;omega
 . rw[if_neg O,if_pos Z] at u;have :=h.1 k Z;omega
 omega
theorem NY{G:Gh}{w:World}(d:Nat):∀(sh:List Sk) (xs ys:List AV) (us vs:List Value),cE sh xs ys=some true->jD G w xs us->jD G w ys vs->
 us.length=vs.length/\(vs.zip us).all (fun p=>Instr.sameBits d p.1 p.2)=true
 |[],xs,ys,us,vs,h,hx,hy=>by
  cases xs<;>cases ys<;>simp only[cE] at h<;>first|(cases h;done)|skip
  have O:=hx.1;have Z:=hy.1;simp_all
 |k::sh,xs,ys,us,vs,h,hx,hy=>by
  cases xs with
  |nil=>grind[cE]
  |cons x xs=>
   cases ys with
   |nil=>grind[cE]
   |cons y ys=>
    have O:=hx.1;have Z:=hy.1
    cases us with
    |nil=>grind
    |cons u us=>
     cases vs with
     |nil=>grind
     |cons v vs=>
      have a:=hx.2 0 A3;have f:=hy.2 0 A3;simp only[Ce] at a f;have c:jD G w xs us:=⟨by grind,fun j Y=>by have :=hx.2 (j+1) (by grind);grind⟩;have ty:jD G w ys vs:=⟨by grind,fun j Y=>by have :=hy.2 (j+1) (by grind);grind⟩
      have i:∀{b:Bool},(cE sh xs ys).map (b&& ·)=some true->(b=true->Instr.sameBits d v u=true)->(u::us).length=(v::vs).length/\((v::vs).zip (u::us)).all (fun p=>Instr.sameBits d p.1 p.2)=true:=by intro b t X;simp only[Ae,Ak] at t;obtain⟨r,V,l,rfl⟩:=t;obtain⟨g,e⟩:=NY d sh xs ys us vs V c ty;simp_all
      cases k<;>cases x<;>cases y<;>simp only[cE] at h<;>first|(cases h;done)|skip
      . simp_all[Dr,a.lJ,f.lJ,Instr.sameBits]
      . simp_all[Dr,a.jK,f.jK,Instr.sameBits]
      simp_all[Dr,a.jL,f.jL,Instr.sameBits,beq_toListBytes]
theorem Vn{x y:AV}{u v:Value}(d:Nat)(h:sameKey k x y=some true)(C:VR G w x u)(Q:VR G w y v):Instr.sameBits (d+1) v u=true:=by
 cases x<;>cases y<;>simp only[sameKey] at h<;>first
  |(cases h)
  |skip
 . grind[C.lJ,Q.lJ,Instr.sameBits]
 . grind[C.jK,Q.jK,Instr.sameBits]
 . grind[C.jL,Q.jL,Instr.sameBits,beq_toListBytes]
 cases k<;>simp only[] at h<;>first|(cases h)|skip
 rename_i xs ys sh;obtain⟨us,T,L,_,D⟩:=C.wL;obtain⟨vs,o,p,_,v2⟩:=Q.wL;obtain⟨g,e⟩:=NY d sh xs ys us vs h ⟨L,D⟩ ⟨p,v2⟩;simp_all[Instr.sameBits,Gw,g,Hh,Dm]
theorem YE{i y:Operand}{x' I J:Arg}(ho:o.op=.mapUpdate t x i y\/o.op=.insert t x i y)(C:bN g x=some x')(F:bN g i=some I)(hy:bN g y=some J)
 (W:P.underlying t=some (.map c vt)) (E:LQ P c=some k):cV P g o (.Qa k x' I J):=by
 intro s a G H w v H' L M h;have K:=bM L M C;have B:=bM L M F;have z:=bM L M hy;have ad:QQ k (Arg.eval g s I)=true->(Instr.checkKey false 10000 c (a.eval i)).run P w=.ok () w:=fun m=>run_checkKey E false 9940 B m;simp only[dU] at h;split at h
 . rename_i m;have a6:=ad m;split at h
   . rename_i id f;rw[f] at K;generalize eY:a.eval x=u at K
     cases K with
     |map _ l U=>
      split at h
      . rename_i es hg;obtain⟨_,_,ents,n,R,Y,mb,m3⟩:=L.iT id l _ U hg rfl;have r:=run_getObj_map (P:=P) R
        have jZ:∀{w':World},(Instr.mapUpdate t (.map (some l.dE)) (a.eval i) (a.eval y)).run P w=.ok () w'->(execOp a.eval o).run P w=.ok .skip w':=fun V=>by rcases ho with ho|ho<;>simp[execOp,ho,eY,V]
        have GG:∀(en:Array MapEntry) (cl:Nat),(setObj l.dE (.map en cl)).run P w=.ok () {w with heap:=w.heap.setIfInBounds l.dE (.map en cl)}:=fun en cl=>by simp[setObj,Sem.run,R]
        split at h
        . rename_i j av N;simp only[Aj,An] at h;obtain⟨rfl,rfl⟩:=h;obtain⟨r',O,Z⟩:=run_findKey (P:=P) E B N Y m3
          rcases Z with ⟨X,_⟩|⟨Q,ae,S,T,e2,e3,b,e5⟩
          . cases X
          cases T;subst e2;have a7:=Vn 9999 e5 B (m3 j b).1
          obtain⟨r1,r2⟩:=L.aIq (es':=es.set j (Arg.eval g s I,Arg.eval g s J)) (ents':=ents.modify j fun e=>{e with key:=a.eval i,val:=a.eval y}) (clock':=n) (w':={w with heap:=w.heap.setIfInBounds l.dE (.map (ents.modify j fun e=>{e with key:=a.eval i,val:=a.eval y}) n)}) U hg R rfl .now (by simp[Y]) (mb.modify _ _ fun _=>rfl) (fun q D=>by
           simp only[Il] at D;rw[yT _ _ _ _ A0,getD_eq,List.getElem?_set];by_cases p:j=q
           . rw[if_pos p,if_pos p];rw[if_pos b];exact⟨B,z⟩
           rw[if_neg p,if_neg p]
           exact m3 q D)
          refine⟨.skip,undef,_,G,jZ ?_,.inr ⟨rfl,rfl⟩,r1,r2,VR.oQ G _⟩
          have A:((ents[j]?).map (·.key)).getD (a.eval i)=(ents.getD j default).key:=by have d:j<ents.size:=A0;simp[Array.getD,d]
          simp only[Instr.mapUpdate,Sem.run_bind,run_underlying W w,Result.andThen_ok,r,a6,O,Instr.keyThatStays,A,a7,if_true,Sem.run_pure,GG]
        . rename_i N;obtain⟨rfl,rfl⟩:=h;obtain⟨r',O,Z⟩:=run_findKey (P:=P) E B N Y m3
          rcases Z with ⟨_,e2⟩|⟨Q,ae,S,T,_⟩
          . subst e2
            obtain⟨r1,r2⟩:=L.aIq (es':=es++[(Arg.eval g s I,Arg.eval g s J)]) (ents':=ents.push {key:=a.eval i,val:=a.eval y,born:=n}) (clock':=n+1) (w':={w with heap:=w.heap.setIfInBounds l.dE (.map (ents.push {key:=a.eval i,val:=a.eval y,born:=n}) (n+1))}) U hg R rfl .now (by simp[Y]) (mb.push _ rfl) (fun q D=>by
             simp only[Aq,As,Bo] at D;rw[getD_eq,Dp,Cp,Array.getElem?_push];by_cases p:q<es.length
             . rw[if_pos p,if_neg A0];have :=m3 q p
               rwa [Cp] at this
             rw[if_neg p,if_pos A0];have ab:q -es.length=0:=A0;rw[ab]
             exact⟨B,z⟩)
            refine⟨.skip,undef,_,G,jZ ?_,.inr ⟨rfl,rfl⟩,r1,r2,VR.oQ G _⟩;simp only[Instr.mapUpdate,Sem.run_bind,run_underlying W w,Result.andThen_ok,r,a6,O,GG]
          cases T
        cases h
      cases h
   cases h
 cases h
end
end
def lP:Operand->Bool
 |.const _=>true
 |_=>false
def tH(P:Program)(g:bL)(op:BinOp)(t:TypeId)(x y:Operand):Option eN:=
 match bN g x,bN g y with
 |some x',some y'=>
  if op=.eql\/op=.neq then
   match P.underlying t with
   |some .bool=>some (.eqb (op== .neq) x' y')
   |some (.struct _)|some (.array _ _)=>
    match pQ P 60 t with
    |some I=>if P.eqGuardType P.depth t=false then some (.eqf (op== .neq) I x' y') else none
    |none=>none
   |some (.pointer _)=>some (.eqn (op== .neq) .ptr (lP x||lP y) x' y')
   |some (.interface _)=>some (.eqn (op== .neq) .ifc (lP x||lP y) x' y')
   |some (.slice _)=>some (.eqn (op== .neq) .sli (lP x||lP y) x' y')
   |some (.map _ _)=>some (.eqn (op== .neq) .mp (lP x||lP y) x' y')
   |some (.func _ _ _)=>some (.eqn (op== .neq) .fn (lP x||lP y) x' y')
   |_=>some (.bin op x' y')
  else some (.bin op x' y')
 |_,_=>none
def oZ(P:Program)(g:bL)(I A:TypeId)(x:Operand):Option eN:=
 match bN g x with
 |some D=>
  match P.underlying I,P.underlying A with
  |some _,some (.int k)=>some (.NW k D)
  |some .string,some (.slice e)=>if P.underlying e matches some (.int .u8) then some (.EG D) else none
  |some (.slice e),some .string=>if P.underlying e matches some (.int .u8) then some (.GO D) else none
  |_,_=>none
 |none=>none
def mK(P:Program)(g:bL)(t:TypeId)(x:Operand)(lo F mx:Option Operand):Option eN:=
 match bN g x,rW g lo,rW g F,rW g mx with
 |some x',some yh,some rE,some mx'=>
  match CQ P t with
  |some (n,sz,_)=>some (.HL n sz x' yh rE mx')
  |none=>
   match oP P t with
   |some (_,sz)=>some (.Yi sz x' yh rE mx')
   |none=>
    match P.underlying t,mx with
    |some .string,none=>some (.RJ x' yh rE)
    |_,_=>none
 |_,_,_,_=>none
def tI(P:Program)(g:bL)(c:Call):Option eN:=
 match c.args.toList,c.argTypes[0]? with
 |[x],some t=>
  match P.underlying t,bN g x with
  |some .string,some x'=>some (.lens x')
  |some (.slice _),some x'=>some (.QT x')
  |_,_=>none
 |_,_=>none
def jT(P:Program)(g:bL)(N:Bool)(c:Call):Option eN:=
 match c.args.toList,c.argTypes.toList with
 |[x,y],[t,t2]=>
  match bN g x,bN g y,oP P t with
  |some x',some y',some (e,sz)=>
   match P.info? e,nG P e,P.underlying t2 with
   |some _,some _,some (.int _)=>none
   |some i,some z,some _=>if 1<=i.bytes/\z.cells.size=sz then some (.append sz i.bytes N x' y') else none
   |_,_,_=>none
  |_,_,_=>none
 |_,_=>none
def oY(P:Program)(g:bL)(N:Bool)(c:Call):Option eN:=
 match c.callee with
 |.builtin .len=>tI P g c
 |.builtin .append=>jT P g N c
 |.builtin .copy=>match c.args.toList,c.argTypes[0]? with
  |[x,y],some t=>match bN g x,bN g y,oP P t with
   |some x',some y',some (_,sz)=>some (.copy sz x' y')
   |_,_,_=>none
  |_,_=>none
 |.value f=>match bN g f,pG g c.args.toList with
  |some f',some azs=>some (.call f' azs)
  |_,_=>none
 |.builtin .max=>match c.args.toList with
  |[x,y]=>match bN g x,bN g y with
   |some x',some y'=>some (.VO x' y')
   |_,_=>none
  |_=>none
 |.builtin .min=>match c.args.toList with
  |[x,y]=>match bN g x,bN g y with
   |some x',some y'=>some (.YA x' y')
   |_,_=>none
  |_=>none
 |.builtin .clear=>match c.args.toList,c.argTypes[0]? with
  |[x],some t=>match bN g x,oP P t with
   |some x',some (e,sz)=>match nG P e with
    |some z=>(lC z.cells.toList).map fun zs=>.clr sz zs x'
    |none=>none
   |_,_=>none
  |_,_=>none
 |_=>none
def sj(P:Program)(t:TypeId):Option AV:=
 match nG P t with
 |some z=>ofConst z
 |none=>none
def Pg(P:Program)(g:bL)(N:Bool)(o:Oper):Option eN:=
 match o.op with
 |.move x|.assign x=>(bN g x).map .mO
 |.pick c x y=>match bN g c,bN g x,bN g y with
  |some c',some D,some y'=>some (.pick c' D y')
  |_,_,_=>none
 |.alloc t=>match nG P t with
  |some z=>(lC z.cells.toList).map .alloc
  |none=>none
 |.box _ x=>(bN g x).map .box
 |.build t parts=>match nG P t with
  |some z=>match lC z.cells.toList,P.underlying t with
   |some zs,some (.struct fs)=>match Lp P fs.toList with
    |some l=>(xW g (l[·]?) parts.toList).map (.build zs)
    |none=>none
   |some zs,some (.array _ e)=>match lV P e with
    |some sz=>(xW g (fun i=>some (i*sz,sz)) parts.toList).map (.build zs)
    |none=>none
   |_,_=>none
  |none=>none
 |.buildSlice t len parts=>match oP P t with
  |some (e,sz)=>match nG P e,LX g 0 parts.toList with
   |some _,some ys=>if len=parts.size/\len*sz<=2^24 then(if Vj N sz ys=true then some (.mJ 1 1 [.str []] (.const (.int .i64 1)) (.const (.int .i64 1))) else some (.Qf sz ys)) else none
   |_,_=>none
  |none=>none
 |.load t x=>match bN g x,gR P t,lV P t with
  |some D,some agg,some n=>some (.load agg n D)
  |_,_,_=>none
 |.store t x y=>match bN g x,bN g y,lV P t with
  |some D,some y',some n=>some (.store n D y')
  |_,_,_=>none
 |.nilCheck x=>(bN g x).map .Qh
 |.binOp op t x y _=>tH P g op t x y
 |.unOp op _ x=>(bN g x).map (.un op)
 |.convert src dst x=>oZ P g src dst x
 |.sliceToArrayPointer t x=>match bN g x,P.underlying t with
  |some D,some (.array n _)=>some (.jj n D)
  |_,_=>none
 |.makeInterface t x=>match bN g x,P.underlying t with
  |some _,some (.interface _)=>none
  |some D,some _=>some (.ed t D)
  |_,_=>none
 |.makeFunc fn fs cs=>match pG g fs.toList,pG g cs.toList with
  |some fs',some FY=>some (.SE fn fs' FY)
  |_,_=>none
 |.makeMap t r=>match P.underlying t,r with
  |some (.map _ _),none=>some .BT
  |some (.map _ _),some (.const (.int _ _))=>some .BT
  |_,_=>none
 |.makeSlice t x y=>match bN g x,bN g y,oP P t with
  |some D,some y',some (e,sz)=>match P.info? e,nG P e with
   |some i,some z=>match lC z.cells.toList with
    |some zs=>if 1<=sz/\1<=i.bytes then some (.mJ sz i.bytes zs D y') else none
    |none=>none
   |_,_=>none
  |_,_,_=>none
 |.slice t x lo hi mx=>mK P g t x lo hi mx
 |.fieldAddr t x i=>match bN g x,aw P t i with
  |some D,some (off,_,_)=>some (.xM off D)
  |_,_=>none
 |.indexAddr t x i=>match bN g x,bN g i with
  |some D,some i'=>match CQ P t with
   |some (n,sz,_)=>some (.rH (some n) sz D i')
   |none=>match oP P t with
    |some (_,sz)=>some (.rH none sz D i')
    |none=>none
  |_,_=>none
 |.index t x i=>match bN g x,bN g i with
  |some D,some i'=>match CQ P t with
   |some (n,sz,b)=>some (.idx n sz b D i')
   |none=>if P.underlying t matches some .string then some (.idxs D i') else none
  |_,_=>none
 |.lookup t x i ok=>match bN g x,bN g i,P.underlying t with
  |some D,some i',some (.map kt vt)=>match LQ P kt,sj P vt with
   |some k,some z=>some (.lookup k z ok D i')
   |_,_=>none
  |_,_,_=>none
 |.mapUpdate t m i x|.insert t m i x=>match bN g m,bN g i,bN g x,P.underlying t with
  |some m',some i',some D,some (.map kt _)=>(LQ P kt).map fun k=>.Qa k m' i' D
  |_,_,_,_=>none
 |.typeAssert x _ t ok=>match bN g x,P.underlying t,sj P t with
  |some _,some (.interface _),_=>none
  |some D,some _,some z=>some (.ju t ok z D)
  |_,_,_=>none
 |.extract x i=>(bN g x).map fun D=>.Ul D i
 |.range t x=>match bN g x,P.underlying t with
  |some D,some (.map _ _)=>some (.xU D)
  |_,_=>none
 |.next x s=>match bN g x,s with
  |some D,false=>some (.GY D)
  |_,_=>none
 |.entry x=>(bN g x).map .AZ
 |.call c=>oY P g N c
 |.panic x=>(bN g x).map .panic
 |.defer c=>match c.callee with
  |.value f=>match bN g f,pG g c.args.toList with
   |some f',some azs=>some (.mY f' azs)
   |_,_=>none
  |_=>none
 |_=>none
def eN.plain:eN->Bool
 |.call _ _|.panic _|.mY _ _|.xU _|.GY _|.AZ _=>false
 |_=>true
variable{op:BinOp}
theorem aEc(h:op=.eql\/op=.neq):op=if(op== .neq) then .neq else .eql:=by grind
variable{t:TypeId}
theorem Yg{P:Program}{f:Nat}{I:List Sk}(h:pQ P f t=some I){d:TypeDesc}(B:P.underlying t=some d)(hd:(∃fs,d=.struct fs)\/∃n e,d=.array n e):gR P t=some true:=by grind[gR]
variable{x:Operand}{r:eN}
theorem uy{P:Program}{g:bL}{o:Oper}{t2:TypeId}{y:Operand}(S:o.op=.binOp op t x y t2)(h:tH P g op t x y=some r):cV P g o r:=by
 have U:(lP x||lP y)=true->(∃c,x=.const c)\/∃c,y=.const c:=fun X=>by cases x<;>cases y<;>simp[lP] at X ⊢
 have e:∀{d:TypeDesc} {k:Nk},P.underlying t=some d->(match (some d:Option TypeDesc) with|some (.pointer _)=>some Nk.ptr|some (.interface _)=>some .ifc|some (.slice _)=>some .sli|some (.map _ _)=>some .mp|some (.func _ _ _)=>some .fn|_=>none)=some k->nkP P t=some k:=fun B E=>by grind[nkP]
 unfold tH at h;split at h
 . rename_i D J C Q;split at h
   . rename_i b
     split at h<;>rename_i B<;>first
      |(obtain rfl:=Aa h;exact bCi S (aEc b) B C Q)
      |(obtain rfl:=Aa h;exact bCk S (aEc b) (e B rfl) U C Q)
      |(split at h
        . rename_i I a;split at h
          . rename_i f;obtain rfl:=Aa h;exact bCj S (aEc b) A0 a (Yg a B A3) f C Q
          grind
        grind)
      |(obtain rfl:=Aa h;exact aGy S C Q)
   obtain rfl:=Aa h;exact aGy S C Q
 grind
theorem Zm{P:Program}{g:bL}{o:Oper}{I A:TypeId}(S:o.op=.convert I A x)(h:oZ P g I A x=some r):cV P g o r:=by
 unfold oZ at h;split at h
 . rename_i D C;split at h
   . rename_i d k M hd;obtain rfl:=Aa h;exact aGz S C M hd
   . rename_i e M hd;split at h
     . rename_i z;obtain rfl:=Aa h;exact aHf S C M hd z
     cases h
   . rename_i e M hd;split at h
     . rename_i z;obtain rfl:=Aa h;exact aGx S C M hd z
     cases h
   cases h
 cases h
theorem Wr{P:Program}{g:bL}{o:Oper}{lo F mx:Option Operand}(S:o.op=.slice t x lo F mx)(h:mK P g t x lo F mx=some r):cV P g o r:=by
 unfold mK at h;split at h
 . rename_i D c N V C i E a;split at h
   . rename_i n sz b W;obtain rfl:=Aa h;exact aHc S C i E a W
   split at h
   . rename_i e sz W;obtain rfl:=Aa h;exact aOv S C i E a W
   split at h
   . rename_i W;obtain rfl:=Aa h;exact aHd S C i E W
   grind
 grind
variable{c:Call}
theorem PX(h:c.args.toList=[x]):c.args= #[x]:=by grind
theorem KK{y:Operand}(h:c.args.toList=[x,y]):c.args= #[x,y]:=by grind
theorem uz{P:Program}{g:bL}{o:Oper}(S:o.op=.call c)(R:c.callee=.builtin .len)(h:tI P g c=some r):cV P g o r:=by
 unfold tI at h;split at h
 . rename_i x t I O;split at h
   . rename_i D W C;obtain rfl:=Aa h;exact aOn S R (PX I) C O W
   . rename_i e D W C;obtain rfl:=Aa h;exact aOm S R (PX I) C O W
   cases h
 cases h
variable{N:Bool}
theorem Ua{P:Program}{g:bL}{o:Oper}(S:o.op=.call c)(R:c.callee=.builtin .append)(h:jT P g N c=some r):cV P g o r:=by
 unfold jT at h;split at h
 . rename_i x y t t2 I O;have a:c.argTypes= #[t,t2]:=by apply Array.ext';simpa using O
   split at h
   . rename_i D J e sz C Q W;obtain⟨B,A⟩:=mD W;split at h
     . cases h
     . rename_i i z d hd F s Z;split at h
       . rename_i p;obtain rfl:=Aa h;exact yy S R (KK I) C Q a B A Z (fun k b=>hd k b) F p.1 s p.2
       cases h
     cases h
   cases h
 cases h
theorem RY{P:Program}{z:AV}(h:sj P t=some z):∃J,nG P t=some J/\ofConst J=some z:=by grind[sj]
theorem Zo{P:Program}{g:bL}{mu:Bool}{o:Oper}(h:Pg P g mu o=some r)(H:r.plain=true):cV P g o r:=by
 unfold Pg at h;split at h
 . rename_i x S;simp only[Ae] at h;obtain⟨D,C,rfl⟩:=h;exact pd (.inl S) C
 . rename_i x S;simp only[Ae] at h;obtain⟨D,C,rfl⟩:=h;exact pd (.inr S) C
 . rename_i c x y S;split at h
   . rename_i c' D J R C Q;obtain rfl:=Aa h;exact aOt S R C Q
   cases h
 . rename_i t S;split at h
   . rename_i z s;simp only[Ae] at h;obtain⟨zs,Z,rfl⟩:=h;exact aGw S s Z
   cases h
 . rename_i t x S;simp only[Ae] at h;obtain⟨D,C,rfl⟩:=h;exact bCg S C
 . rename_i t q S;split at h
   . rename_i z s;split at h
     . rename_i zs fs Z B;split at h
       . rename_i l U;simp only[Ae] at h;obtain⟨ps,X,rfl⟩:=h;exact OW S B s Z U X
       cases h
     . rename_i zs n e Z B;split at h
       . rename_i sz A;simp only[Ae] at h;obtain⟨ps,X,rfl⟩:=h;exact Qk S B A s Z X
       cases h
     cases h
   cases h
 . rename_i t len q S;split at h
   . rename_i e sz W;split at h
     . rename_i z ys s Mq;split at h
       . rename_i p;split at h
         . rename_i V;obtain rfl:=Aa h;exact yz S W s p.1 p.2 Mq V
         obtain rfl:=Aa h;exact aHa S W s p.1 p.2 Mq
       cases h
     cases h
   cases h
 . rename_i t x S;split at h
   . rename_i D ab n C T M;obtain rfl:=Aa h;exact aOo S C T M
   cases h
 . rename_i t x y S;split at h
   . rename_i D J n C Q M;obtain rfl:=Aa h;exact aHe S C Q M
   cases h
 . rename_i x S;simp only[Ae] at h;obtain⟨D,C,rfl⟩:=h;exact aHb S C
 . rename_i op t x y t2 S;exact uy S h
 . rename_i op t x S;simp only[Ae] at h;obtain⟨D,C,rfl⟩:=h;exact bMo S C
 . rename_i a6 a7 x S;exact Zm S h
 . rename_i t x S;split at h
   . rename_i D n e C W;obtain rfl:=Aa h;exact aOu S C W
   cases h
 . rename_i t x S;split at h
   . cases h
   . rename_i D d G C W;obtain rfl:=Aa h;refine aOs S C ?_;rw[W]
     cases d<;>first|rfl|exact absurd rfl (G _)
   cases h
 . rename_i fn fs cs S;split at h
   . rename_i K FY N R;obtain rfl:=Aa h;exact aOr S N R
   cases h
 . rename_i t u S;split at h
   . rename_i k v W;obtain rfl:=Aa h;exact YF S W (.inl rfl)
   . rename_i k v j n W;obtain rfl:=Aa h;exact YF S W (.inr ⟨_,_,rfl⟩)
   cases h
 . rename_i t x y S;split at h
   . rename_i D J e sz C Q W;split at h
     . rename_i i z F s;split at h
       . rename_i zs Z;split at h
         . rename_i p;obtain rfl:=Aa h;exact eo S C Q W F s Z p.1 p.2
         cases h
       cases h
     cases h
   cases h
 . rename_i t x lo F mx S;exact Wr S h
 . rename_i t x i S;split at h
   . rename_i D off n b C N;obtain rfl:=Aa h;exact aOk S C N
   cases h
 . rename_i t x i S;split at h
   . rename_i D L C F;split at h
     . rename_i n sz b W;obtain rfl:=Aa h;exact YD S C F W
     split at h
     . rename_i e sz W;obtain rfl:=Aa h;exact ek S C F W
     cases h
   cases h
 . rename_i t x i S;split at h
   . rename_i D L C F;split at h
     . rename_i n sz b W;obtain rfl:=Aa h;exact bCl S C F W
     split at h
     . rename_i xR;obtain rfl:=Aa h;exact aOl S C F xR
     cases h
   cases h
 . rename_i t x i ok S;split at h
   . rename_i D L kt vt C F W;split at h
     . rename_i k z E s;obtain rfl:=Aa h;obtain⟨zv,a,w⟩:=RY s;exact za S C F W E a w
     cases h
   cases h
 . rename_i t m i x S;split at h
   . rename_i Y L D kt vt hm F C W;simp only[Ae] at h;obtain⟨k,E,rfl⟩:=h;exact YE (.inl S) hm F C W E
   cases h
 . rename_i t m i x S;split at h
   . rename_i Y L D kt vt hm F C W;simp only[Ae] at h;obtain⟨k,E,rfl⟩:=h;exact YE (.inr S) hm F C W E
   cases h
 . rename_i x ti t ok S;split at h
   . cases h
   . rename_i D d z G C W s;obtain rfl:=Aa h;obtain⟨zv,a,w⟩:=RY s;exact aOw S C W (fun ms he=>G ms he) a w
   cases h
 . rename_i x i S;simp only[Ae] at h;obtain⟨D,C,rfl⟩:=h;exact aOj S C
 . rename_i t x S;exact Za0
 . rename_i x st S;exact Za0
 . rename_i x S;simp only[Ae] at h;obtain⟨D,C,rfl⟩:=h;cases H
 . rename_i c S;unfold oY at h;split at h
   . rename_i R;exact uz S R h
   . rename_i R;exact Ua S R h
   . rename_i R;split at h
     . rename_i x y t I O;split at h
       . rename_i D J e sz C Q W;obtain rfl:=Aa h;obtain⟨B,A⟩:=mD W;exact aOi S R (KK I) C Q O B A
       cases h
     cases h
   . rename_i f R;exact Za0
   . rename_i R;split at h
     . rename_i x y I;split at h
       . rename_i D J C Q;obtain rfl:=Aa h;exact aOp S R (KK I) C Q
       cases h
     cases h
   . rename_i R;split at h
     . rename_i x y I;split at h
       . rename_i D J C Q;obtain rfl:=Aa h;exact aOq S R (KK I) C Q
       cases h
     cases h
   . rename_i R;split at h
     . rename_i x t I O;split at h
       . rename_i D e sz C W;obtain⟨B,A⟩:=mD W;split at h
         . rename_i z s;simp only[Ae] at h;obtain⟨zs,Z,rfl⟩:=h;exact bCh S R (PX I) C O B s Z
         cases h
       cases h
     cases h
   cases h
 . rename_i x S;simp only[Ae] at h;obtain⟨D,C,rfl⟩:=h;cases H
 . rename_i c S;split at h
   . exact Za0
   cases h
 cases h
def eN.fresh:eN->Bool
 |.alloc _|.box _|.BT|.mJ _ _ _ _ _|.EG _=>true
 |_=>false
theorem aMd{P:Program}{g:bL}{o:Oper}(h:Pg P g N o=some r)(m:r.fresh=true):GM P g o r:=by
 unfold Pg at h;split at h
 case h_4=>
  rename_i t S;split at h
  . rename_i z s;simp only[Ae] at h;obtain⟨zs,Z,rfl⟩:=h;exact TB S s Z
  cases h
 case h_5=>rename_i t x S;simp only[Ae] at h;obtain⟨D,C,rfl⟩:=h;exact lh S C
 case h_7=>
  rename_i t len q S;split at h
  . rename_i e sz W;split at h
    . rename_i z ys s E;split at h
      . rename_i p;split at h
        . rename_i V;obtain rfl:=Aa h;exact Pv S W s p.1 p.2 E V
        obtain rfl:=Aa h;cases m
      cases h
    cases h
  cases h
 case h_13=>
  rename_i I A x S;unfold oZ at h;split at h
  . rename_i D C;split at h
    . obtain rfl:=Aa h;cases m
    . rename_i e M hd;split at h
      . rename_i a;obtain rfl:=Aa h;exact TC S C M hd a
      cases h
    . split at h
      . obtain rfl:=Aa h;cases m
      cases h
    cases h
  cases h
 case h_17=>
  rename_i t u S;split at h
  . rename_i k v W;obtain rfl:=Aa h;exact Mg S W (.inl rfl)
  . rename_i k v j n W;obtain rfl:=Aa h;exact Mg S W (.inr ⟨_,_,rfl⟩)
  cases h
 case h_18=>
  rename_i t x y S;split at h
  . rename_i D J e sz C Q W;split at h
    . rename_i i z F s;split at h
      . rename_i zs Z;split at h
        . rename_i p;obtain rfl:=Aa h;exact Nf S C Q W F s Z p.1 p.2
        cases h
      cases h
    cases h
  cases h
 all_goals exfalso
 all_goals (try unfold tH at h)
 all_goals (try unfold mK at h)
 all_goals (try unfold oY at h)
 all_goals (try unfold tI at h)
 all_goals (try unfold jT at h)
 all_goals repeat' (split at h)
 all_goals first
  |(cases h;done)
  |(obtain rfl:=Aa h;cases m)
  |(simp only[Ae] at h;obtain⟨_,_,rfl⟩:=h;cases m)
end Go.Av
