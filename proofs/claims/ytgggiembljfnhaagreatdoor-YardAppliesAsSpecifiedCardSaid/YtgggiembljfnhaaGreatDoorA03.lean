/-
  Part of the proof of statement 11
-/
import Derived.Test.YtgggiembljfnhaaGreatDoorA02
import Derived.Maps.RangeRun
import Derived.RangeFuncLeaves
import Derived.RangeFuncSeq
import Derived.OrdersIn
import Derived.Orders
set_option linter.unusedVariables false
set_option linter.unusedSimpArgs false
set_option linter.unusedSectionVars false
namespace Go.Av
open Go
def kA:Operand->Bool
 |.const _=>true
 |_=>false
def pV (P:Program) (g:bG) (op:BinOp) (t:TypeId) (x y:Operand):Option eE:=
 match bN g x,bN g y with
 |some x',some y'=>
  if op=.eql\/op=.neq then
   match P.underlying t with
   |some .bool=>some (.eqb (op== .neq) x' y')
   |some (.struct _)|some (.array _ _)=>
    match oD P 60 t with
    |some ks=>if P.eqGuardType P.depth t=false then some (.eqf (op== .neq) ks x' y') else none
    |none=>none
   |some (.pointer _)=>some (.tt (op== .neq) .ptr (kA x||kA y) x' y')
   |some (.interface _)=>some (.tt (op== .neq) .ifc (kA x||kA y) x' y')
   |some (.slice _)=>some (.tt (op== .neq) .sli (kA x||kA y) x' y')
   |some (.map _ _)=>some (.tt (op== .neq) .mp (kA x||kA y) x' y')
   |some (.func _ _ _)=>some (.tt (op== .neq) .fn (kA x||kA y) x' y')
   |_=>some (.bin op x' y')
  else some (.bin op x' y')
 |_,_=>none
def mF (P:Program) (g:bG) (src dst:TypeId) (x:Operand):Option eE:=
 match bN g x with
 |some x'=>
  match P.underlying src,P.underlying dst with
  |some _,some (.int k)=>some (.NN k x')
  |some .string,some (.slice e)=>if P.underlying e matches some (.int .u8) then some (.BK x') else none
  |some (.slice e),some .string=>if P.underlying e matches some (.int .u8) then some (.DJ x') else none
  |_,_=>none
 |none=>none
def jW (P:Program) (g:bG) (t:TypeId) (x:Operand) (lo hi mx:Option Operand):Option eE:=
 match bN g x,mY g lo,mY g hi,mY g mx with
 |some x',some WQ,some gO,some mx'=>
  match zQ P t with
  |some (n,sz,_)=>some (.EA n sz x' WQ gO mx')
  |none=>
   match nA P t with
   |some (_,sz)=>some (.Yi sz x' WQ gO mx')
   |none=>
    match P.underlying t,mx with
    |some .string,none=>some (.Ow x' WQ gO)
    |_,_=>none
 |_,_,_,_=>none
def pW (P:Program) (g:bG) (c:Call):Option eE:=
 match c.args.toList,c.argTypes[0]? with
 |[x],some t=>
  match P.underlying t,bN g x with
  |some .string,some x'=>some (.lens x')
  |some (.slice _),some x'=>some (.OD x')
  |_,_=>none
 |_,_=>none
def iI (P:Program) (g:bG) (mu:Bool) (c:Call):Option eE:=
 match c.args.toList,c.argTypes.toList with
 |[x,y],[t,t2]=>
  match bN g x,bN g y,nA P t with
  |some x',some y',some (e,sz)=>
   match P.info? e,lH P e,P.underlying t2 with
   |some _,some _,some (.int _)=>none
   |some i,some z,some _=>if 1<=i.bytes/\z.cells.size=sz then some (.append sz i.bytes mu x' y') else none
   |_,_,_=>none
  |_,_,_=>none
 |_,_=>none
def nI (P:Program) (g:bG) (mu:Bool) (c:Call):Option eE:=
 match c.callee with
 |.builtin .len=>pW P g c
 |.builtin .append=>iI P g mu c
 |.builtin .copy=>match c.args.toList,c.argTypes[0]? with
  |[x,y],some t=>match bN g x,bN g y,nA P t with
   |some x',some y',some (_,sz)=>some (.copy sz x' y')
   |_,_,_=>none
  |_,_=>none
 |.value f=>match bN g f,nN g c.args.toList with
  |some f',some azs=>some (.call f' azs)
  |_,_=>none
 |.builtin .max=>match c.args.toList with
  |[x,y]=>match bN g x,bN g y with
   |some x',some y'=>some (.VE x' y')
   |_,_=>none
  |_=>none
 |.builtin .min=>match c.args.toList with
  |[x,y]=>match bN g x,bN g y with
   |some x',some y'=>some (.VH x' y')
   |_,_=>none
  |_=>none
 |.builtin .clear=>match c.args.toList,c.argTypes[0]? with
  |[x],some t=>match bN g x,nA P t with
   |some x',some (e,sz)=>match lH P e with
    |some z=>(jO z.cells.toList).map fun zs=>.clr sz zs x'
    |none=>none
   |_,_=>none
  |_,_=>none
 |_=>none
def de (P:Program) (t:TypeId):Option AV:=
 match lH P t with
 |some z=>ofConst z
 |none=>none
def NO (P:Program) (g:bG) (mu:Bool) (o:Oper):Option eE:=
 match o.op with
 |.move x|.assign x=>(bN g x).map .Sv
 |.pick c x y=>match bN g c,bN g x,bN g y with
  |some c',some x',some y'=>some (.pick c' x' y')
  |_,_,_=>none
 |.alloc t=>match lH P t with
  |some z=>(jO z.cells.toList).map .alloc
  |none=>none
 |.box _ x=>(bN g x).map .box
 |.build t parts=>match lH P t with
  |some z=>match jO z.cells.toList,P.underlying t with
   |some zs,some (.struct fs)=>match IT P fs.toList with
    |some l=>(vN g (l[·]?) parts.toList).map (.build zs)
    |none=>none
   |some zs,some (.array _ e)=>match kB P e with
    |some sz=>(vN g (fun i=>some (i*sz,sz)) parts.toList).map (.build zs)
    |none=>none
   |_,_=>none
  |none=>none
 |.buildSlice t len parts=>match nA P t with
  |some (e,sz)=>match lH P e,ID g 0 parts.toList with
   |some _,some ys=>if len=parts.size/\len*sz<=2^24 then(if TI mu sz ys=true then some (.jQ 1 1 [.str []] (.const (.int .i64 1)) (.const (.int .i64 1))) else some (.OP sz ys)) else none
   |_,_=>none
  |none=>none
 |.load t x=>match bN g x,fO P t,kB P t with
  |some x',some agg,some n=>some (.load agg n x')
  |_,_,_=>none
 |.store t x y=>match bN g x,bN g y,kB P t with
  |some x',some y',some n=>some (.store n x' y')
  |_,_,_=>none
 |.nilCheck x=>(bN g x).map .OQ
 |.binOp op t x y _=>pV P g op t x y
 |.unOp op _ x=>(bN g x).map (.un op)
 |.convert src dst x=>mF P g src dst x
 |.sliceToArrayPointer t x=>match bN g x,P.underlying t with
  |some x',some (.array n _)=>some (.Yf n x')
  |_,_=>none
 |.makeInterface t x=>match bN g x,P.underlying t with
  |some _,some (.interface _)=>none
  |some x',some _=>some (.Xq t x')
  |_,_=>none
 |.makeFunc fn fs cs=>match nN g fs.toList,nN g cs.toList with
  |some fs',some Lo=>some (.Xp fn fs' Lo)
  |_,_=>none
 |.makeMap t r=>match P.underlying t,r with
  |some (.map _ _),none=>some .yQ
  |some (.map _ _),some (.const (.int _ _))=>some .yQ
  |_,_=>none
 |.makeSlice t x y=>match bN g x,bN g y,nA P t with
  |some x',some y',some (e,sz)=>match P.info? e,lH P e with
   |some i,some z=>match jO z.cells.toList with
    |some zs=>if 1<=sz/\1<=i.bytes then some (.jQ sz i.bytes zs x' y') else none
    |none=>none
   |_,_=>none
  |_,_,_=>none
 |.slice t x lo hi mx=>jW P g t x lo hi mx
 |.fieldAddr t x i=>match bN g x,XK P t i with
  |some x',some (off,_,_)=>some (.XJ off x')
  |_,_=>none
 |.indexAddr t x i=>match bN g x,bN g i with
  |some x',some i'=>match zQ P t with
   |some (n,sz,_)=>some (.Sh (some n) sz x' i')
   |none=>match nA P t with
    |some (_,sz)=>some (.Sh none sz x' i')
    |none=>none
  |_,_=>none
 |.index t x i=>match bN g x,bN g i with
  |some x',some i'=>match zQ P t with
   |some (n,sz,b)=>some (.idx n sz b x' i')
   |none=>if P.underlying t matches some .string then some (.idxs x' i') else none
  |_,_=>none
 |.lookup t x i ok=>match bN g x,bN g i,P.underlying t with
  |some x',some i',some (.map kt vt)=>match HX P kt,de P vt with
   |some k,some z=>some (.lookup k z ok x' i')
   |_,_=>none
  |_,_,_=>none
 |.mapUpdate t m i x|.insert t m i x=>match bN g m,bN g i,bN g x,P.underlying t with
  |some m',some i',some x',some (.map kt _)=>(HX P kt).map fun k=>.OM k m' i' x'
  |_,_,_,_=>none
 |.typeAssert x _ t ok=>match bN g x,P.underlying t,de P t with
  |some _,some (.interface _),_=>none
  |some x',some _,some z=>some (.Yp t ok z x')
  |_,_,_=>none
 |.extract x i=>(bN g x).map fun x'=>.XH x' i
 |.range t x=>match bN g x,P.underlying t with
  |some x',some (.map _ _)=>some (.vM x')
  |_,_=>none
 |.next x s=>match bN g x,s with
  |some x',false=>some (.DT x')
  |_,_=>none
 |.entry x=>(bN g x).map .xZ
 |.call c=>nI P g mu c
 |.panic x=>(bN g x).map .panic
 |.defer c=>match c.callee with
  |.value f=>match bN g f,nN g c.args.toList with
   |some f',some azs=>some (.kY f' azs)
   |_,_=>none
  |_=>none
 |_=>none
def eE.plain:eE->Bool
 |.call _ _|.panic _|.kY _ _|.vM _|.DT _|.xZ _=>false
 |_=>true
theorem tu {op:BinOp} (h:op=.eql\/op=.neq):op=if(op== .neq) then .neq else .eql:=by rcases h with rfl|rfl<;>rfl
theorem Vq {P:Program} {f:Nat} {t:TypeId} {ks:List Sk} (h:oD P f t=some ks) {d:TypeDesc} (hu:P.underlying t=some d) (hd:(∃fs,d=.struct fs)\/∃n e,d=.array n e):fO P t=some true:=by
 unfold fO
 rcases hd with ⟨fs,rfl⟩|⟨n,e,rfl⟩<;>rw[hu]
theorem gm {P:Program} {g:bG} {o:Oper} {op:BinOp} {t t2:TypeId} {x y:Operand} {r:eE} (ho:o.op=.binOp op t x y t2) (h:pV P g op t x y=some r):cN P g o r:=by
 have hl:(kA x||kA y)=true->(∃c,x=.const c)\/∃c,y=.const c:=fun hh=>by cases x<;>cases y<;>simp[kA] at hh ⊢
 have nk:∀{d:TypeDesc} {k:Nk},P.underlying t=some d->(match (some d:Option TypeDesc) with|some (.pointer _)=>some Nk.ptr|some (.interface _)=>some .ifc|some (.slice _)=>some .sli|some (.map _ _)=>some .mp|some (.func _ _ _)=>some .fn|_=>none)=some k->nkP P t=some k:=fun hu hk=>by unfold nkP;rw[hu];exact hk
 unfold pV at h;split at h
 . rename_i x' y' hx hy;split at h
   . rename_i fL
     split at h<;>rename_i hu<;>first
      |(obtain rfl:=Aa h;exact aTa ho (tu fL) hu hx hy)
      |(obtain rfl:=Aa h;exact aTc ho (tu fL) (nk hu rfl) hl hx hy)
      |(split at h
        . rename_i ks hks;split at h
          . rename_i hg;obtain rfl:=Aa h;exact aTb ho (tu fL) (by omega) hks (Vq hks hu (by first|exact .inl ⟨_,rfl⟩|exact .inr ⟨_,_,rfl⟩)) hg hx hy
          cases h
        cases h)
      |(obtain rfl:=Aa h;exact zc ho hx hy)
   obtain rfl:=Aa h;exact zc ho hx hy
 cases h
theorem Ws {P:Program} {g:bG} {o:Oper} {src dst:TypeId} {x:Operand} {r:eE} (ho:o.op=.convert src dst x) (h:mF P g src dst x=some r):cN P g o r:=by
 unfold mF at h;split at h
 . rename_i x' hx;split at h
   . rename_i d k hs hd;obtain rfl:=Aa h;exact zd ho hx hs hd
   . rename_i e hs hd;split at h
     . rename_i he;obtain rfl:=Aa h;exact zj ho hx hs hd he
     cases h
   . rename_i e hs hd;split at h
     . rename_i he;obtain rfl:=Aa h;exact zb ho hx hs hd he
     cases h
   cases h
 cases h
theorem UI {P:Program} {g:bG} {o:Oper} {t:TypeId} {x:Operand} {lo hi mx:Option Operand} {r:eE} (ho:o.op=.slice t x lo hi mx) (h:jW P g t x lo hi mx=some r):cN P g o r:=by
 unfold jW at h;split at h
 . rename_i x' WQ gO mx' hx Tb Lq o7;split at h
   . rename_i n sz b ht;obtain rfl:=Aa h;exact zg ho hx Tb Lq o7 ht
   split at h
   . rename_i e sz ht;obtain rfl:=Aa h;exact aGh ho hx Tb Lq o7 ht
   split at h
   . rename_i ht;obtain rfl:=Aa h;exact zh ho hx Tb Lq ht
   cases h
 cases h
theorem Mz {c:Call} {x:Operand} (h:c.args.toList=[x]):c.args= #[x]:=by apply Fj;simpa using h
theorem GV {c:Call} {x y:Operand} (h:c.args.toList=[x,y]):c.args= #[x,y]:=by apply Fj;simpa using h
theorem gq {P:Program} {g:bG} {o:Oper} {c:Call} {r:eE} (ho:o.op=.call c) (hc:c.callee=.builtin .len) (h:pW P g c=some r):cN P g o r:=by
 unfold pW at h;split at h
 . rename_i x t ha Pf;split at h
   . rename_i x' ht hx;obtain rfl:=Aa h;exact aFz ho hc (Mz ha) hx Pf ht
   . rename_i e x' ht hx;obtain rfl:=Aa h;exact aFy ho hc (Mz ha) hx Pf ht
   cases h
 cases h
theorem SB {P:Program} {g:bG} {mu:Bool} {o:Oper} {c:Call} {r:eE} (ho:o.op=.call c) (hc:c.callee=.builtin .append) (h:iI P g mu c=some r):cN P g o r:=by
 unfold iI at h;split at h
 . rename_i x y t t2 ha Pf;have bDz:c.argTypes= #[t,t2]:=by apply Fj;simpa using Pf
   split at h
   . rename_i x' y' e sz hx hy ht;obtain⟨hu,kZ⟩:=kF ht;split at h
     . cases h
     . rename_i i z d hd hi hz h2;split at h
       . rename_i eU;obtain rfl:=Aa h;exact kf ho hc (GV ha) hx hy bDz hu kZ h2 (fun k he=>hd k he) hi eU.1 hz eU.2
       cases h
     cases h
   cases h
 cases h
theorem PI {P:Program} {t:TypeId} {z:AV} (h:de P t=some z):∃zv,lH P t=some zv/\ofConst zv=some z:=by
 unfold de at h;split at h
 . rename_i zv hz;exact⟨zv,hz,h⟩
 cases h
theorem Wu {P:Program} {g:bG} {mu:Bool} {o:Oper} {r:eE} (h:NO P g mu o=some r) (hp:r.plain=true):cN P g o r:=by
 unfold NO at h;split at h
 . rename_i x ho;simp only[Ah] at h;obtain⟨x',hx,rfl⟩:=h;exact bj (.inl ho) hx
 . rename_i x ho;simp only[Ah] at h;obtain⟨x',hx,rfl⟩:=h;exact bj (.inr ho) hx
 . rename_i c x y ho;split at h
   . rename_i c' x' y' hc hx hy;obtain rfl:=Aa h;exact aGf ho hc hx hy
   cases h
 . rename_i t ho;split at h
   . rename_i z hz;simp only[Ah] at h;obtain⟨zs,CE,rfl⟩:=h;exact za ho hz CE
   cases h
 . rename_i t x ho;simp only[Ah] at h;obtain⟨x',hx,rfl⟩:=h;exact aSy ho hx
 . rename_i t parts ho;split at h
   . rename_i z hz;split at h
     . rename_i zs fs CE hu;split at h
       . rename_i l hl;simp only[Ah] at h;obtain⟨ps,Ur,rfl⟩:=h;exact Lx ho hu hz CE hl Ur
       cases h
     . rename_i zs n e CE hu;split at h
       . rename_i sz kZ;simp only[Ah] at h;obtain⟨ps,Ur,rfl⟩:=h;exact OT ho hu kZ hz CE Ur
       cases h
     cases h
   cases h
 . rename_i t len parts ho;split at h
   . rename_i e sz ht;split at h
     . rename_i z ys hz MR;split at h
       . rename_i eU;split at h
         . rename_i hr;obtain rfl:=Aa h;exact kg ho ht hz eU.1 eU.2 MR hr
         obtain rfl:=Aa h;exact ze ho ht hz eU.1 eU.2 MR
       cases h
     cases h
   cases h
 . rename_i t x ho;split at h
   . rename_i x' agg n hx qW hn;obtain rfl:=Aa h;exact aGa ho hx qW hn
   cases h
 . rename_i t x y ho;split at h
   . rename_i x' y' n hx hy hn;obtain rfl:=Aa h;exact zi ho hx hy hn
   cases h
 . rename_i x ho;simp only[Ah] at h;obtain⟨x',hx,rfl⟩:=h;exact zf ho hx
 . rename_i op t x y t2 ho;exact gm ho h
 . rename_i op t x ho;simp only[Ah] at h;obtain⟨x',hx,rfl⟩:=h;exact bCw ho hx
 . rename_i src dst x ho;exact Ws ho h
 . rename_i t x ho;split at h
   . rename_i x' n e hx ht;obtain rfl:=Aa h;exact aGg ho hx ht
   cases h
 . rename_i t x ho;split at h
   . cases h
   . rename_i x' d hni hx ht;obtain rfl:=Aa h;refine aGe ho hx ?_;rw[ht]
     cases d<;>first|rfl|exact absurd rfl (hni _)
   cases h
 . rename_i fn fs cs ho;split at h
   . rename_i fs' Lo hf hc;obtain rfl:=Aa h;exact aGd ho hf hc
   cases h
 . rename_i t rr ho;split at h
   . rename_i k v ht;obtain rfl:=Aa h;exact VN ho ht (.inl rfl)
   . rename_i k v j n ht;obtain rfl:=Aa h;exact VN ho ht (.inr ⟨_,_,rfl⟩)
   cases h
 . rename_i t x y ho;split at h
   . rename_i x' y' e sz hx hy ht;split at h
     . rename_i i z hi hz;split at h
       . rename_i zs CE;split at h
         . rename_i eU;obtain rfl:=Aa h;exact Xw ho hx hy ht hi hz CE eU.1 eU.2
         cases h
       cases h
     cases h
   cases h
 . rename_i t x lo hi mx ho;exact UI ho h
 . rename_i t x i ho;split at h
   . rename_i x' off n b hx hf;obtain rfl:=Aa h;exact aFw ho hx hf
   cases h
 . rename_i t x i ho;split at h
   . rename_i x' i' hx hi;split at h
     . rename_i n sz b ht;obtain rfl:=Aa h;exact VL ho hx hi ht
     split at h
     . rename_i e sz ht;obtain rfl:=Aa h;exact Xv ho hx hi ht
     cases h
   cases h
 . rename_i t x i ho;split at h
   . rename_i x' i' hx hi;split at h
     . rename_i n sz b ht;obtain rfl:=Aa h;exact aTd ho hx hi ht
     split at h
     . rename_i fQ;obtain rfl:=Aa h;exact aFx ho hx hi fQ
     cases h
   cases h
 . rename_i t x i ok ho;split at h
   . rename_i x' i' kt vt hx hi ht;split at h
     . rename_i k z hk hz;obtain rfl:=Aa h;obtain⟨zv,xo,hz2⟩:=PI hz;exact kh ho hx hi ht hk xo hz2
     cases h
   cases h
 . rename_i t m i x ho;split at h
   . rename_i m' i' x' kt vt hm hi hx ht;simp only[Ah] at h;obtain⟨k,hk,rfl⟩:=h;exact VM (.inl ho) hm hi hx ht hk
   cases h
 . rename_i t m i x ho;split at h
   . rename_i m' i' x' kt vt hm hi hx ht;simp only[Ah] at h;obtain⟨k,hk,rfl⟩:=h;exact VM (.inr ho) hm hi hx ht hk
   cases h
 . rename_i x ti t ok ho;split at h
   . cases h
   . rename_i x' d z hni hx ht hz;obtain rfl:=Aa h;obtain⟨zv,xo,hz2⟩:=PI hz;exact aGi ho hx ht (fun ms he=>hni ms he) xo hz2
   cases h
 . rename_i x i ho;simp only[Ah] at h;obtain⟨x',hx,rfl⟩:=h;exact aFv ho hx
 . rename_i t x ho;split at h
   . obtain rfl:=Aa h;cases hp
   cases h
 . rename_i x st ho;split at h
   . obtain rfl:=Aa h;cases hp
   cases h
 . rename_i x ho;simp only[Ah] at h;obtain⟨x',hx,rfl⟩:=h;cases hp
 . rename_i c ho;unfold nI at h;split at h
   . rename_i hc;exact gq ho hc h
   . rename_i hc;exact SB ho hc h
   . rename_i hc;split at h
     . rename_i x y t ha Pf;split at h
       . rename_i x' y' e sz hx hy ht;obtain rfl:=Aa h;obtain⟨hu,kZ⟩:=kF ht;exact aFu ho hc (GV ha) hx hy Pf hu kZ
       cases h
     cases h
   . rename_i f hc;split at h
     . obtain rfl:=Aa h;cases hp
     cases h
   . rename_i hc;split at h
     . rename_i x y ha;split at h
       . rename_i x' y' hx hy;obtain rfl:=Aa h;exact aGb ho hc (GV ha) hx hy
       cases h
     cases h
   . rename_i hc;split at h
     . rename_i x y ha;split at h
       . rename_i x' y' hx hy;obtain rfl:=Aa h;exact aGc ho hc (GV ha) hx hy
       cases h
     cases h
   . rename_i hc;split at h
     . rename_i x t ha Pf;split at h
       . rename_i x' e sz hx ht;obtain⟨hu,kZ⟩:=kF ht;split at h
         . rename_i z hz;simp only[Ah] at h;obtain⟨zs,CE,rfl⟩:=h;exact aSz ho hc (Mz ha) hx Pf hu hz CE
         cases h
       cases h
     cases h
   cases h
 . rename_i x ho;simp only[Ah] at h;obtain⟨x',hx,rfl⟩:=h;cases hp
 . rename_i c ho;split at h
   . split at h
     . obtain rfl:=Aa h;cases hp
     cases h
   cases h
 cases h
def eE.fresh:eE->Bool
 |.alloc _|.box _|.yQ|.jQ _ _ _ _ _|.BK _=>true
 |_=>false
theorem aDw {P:Program} {g:bG} {mu:Bool} {o:Oper} {r:eE} (h:NO P g mu o=some r) (hp:r.fresh=true):DG P g o r:=by
 unfold NO at h;split at h
 case h_4=>
  rename_i t ho;split at h
  . rename_i z hz;simp only[Ah] at h;obtain⟨zs,CE,rfl⟩:=h;exact Qh ho hz CE
  cases h
 case h_5=>rename_i t x ho;simp only[Ah] at h;obtain⟨x',hx,rfl⟩:=h;exact ZV ho hx
 case h_7=>
  rename_i t len parts ho;split at h
  . rename_i e sz ht;split at h
    . rename_i z ys hz MR;split at h
      . rename_i eU;split at h
        . rename_i hr;obtain rfl:=Aa h;exact Nc ho ht hz eU.1 eU.2 MR hr
        obtain rfl:=Aa h;cases hp
      cases h
    cases h
  cases h
 case h_13=>
  rename_i src dst x ho;unfold mF at h;split at h
  . rename_i x' hx;split at h
    . obtain rfl:=Aa h;cases hp
    . rename_i e hs hd;split at h
      . rename_i he;obtain rfl:=Aa h;exact Qi ho hx hs hd he
      cases h
    . split at h
      . obtain rfl:=Aa h;cases hp
      cases h
    cases h
  cases h
 case h_17=>
  rename_i t rr ho;split at h
  . rename_i k v ht;obtain rfl:=Aa h;exact KI ho ht (.inl rfl)
  . rename_i k v j n ht;obtain rfl:=Aa h;exact KI ho ht (.inr ⟨_,_,rfl⟩)
  cases h
 case h_18=>
  rename_i t x y ho;split at h
  . rename_i x' y' e sz hx hy ht;split at h
    . rename_i i z hi hz;split at h
      . rename_i zs CE;split at h
        . rename_i eU;obtain rfl:=Aa h;exact LI ho hx hy ht hi hz CE eU.1 eU.2
        cases h
      cases h
    cases h
  cases h
 all_goals exfalso
 all_goals (try unfold pV at h)
 all_goals (try unfold jW at h)
 all_goals (try unfold nI at h)
 all_goals (try unfold pW at h)
 all_goals (try unfold iI at h)
 all_goals repeat' (split at h)
 all_goals first
  |(cases h;done)
  |(obtain rfl:=Aa h;cases hp)
  |(simp only[Ah] at h;obtain⟨_,_,rfl⟩:=h;cases hp)
inductive Out where
 |ret (v:AV)
 |JP (v:AV)
def We (G:Gh) (w:World):Out->Ending->Prop
 |.ret v,.returned u=>VR G w v u
 |.JP v,.panicked chain=>∃u,chain=[{v:=u,recovered:=false}]/\VR G w v u
 |_,_=>False
def Mn (P:Program) (f:FuncId):Prop:=∃fn,P.funcs[f]?=some fn/\fn.body.isSome=true/\(fn.name== "runtime.NumGoroutine")=false
def Sound (P:Program) (g:bG) (f:FuncId) (args:List AV) (H:aA) (out:Out) (H':aA):Prop:=
 Mn P f/\∀(G:Gh) (w:World) (vs:List Value),WR g G H w->iK G w args vs->
  Calls P f vs.toArray w fun e w'=>∃G',WR g G' H' w'/\Ext G H w G' H' w'/\We G' w' out e
def Fw (ro:Option Nat):Fence:={Fence.wide with round:=ro}
def EI (P:Program) (g:bG) (id:Nat) (args:List AV) (H:aA) (out:Out) (H':aA):Prop:=
 ∀(G:Gh) (w:World) (vs:List Value) (l:Loc),WR g G H w->iK G w args vs->G.loc id=some l->
  YieldAt Fence.wide 0 P l.cZ vs.toArray w fun e w'=>∃G',WR g G' H' w'/\Ext G H w G' H' w'/\We G' w' out e
inductive gM where
 |call (f:FuncId) (azs:List AV)
 |mark (id:Nat)
inductive AEx where
 |normal
 |exit (id:Nat)
 |ret
 |panic (v:AV)
def bU (s:List AV) (o:bK):Bool:=
 match o.guard with
 |none=>true
 |some (d,b)=>match s.getD d aC with
  |.bool c=>c==b
  |_=>false
def mZ (s:List AV) (dst:Option Nat) (v:AV):List AV:=
 match dst with
 |none=>s
 |some d=>s.set d v
def mE:AV->Option (FuncId×List AV×List AV)
 |.func (.func f) fs cs=>some (f,fs,cs)
 |_=>none
def QB (P:Program) (g:bG) (fv:AV) (args:List AV) (H:aA) (out:Out) (H':aA):Prop:=
 (∃p,mE fv=some p/\Sound P g p.1 (p.2.1++args++p.2.2) H out H')\/(∃id,fv=.yield id/\EI P g id args H out H')
abbrev AQ:=AEx->List AV->List gM->aA->Prop
def uH (P:Program) (g:bG):List bK->List AV->List gM->aA->AQ->Prop
 |[],s,ds,H,Q=>Q .normal s ds H
 |o::r,s,ds,H,Q=>
  if bU s o then
   match o.op with
   |.call f azs=>∃out H',QB P g (f.eval g s) (azs.map (Arg.eval g s)) H out H'/\
     match out with
     |.ret v=>uH P g r (mZ s o.dst v) ds H' Q
     |.JP v=>Q (.panic v) s ds H'
   |.panic x=>∃t v,x.eval g s=.iface t v/\Q (.panic (.iface t v)) s ds H
   |.kY f azs=>∃p,mE (f.eval g s)=some p/\uH P g r (mZ s o.dst aC) (.call p.1 (p.2.1++azs.map (Arg.eval g s)++p.2.2)::ds) H Q
   |.vM x=>∃m es,x.eval g s=.map m/\H.get m=some (.map es)/\∀bs c mb,bs.length=es.length->bs.Nodup->
     uH P g r (mZ s o.dst (.ref H.next 0)) ds ((H.set m (.sK es bs c mb)).alloc (.iter m mb c [])) Q
   |.DT x=>∃it m mb c seen es bs,x.eval g s=.ref it 0/\H.get it=some (.iter m mb c seen)/\H.get m=some (.sK es bs c mb)/\
     ((∀b∈bs,b∈seen)->uH P g r (mZ s o.dst (.iA [.bool false])) ds H Q)/\
     ∀j,j<bs.length->bs.getD j 0∉seen->uH P g r (mZ s o.dst (.iA [.bool true,(es.getD j (aC,aC)).1,(es.getD j (aC,aC)).2])) ds (H.set it (.iter m mb c (seen++[bs.getD j 0]))) Q
   |.xZ x=>∃it m mb c seen es bs j,x.eval g s=.ref it 0/\H.get it=some (.iter m mb c (seen++[bs.getD j 0]))/\H.get m=some (.sK es bs c mb)/\j<bs.length/\
     uH P g r (mZ s o.dst (.iA [(es.getD j (aC,aC)).1,(es.getD j (aC,aC)).2])) ds H Q
   |op=>∃v H',dA (Arg.eval g s) H op=some (v,H')/\uH P g r (mZ s o.dst v) ds H' Q
  else uH P g r (mZ s o.dst aC) ds H Q
def Ro (G:Gh) (w:World):List gM->List Deferred->Prop
 |[],[]=>True
 |.call f azs::ds,d::r=>(∃cap:List Value,d.target=.fn (.func f) cap.toArray/\iK G w azs (d.args.toList++cap))/\Ro G w ds r
 |.mark id::ds,d::r=>(∃l,G.loc id=some l/\d.target=.collected l.cZ)/\Ro G w ds r
 |_,_=>False
theorem Ro.ext {G G':Gh} {H H':aA} {w w':World} (e:Ext G H w G' H' w'):∀{ds:List gM} {l:List Deferred},Ro G w ds l->Ro G' w' ds l
 |[],[],_=>trivial
 |.call f azs::ds,d::r,h=>⟨let⟨cap,h1,h2⟩:=h.1;⟨cap,h1,h2.ext e⟩,Ro.ext e h.2⟩
 |.mark id::ds,d::r,h=>⟨let⟨l,h1,h2⟩:=h.1;⟨l,e.loc _ _ h1,h2⟩,Ro.ext e h.2⟩
 |[],_::_,h=>h.elim
 |.call _ _::_,[],h=>h.elim
 |.mark _::_,[],h=>h.elim
def ExR (G:Gh) (w:World):AEx->Exit->Prop
 |.normal,.normal=>True
 |.exit i,.exit j=>i=j
 |.ret,.ret=>True
 |.panic v,.panic chain=>∃u,chain=[{v:=u,recovered:=false}]/\VR G w v u
 |_,_=>False
def QR (g:bG) (G:Gh) (H:aA) (w:World) (Q:AQ):Exit->Act->World->Prop:=fun e a' w'=>∃ae s' fN H' G',Q ae s' fN H'/\WR g G' H' w'/\Ext G H w G' H' w'/\SR G' w' s' a'/\Ro G' w' fN a'.defers/\ExR G' w' ae e
theorem QR.trans {g:bG} {G G1:Gh} {H H1:aA} {w w1:World} {Q:AQ} (e:Ext G H w G1 H1 w1) {x:Exit} {a:Act} {w':World} (h:QR g G1 H1 w1 Q x a w'):QR g G H w Q x a w':=
 let⟨ae,s',fN,H',G',q,hw,he,hs,hd,hx⟩:=h
 ⟨ae,s',fN,H',G',q,hw,e.trans he,hs,hd,hx⟩
def Kz (P:Program) (g:bG) (mu:Bool) (ops:Array Oper) (o:Oper):Option bK:=
 match NO P g mu o with
 |some r=>
  match o.guard with
  |none=>some ⟨o.dst,r,none⟩
  |some (j,b)=>match (ops[j]?).bind (·.dst) with
   |some d=>some ⟨o.dst,r,some (d,b)⟩
   |none=>none
 |none=>none
def lP (P:Program) (g:bG) (mu:Bool) (ops:Array Oper):List Oper->Option (List bK)
 |[]=>some []
 |o::r=>match Kz P g mu ops o,lP P g mu ops r with
  |some x,some xs=>some (x::xs)
  |_,_=>none
theorem EN {P:Program} {g:bG} {mu:Bool} {ops:Array Oper} {o:Oper} {r:bK} (h:Kz P g mu ops o=some r):r.dst=o.dst/\NO P g mu o=some r.op/\
 ((o.guard=none/\r.guard=none)\/∃j b d,o.guard=some (j,b)/\(ops[j]?).bind (·.dst)=some d/\r.guard=some (d,b)):=by
 unfold Kz at h;split at h
 . rename_i r' hr;split at h
   . rename_i hg;obtain rfl:=Aa h;exact⟨rfl,hr,.inl ⟨hg,rfl⟩⟩
   rename_i j b hg;split at h
   . rename_i d hd;obtain rfl:=Aa h;exact⟨rfl,hr,.inr ⟨j,b,d,hg,hd,rfl⟩⟩
   cases h
 cases h
theorem VR.sk {G:Gh} {w:World} {v:AV} {u:Value} (h:VR G w v u) (b:Bool):v=.bool b↔u=.bool b:=by
 constructor
 . rintro rfl;exact h.jT
 rintro rfl;cases h;rfl
theorem CT (a:Array Value) (d:Nat) (b:Bool):a[d]?=some (.bool b)↔a.getD d undef=.bool b:=by
 rw[Bo]
 cases h:a[d]? with
 |none=>simp[undef]
 |some v=>simp
theorem PG {P:Program} {g:bG} {mu:Bool} {ops:Array Oper} {o:Oper} {r:bK} (h:Kz P g mu ops o=some r) {G:Gh} {w:World} {s:List AV} {a:Act} (hs:SR G w s a):
 Region.wanted o (yielded ops a.tmps)=bU s r:=by
 obtain⟨_,_,hg⟩:=EN h
 rcases hg with ⟨h1,h2⟩|⟨j,b,d,h1,h2,h3⟩
 . simp[Region.wanted,bU,h1,h2]
 simp only[Region.wanted,bU,h1,h3,yielded,h2,Option.bind_some];have hv:=hs.getD d
 have key:∀c,s.getD d aC=.bool c↔a.tmps[d]?=some (.bool c):=fun c=>by rw[CT];exact hv.sk c
 cases hsd:s.getD d aC with
 |bool c=>rw[(key c).1 hsd];simp
 |_=>
  have :∀c,a.tmps[d]?≠some (.bool c):=fun c hc=>by have :=(key c).2 hc;rw[hsd] at this;cases this
  split
  . rename_i c hc;exact absurd hc (this c)
  rfl
theorem SR.put {G:Gh} {w:World} {s:List AV} {a:Act} (h:SR G w s a) (dst:Option Nat) {v:AV} {u:Value} (hv:VR G w v u):SR G w (mZ s dst v) (a.put dst u):=by
 cases dst with
 |none=>exact h
 |some d=>
  have hl:=h.1;refine⟨by simpa [mZ,Act.put] using hl,fun j hj=>?_⟩;simp only[mZ,By] at hj;simp only[Cu] at hl;have FE:j<a.tmps.size:=by omega
  simp only[mZ,Act.put];rw[iG,getD_eq,Gz,Fh];by_cases hd:d=j
  . subst hd;simp only[if_true,hj,FE,Bi];exact hv
  rw[if_neg hd,if_neg hd];have :=h.2 j hj
  rwa [iG] at this
theorem SR.ext {G G':Gh} {H H':aA} {w w':World} {s:List AV} {a:Act} (h:SR G w s a) (e:Ext G H w G' H' w'):SR G' w' s a:=iK.ext h e
theorem EL {G:Gh} {w:World} {v:AV} {u:Value} {p:FuncId×List AV×List AV} (h:mE v=some p) (hv:VR G w v u):
 ∃azs bs:List Value,u=.func (.func p.1) azs.toArray bs.toArray/\iK G w p.2.1 azs/\iK G w p.2.2 bs:=by
 cases v<;>simp only[mE] at h<;>try (cases h;done)
 rename_i fn fs cs
 cases fn<;>simp only[] at h<;>first|(cases h;done)|skip
 obtain rfl:=Aa h
 cases hv with
 |func _ _ _ azs bs ha hb hav hbv=>exact⟨azs,bs,rfl,⟨ha,hav⟩,⟨hb,hbv⟩⟩
theorem xC {P:Program} {ρ:Operand->Value} {c:Call} {t:TypeId} {f:Operand} {fid:FuncId} {azs bs:List Value} (hc:c.callee=.value f) (hf:ρ f=.func (.func fid) azs.toArray bs.toArray) (w:World):
 (resolve ρ c t).run P w=.ok {target:=.fn (.func fid) bs.toArray,args:=azs.toArray++c.args.map ρ} w:=by
 simp[resolve,hc,hf,Deferred.ofValue]
theorem nL {P:Program} {fid:FuncId} (rO:Mn P fid) (args:Array Value) (cap:Array Value) (w:World):(invoke (.fn (.func fid) cap) args).run P w=.ok (.enter fid (args++cap)) w:=by
 obtain⟨fn,h1,h2,h3⟩:=rO;have hb:¬fn.body=none:=fun hh=>by rw[hh] at h2;cases h2
 have h3':¬fn.name= "runtime.NumGoroutine" :=by simpa using h3
 simp[invoke,callFunc,program,Sem.run,h1,h3',hb]
theorem NF {ro:Option Nat} {n:Nat} {P:Program} {f:FuncId} {args:Array Value} {w:World} {R:Ending->World->Prop} (h:Calls P f args w R):CallsIn (Fw ro) n P f args w R:=
 (callsIn_wide (n:=n)).2 h
theorem AX {ro:Option Nat} {n:Nat}:(Fw ro).depth.isSome=true->1<=n:=fun h=>by cases h
def sq (next:Act->World->Prop) (Q:Exit->Act->World->Prop) (a:Act) (d:Option Nat):Ending->World->Prop
 |.returned v,w=>next (a.put d v) w
 |.panicked chain,w=>Q (.panic chain) a w
 |.outgrown,_=>LetsOut Q
theorem QN {g:bG} {o:Oper} {G:Gh} {H H':aA} {w:World} {a:Act} {out:Out} {next:Act->World->Prop} {Q:Exit->Act->World->Prop}
 (hn:∀v,out=.ret v->∀u w' G',WR g G' H' w'->Ext G H w G' H' w'->VR G' w' v u->next (a.put o.dst u) w')
 (hx:∀v,out=.JP v->∀u w' G',WR g G' H' w'->Ext G H w G' H' w'->VR G' w' v u->Q (.panic [{v:=u,recovered:=false}]) a w') (e:Ending) (w':World)
 (he:∃G',WR g G' H' w'/\Ext G H w G' H' w'/\We G' w' out e):
 sq next Q a o.dst e w':=by
 obtain⟨G',lI,xT,qC⟩:=he
 cases out with
 |ret v=>
  cases e with
  |returned u=>exact hn v rfl u w' G' lI xT qC
  |panicked _=>exact qC.elim
  |outgrown=>exact qC.elim
 |JP v=>
  cases e with
  |returned _=>exact qC.elim
  |panicked chain=>obtain⟨u,rfl,hv⟩:=qC;exact hx v rfl u w' G' lI xT hv
  |outgrown=>exact qC.elim
theorem aBz {G:Gh} {w:World} {id:Nat} {u:Value} (h:VR G w (.yield id) u):∃l,G.loc id=some l/\u=.func (.yield l.cZ) #[] #[]:=by
 cases h with
 |yield _ l hl=>exact⟨l,hl,rfl⟩
theorem TU {P:Program} {g:bG} {ro:Option Nat} {o:Oper} {c:Call} {f:Operand} {f':Arg} {as':List Arg} (ho:o.op=.call c) (hc:c.callee=.value f) (hf:bN g f=some f') (has:nN g c.args.toList=some as')
 {G:Gh} {H H':aA} {w:World} {s:List AV} {a:Act} {out:Out} (hw:WR g G H w) (hs:SR G w s a)
 (hS:QB P g (f'.eval g s) (as'.map (Arg.eval g s)) H out H') {next:Act->World->Prop} {Q:Exit->Act->World->Prop}
 (hn:∀v,out=.ret v->∀u w' G',WR g G' H' w'->Ext G H w G' H' w'->VR G' w' v u->next (a.put o.dst u) w')
 (hx:∀v,out=.JP v->∀u w' G',WR g G' H' w'->Ext G H w G' H' w'->VR G' w' v u->Q (.panic [{v:=u,recovered:=false}]) a w'):
 o.wpIn (Fw ro) 0 P a w next Q:=by
 have Nl:=tC hw hs has;have bFv:o.semAt (Fw ro).round a.eval=execOp a.eval o:=Oper.semAt_eq _ _ _ fun c' h=>by rw[ho] at h;cases h
 refine⟨fun _ _=>trivial,?_⟩;rw[bFv];have aRt:=bM hw hs hf
 rcases hS with ⟨p,hp,hS⟩|⟨id,hp,hS⟩
 . obtain⟨us,bs,hfv,h1,h2⟩:=EL hp aRt
   have jE:(execOp a.eval o).run P w=.ok (.enter p.1 (us++c.args.toList.map a.eval++bs).toArray) w:=by simp only[execOp,ho,Sem.run_bind,xC hc hfv,Result.andThen_ok,nL hS.1];congr 2;apply Fj;simp
   have DO:=hS.2 G w _ hw ((h1.append Nl).append h2);rw[jE];exact⟨AX,(NF DO).mono fun e w' he=>by have :=QN hn hx e w' he;cases e<;>exact this⟩
 rw[hp] at aRt;obtain⟨l,hl,hfv⟩:=aBz aRt;obtain⟨fn,tmps,assign,body,hy,hR⟩:=hS G w _ l hw Nl hl
 have jE:(execOp a.eval o).run P w=.ok (.round l.cZ fn tmps assign body) w:=by
  have hy':(Instr.yield l.cZ (c.args.map a.eval)).run P w=.ok (.round l.cZ fn tmps assign body) w:=by rw[<-hy];congr 2;apply Fj;simp
  simp[execOp,ho,resolve,hc,hfv,Deferred.ofValue,invoke,hy']
 rw[jE];exact⟨AX,RoundIn.mono (show RoundIn (Fw ro) 0 P l.cZ fn tmps assign body w _ from hR) fun e w' he=>by have :=QN hn hx e w' he;cases e<;>exact this⟩
theorem PH {P:Program} {g:bG} {ro:Option Nat} {o:Oper} {r:eE} (rO:cN P g o r) (Pj:∀c,o.op≠ .defer c) {G:Gh} {H H':aA} {w:World} {s:List AV} {a:Act} {v:AV} (hw:WR g G H w) (hs:SR G w s a)
 (h:dA (Arg.eval g s) H r=some (v,H')) {next:Act->World->Prop} {Q:Exit->Act->World->Prop}
 (hn:∀u w' G',WR g G' H' w'->Ext G H w G' H' w'->VR G' w' v u->next (a.put o.dst u) w'):o.wpIn (Fw ro) 0 P a w next Q:=by
 obtain⟨n,u,w',G',hr,hnv,r1,r2,r3⟩:=rO s a G H w v H' hw hs h;refine⟨fun _ _=>trivial,?_⟩;rw[show o.semAt (Fw ro).round a.eval=execOp a.eval o from Oper.semAt_eq _ _ _ Pj,hr]
 rcases hnv with rfl|⟨rfl,rfl⟩
 . exact hn u w' G' r1 r2 r3
 exact hn undef w' G' r1 r2 r3
theorem xM {P:Program} {g:bG} {mu:Bool} {o:Oper} {r:eE} (h:NO P g mu o=some r) (hr:∀f azs,r≠ .kY f azs):∀c,o.op≠ .defer c:=by
 intro c ho;unfold NO at h;rw[ho] at h;simp only at h;split at h
 . split at h
   . obtain rfl:=Aa h;exact hr _ _ rfl
   cases h
 cases h
theorem UJ {P:Program} {g:bG} {mu:Bool} {o:Oper} {f':Arg} {as':List Arg} (h:NO P g mu o=some (.call f' as')):
 ∃c f,o.op=.call c/\c.callee=.value f/\bN g f=some f'/\nN g c.args.toList=some as':=by
 unfold NO at h;split at h
 case h_31=>
  rename_i c ho;unfold nI at h;split at h
  case h_4=>
   rename_i f hc;split at h
   . rename_i f2 as2 hf has;cases h;exact⟨c,f,ho,hc,hf,has⟩
   cases h
  all_goals exfalso
  all_goals (try unfold pW at h)
  all_goals (try unfold iI at h)
  all_goals repeat' (split at h)
  all_goals first
   |(cases h;done)
   |(simp only[Ah] at h;obtain⟨_,_,h⟩:=h;cases h;done)
 all_goals exfalso
 all_goals (try unfold pV at h)
 all_goals (try unfold jW at h)
 all_goals (try unfold mF at h)
 all_goals repeat' (split at h)
 all_goals first
  |(cases h;done)
  |(simp only[Ah] at h;obtain⟨_,_,h⟩:=h;cases h;done)
theorem ia {P:Program} {g:bG} {mu:Bool} {o:Oper} {x':Arg} (h:NO P g mu o=some (.panic x')):∃x,o.op=.panic x/\bN g x=some x':=by
 unfold NO at h;split at h
 case h_32=>rename_i x ho;simp only[Ah] at h;obtain⟨y,hy,he⟩:=h;cases he;exact⟨x,ho,hy⟩
 all_goals exfalso
 all_goals (try unfold pV at h)
 all_goals (try unfold jW at h)
 all_goals (try unfold mF at h)
 all_goals (try unfold nI at h)
 all_goals (try unfold pW at h)
 all_goals (try unfold iI at h)
 all_goals repeat' (split at h)
 all_goals first
  |(cases h;done)
  |(simp only[Ah] at h;obtain⟨_,_,h⟩:=h;cases h;done)
theorem gu {P:Program} {g:bG} {mu:Bool} {o:Oper} {f':Arg} {as':List Arg} (h:NO P g mu o=some (.kY f' as')):
 ∃c f,o.op=.defer c/\c.callee=.value f/\bN g f=some f'/\nN g c.args.toList=some as':=by
 unfold NO at h;split at h
 case h_33=>
  rename_i c ho;split at h
  . rename_i f hc;split at h
    . rename_i f2 as2 hf has;cases h;exact⟨c,f,ho,hc,hf,has⟩
    cases h
  cases h
 all_goals exfalso
 all_goals (try unfold pV at h)
 all_goals (try unfold jW at h)
 all_goals (try unfold mF at h)
 all_goals (try unfold nI at h)
 all_goals (try unfold pW at h)
 all_goals (try unfold iI at h)
 all_goals repeat' (split at h)
 all_goals first
  |(cases h;done)
  |(simp only[Ah] at h;obtain⟨_,_,h⟩:=h;cases h;done)
theorem TT {P:Program} {ops:Array Oper} {ro:Option Nat} {Q Q':Exit->Act->World->Prop} (hq:∀e a w,Q e a w->Q' e a w):∀(l:List Nat) (a:Act) (w2:World),wpOpsIn (Fw ro) 0 P ops Q l a w2->wpOpsIn (Fw ro) 0 P ops Q' l a w2:=by
 intro l
 induction l with
 |nil=>exact fun a w2 hh=>hq _ _ _ hh
 |cons i l ih=>
  intro a w2 hh;rw[wpOpsIn_cons] at hh ⊢;unfold wpOpIn at hh ⊢;split
  . rename_i hi;simp only[hi] at hh;exact ih _ _ hh
  rename_i x hi;simp only[hi] at hh;split
  . rename_i Pq;simp only[Pq,if_true] at hh;unfold Oper.wpIn at *;refine⟨hh.1,?_⟩;have hh:=hh.2;generalize (x.semAt (Fw ro).round a.eval).run P w2=rr at *
    have eq:∀(e:Ending) (w4:World),sq (wpOpsIn (Fw ro) 0 P ops Q l) Q a x.dst e w4->sq (wpOpsIn (Fw ro) 0 P ops Q' l) Q' a x.dst e w4:=fun e w4 xS=>by
     cases e with
     |returned v=>exact ih _ _ xS
     |panicked ch=>exact hq _ _ _ xS
     |outgrown=>exact let⟨a0,w0,q⟩:=xS;⟨a0,w0,hq _ _ _ q⟩
    cases rr with
    |ok n w3=>
     cases n<;>simp only[Oper.uponIn] at hh ⊢ <;>first
      |exact ih _ _ hh
      |exact hh
      |exact⟨hh.1,CallsIn.mono hh.2 (fun e w4 h=>by have :=eq e w4 (by cases e<;>exact h);cases e<;>exact this)⟩
      |exact⟨hh.1,RoundIn.mono hh.2 (fun e w4 h=>by have :=eq e w4 (by cases e<;>exact h);cases e<;>exact this)⟩
      |exact⟨hh.1,RowsIn.mono hh.2 (fun _ _ xS=>ih _ _ xS)⟩
    |halt y w3=>cases y<;>simp only[Oper.uponIn] at hh ⊢ <;>first|exact hh|exact hq _ _ _ hh
  rename_i Pq;simp only[Pq] at hh;exact⟨hh.1,ih _ _ hh.2⟩
theorem ic {P:Program} {g:bG} {mu:Bool} {o:Oper} {x':Arg} (h:NO P g mu o=some (.vM x')):∃t x k v,o.op=.range t x/\bN g x=some x'/\P.underlying t=some (.map k v):=by
 unfold NO at h;split at h
 case h_28=>
  rename_i t x ho;split at h
  . rename_i y k v hy ht;cases h;exact⟨t,x,k,v,ho,hy,ht⟩
  cases h
 all_goals exfalso
 all_goals (try unfold pV at h)
 all_goals (try unfold jW at h)
 all_goals (try unfold mF at h)
 all_goals (try unfold nI at h)
 all_goals (try unfold pW at h)
 all_goals (try unfold iI at h)
 all_goals repeat' (split at h)
 all_goals first
  |(cases h;done)
  |(simp only[Ah] at h;obtain⟨_,_,h⟩:=h;cases h;done)
theorem s9 {P:Program} {g:bG} {mu:Bool} {o:Oper} {x':Arg} (h:NO P g mu o=some (.DT x')):∃x,o.op=.next x false/\bN g x=some x':=by
 unfold NO at h;split at h
 case h_29=>
  rename_i x s ho;split at h
  . rename_i y hy;cases h;exact⟨x,ho,hy⟩
  cases h
 all_goals exfalso
 all_goals (try unfold pV at h)
 all_goals (try unfold jW at h)
 all_goals (try unfold mF at h)
 all_goals (try unfold nI at h)
 all_goals (try unfold pW at h)
 all_goals (try unfold iI at h)
 all_goals repeat' (split at h)
 all_goals first
  |(cases h;done)
  |(simp only[Ah] at h;obtain⟨_,_,h⟩:=h;cases h;done)
theorem gw {P:Program} {g:bG} {mu:Bool} {o:Oper} {x':Arg} (h:NO P g mu o=some (.xZ x')):∃x,o.op=.entry x/\bN g x=some x':=by
 unfold NO at h;split at h
 case h_30=>rename_i x ho;simp only[Ah] at h;obtain⟨y,hy,he⟩:=h;cases he;exact⟨x,ho,hy⟩
 all_goals exfalso
 all_goals (try unfold pV at h)
 all_goals (try unfold jW at h)
 all_goals (try unfold mF at h)
 all_goals (try unfold nI at h)
 all_goals (try unfold pW at h)
 all_goals (try unfold iI at h)
 all_goals repeat' (split at h)
 all_goals first
  |(cases h;done)
  |(simp only[Ah] at h;obtain⟨_,_,h⟩:=h;cases h;done)
theorem Xo {G:Gh} {w:World} {id:Nat} {u:Value} (h:VR G w (.map id) u):∃l,G.loc id=some l/\u=.map (some l.cZ):=by
 cases h with
 |map _ l hl=>exact⟨l,hl,rfl⟩
theorem aAe {G:Gh} {w:World} {id off:Nat} {u:Value} (h:VR G w (.ref id off) u):∃l,G.loc id=some l/\u=.pointer (some ⟨l.cZ,l.base+off,none⟩):=by
 cases h with
 |ref _ _ l hl=>exact⟨l,hl,rfl⟩
theorem GA {α:Type} {a:Array α} {i:Nat} {x:α} (h:a[i]?=some x):a.setIfInBounds i x=a:=by
 apply Array.ext_getElem?;intro j;rw[Fh];split
 . rename_i yN;subst yN;rw[if_pos (Cf.1 h).1,h]
 rfl
theorem WR.fresh {g:bG} {G:Gh} {H:aA} {w:World} (hw:WR g G H w):G.loc H.next=none:=by
 cases hl:G.loc H.next with
 |none=>rfl
 |some l'=>exact absurd (hw.lt _ _ hl) (Ez _)
theorem YP {P:Program} {g:bG} {G:Gh} {H:aA} {w:World} (hw:WR g G H w) {m:Nat} {es:List (AV×AV)} {u:Value} (hg:H.get m=some (.map es)) (hu:VR G w (.map m) u)
 {t k v:TypeId} (ht:P.underlying t=some (.map k v)):∃bs c mb u' w' G',bs.length=es.length/\bs.Nodup/\(Instr.range t u).run P w=.ok u' w'/\
   WR g G' ((H.set m (.sK es bs c mb)).alloc (.iter m mb c [])) w'/\Ext G H w G' ((H.set m (.sK es bs c mb)).alloc (.iter m mb c [])) w'/\VR G' w' (.ref H.next 0) u':=by
 obtain⟨l,hl,rfl⟩:=Xo hu;obtain⟨XS,TY,ents,clock,h1,h2,h3,h4⟩:=hw.iS _ _ _ hl hg rfl;have hlen:(ents.toList.map (·.born)).length=es.length:=by simpa using h2
 have Pj:(ents.toList.map (·.born)).Nodup:=by rw[List.Nodup,Gc];intro i j hi hj yN he;simp only[Af,Cu] at hi hj;simp only[Dq,Array.getElem_toList] at he;have :=h3.2 i j hi hj (by rw[Bo,Bo,Dv hi,Dv hj];exact he);omega
 have fF:∀b∈ents.toList.map (·.born),b<clock:=by
  intro b hb;simp only[Bj] at hb;obtain⟨x,hx,rfl⟩:=hb;obtain⟨i,hi,rfl⟩:=Ei hx;have gO:i<ents.size:=by simpa using hi
  have :=h3.1 i gO;rw[Bo,Dv gO] at this;simpa using this
 refine⟨ents.toList.map (·.born),clock,l.cZ,.pointer (some ⟨w.heap.size,0,none⟩),w.alloc (.mapIter (some l.cZ) clock #[] clock),G.dX H.next ⟨w.heap.size,0,0,1⟩,hlen,Pj,?_,?_⟩
 . simp[Instr.range,underlying,program,ht,getObj,newObj,Sem.run,h1,Result.andThen]
 obtain⟨q1,q2⟩:=hw.FZ (o':=.sK es (ents.toList.map (·.born)) clock l.cZ) (x:=.map ents clock) (w':=w) hl hg rfl rfl (GA h1).symm .now
  (fun _ wN=>⟨rfl,Pj,fF,ents,wN,rfl,hlen,h4⟩)
 have m1:=q1.CJ (H':=(H.set m (.sK es (ents.toList.map (·.born)) clock l.cZ)).alloc (.iter m l.cZ clock [])) H.next (.iter m l.cZ clock []) (.mapIter (some l.cZ) clock #[] clock) rfl q1.fresh (aA.aG _ _) (Gn _) (Ew _) (w':=w.alloc (.mapIter (some l.cZ) clock #[] clock)) ⟨rfl,.now⟩
  (fun hm=>⟨by show(w.heap.push _)[w.heap.size]?=_;simp,hm _ _ (.map m l hl)⟩)
 exact⟨m1.rel,m1.ext q2 (Ab _),.ref H.next 0 ⟨w.heap.size,0,0,1⟩ (by show(if H.next=H.next then some (⟨w.heap.size,0,0,1⟩:Loc) else _)=_;simp)⟩
theorem kc {P:Program} {g:bG} {G:Gh} {H:aA} {w:World} (hw:WR g G H w) {it m mb c:Nat} {seen bs:List Nat} {es:List (AV×AV)} {u:Value} (FA:H.get it=some (.iter m mb c seen)) (hgm:H.get m=some (.sK es bs c mb))
 (hu:VR G w (.ref it 0) u) (ty:TypeId):
 ((∀b∈bs,b∈seen)/\(Instr.next u false ty).run P w=.ok (.tuple #[.bool false]) w)\/
 ∃j u' w' G',j<bs.length/\bs.getD j 0∉seen/\(Instr.next u false ty).run P w=.ok u' w'/\WR g G' (H.set it (.iter m mb c (seen++[bs.getD j 0]))) w'/\Ext G H w G' (H.set it (.iter m mb c (seen++[bs.getD j 0]))) w'/\
  VR G' w' (.iA [.bool true,(es.getD j (aC,aC)).1,(es.getD j (aC,aC)).2]) u':=by
 obtain⟨li,oz,rfl⟩:=aAe hu;obtain⟨XS,TY,hbi,hvm⟩:=hw.iS _ _ _ oz FA rfl;obtain⟨lm,hlm,hmb⟩:=Xo hvm;cases hmb;obtain⟨_,_,_,Pj,fF,ents,uz,Zc,hlen,oP⟩:=hw.iS _ _ _ hlm hgm rfl;rw[XS];have hold:∀x∈ents.toList,x.born<c:=fun x hx=>fF _ (by rw[<-Zc];exact List.mem_map_of_mem hx)
 rcases run_next_at (P:=P) w ty li.cZ lm.cZ c c seen.toArray ents c hbi uz hold (Ab _) with ⟨h0,hr⟩|⟨e,he,w1,Qx,hr⟩
 . refine .inl ⟨fun b hb=>?_,hr⟩;rw[<-Zc] at hb;obtain⟨x,hx,rfl⟩:=Bj.1 hb;have Ni:=Array.eq_empty_of_size_eq_zero h0;unfold leftOf at Ni;rw[Array.filter_eq_empty_iff] at Ni;have :=Ni x (by simpa using hx);simpa using this
 right;unfold leftOf at he;simp only[Array.toList_filter,Fg,Cn,List.contains_toArray] at he;obtain⟨hem,hns⟩:=he;obtain⟨j,hj,hje⟩:=Ei hem;have hjs:j<ents.size:=by simpa using hj
 have hjb:j<bs.length:=by rw[<-Zc];simpa using hj
 have hbj:bs.getD j 0=e.born:=by subst Zc;simp[Bf,Cw,Ad hj,hje]
 have aRo:ents.getD j default=e:=by rw[Bo,Dv hjs];simpa using hje
 have aVb:w1.heap=w.heap:=by rcases Qx with rfl|rfl<;>rfl
 have DR:zH w w1:=by rcases Qx with rfl|rfl<;>exact .now
 obtain⟨q1,q2⟩:=hw.FZ (o':=.iter m lm.cZ c (seen++[bs.getD j 0])) (x:=.mapIter (some lm.cZ) c (seen.toArray.push e.born) c)
  (w':=ChangeMaps.setBlock w1 li.cZ (.mapIter (some lm.cZ) c (seen.toArray.push e.born) c)) oz FA rfl rfl (by show w1.heap.setIfInBounds _ _=_;rw[aVb]) ⟨DR.os,DR.output,DR.tape,DR.drawn⟩
  (fun hm wN=>⟨by rw[wN,hbj];simp,hm _ _ hvm⟩)
 obtain⟨vk,vv⟩:=oP j (by omega);rw[aRo] at vk vv;refine⟨j,_,_,G,hjb,by rw[hbj];simpa using hns,hr,q1,q2,?_⟩;have hm':∀a u,VR G w a u->VR G (ChangeMaps.setBlock w1 li.cZ (.mapIter (some lm.cZ) c (seen.toArray.push e.born) c)) a u:=fun a u h=>h.ext q2;refine VR.iA _ [.bool true,e.key,e.val] rfl fun i hi=>?_
 match i,hi with
 |0,_=>exact .bool true
 |1,_=>exact hm' _ _ vk
 |2,_=>exact hm' _ _ vv
 |k+3,hi=>simp at hi;omega
theorem XF {P:Program} {g:bG} {G:Gh} {H:aA} {w:World} (hw:WR g G H w) {it m mb c j:Nat} {seen bs:List Nat} {es:List (AV×AV)} {u:Value} (FA:H.get it=some (.iter m mb c (seen++[bs.getD j 0])))
 (hgm:H.get m=some (.sK es bs c mb)) (hj:j<bs.length) (hu:VR G w (.ref it 0) u):
 ∃u',(Instr.entry u).run P w=.ok u' w/\VR G w (.iA [(es.getD j (aC,aC)).1,(es.getD j (aC,aC)).2]) u':=by
 obtain⟨li,oz,rfl⟩:=aAe hu;obtain⟨XS,TY,hbi,hvm⟩:=hw.iS _ _ _ oz FA rfl;obtain⟨lm,hlm,hmb⟩:=Xo hvm;cases hmb;obtain⟨_,_,_,Pj,fF,ents,uz,Zc,hlen,oP⟩:=hw.iS _ _ _ hlm hgm rfl;rw[XS];have hje:j<ents.toList.length:=by rw[<-Zc] at hj;simpa using hj
 have hjs:j<ents.size:=by simpa using hje
 have hbj:bs.getD j 0=ents.toList[j].born:=by subst Zc;simp[Bf,Cw,Ad hje]
 have aRo:ents.getD j default=ents.toList[j]:=by rw[Bo,Dv hjs];simp
 have hr:=run_entry_at (P:=P) w li.cZ lm.cZ c seen.toArray ents c ents.toList[j] (by rw[hbi,hbj];simp) uz (Ac hje) (by rw[Zc];exact Pj);obtain⟨vk,vv⟩:=oP j (by omega);rw[aRo] at vk vv;refine⟨_,hr,VR.iA _ [_,_] rfl fun i hi=>?_⟩
 match i,hi with
 |0,_=>exact vk
 |1,_=>exact vv
 |k+2,hi=>simp at hi;omega
theorem Mk {P:Program} {g:bG} {mu:Bool} {ro:Option Nat} {ops:Array Oper}:∀(l:List Oper) (rl:List bK) (k:Nat),lP P g mu ops l=some rl->(∀j,(h:j<l.length)->ops[k+j]?=some l[j])->
 (ro=none\/∀r∈rl,∀f azs,r.op≠ .kY f azs)->∀(s:List AV) (ds:List gM) (G:Gh) (H:aA) (w:World) (a:Act) (Q:AQ),uH P g rl s ds H Q->WR g G H w->SR G w s a->Ro G w ds a.defers->
   wpOpsIn (Fw ro) 0 P ops (QR g G H w Q) (List.range' k l.length) a w
 |[],rl,k,hc,hl,CB,s,ds,G,H,w,a,Q,h,hw,hs,hd=>by obtain rfl:=Aa hc;exact⟨.normal,s,ds,H,G,h,hw,Ext.refl G H w,hs,hd,trivial⟩
 |o::l,rl,k,hc,hl,CB,s,ds,G,H,w,a,Q,h,hw,hs,hd=>by
  unfold lP at hc;split at hc
  . rename_i r rs hr hrs;obtain rfl:=Aa hc
    have ho:ops[k]?=some o:=hl 0 (by simp)
    have oU:∀j,(h:j<l.length)->ops[k+1+j]?=some l[j]:=fun j hj=>by have :=hl (j+1) ZaC;simpa [show k+(j+1)=k+1+j by omega] using this
    obtain⟨CY,tO,_⟩:=EN hr;have Zr:=PG hr hs
    have next:∀{v:AV} {u:Value} {H1:aA} {w1:World} {G1:Gh} {rI:List gM} {a1:Act},uH P g rs (mZ s r.dst v) rI H1 Q->WR g G1 H1 w1->Ext G H w G1 H1 w1->VR G1 w1 v u->SR G w s a1->Ro G1 w1 rI a1.defers->
     wpOpsIn (Fw ro) 0 P ops (QR g G H w Q) (List.range' (k+1) l.length) (a1.put o.dst u) w1:=by
     intro v u H1 w1 G1 rI a1 hA Qx he hv hs1 MJ;have CC:=(hs1.ext he).put r.dst hv;rw[CY] at CC hA
     have hdp:Ro G1 w1 rI (a1.put o.dst u).defers:=by cases o.dst<;>exact MJ
     have :=Mk l rs (k+1) hrs oU (CB.imp id fun h x hx=>h x (Aw _ hx)) _ rI G1 H1 w1 _ Q hA Qx CC hdp;exact TT (fun _ _ _=>QR.trans he) _ _ _ this
    simp only[Aq,List.range'_succ];rw[wpOpsIn_cons];unfold wpOpIn;simp only[ho];rw[Zr];unfold uH at h;by_cases Pq:bU s r=true
    . rw[if_pos Pq] at h ⊢;split at h
      . rename_i f azs fL;obtain⟨out,H',hS,qC⟩:=h;rw[fL] at tO;obtain⟨c,f0,e1,e2,e3,e4⟩:=UJ tO;refine TU e1 e2 e3 e4 hw hs hS (fun v hv u w' G' lI he Lv=>?_) (fun v hv u w' G' lI he Lv=>?_)
        . subst hv
          exact next qC lI he Lv hs (hd.ext he)
        subst hv;exact⟨.panic v,s,ds,H',G',qC,lI,he,hs.ext he,hd.ext he,u,rfl,Lv⟩
      . rename_i x fL;obtain⟨t,v,hx,hq⟩:=h;rw[fL] at tO;obtain⟨x0,e1,e2⟩:=ia tO;have vx:=bM hw hs e2;rw[hx] at vx;generalize eF:a.eval x0=u at vx
        have jE:∀q,u=.iface t q->(execOp a.eval o).run P w=.halt (.panic u) w:=fun q hq=>by subst hq;simp[execOp,e1,eF,Instr.panic,goPanic]
        have vx':=vx;refine⟨fun _ _=>trivial,?_⟩;rw[show o.semAt (Fw ro).round a.eval=execOp a.eval o from Oper.semAt_eq _ _ _ fun c' h=>by rw[e1] at h;cases h]
        cases vx with
        |iface _ _ q hqv=>rw[jE q rfl];exact⟨.panic (.iface t v),s,ds,H,G,hq,hw,Ext.refl G H w,hs,hd,_,rfl,vx'⟩
      . rename_i f azs fL;obtain⟨p,hp,hA⟩:=h;rw[fL] at tO;obtain⟨c,f0,e1,e2,e3,e4⟩:=gu tO;obtain⟨us,bs,hfv,h1,h2⟩:=EL hp (bM hw hs e3);have Nl:=tC hw hs e4
        have jE:(execOp a.eval o).run P w=.ok (.defer {target:=.fn (.func p.1) bs.toArray,args:=us.toArray++c.args.map a.eval}) w:=by simp only[execOp,e1,Sem.run_bind,xC e2 hfv,Result.andThen_ok,Sem.run_pure]
        have bFu:ro=none:=CB.resolve_right fun h=>h r (by simp) _ _ fL;subst bFu;refine⟨fun _ _=>trivial,?_⟩;rw[show o.semAt (Fw none).round a.eval=execOp a.eval o from rfl,jE]
        exact next hA hw (Ext.refl G H w) (VR.oG G w) (a1:={a with defers:={target:=.fn (.func p.1) bs.toArray,args:=us.toArray++c.args.map a.eval}::a.defers}) hs
         ⟨⟨bs,rfl,by simpa using(h1.append Nl).append h2⟩,hd⟩
      . rename_i x fL;obtain⟨m,es,hx,hg,hA⟩:=h;rw[fL] at tO;obtain⟨t,x0,kt,vt,e1,e2,e3⟩:=ic tO;have vx:=bM hw hs e2;rw[hx] at vx;obtain⟨bs,c,mb,u',w',G',h1,h2,hr,q1,q2,q3⟩:=YP (P:=P) hw hg vx e3;refine⟨fun _ _=>trivial,?_⟩;rw[show o.semAt (Fw ro).round a.eval=execOp a.eval o from Oper.semAt_eq _ _ _ fun c' h=>by rw[e1] at h;cases h];rw[show(execOp a.eval o).run P w=.ok (.value u') w' by simp[execOp,e1,hr]]
        exact next (hA _ _ _ h1 h2) q1 q2 q3 hs (hd.ext q2)
      . rename_i x fL;obtain⟨it,m,mb,c,seen,es,bs,hx,FA,hgm,wL,gP⟩:=h;rw[fL] at tO;obtain⟨x0,e1,e2⟩:=s9 tO;have vx:=bM hw hs e2;rw[hx] at vx;refine⟨fun _ _=>trivial,?_⟩;rw[show o.semAt (Fw ro).round a.eval=execOp a.eval o from Oper.semAt_eq _ _ _ fun c' h=>by rw[e1] at h;cases h]
        rcases kc (P:=P) hw FA hgm vx o.type with ⟨h1,hr⟩|⟨j,u',w',G',h1,h2,hr,q1,q2,q3⟩
        . rw[show(execOp a.eval o).run P w=.ok (.value (.tuple #[.bool false])) w by simp[execOp,e1,hr]]
          exact next (wL h1) hw (Ext.refl G H w) (VR.iA [.bool false] [.bool false] rfl fun i hi=>by
           obtain rfl:i=0:=by simp at hi;exact hi
           exact .bool false) hs hd
        rw[show(execOp a.eval o).run P w=.ok (.value u') w' by simp[execOp,e1,hr]]
        exact next (gP j h1 h2) q1 q2 q3 hs (hd.ext q2)
      . rename_i x fL;obtain⟨it,m,mb,c,seen,es,bs,j,hx,FA,hgm,hj,hA⟩:=h;rw[fL] at tO;obtain⟨x0,e1,e2⟩:=gw tO;have vx:=bM hw hs e2;rw[hx] at vx;obtain⟨u',hr,hv⟩:=XF (P:=P) hw FA hgm hj vx;refine⟨fun _ _=>trivial,?_⟩;rw[show o.semAt (Fw ro).round a.eval=execOp a.eval o from Oper.semAt_eq _ _ _ fun c' h=>by rw[e1] at h;cases h];rw[show(execOp a.eval o).run P w=.ok (.value u') w by simp[execOp,e1,hr]]
        exact next hA hw (Ext.refl G H w) hv hs hd
      rename_i n1 n2 n3 n4 n5 n6;obtain⟨v,H',hA,hn⟩:=h
      have mN:r.op.plain=true:=by cases Ns:r.op<;>first|rfl|exact absurd Ns (n1 _ _)|exact absurd Ns (n2 _)|exact absurd Ns (n3 _ _)|exact absurd Ns (n4 _)|exact absurd Ns (n5 _)|exact absurd Ns (n6 _)
      refine PH (Wu tO mN) (xM tO n3) hw hs hA (fun u w' G' lI he hv=>?_)
      exact next hn lI he hv hs (hd.ext he)
    rw[if_neg Pq] at h ⊢;exact⟨fun _ _=>trivial,next h hw (Ext.refl G H w) (VR.oG G w) hs hd⟩
  cases hc
def eE.pK:eE->Bool
 |.store _ _ _|.append _ _ _ _ _|.copy _ _ _|.clr _ _ _|.OM _ _ _ _|.call _ _=>true
 |_=>false
def eE.reads:eE->Bool
 |.load _ _ _|.EA _ _ _ _ _ _|.DJ _|.lookup _ _ _ _ _=>true
 |_=>false
def AO:AV->Option Nat
 |.ref id _=>some id
 |.sl id _ _ _ _=>some id
 |.map id=>some id
 |_=>none
def eE.dJ (ev:Arg->AV):eE->Option Nat
 |.load _ _ a=>AO (ev a)
 |.EA _ _ x _ _ _=>AO (ev x)
 |.DJ x=>AO (ev x)
 |.lookup _ _ _ x _=>AO (ev x)
 |_=>none
def Arg.tmps:Arg->List Nat
 |.tmp t=>[t]
 |_=>[]
def eE.args:eE->List Arg
 |.Sv x|.box x|.OQ x|.un _ x|.NN _ x|.BK x|.DJ x|.Yf _ x|.Xq _ x|.XJ _ x|.Yp _ _ _ x|.XH x _|.lens x|.OD x|.load _ _ x|.panic x|.clr _ _ x=>[x]
 |.pick a b c=>[a,b,c]
 |.alloc _|.yQ=>[]
 |.build _ ps=>ps.map (·.2.2)
 |.OP _ xs=>xs
 |.store _ a x=>[a,x]
 |.bin _ x y|.eqb _ x y|.eqf _ _ x y|.tt _ _ _ x y=>[x,y]
 |.Xp _ a b=>a++b
 |.jQ _ _ _ l c=>[l,c]
 |.Ow x l h=>x::(l.toList++h.toList)
 |.Yi _ x l h m|.EA _ _ x l h m=>x::(l.toList++(h.toList++m.toList))
 |.Sh _ _ x i|.idx _ _ _ x i|.idxs x i|.VE x i|.VH x i=>[x,i]
 |.append _ _ _ x y|.copy _ x y=>[x,y]
 |.lookup _ _ _ x i=>[x,i]
 |.OM _ m k v=>[m,k,v]
 |.call f azs|.kY f azs=>f::azs
 |.vM x|.DT x|.xZ x=>[x]
theorem jG {ev ev':Arg->AV} {x:Option Arg} (h:∀y∈x.toList,ev y=ev' y):dZ ev x=dZ ev' x:=by
 cases x with
 |none=>rfl
 |some y=>simp[dZ,h y (by simp)]
theorem LD {ev ev':Arg->AV}:∀(ps:List (Nat×Nat×Arg)) (cs:List AV),(∀y∈ps.map (·.2.2),ev y=ev' y)->HF ev cs ps=HF ev' cs ps
 |[],cs,h=>rfl
 |(o,n,x)::r,cs,h=>by
  have hx:=h x (by simp);simp only[HF,hx];split
  . exact LD r _ (fun y hy=>h y (by simp at hy ⊢;exact .inr hy))
  rfl
theorem OE {ev ev':Arg->AV} (sz:Nat):∀(xs:List Arg),(∀y∈xs,ev y=ev' y)->KS ev sz xs=KS ev' sz xs
 |[],h=>rfl
 |x::r,h=>by have hx:=h x (by simp);simp only[KS,hx,OE sz r (fun y hy=>h y (by simp[hy]))]
theorem sT {ev ev':Arg->AV} {r:eE} (h:∀y∈r.args,ev y=ev' y):xQ ev r=xQ ev' r:=by
 cases r<;>simp only[xQ]<;>first
  |rfl
  |(have h1:=h _ (Ar);simp only[eE.args] at h;simp only[h1])
  |skip
 case jQ sz b z l c=>have h2:=h c (by simp);rw[h2]
theorem fh {ev ev':Arg->AV} {r:eE} (H:aA) (h:∀y∈r.args,ev y=ev' y):dA ev H r=dA ev' H r:=by
 have hm:∀l:List Arg,(∀y∈l,y∈r.args)->l.map ev=l.map ev':=fun l hl=>Fl fun y hy=>h y (hl y hy)
 cases r with
 |build z ps=>simp only[dA];rw[LD ps z h]
 |OP sz xs=>simp only[dA];rw[OE sz xs h]
 |Xp fn a b=>simp only[dA];rw[hm a (fun y hy=>by simp[eE.args,hy]),hm b (fun y hy=>by simp[eE.args,hy])]
 |Ow x l hh=>have h1:=h x Zac;have h2:dZ ev l=dZ ev' l:=jG fun y hy=>h y (by simp only[eE.args,Am,Ap];exact .inr (.inl hy));have h3:dZ ev hh=dZ ev' hh:=jG fun y hy=>h y (by simp only[eE.args,Am,Ap];exact .inr (.inr hy));simp only[dA,h1,h2,h3]
 |Yi sz x l hh m=>have h1:=h x Zac;have h2:dZ ev l=dZ ev' l:=jG fun y hy=>h y (by simp only[eE.args,Am,Ap];exact .inr (.inl hy));have h3:dZ ev hh=dZ ev' hh:=jG fun y hy=>h y (by simp only[eE.args,Am,Ap];exact .inr (.inr (.inl hy)));have h4:dZ ev m=dZ ev' m:=jG fun y hy=>h y (by simp only[eE.args,Am,Ap];exact .inr (.inr (.inr hy)));simp only[dA,h1,h2,h3,h4]
 |EA n sz x l hh m=>have h1:=h x Zac;have h2:dZ ev l=dZ ev' l:=jG fun y hy=>h y (by simp only[eE.args,Am,Ap];exact .inr (.inl hy));have h3:dZ ev hh=dZ ev' hh:=jG fun y hy=>h y (by simp only[eE.args,Am,Ap];exact .inr (.inr (.inl hy)));have h4:dZ ev m=dZ ev' m:=jG fun y hy=>h y (by simp only[eE.args,Am,Ap];exact .inr (.inr (.inr hy)));simp only[dA,h1,h2,h3,h4]
 |alloc z=>simp only[dA,sT (r:=.alloc z) h]
 |box x=>simp only[dA,sT (r:=.box x) h]
 |yQ=>simp only[dA,sT (r:=.yQ) h]
 |jQ a b c d e=>simp only[dA,sT (r:=.jQ a b c d e) h]
 |BK x=>simp only[dA,sT (r:=.BK x) h]
 |pick a b c=>have h1:=h a Zac;have h2:=h b Zac;have h3:=h c Zac;simp only[dA,h1,h2,h3]
 |OM k m i v=>have h1:=h m Zac;have h2:=h i Zac;have h3:=h v Zac;simp only[dA,h1,h2,h3]
 |call f azs=>rfl
 |kY f azs=>rfl
 |panic x=>rfl
 |vM x=>rfl
 |DT x=>rfl
 |xZ x=>rfl
 |store n a b=>have h1:=h a Zac;have h2:=h b Zac;simp only[dA,h1,h2]
 |bin op a b=>have h1:=h a Zac;have h2:=h b Zac;simp only[dA,h1,h2]
 |eqb op a b=>have h1:=h a Zac;have h2:=h b Zac;simp only[dA,h1,h2]
 |eqf op s a b=>have h1:=h a Zac;have h2:=h b Zac;simp only[dA,h1,h2]
 |tt op k l a b=>have h1:=h a Zac;have h2:=h b Zac;simp only[dA,h1,h2]
 |Sh n sz a b=>have h1:=h a Zac;have h2:=h b Zac;simp only[dA,h1,h2]
 |idx n sz g a b=>have h1:=h a Zac;have h2:=h b Zac;simp only[dA,h1,h2]
 |idxs a b=>have h1:=h a Zac;have h2:=h b Zac;simp only[dA,h1,h2]
 |append s b m x y=>have h1:=h x Zac;have h2:=h y Zac;simp only[dA,h1,h2]
 |copy s x y=>have h1:=h x Zac;have h2:=h y Zac;simp only[dA,h1,h2]
 |lookup k z ok x y=>have h1:=h x Zac;have h2:=h y Zac;simp only[dA,h1,h2]
 |Sv x=>have h1:=h x Zac;simp only[dA,h1]
 |VE x y=>have h1:=h x Zac;have h2:=h y Zac;simp only[dA,h1,h2]
 |VH x y=>have h1:=h x Zac;have h2:=h y Zac;simp only[dA,h1,h2]
 |clr n z x=>have h1:=h x Zac;simp only[dA,h1]
 |OQ x=>have h1:=h x Zac;simp only[dA,h1]
 |un o x=>have h1:=h x Zac;simp only[dA,h1]
 |NN k x=>have h1:=h x Zac;simp only[dA,h1]
 |DJ x=>have h1:=h x Zac;simp only[dA,h1]
 |Yf n x=>have h1:=h x Zac;simp only[dA,h1]
 |Xq t x=>have h1:=h x Zac;simp only[dA,h1]
 |XJ n x=>have h1:=h x Zac;simp only[dA,h1]
 |Yp t ok z x=>have h1:=h x Zac;simp only[dA,h1]
 |XH x i=>have h1:=h x Zac;simp only[dA,h1]
 |lens x=>have h1:=h x Zac;simp only[dA,h1]
 |OD x=>have h1:=h x Zac;simp only[dA,h1]
 |load g n x=>have h1:=h x Zac;simp only[dA,h1]
theorem JX {ev:Arg->AV} {r:eE} (he:r.pK=false) (hf:r.fresh=false) {H H1:aA} {v:AV} {H':aA} (h:dA ev H r=some (v,H'))
 (hr:∀id,r.dJ ev=some id->H1.get id=H.get id):H'=H/\dA ev H1 r=some (v,H1):=by
 have hca:∀{id:Nat},H1.get id=H.get id->H1.eY id=H.eY id:=fun hh=>by simp[aA.eY,hh]
 cases r<;>first
  |(cases he;done)
  |(cases hf;done)
  |skip
 case load agg n a=>
  simp only[dA] at h ⊢;simp only[eE.dJ] at hr;split at h
  . rename_i id off dB;have :=hca (hr id (by rw[dB];rfl));simp only[this];split at h
    . split at h
      . split at h
        . simp only[Ae,Ai] at h ⊢;simp_all
        split at h
        . simp only[Ae,Ai] at h ⊢;simp_all
        cases h
      cases h
    cases h
  . rename_i cs dB;split at h
    . split at h
      . simp only[Ae,Ai] at h ⊢;simp_all
      split at h
      . simp only[Ae,Ai] at h ⊢;simp_all
      cases h
    cases h
  cases h
 case EA n sz x lo hi mx=>
  simp only[dA] at h ⊢;simp only[eE.dJ] at hr;split at h
  . simp only[Ah,Ai] at h ⊢;obtain⟨v',h,rfl,rfl⟩:=h;refine⟨rfl,v',?_,by simp⟩;unfold mI at h ⊢;simp only at h ⊢;split at h
    . rename_i hc;rw[if_pos hc];split at h
      . rename_i id o dB;have :=hca (hr id (by rw[dB];rfl));simp only[this];exact h
      . exact h
      cases h
    cases h
  cases h
 case DJ x=>
  simp only[dA] at h ⊢;simp only[eE.dJ] at hr
  have WJ:cL H1 1 (ev x)=cL H 1 (ev x):=by cases hx:ev x<;>simp only[cL];rename_i id sz off len cap;have :=hca (hr id (by rw[hx];rfl));simp only[this]
  split at h
  . cases h
  rename_i hns;rw[WJ];split at h
  . simp only[Ah,Ai] at h ⊢;obtain⟨bs,h1,rfl,rfl⟩:=h;exact⟨rfl,bs,h1,by simp⟩
  cases h
 case lookup k z ok x i=>
  simp only[dA] at h ⊢;simp only[eE.dJ] at hr;split at h
  . rename_i hk;rw[if_pos hk];split at h
    . simp only[Ae,Ai] at h ⊢;simp_all
    . rename_i id dB;have :=hr id (by rw[dB];rfl);simp only[this];split at h
      . split at h
        . simp only[Ae,Ai] at h ⊢;simp_all
        . simp only[Ae,Ai] at h ⊢;simp_all
        cases h
      cases h
    cases h
  cases h
 case VE x y=>
  simp only[dA] at h ⊢;split at h
  . rename_i h1 h2;simp only[Ae,Ai] at h;obtain⟨rfl,rfl⟩:=h;exact⟨rfl,rfl⟩
  cases h
 case VH x y=>
  simp only[dA] at h ⊢;split at h
  . rename_i h1 h2;simp only[Ae,Ai] at h;obtain⟨rfl,rfl⟩:=h;exact⟨rfl,rfl⟩
  cases h
 all_goals
  simp only[dA] at h ⊢
  repeat' (split at h)
  all_goals first
   |(cases h;done)
   |(simp only[Ae,Ai] at h
     obtain⟨rfl,rfl⟩:=h
     exact⟨rfl,by simp_all⟩)
   |(simp only[Ah,Ai] at h
     obtain⟨q,h1,rfl,rfl⟩:=h
     exact⟨rfl,by simp_all⟩)
section
def BL (r:bK):List Nat:=r.op.args.flatMap Arg.tmps++(match r.guard with|some (d,_)=>[d]|none=>[])
def gS (rl:List bK) (i:Nat):Nat:=(rl.take i).countP (·.op.fresh)
def DStep (P:Program) (g:bG) (pn:Bool) (id:Nat) (r:bK) (s:List AV) (H:aA) (v:AV) (H':aA):Prop:=
 if bU s r then
  if r.op.fresh then ∃ob val,xQ (Arg.eval g s) r.op=some (ob,val)/\v=val id/\H'=H.set id ob
  else match r.op with
   |.call f azs=>if pn=true then v=aC/\H'=H else ∃p,mE (f.eval g s)=some p/\Sound P g p.1 (p.2.1++azs.map (Arg.eval g s)++p.2.2) H (.ret v) H'
   |.panic _|.kY _ _=>False
   |op=>dA (Arg.eval g s) H op=some (v,H')
 else v=aC/\H'=H
structure dS (P:Program) (g:bG) (rl:List bK) (pj:Option Nat) (pairs:List (Nat×Nat)) (s0:List AV) (H0:aA) (Hs:Nat->aA) (ss:Nat->List AV) (vs:Nat->AV):Prop where
 s0:ss 0=s0
 h0:Hs 0={H0 with next:=H0.next+rl.countP (·.op.fresh)}
 free:∀k,k<rl.countP (·.op.fresh)->H0.get (H0.next+k)=none
 step:∀i r,rl[i]?=some r->DStep P g (pj==some i) (H0.next+gS rl i) r (ss i) (Hs i) (vs i) (Hs (i+1))/\ss (i+1)=mZ (ss i) r.dst (vs i)
 mono:∀i r,rl[i]?=some r->r.op.pK=true->(Hs i).next<=(Hs (i+1)).next
 Oy:∀i e,(i,e)∈pairs->∀ri re,rl[i]?=some ri->rl[e]?=some re->bU (ss i) ri=true->bU (ss e) re=true->
  ∀id,(ri.op.dJ (Arg.eval g (ss i))=some id\/(ri.op.fresh=true/\id=H0.next+gS rl i))->(Hs e).get id=(Hs (e+1)).get id
structure sZ (ops:Array Oper) (rl:List bK) (pairs:List (Nat×Nat)) (anc:Nat->Nat->Bool):Prop where
 aUi:∀j o,ops[j]?=some o->∀e∈o.after,Region.binds .any e=true->e.on<j
 wit:∀i j,anc i j=true->∃o,ops[j]?=some o/\∃e∈o.after,Region.binds .any e=true/\(e.on=i\/anc i e.on=true)
 cmp:∀i j ri rj,i<j->rl[i]?=some ri->rl[j]?=some rj->anc i j=false->
  (ri.op.pK=true->rj.op.pK=false)/\(∀d,ri.dst=some d->d∉BL rj/\rj.dst≠some d)/\(∀d,rj.dst=some d->d∉BL ri)/\
  (rj.op.pK=true->(ri.op.reads=true\/ri.op.fresh=true)->(i,j)∈pairs)/\(ri.op.pK=true->rj.op.reads=true->(j,i)∈pairs)
 early:∀i j ri rj,i<j->rl[i]?=some ri->rl[j]?=some rj->ri.op.pK=true->rj.op.fresh=true->(j,i)∈pairs
 lits:∀(i:Nat) (r:bK),rl[i]?=some r->r.op.reads=true->∀v,Arg.const v∈r.op.args->AO v=none
theorem nD {r:eE} (h:r.fresh=true):r.pK=false:=by cases r<;>first|rfl|cases h
theorem kU {r:eE} {ev:Arg->AV} {id:Nat} (h:r.dJ ev=some id):r.reads=true:=by cases r<;>first|rfl|cases h
theorem Mx {ev:Arg->AV} {r:eE} {H:aA} {x:AV×aA} {id:Nat} (h:dA ev H r=some x) (hr:r.dJ ev=some id):H.get id≠none:=by
 intro hn;have hc:H.eY id=none:=by simp[aA.eY,hn]
 cases r<;>simp only[eE.dJ] at hr<;>try (cases hr;done)
 . rename_i agg n a;simp only[dA] at h
   cases ha:ev a<;>rw[ha] at hr<;>simp only[AO] at hr<;>try (cases hr;done)
   all_goals (obtain rfl:=Aa hr;simp[ha,hc] at h)
 . rename_i x;simp only[dA] at h
   cases ha:ev x<;>rw[ha] at hr<;>simp only[AO] at hr<;>try (cases hr;done)
   all_goals (obtain rfl:=Aa hr;simp[ha,cL,hc] at h)
 . rename_i n sz x lo hi mx;simp only[dA] at h;split at h
   . unfold mI at h
     cases ha:ev x<;>rw[ha] at hr<;>simp only[AO] at hr<;>try (cases hr;done)
     all_goals (obtain rfl:=Aa hr;simp[ha,hc] at h)
   cases h
 rename_i k z ok x i;simp only[dA] at h;split at h
 . cases ha:ev x<;>rw[ha] at hr<;>simp only[AO] at hr<;>try (cases hr;done)
   all_goals (obtain rfl:=Aa hr;simp[ha,hn] at h)
 cases h
section
variable {P:Program} {g:bG} {rl:List bK} {pj:Option Nat} {pairs:List (Nat×Nat)} {s0:List AV} {H0:aA} {Hs:Nat->aA} {ss:Nat->List AV} {vs:Nat->AV}
abbrev kept (H0:aA) (rl:List bK) (i:Nat):Nat:=H0.next+gS rl i
theorem AA {α:Type} (p:α->Bool):∀(l:List α) (i:Nat) (x:α),l[i]?=some x->p x=true->(l.take i).countP p<l.countP p
 |[],i,x,h,_=>by simp at h
 |y::l,0,x,h,hp=>by simp at h;subst h;simp[Gl,hp]
 |y::l,i+1,x,h,hp=>by have :=AA p l i x (by simpa using h) hp;simp only[Dp,Gl];omega
theorem wE {α:Type} (p:α->Bool):∀(l:List α) (i j:Nat) (x:α),l[i]?=some x->p x=true->i<j->(l.take i).countP p<(l.take j).countP p
 |[],i,j,x,h,_,_=>by simp at h
 |y::l,0,j+1,x,h,hp,_=>by simp at h;subst h;simp[Gl,hp]
 |y::l,i+1,j+1,x,h,hp,yN=>by have :=wE p l i j x (by simpa using h) hp (by omega);simp only[Dp,Gl];omega
theorem nK {i j:Nat} {ri rj:bK} (hi:rl[i]?=some ri) (hj:rl[j]?=some rj) (fi:ri.op.fresh=true) (fj:rj.op.fresh=true) (cP:i≠j):kept H0 rl i≠kept H0 rl j:=by
 have key:∀{i j:Nat} {ri:bK},rl[i]?=some ri->ri.op.fresh=true->i<j->gS rl i<gS rl j:=fun h f yN=>wE (fun r:bK=>r.op.fresh) rl _ _ _ h f yN
 unfold kept
 rcases Nat.lt_or_gt_of_ne cP with h|h
 . have :=key hi fi h;omega
 have :=key hj fj h;omega
theorem Zx {i:Nat} {ri:bK} (hi:rl[i]?=some ri) (fi:ri.op.fresh=true):gS rl i<rl.countP (·.op.fresh):=
 AA (fun r:bK=>r.op.fresh) rl i ri hi fi
theorem dS.nS (D:dS P g rl pj pairs s0 H0 Hs ss vs) {i:Nat} {r:bK} (hi:rl[i]?=some r) (hf:r.op.fresh=true) (hw:bU (ss i) r=true):
 ∃ob val,xQ (Arg.eval g (ss i)) r.op=some (ob,val)/\vs i=val (kept H0 rl i)/\Hs (i+1)=(Hs i).set (kept H0 rl i) ob:=by
 have :=(D.step i r hi).1;unfold DStep at this;rw[if_pos hw,if_pos hf] at this;exact this
theorem dS.FV (D:dS P g rl pj pairs s0 H0 Hs ss vs) {i:Nat} {r:bK} (hi:rl[i]?=some r) (hf:r.op.fresh=false) (he:r.op.pK=false):Hs (i+1)=Hs i:=by
 have :=(D.step i r hi).1;unfold DStep at this;split at this
 . rw[if_neg (by simp[hf])] at this;split at this
   . rename_i fL;rw[fL] at he;cases he
   . exact this.elim
   . exact this.elim
   exact(JX (H1:=Hs i) he hf this (fun id _=>rfl)).1
 exact this.2
theorem dS.vS (D:dS P g rl pj pairs s0 H0 Hs ss vs) {i:Nat} {r:bK} (hi:rl[i]?=some r) (hw:bU (ss i) r=false):Hs (i+1)=Hs i/\vs i=aC:=by have :=(D.step i r hi).1;unfold DStep at this;rw[if_neg (by simp[hw])] at this;exact⟨this.2,this.1⟩
theorem dS.AY {ops:Array Oper} {anc:Nat->Nat->Bool} (D:dS P g rl pj pairs s0 H0 Hs ss vs) (K:sZ ops rl pairs anc) {i:Nat} {r:bK} (hi:rl[i]?=some r) (hf:r.op.fresh=true) (hw:bU (ss i) r=true):
 ∀k,k<=i->(Hs k).get (kept H0 rl i)=none:=by
 intro k
 induction k with
 |zero=>intro _;rw[D.h0];exact D.free _ (Zx hi hf)
 |succ k ih=>
  intro hk;have ihk:=ih (by omega);have fF:=(Bk.1 hi).1
  obtain⟨rk,Qu⟩:∃rk,rl[k]?=some rk:=⟨rl[k]'(by omega),Ad (by omega)⟩
  by_cases xm:bU (ss k) rk=true
  . by_cases WI:rk.op.pK=true
    . rw[<-D.Oy i k (K.early k i rk r (by omega) Qu hi WI hf) r rk hi Qu hw xm _ (.inr ⟨hf,rfl⟩)];exact ihk
    by_cases XW:rk.op.fresh=true
    . obtain⟨ob,val,_,_,h3⟩:=D.nS Qu XW xm;rw[h3,aA.aD,if_neg (nK hi Qu hf XW (by omega))];exact ihk
    rw[D.FV Qu (by simpa using XW) (by simpa using WI)];exact ihk
  rw[(D.vS Qu (by simpa using xm)).1];exact ihk
theorem dS.rF (D:dS P g rl pj pairs s0 H0 Hs ss vs) {id:Nat} {p q:Nat} (hq:q<=rl.length)
 (aRp:∀e r,p<=e->e<q->rl[e]?=some r->r.op.pK=true->bU (ss e) r=true->(Hs e).get id=(Hs (e+1)).get id)
 (MK:∀i r,p<=i->i<q->rl[i]?=some r->r.op.fresh=true->bU (ss i) r=true->id≠kept H0 rl i):
 ∀k,p<=k->k<=q->(Hs k).get id=(Hs p).get id:=by
 intro k
 induction k with
 |zero=>intro h1 _;obtain rfl:p=0:=(by omega);rfl
 |succ k ih=>
  intro h1 h2;by_cases hp:p=k+1
  . rw[hp]
  rw[<-ih (by omega) (by omega)]
  obtain⟨rk,Qu⟩:∃rk,rl[k]?=some rk:=⟨rl[k]'(by omega),Ad (by omega)⟩
  by_cases xm:bU (ss k) rk=true
  . by_cases WI:rk.op.pK=true
    . exact(aRp k rk (by omega) (by omega) Qu WI xm).symm
    by_cases XW:rk.op.fresh=true
    . obtain⟨ob,val,_,_,h3⟩:=D.nS Qu XW xm;rw[h3,aA.aD,if_neg (MK k rk (by omega) (by omega) Qu XW xm)]
    rw[D.FV Qu (by simpa using XW) (by simpa using WI)]
  rw[(D.vS Qu (by simpa using xm)).1]
theorem dS.RZ (D:dS P g rl pj pairs s0 H0 Hs ss vs) {p q:Nat} (hq:q<=rl.length) (aRp:∀e r,p<=e->e<q->rl[e]?=some r->r.op.pK=false):
 ∀k,p<=k->k<=q->(Hs k).next=(Hs p).next:=by
 intro k
 induction k with
 |zero=>intro h1 _;obtain rfl:p=0:=(by omega);rfl
 |succ k ih=>
  intro h1 h2;by_cases hp:p=k+1
  . rw[hp]
  rw[<-ih (by omega) (by omega)]
  obtain⟨rk,Qu⟩:∃rk,rl[k]?=some rk:=⟨rl[k]'(by omega),Ad (by omega)⟩
  have WI:=aRp k rk (by omega) (by omega) Qu;by_cases xm:bU (ss k) rk=true
  . by_cases XW:rk.op.fresh=true
    . obtain⟨ob,val,_,_,h3⟩:=D.nS Qu XW xm;rw[h3];rfl
    rw[D.FV Qu (by simpa using XW) WI]
  rw[(D.vS Qu (by simpa using xm)).1]
theorem dS.wU (D:dS P g rl pj pairs s0 H0 Hs ss vs) {p:Nat}:∀k,p<=k->k<=rl.length->(Hs p).next<=(Hs k).next:=by
 intro k
 induction k with
 |zero=>intro h1 _;obtain rfl:p=0:=(by omega);exact Ab _
 |succ k ih=>
  intro h1 h2;by_cases hp:p=k+1
  . rw[hp];exact Ab _
  refine Ce (ih (by omega) (by omega)) ?_
  obtain⟨rk,Qu⟩:∃rk,rl[k]?=some rk:=⟨rl[k]'(by omega),Ad (by omega)⟩
  by_cases WI:rk.op.pK=true
  . exact D.mono k rk Qu WI
  have :=D.RZ (p:=k) (q:=k+1) h2 (fun e r h3 h4 h5=>by
   obtain rfl:e=k:=by omega
   rw[Qu] at h5;cases h5
   simpa using WI) (k+1) (by omega) (Ab _)
  omega
def writes (rl:List bK) (s0:List AV) (t i:Nat):Bool:=
 match rl[i]? with
 |some r=>r.dst==some t&&decide (t<s0.length)
 |none=>false
def wP (S:Nat->Bool) (rl:List bK) (s0:List AV) (vs:Nat->AV) (t:Nat):Nat->AV
 |0=>s0.getD t aC
 |i+1=>if(S i&&writes rl s0 t i)=true then vs i else wP S rl s0 vs t i
theorem Qn (s:List AV) (dst:Option Nat) (v:AV) (t:Nat):(mZ s dst v).getD t aC=if dst=some t/\t<s.length then v else s.getD t aC:=by
 cases dst with
 |none=>simp[mZ]
 |some d=>
  simp only[mZ,Ae];rw[getD_eq,getD_eq,Gz];by_cases hd:d=t
  . subst hd;by_cases hl:d<s.length
    . simp[hl]
    simp[hl]
  simp[hd]
theorem LS (s:List AV) (dst:Option Nat) (v:AV):(mZ s dst v).length=s.length:=by cases dst<;>simp[mZ]
theorem dS.KQ (D:dS P g rl pj pairs s0 H0 Hs ss vs):∀j,j<=rl.length->(ss j).length=s0.length:=by
 intro j
 induction j with
 |zero=>intro _;rw[D.s0]
 |succ j ih=>
  intro hj
  obtain⟨r,hr⟩:∃r,rl[j]?=some r:=⟨rl[j]'(by omega),Ad (by omega)⟩
  rw[(D.step j r hr).2,LS,ih (by omega)]
theorem dS.Ox (D:dS P g rl pj pairs s0 H0 Hs ss vs) (t:Nat):∀j,j<=rl.length->(ss j).getD t aC=wP (fun _=>true) rl s0 vs t j:=by
 intro j
 induction j with
 |zero=>intro _;rw[D.s0];rfl
 |succ j ih=>
  intro hj
  obtain⟨r,hr⟩:∃r,rl[j]?=some r:=⟨rl[j]'(by omega),Ad (by omega)⟩
  rw[(D.step j r hr).2,Qn,D.KQ j (by omega),ih (by omega)];simp only[wP,writes,hr,Co,Al,Ca,Bd]
end
end
section
def dN (listed:Array Bool) (i:Nat):Bool:=listed.getD i false
structure oT (P:Program) (g:bG) (ops:Array Oper) (rl:List bK) (pairs:List (Nat×Nat)) (anc:Nat->Nat->Bool) (s0:List AV) (H0:aA) (Hs:Nat->aA) (ss:Nat->List AV) (vs:Nat->AV)
 (G0:Gh) (w0:World) (dl:List Deferred) (listed:Array Bool) (p:Nat) (G:Gh) (HS:aA) (w:World) (a:Act) (sS:List AV):Prop where
 size:listed.size=rl.length
 closed:∀i j,dN listed j=true->anc i j=true->dN listed i=true
 ple:p<=rl.length
 pos:∀i r,rl[i]?=some r->r.op.pK=true->(dN listed i=true↔i<p)
 rel:WR g G HS w
 uK:HS.next=(Hs p).next
 iq:∀i r,rl[i]?=some r->r.op.fresh=true->(∃l,G.loc (kept H0 rl i)=some l)->dN listed i=true/\bU (ss i) r=true
 cont:∀id l,G.loc id=some l->
  (∃i r,rl[i]?=some r/\r.op.fresh=true/\dN listed i=true/\bU (ss i) r=true/\p<=i/\id=kept H0 rl i/\HS.get id=(Hs (i+1)).get id)\/
  ((∀i r,p<=i->rl[i]?=some r->r.op.fresh=true->bU (ss i) r=true->id≠kept H0 rl i)/\HS.get id=(Hs p).get id)
 aEg:∀i r,p<=i->rl[i]?=some r->r.op.fresh=true->dN listed i=true->bU (ss i) r=true->∀l,G.loc (kept H0 rl i)=some l->
  ∀kP l',kP≠kept H0 rl i->G.loc kP=some l'->HS.live kP->l'.cZ≠l.cZ
 ext:Ext G0 H0 w0 G HS w
 uX:SR G w sS a
 last:∀t,sS.getD t aC=wP (dN listed) rl s0 vs t rl.length
 len:sS.length=s0.length
 dfr:a.defers=dl
section
variable {P:Program} {g:bG} {ops:Array Oper} {rl:List bK} {pj:Option Nat} {pairs:List (Nat×Nat)} {anc:Nat->Nat->Bool} {s0:List AV} {H0:aA} {Hs:Nat->aA} {ss:Nat->List AV} {vs:Nat->AV}
variable {G0:Gh} {w0:World} {dl:List Deferred} {listed:Array Bool} {p:Nat} {G:Gh} {HS:aA} {w:World} {a:Act} {sS:List AV}
theorem qZ {S S':Nat->Bool} {t:Nat}:∀m,(∀i,i<m->(S i&&writes rl s0 t i)=(S' i&&writes rl s0 t i))->wP S rl s0 vs t m=wP S' rl s0 vs t m
 |0,_=>rfl
 |m+1,h=>by simp only[wP];rw[h m (by omega),qZ m (fun i hi=>h i (by omega))]
theorem xY {S:Nat->Bool} {t k:Nat}:∀m,k<=m->(∀i,k<=i->i<m->(S i&&writes rl s0 t i)=false)->wP S rl s0 vs t m=wP S rl s0 vs t k
 |0,hk,_=>by obtain rfl:k=0:=(by omega);rfl
 |m+1,hk,h=>by
  by_cases he:k=m+1
  . rw[he]
  simp only[wP];rw[h m (by omega) (by omega)];simp only[Bb,Bq];exact xY m (by omega) (fun i h1 h2=>h i h1 (by omega))
theorem BO {t i:Nat} (h:writes rl s0 t i=true):∃r,rl[i]?=some r/\r.dst=some t/\t<s0.length:=by
 unfold writes at h;split at h
 . rename_i r hr;simp only[Al,Ca,Bd] at h;exact⟨r,hr,h.1,h.2⟩
 cases h
structure WC (ops:Array Oper) (listed:Array Bool) (j:Nat):Prop where
 lt:j<ops.size
 not:dN listed j=false
 bDu:∀o,ops[j]?=some o->∀e∈o.after,Region.binds .any e=true->dN listed e.on=true
variable (I:oT P g ops rl pairs anc s0 H0 Hs ss vs G0 w0 dl listed p G HS w a sS) (D:dS P g rl pj pairs s0 H0 Hs ss vs) (K:sZ ops rl pairs anc)
include I K
theorem oT.zL {j:Nat} (hj:WC ops listed j) {i:Nat} (h:anc i j=true):dN listed i=true:=by
 obtain⟨o,ho,e,he,hb,hc⟩:=K.wit i j h;have hd:=hj.bDu o ho e he hb
 rcases hc with rfl|hc
 . exact hd
 exact I.closed _ _ hd hc
theorem oT.bDn {j:Nat} {r:bK} (hj:WC ops listed j) (hr:rl[j]?=some r) {t:Nat} (ht:t∈BL r) (D:dS P g rl pj pairs s0 H0 Hs ss vs):sS.getD t aC=(ss j).getD t aC:=by
 have fF:=(Bk.1 hr).1;rw[I.last t,D.Ox t j (by omega)];rw[xY (k:=j) rl.length (by omega) (fun i h1 h2=>?_)]
 . refine qZ j (fun i hi=>?_);by_cases hw:writes rl s0 t i=true
   . obtain⟨ri,o9,hd,_⟩:=BO hw
     have :anc i j=true:=by
      cases hc:anc i j with
      |true=>rfl
      |false=>exact absurd ht ((K.cmp i j ri r hi o9 hr hc).2.1 t hd).1
     rw[I.zL K hj this]
   simp[hw]
 cases hs:dN listed i with
 |false=>rfl
 |true=>
  cases hw:writes rl s0 t i with
  |false=>rfl
  |true=>
   obtain⟨ri,o9,hd,_⟩:=BO hw;have cP:i≠j:=fun he=>by rw[he,hj.not] at hs;cases hs
   have :anc j i=true:=by
    cases hc:anc j i with
    |true=>rfl
    |false=>exact absurd ht ((K.cmp j i r ri (by omega) hr o9 hc).2.2.1 t hd)
   have :=I.closed j i hs this;rw[hj.not] at this;cases this
theorem oT.eval_eq {j:Nat} {r:bK} (hj:WC ops listed j) (hr:rl[j]?=some r) (D:dS P g rl pj pairs s0 H0 Hs ss vs):∀y∈r.op.args,Arg.eval g sS y=Arg.eval g (ss j) y:=by
 intro y hy
 cases y with
 |tmp t=>
  have :t∈BL r:=by unfold BL;refine Ap.2 (.inl (Fq.2 ⟨_,hy,?_⟩));simp[Arg.tmps]
  exact I.bDn K hj hr this D
 |const v=>rfl
 |jD n=>rfl
theorem oT.og {j:Nat} {r:bK} (hj:WC ops listed j) (hr:rl[j]?=some r) (D:dS P g rl pj pairs s0 H0 Hs ss vs):bU sS r=bU (ss j) r:=by
 unfold bU;split
 . rfl
 rename_i d b hg;rw[I.bDn K hj hr (t:=d) (by unfold BL;rw[hg];simp) D]
theorem QV {listed:Array Bool} {j:Nat} (hj:j<listed.size) (i:Nat):dN (listed.setIfInBounds j true) i=if i=j then true else dN listed i:=by
 unfold dN;rw[Bo,Bo,Fh];by_cases h:j=i
 . subst h;simp[hj]
 rw[if_neg h,if_neg (Ne.symm h)]
theorem oT.OR {j:Nat} {r:bK} (hj:WC ops listed j) (hr:rl[j]?=some r) (he:r.op.pK=true):p<=j/\∀e re,p<=e->e<j->rl[e]?=some re->re.op.pK=false:=by
 have SU:p<=j:=by refine Ig fun fF=>?_;have :=(I.pos j r hr he).2 fF;rw[hj.not] at this;cases this
 refine⟨SU,fun e re h1 h2 Zp=>?_⟩
 cases JM:re.op.pK with
 |false=>rfl
 |true=>
  have :anc e j=true:=by
   cases hc:anc e j with
   |true=>rfl
   |false=>have :=(K.cmp e j re r h2 Zp hr hc).1 JM;rw[he] at this;cases this
  have :=(I.pos e re Zp JM).1 (I.zL K hj this);omega
theorem oT.next {j:Nat} {r:bK} (hj:WC ops listed j) (hr:rl[j]?=some r) {p':Nat} {G':Gh} {HS':aA} {w':World} {u:Value} (hp':p'=if r.op.pK=true then j+1 else p)
 (aTm:WR g G' HS' w') (bHz:HS'.next=(Hs p').next)
 (aUg:∀i r',rl[i]?=some r'->r'.op.fresh=true->(∃l,G'.loc (kept H0 rl i)=some l)->(i=j\/dN listed i=true)/\bU (ss i) r'=true)
 (aUe:∀id l,G'.loc id=some l->
   (∃i r,rl[i]?=some r/\r.op.fresh=true/\(i=j\/dN listed i=true)/\bU (ss i) r=true/\p'<=i/\id=kept H0 rl i/\HS'.get id=(Hs (i+1)).get id)\/
   ((∀i r,p'<=i->rl[i]?=some r->r.op.fresh=true->bU (ss i) r=true->id≠kept H0 rl i)/\HS'.get id=(Hs p').get id))
 (aUj:∀i r,p'<=i->rl[i]?=some r->r.op.fresh=true->(i=j\/dN listed i=true)->bU (ss i) r=true->∀l,G'.loc (kept H0 rl i)=some l->
   ∀kP l',kP≠kept H0 rl i->G'.loc kP=some l'->HS'.live kP->l'.cZ≠l.cZ)
 (ext':Ext G0 H0 w0 G' HS' w') (hv:VR G' w' (vs j) u) (CC:SR G' w' sS a):
 oT P g ops rl pairs anc s0 H0 Hs ss vs G0 w0 dl (listed.setIfInBounds j true) p' G' HS' w' (a.put r.dst u) (mZ sS r.dst (vs j)):=by
 have fF:=(Bk.1 hr).1
 have Lt:∀i,dN (listed.setIfInBounds j true) i=if i=j then true else dN listed i:=QV I K (by rw[I.size];exact fF)
 have xc:∀i,(i=j\/dN listed i=true)↔dN (listed.setIfInBounds j true) i=true:=fun i=>by rw[Lt];by_cases hi:i=j<;>simp[hi]
 refine⟨by simp[I.size],fun i k h1 h2=>?_,?_,fun i ri o9 hei=>?_,aTm,bHz,fun i r' h1 h2 h3=>?_,fun id l hl=>?_,fun i r' h1 h2 h3 h4 h5=>?_,ext',CC.put r.dst hv,fun t=>?_,?_,?_⟩
 . rw[<-xc] at h1 ⊢
   rcases h1 with rfl|h1
   . exact .inr (I.zL K hj h2)
   exact .inr (I.closed i k h1 h2)
 . rw[hp'];split
   . omega
   exact I.ple
 . rw[<-xc];by_cases he:r.op.pK=true
   . rw[hp',if_pos he];obtain⟨h1,h2⟩:=I.OR K hj hr he;constructor
     . rintro(rfl|h)
       . omega
       have :=(I.pos i ri o9 hei).1 h;omega
     intro h;by_cases hi:i=j
     . exact .inl hi
     refine .inr ((I.pos i ri o9 hei).2 (Nat.lt_of_not_le fun hle=>?_));have :=h2 i ri hle (by omega) o9;rw[hei] at this;cases this
   rw[hp',if_neg he];rw[<-I.pos i ri o9 hei];constructor
   . rintro(rfl|h)
     . rw[hr] at o9;cases o9;exact absurd hei he
     exact h
   exact .inr
 . have :=aUg i r' h1 h2 h3;exact⟨(xc i).1 this.1,this.2⟩
 . rcases aUe id l hl with ⟨i,ri,c1,c2,c3,c4⟩|h
   . exact .inl ⟨i,ri,c1,c2,(xc i).1 c3,c4⟩
   exact .inr h
 . exact aUj i r' h1 h2 h3 ((xc i).2 h4) h5
 . rw[Qn,I.len,I.last t];by_cases hw:r.dst=some t/\t<s0.length
   . rw[if_pos hw];have hwr:writes rl s0 t j=true:=(by simp[writes,hr,hw]);rw[xY (k:=j+1) rl.length (by omega) (fun i h1 h2=>?_)]
     . simp only[wP,Lt j,if_true,hwr,Cv]
     rw[Lt,if_neg (by omega)]
     cases hs:dN listed i with
     |false=>rfl
     |true=>
      cases hwi:writes rl s0 t i with
      |false=>rfl
      |true=>
       obtain⟨ri,o9,hd,_⟩:=BO hwi
       have :anc j i=true:=by
        cases hc:anc j i with
        |true=>rfl
        |false=>exact absurd hd ((K.cmp j i r ri (by omega) hr o9 hc).2.1 t hw.1).2
       have :=I.closed j i hs this;rw[hj.not] at this;cases this
   rw[if_neg hw];refine qZ rl.length (fun i hi=>?_);rw[Lt];by_cases yN:i=j
   . subst yN
     have :writes rl s0 t i=false:=by simp only[writes,hr];simpa using hw
     rw[this];simp
   rw[if_neg yN]
 . rw[LS,I.len]
 cases r.dst<;>exact I.dfr
end
end
section
theorem vP {r:eE} (h:r.reads=true):r.pK=false:=by cases r<;>first|rfl|cases h
theorem yS {r:eE} (h:r.reads=true):r.fresh=false:=by cases r<;>first|rfl|cases h
theorem xp {G:Gh} {w:World} {v:AV} {u:Value} {id:Nat} (h:AO v=some id) (hv:VR G w v u):∃l,G.loc id=some l:=by
 cases hv<;>simp only[AO] at h<;>first
  |(cases h;done)
  |(obtain rfl:=Aa h;exact⟨_,by assumption⟩)
theorem Vc {ev:Arg->AV} {r:eE} {id:Nat} (h:r.dJ ev=some id):∃y∈r.args,AO (ev y)=some id:=by
 cases r<;>simp only[eE.dJ] at h<;>first
  |(cases h;done)
  |exact⟨_,by simp[eE.args],h⟩
theorem Ps {ev ev':Arg->AV} {r:eE} (h:∀y∈r.args,ev y=ev' y):r.dJ ev=r.dJ ev':=by
 cases r<;>simp only[eE.dJ]<;>first
  |rfl
  |rw[h _ Zac]
theorem Ub {ev:Arg->AV} {r:eE} {ob:fC} {val:Nat->AV} (h:xQ ev r=some (ob,val)):ob.live=true:=by
 cases r<;>simp only[xQ] at h<;>first
  |(cases h;done)
  |(obtain⟨rfl,rfl⟩:=Prod.mk.inj (Aa h);rfl)
  |(repeat' (split at h)
    all_goals first
     |(cases h;done)
     |(obtain⟨rfl,rfl⟩:=Prod.mk.inj (Aa h);rfl))
section
variable {P:Program} {g:bG} {ops:Array Oper} {rl:List bK} {pj:Option Nat} {pairs:List (Nat×Nat)} {anc:Nat->Nat->Bool} {s0:List AV} {H0:aA} {Hs:Nat->aA} {ss:Nat->List AV} {vs:Nat->AV}
variable {G0:Gh} {w0:World} {dl:List Deferred} {listed:Array Bool} {p:Nat} {G:Gh} {HS:aA} {w:World} {a:Act} {sS:List AV}
variable (I:oT P g ops rl pairs anc s0 H0 Hs ss vs G0 w0 dl listed p G HS w a sS) (D:dS P g rl pj pairs s0 H0 Hs ss vs) (K:sZ ops rl pairs anc)
include I K D
theorem oT.aw {j e:Nat} (hj:WC ops listed j) (he:dN listed e=true):anc j e=false:=by
 cases hc:anc j e with
 |false=>rfl
 |true=>have :=I.closed j e he hc;rw[hj.not] at this;cases this
theorem oT.VK {j e:Nat} (hj:WC ops listed j) (he:dN listed e=false):anc e j=false:=by
 cases hc:anc e j with
 |false=>rfl
 |true=>have :=I.zL K hj hc;rw[he] at this;cases this
theorem oT.aBt {e:Nat} {re:bK} (Zp:rl[e]?=some re) (JM:re.op.pK=true) (h:p<=e):dN listed e=false:=by
 cases hs:dN listed e with
 |false=>rfl
 |true=>have :=(I.pos e re Zp JM).1 hs;omega
theorem oT.lj {j:Nat} {r:bK} (hj:WC ops listed j) (hr:rl[j]?=some r) (hw:bU (ss j) r=true) {id:Nat} (dB:r.op.dJ (Arg.eval g (ss j))=some id) {l:Loc} (hl:G.loc id=some l)
 (xj:(Hs j).get id≠none):HS.get id=(Hs j).get id:=by
 have hrd:=kU dB;have fF:=(Bk.1 hr).1
 rcases I.cont id l hl with ⟨i,ri,h1,h2,h3,h4,h5,rfl,h7⟩|⟨h1,h2⟩
 . have cP:i≠j:=fun he=>by rw[he,hj.not] at h3;cases h3
   by_cases yN:i<j
   . rw[h7];refine(D.rF (p:=i+1) (q:=j) (by omega) (fun e re q1 q2 q3 q4 q5=>?_) (fun k rk q1 q2 q3 q4 q5=>nK h1 q3 h2 q4 (by omega)) j (by omega) (Ab _)).symm;have Pj:=I.aBt D K q3 q4 (by omega);exact D.Oy j e ((K.cmp e j re r q2 q3 hr (I.VK D K hj Pj)).2.2.2.2 q4 hrd) r re hr q3 hw q5 _ (.inl dB)
   exact absurd (D.AY K h1 h2 h4 j (by omega)) xj
 rw[h2];by_cases SU:p<=j
 . refine(D.rF (p:=p) (q:=j) (by omega) (fun e re q1 q2 q3 q4 q5=>?_) (fun k rk q1 q2 q3 q4 q5=>h1 k rk q1 q3 q4 q5) j SU (Ab _)).symm;have Pj:=I.aBt D K q3 q4 q1;exact D.Oy j e ((K.cmp e j re r q2 q3 hr (I.VK D K hj Pj)).2.2.2.2 q4 hrd) r re hr q3 hw q5 _ (.inl dB)
 refine D.rF (p:=j) (q:=p) I.ple (fun e re q1 q2 q3 q4 q5=>?_) (fun k rk q1 q2 q3 q4 q5 he=>?_) p (by omega) (Ab _)
 . have cP:e≠j:=fun he=>by
    subst he;rw[hr] at q3;cases q3;rw[vP hrd] at q4;cases q4
   have hd:=(I.pos e re q3 q4).2 q2;exact D.Oy j e ((K.cmp j e r re (by omega) hr q3 (I.aw D K hj hd)).2.2.2.1 q4 (.inl hrd)) r re hr q3 hw q5 _ (.inl dB)
 rw[he] at xj;exact xj (D.AY K q3 q4 q5 j q1)
theorem oT.xX {i:Nat} {ri:bK} (hi:rl[i]?=some ri) (hf:ri.op.fresh=true) {k:Nat} (hk:k<=rl.length):kept H0 rl i<(Hs k).next:=by have h1:=D.wU (p:=0) k (Az _) hk;have h2:=Zx (rl:=rl) hi hf;rw[D.h0] at h1;unfold kept;simp only at h1;omega
theorem oT.Wm {j:Nat} {r:bK} (hj:WC ops listed j) (hr:rl[j]?=some r) (he:r.op.pK=true):∀id l,G.loc id=some l->
 (∃i ri,rl[i]?=some ri/\ri.op.fresh=true/\dN listed i=true/\bU (ss i) ri=true/\j<i/\id=kept H0 rl i/\HS.get id=(Hs (i+1)).get id/\(Hs j).get id=none)\/
 ((∀i ri,j<=i->rl[i]?=some ri->ri.op.fresh=true->bU (ss i) ri=true->id≠kept H0 rl i)/\HS.get id=(Hs j).get id):=by
 intro id l hl;have fF:=(Bk.1 hr).1;obtain⟨SU,eW⟩:=I.OR K hj hr he
 have noE:∀{q:Nat},p<=q->∀e re,q<=e->e<j->rl[e]?=some re->re.op.pK=true->bU (ss e) re=true->(Hs e).get id=(Hs (e+1)).get id:=fun hq e re q1 q2 q3 q4 q5=>by have :=eW e re (by omega) q2 q3;rw[q4] at this;cases this
 rcases I.cont id l hl with ⟨i,ri,h1,h2,h3,h4,h5,h6,h7⟩|⟨h1,h2⟩
 . have cP:i≠j:=fun hh=>by rw[hh,hj.not] at h3;cases h3
   by_cases yN:i<j
   . refine .inr ⟨fun k rk q1 q2 q3 q4=>?_,?_⟩
     . rw[h6];exact nK h1 q2 h2 q3 (by omega)
     rw[h7];exact(D.rF (p:=i+1) (q:=j) (by omega) (noE (by omega)) (fun k rk q1 q2 q3 q4 q5=>by rw[h6];exact nK h1 q3 h2 q4 (by omega)) j (by omega) (Ab _)).symm
   exact .inl ⟨i,ri,h1,h2,h3,h4,by omega,h6,h7,by rw[h6];exact D.AY K h1 h2 h4 j (by omega)⟩
 refine .inr ⟨fun k rk q1 q2 q3 q4=>h1 k rk (by omega) q2 q3 q4,?_⟩;rw[h2];exact(D.rF (p:=p) (q:=j) (by omega) (noE (Ab _)) (fun k rk q1 q2 q3 q4 q5=>h1 k rk q1 q3 q4 q5) j SU (Ab _)).symm
theorem oT.TH {j:Nat} {r:bK} (hj:WC ops listed j) (hr:rl[j]?=some r) (he:r.op.pK=true):WR g G (Hs j) w:=by
 have hA:=I.Wm D K hj hr he;have fF:=(Bk.1 hr).1;obtain⟨SU,eW⟩:=I.OR K hj hr he
 have cW:∀{id l o},G.loc id=some l->(Hs j).get id=some o->HS.get id=some o:=fun hl ho=>by
  rcases hA _ _ hl with ⟨_,_,_,_,_,_,_,_,_,hn⟩|⟨_,h⟩
  . rw[hn] at ho;cases ho
  rw[h];exact ho
 have pO:∀{id l},G.loc id=some l->(Hs j).live id->HS.live id:=fun hl ⟨o,ho,hv⟩=>⟨o,cW hl ho,hv⟩
 exact {
  cells:=fun id l cs eM h1 h2=>I.rel.cells id l cs eM h1 (cW h1 h2)
  room:=fun id l h1 h2=>I.rel.room id l h1 (h2.imp (fun⟨cs,eM,h⟩=>⟨cs,eM,cW h1 h⟩) (fun h=>cW h1 h))
  kM:=fun id kP l l' cP h1 h2 h3 h4=>I.rel.kM id kP l l' cP h1 h2 (pO h1 h3) (pO h2 h4)
  jZ:=fun id l h1 h2=>I.rel.jZ id l h1 (pO h1 h2)
  iS:=fun id l o h1 h2=>I.rel.iS id l o h1 (cW h1 h2)
  lt:=fun id l h1=>by
   have :=I.rel.lt id l h1;rw[I.uK] at this
   rwa [D.RZ (p:=p) (q:=j) (by omega) eW j SU (Ab _)]
  iX:=I.rel.iX
  jD:=I.rel.jD
  BZ:=I.rel.BZ
  mo:=I.rel.mo}
theorem oT.jq (j:Nat) (H:aA):∀m,m<=rl.length->∃Hm:aA,Hm.next=H.next/\
 (∀i ri,i<m->rl[i]?=some ri->ri.op.fresh=true->dN listed i=true->bU (ss i) ri=true->j<i->Hm.get (kept H0 rl i)=(Hs (i+1)).get (kept H0 rl i))/\
 (∀id,(∀i ri,i<m->rl[i]?=some ri->ri.op.fresh=true->dN listed i=true->bU (ss i) ri=true->j<i->id≠kept H0 rl i)->Hm.get id=H.get id):=by
 intro m
 induction m with
 |zero=>exact fun _=>⟨H,rfl,fun i ri h=>absurd h (An i),fun id _=>rfl⟩
 |succ m ih=>
  intro hm;obtain⟨Hm,h1,h2,h3⟩:=ih (by omega)
  obtain⟨rm,hrm⟩:∃r,rl[m]?=some r:=⟨rl[m]'(by omega),Ad (by omega)⟩
  by_cases hc:rm.op.fresh=true/\dN listed m=true/\bU (ss m) rm=true/\j<m
  . obtain⟨c1,c2,c3,c4⟩:=hc;obtain⟨ob,val,_,_,e3⟩:=D.nS hrm c1 c3;have SS:(Hs (m+1)).get (kept H0 rl m)=some ob:=by rw[e3,aA.aD,if_pos rfl]
    refine⟨Hm.set (kept H0 rl m) ob,h1,fun i ri q1 q2 q3 q4 q5 q6=>?_,fun id dB=>?_⟩
    . rw[aA.aD];by_cases him:i=m
      . subst him;rw[if_pos rfl,SS]
      rw[if_neg (nK q2 hrm q3 c1 him)];exact h2 i ri (by omega) q2 q3 q4 q5 q6
    rw[aA.aD,if_neg (dB m rm (by omega) hrm c1 c2 c3 c4)];exact h3 id (fun i ri q1=>dB i ri (by omega))
  refine⟨Hm,h1,fun i ri q1 q2 q3 q4 q5 q6=>?_,fun id dB=>h3 id (fun i ri q1=>dB i ri (by omega))⟩;by_cases him:i=m
  . subst him;rw[hrm] at q2;cases q2;exact absurd ⟨q3,q4,q5,q6⟩ hc
  exact h2 i ri (by omega) q2 q3 q4 q5 q6
theorem oT.JW (FG:∀id l,G0.loc id=some l->id<H0.next) {j:Nat} {r:bK} (hj:WC ops listed j) (hr:rl[j]?=some r) (he:r.op.pK=true) {G1:Gh} {w1:World} {u:Value}
 (Pt:WR g G1 (Hs (j+1)) w1) (e1:Ext G (Hs j) w G1 (Hs (j+1)) w1) (hv:VR G1 w1 (vs j) u):
 ∃ek,oT P g ops rl pairs anc s0 H0 Hs ss vs G0 w0 dl (listed.setIfInBounds j true) (j+1) G1 ek w1 (a.put r.dst u) (mZ sS r.dst (vs j)):=by
 have hA:=I.Wm D K hj hr he;have fF:=(Bk.1 hr).1;obtain⟨SU,eW⟩:=I.OR K hj hr he;obtain⟨ek,n1,n2,n3⟩:=I.jq D K j (Hs (j+1)) rl.length (Ab _)
 let vB:Nat->Prop:=fun id=>∃i ri,rl[i]?=some ri/\ri.op.fresh=true/\dN listed i=true/\bU (ss i) ri=true/\j<i/\id=kept H0 rl i
 have we:∀id,vB id->∃i ri,rl[i]?=some ri/\ri.op.fresh=true/\dN listed i=true/\bU (ss i) ri=true/\j<i/\id=kept H0 rl i/\ek.get id=(Hs (i+1)).get id:=fun id ⟨i,ri,q1,q2,q3,q4,q5,q6⟩=>⟨i,ri,q1,q2,q3,q4,q5,q6,by rw[q6];exact n2 i ri (Bk.1 q1).1 q1 q2 q3 q4 q5⟩
 have Nr:∀id,¬vB id->ek.get id=(Hs (j+1)).get id:=fun id hn=>n3 id (fun i ri q0 q1 q2 q3 q4 q5 he=>hn ⟨i,ri,q1,q2,q3,q4,q5,he⟩)
 have AT:∀{id l},vB id->G1.loc id=some l->G.loc id=some l:=fun {id l} ⟨i,ri,q1,q2,q3,q4,q5,q6⟩ yY=>by
  cases hl:G.loc id with
  |none=>have :=e1.news id l yY hl;have h2:=I.xX D K q1 q2 (k:=j) (by omega);rw[q6] at this;omega
  |some l'=>rw[e1.loc id l' hl] at yY;exact yY
 have HZ:∀{id l},vB id->G.loc id=some l->ek.get id=HS.get id/\(Hs j).get id=none:=fun {id l} hL hl=>by
  obtain⟨i,ri,q1,q2,q3,q4,q5,q6,q7⟩:=we id hL
  rcases hA id l hl with ⟨i',ri',p1,p2,p3,p4,p5,p6,p7,p8⟩|⟨h1,_⟩
  . have :i=i':=by
     refine Ev fun cP=>?_;exact nK q1 p1 q2 p2 cP (q6.symm.trans p6)
    subst this;exact⟨q7.trans p7.symm,p8⟩
  exact absurd q6 (h1 i ri (by omega) q1 q2 q4)
 have IE:∀{eV l0},G.loc eV=some l0->(Hs j).live eV->HS.live eV/\¬vB eV:=fun {eV l0} Qs ⟨o,ho,hv⟩=>by
  rcases hA eV l0 Qs with ⟨_,_,_,_,_,_,_,_,_,hn⟩|⟨h1,h2⟩
  . rw[hn] at ho;cases ho
  refine⟨⟨o,by rw[h2];exact ho,hv⟩,fun hL=>?_⟩;have :=(HZ hL Qs).2;rw[this] at ho;cases ho
 have VC:∀{id l},vB id->G.loc id=some l->∀kP l',kP≠id->G.loc kP=some l'->HS.live kP->l'.cZ≠l.cZ:=fun {id l} ⟨i,ri,q1,q2,q3,q4,q5,q6⟩ hl kP l' cP oU mT=>by rw[q6] at hl cP;exact I.aEg i ri (by omega) q1 q2 q3 q4 l hl kP l' cP oU mT
 have wQ:∀{id l},vB id->G.loc id=some l->HS.live id:=fun {id l} hL hl=>by obtain⟨i,ri,q1,q2,q3,q4,q5,q6,q7⟩:=we id hL;obtain⟨ob,val,f1,_,f3⟩:=D.nS q1 q2 q4;refine⟨ob,?_,Ub f1⟩;rw[<-(HZ hL hl).1,q7,q6,f3,aA.aD,if_pos rfl]
 have NC:∀{id l},vB id->G.loc id=some l->∀eV l0,G.loc eV=some l0->(Hs j).live eV->l0.cZ≠l.cZ:=fun hL hl eV l0 Qs PN=>by obtain⟨h1,h2⟩:=IE Qs PN;exact VC hL hl eV l0 (fun he=>h2 (he▸hL)) Qs h1
 have aQv:∀{id l},vB id->G.loc id=some l->∀kP l',G1.loc kP=some l'->(Hs (j+1)).live kP->l'.cZ≠l.cZ:=fun hL hl kP l' oU mT=>by
  have hb:=I.rel.mP hl (wQ hL hl)
  rcases e1.lL kP l' oU mT with h|⟨eV,l0,h1,h2,h3⟩
  . omega
  rw[<-h3];exact NC hL hl eV l0 h1 h2
 have HQ:∀{id l},vB id->G.loc id=some l->w1.heap[l.cZ]?=w.heap[l.cZ]?:=fun hL hl=>e1.frame _ (I.rel.mP hl (wQ hL hl)) (fun eV l0 h1 h2=>NC hL hl eV l0 h1 h2)
 have CG:∀{id},ek.live id->vB id\/(¬vB id/\(Hs (j+1)).live id):=fun {id} ⟨o,ho,hv⟩=>by
  by_cases hL:vB id
  . exact .inl hL
  exact .inr ⟨hL,o,by rw[<-Nr id hL];exact ho,hv⟩
 have Oa:∀{id l},vB id->G1.loc id=some l->∀kP l',kP≠id->G1.loc kP=some l'->ek.live kP->l'.cZ≠l.cZ:=fun {id l} hL yY kP l' cP oU mT=>by
  have hl:=AT hL yY
  rcases CG mT with hL'|⟨_,mT⟩
  . exact VC hL hl kP l' cP (AT hL' oU) (wQ hL' (AT hL' oU))
  exact aQv hL hl kP l' oU mT
 have hm:∀{x y},VR G w x y->VR G1 w1 x y:=fun hx=>hx.mono e1.loc e1.gZ
 have aTm:WR g G1 ek w1:={
  cells:=fun id l cs eM h1 h2=>by
   by_cases hL:vB id
   . have hl:=AT hL h1;obtain⟨a1,a2,a3,a4,a5⟩:=I.rel.cells id l cs eM hl (by rw[<-(HZ hL hl).1];exact h2);refine⟨a1,a2,a3,a4,fun k hk=>?_⟩;obtain⟨x,hx,hvx⟩:=a5 k hk;exact⟨x,by rw[gI (HQ hL hl)];exact hx,hm hvx⟩
   exact Pt.cells id l cs eM h1 (by rw[<-Nr id hL];exact h2)
  room:=fun id l h1 h2=>by
   by_cases hL:vB id
   . have hl:=AT hL h1;obtain⟨c,el,fz,a1,a2,a3⟩:=I.rel.room id l hl (by rw[<-(HZ hL hl).1];exact h2);exact⟨c,el,fz,by rw[HQ hL hl];exact a1,a2,fun k hk=>by rw[kT (HQ hL hl)];exact a3 k hk⟩
   exact Pt.room id l h1 (by rw[<-Nr id hL];exact h2)
  kM:=fun id kP l l' cP h1 h2 tR sU=>by
   by_cases hL:vB id
   . exact .inl (Ne.symm (Oa hL h1 kP l' (Ne.symm cP) h2 sU))
   by_cases hL':vB kP
   . exact .inl (Oa hL' h2 id l cP h1 tR)
   rcases CG tR with h|⟨_,tR⟩
   . exact absurd h hL
   rcases CG sU with h|⟨_,sU⟩
   . exact absurd h hL'
   exact Pt.kM id kP l l' cP h1 h2 tR sU
  jZ:=fun id l h1 tR k hk hi=>by
   rcases CG tR with hL|⟨_,tR⟩
   . have hl:=AT hL h1
     rcases e1.pG _ _ hi with h|h|⟨eV,l0,q1,q2,q3⟩
     . exact I.rel.jZ id l hl (wQ hL hl) k hk h
     . have :=I.rel.mP hl (wQ hL hl);omega
     exact NC hL hl eV l0 q1 q2 q3
   exact Pt.jZ id l h1 tR k hk hi
  iS:=fun id l o h1 h2 hk=>by
   by_cases hL:vB id
   . have hl:=AT hL h1;obtain⟨a1,a2,a3⟩:=I.rel.iS id l o hl (by rw[<-(HZ hL hl).1];exact h2) hk;exact⟨a1,a2,a3.mono (HQ hL hl) fun _ _=>hm⟩
   exact Pt.iS id l o h1 (by rw[<-Nr id hL];exact h2) hk
  lt:=fun id l h1=>by rw[n1];exact Pt.lt id l h1
  iX:=Pt.iX
  jD:=Pt.jD
  BZ:=Pt.BZ
  mo:=Pt.mo}
 have ext':Ext G0 H0 w0 G1 ek w1:={
  loc:=fun id l h=>e1.loc _ _ (I.ext.loc _ _ h)
  gZ:=fun b o hi=>⟨(e1.gZ _ _ (I.ext.gZ _ _ hi).1).1,((e1.gZ _ _ (I.ext.gZ _ _ hi).1).2).trans (I.ext.gZ _ _ hi).2⟩
  size:=Ce I.ext.size e1.size
  frame:=fun b hb hn=>by
   rw[e1.frame b (Cj hb I.ext.size) (fun id l h1 h2=>?_),I.ext.frame b hb hn]
   rcases I.ext.lL id l h1 (IE h1 h2).1 with h|⟨eV,l0,q1,q2,q3⟩
   . omega
   rw[<-q3];exact hn eV l0 q1 q2
  lL:=fun id l h1 h2=>by
   have CI:∀{id l},G.loc id=some l->HS.live id->w0.heap.size<=l.cZ\/∃eV l0,G0.loc eV=some l0/\H0.live eV/\l0.cZ=l.cZ:=fun h1 h2=>I.ext.lL _ _ h1 h2
   rcases CG h2 with hL|⟨_,h2⟩
   . have hl:=AT hL h1;exact CI hl (wQ hL hl)
   rcases e1.lL id l h1 h2 with h|⟨eV,l0,q1,q2,q3⟩
   . exact .inl (Ce I.ext.size h)
   rw[<-q3];exact CI q1 (IE q1 q2).1
  pG:=fun b o hi=>by
   rcases e1.pG b o hi with h|h|⟨eV,l0,q1,q2,q3⟩
   . exact I.ext.pG b o h
   . exact .inr (.inl (Ce I.ext.size h))
   rcases I.ext.lL eV l0 q1 (IE q1 q2).1 with h|⟨id1,l1,p1,p2,p3⟩
   . exact .inr (.inl (by omega))
   exact .inr (.inr ⟨id1,l1,p1,p2,p3.trans q3⟩)
  next:=by have h1:=I.ext.next;rw[I.uK] at h1;rw[n1];exact Ce h1 (D.wU (p:=p) (j+1) (by omega) (by omega))
  news:=fun id l h1 h2=>by
   cases hl:G.loc id with
   |none=>have :=e1.news id l h1 hl;have h3:=I.ext.next;rw[I.uK] at h3;exact Ce (Ce h3 (D.wU (p:=p) j SU (by omega))) this
   |some l'=>exact I.ext.news id l' hl h2
  dead:=fun id l h1 h2=>by
   have hl:=I.ext.loc id l h1
   have hnl:¬vB id:=fun⟨i,ri,q1,q2,q3,q4,q5,q6⟩=>by have :=FG id l h1;rw[q6] at this;unfold kept at this;omega
   rcases CG h2 with h|⟨_,h2⟩
   . exact absurd h hnl
   exact I.ext.dead id l h1 (IE hl (e1.dead id l hl h2)).1
  mo:=e1.mo.trans I.ext.mo
  same:=I.ext.same.trans (I.ext.mo▸e1.same)}
 refine⟨ek,I.next K hj hr (p':=j+1) (by rw[if_pos he]) aTm (by rw[n1]) (fun i ri h1 h2 ⟨l,h3⟩=>?_) (fun id l yY=>?_) (fun i ri h1 h2 h3 h4 h5 l yY kP l' cP oU mT=>?_) ext' hv (I.uX.ext e1)⟩
 . have hl:∃l,G.loc (kept H0 rl i)=some l:=by
    cases hl:G.loc (kept H0 rl i) with
    |none=>have :=e1.news _ l h3 hl;have :=I.xX D K h1 h2 (k:=j) (by omega);omega
    |some l'=>exact⟨l',rfl⟩
   have :=I.iq i ri h1 h2 hl;exact⟨.inr this.1,this.2⟩
 . by_cases hL:vB id
   . obtain⟨i,ri,q1,q2,q3,q4,q5,q6,q7⟩:=we id hL;exact .inl ⟨i,ri,q1,q2,.inr q3,q4,by omega,q6,q7⟩
   refine .inr ⟨fun i ri q1 q2 q3 q4 q5=>hL ?_,Nr id hL⟩
   have hl:∃l,G.loc (kept H0 rl i)=some l:=by
    rw[q5] at yY
    cases hl:G.loc (kept H0 rl i) with
    |none=>have :=e1.news _ l yY hl;have :=I.xX D K q2 q3 (k:=j) (by omega);omega
    |some l'=>exact⟨l',rfl⟩
   have :=I.iq i ri q2 q3 hl;exact⟨i,ri,q2,q3,this.1,this.2,by omega,q5⟩
 have hd:dN listed i=true:=by
  rcases h4 with rfl|h4
  . omega
  exact h4
 exact Oa ⟨i,ri,h2,h3,hd,h5,by omega,rfl⟩ yY kP l' cP oU mT
end
end
section
theorem xN {P:Program} {g:bG} {mu:Bool} {ops:Array Oper}:∀(l:List Oper) (rl:List bK),lP P g mu ops l=some rl->
 rl.length=l.length/\∀(i:Nat) (o:Oper),l[i]?=some o->∃r,rl[i]?=some r/\Kz P g mu ops o=some r
 |[],rl,h=>by obtain rfl:=Aa h;exact⟨rfl,fun i o h=>by simp at h⟩
 |o::l,rl,h=>by
  unfold lP at h;split at h
  . rename_i r rs hr hrs;obtain rfl:=Aa h;obtain⟨h1,h2⟩:=xN l rs hrs;refine⟨by simp[h1],fun i o' hi=>?_⟩
    cases i with
    |zero=>simp at hi;subst hi;exact⟨r,rfl,hr⟩
    |succ i=>simpa using h2 i o' (by simpa using hi)
  cases h
theorem WR.nV {g:bG} {G:Gh} {H H':aA} {w:World} (h:WR g G H w) (hg:∀id l,G.loc id=some l->H'.get id=H.get id) (hn:H.next<=H'.next):WR g G H' w:=by
 have hl:∀{id l},G.loc id=some l->H'.live id->H.live id:=fun h1 ⟨o,h2,h3⟩=>⟨o,by rw[<-hg _ _ h1];exact h2,h3⟩
 exact {
  cells:=fun id l cs eM h1 h2=>h.cells id l cs eM h1 (by rw[<-hg _ _ h1];exact h2)
  room:=fun id l h1 h2=>h.room id l h1 (by rw[<-hg _ _ h1];exact h2)
  kM:=fun id kP l l' cP h1 h2 h3 h4=>h.kM id kP l l' cP h1 h2 (hl h1 h3) (hl h2 h4)
  jZ:=fun id l h1 h2=>h.jZ id l h1 (hl h1 h2)
  iS:=fun id l o h1 h2=>h.iS id l o h1 (by rw[<-hg _ _ h1];exact h2)
  lt:=fun id l h1=>Cj (h.lt id l h1) hn
  iX:=h.iX
  jD:=h.jD
  BZ:=h.BZ
  mo:=h.mo}
theorem Ext.nV {G G':Gh} {H H' GP:aA} {w w':World} (h:Ext G H w G' H' w') (hg:∀id l,G'.loc id=some l->GP.get id=H'.get id) (hn:H'.next<=GP.next):Ext G H w G' GP w':=by
 have hl:∀{id l},G'.loc id=some l->GP.live id->H'.live id:=fun h1 ⟨o,h2,h3⟩=>⟨o,by rw[<-hg _ _ h1];exact h2,h3⟩
 exact {h with
  lL:=fun id l h1 h2=>h.lL id l h1 (hl h1 h2)
  next:=Ce h.next hn
  dead:=fun id l h1 h2=>h.dead id l h1 (hl (h.loc _ _ h1) h2)}
theorem WR.drawn {g:bG} {G:Gh} {H:aA} {w:World} (h:WR g G H w) (n:Nat):WR g G H {w with drawn:=n}:=by
 have hv:∀{x y},VR G w x y->VR G {w with drawn:=n} x y:=fun hx=>hx.mono (fun _ _ h=>h) (fun _ _ h=>⟨h,rfl⟩)
 exact {
  cells:=fun id l cs eM h1 h2=>let⟨a,b,c,d,e⟩:=h.cells id l cs eM h1 h2;⟨a,b,c,d,fun j hj=>let⟨u,h3,h4⟩:=e j hj;⟨u,h3,hv h4⟩⟩
  room:=fun id l h1 h2=>h.room id l h1 h2
  kM:=h.kM
  jZ:=h.jZ
  iS:=fun id l o h1 h2 hk=>let⟨a,b,c⟩:=h.iS id l o h1 h2 hk;⟨a,b,c.mono rfl fun _ _=>hv⟩
  lt:=h.lt
  iX:=h.iX
  jD:=fun k cs h1=>hv (h.jD k cs h1)
  BZ:=h.BZ
  mo:=h.mo}
theorem Ext.drawn (G:Gh) (H:aA) (w:World) (n:Nat) (hn:w.drawn<=n):Ext G H w G H {w with drawn:=n} where
 loc:=fun _ _ h=>h
 gZ:=fun _ _ h=>⟨h,rfl⟩
 size:=Ab _
 frame:=fun _ _ _=>rfl
 lL:=fun id l h hl=>.inr ⟨id,l,h,hl,rfl⟩
 pG:=fun _ _ h=>.inl h
 next:=Ab _
 news:=fun _ _ h h'=>by rw[h] at h';cases h'
 dead:=fun _ _ _ h=>h
 mo:=rfl
 same:=zH.toB (.now (h4:=hn)) _
section
variable {P:Program} {g:bG} {mu:Bool} {ops:Array Oper} {rl:List bK} {pj:Option Nat} {pairs:List (Nat×Nat)} {anc:Nat->Nat->Bool} {s0:List AV} {H0:aA} {Hs:Nat->aA} {ss:Nat->List AV} {vs:Nat->AV}
variable {G0:Gh} {w0:World} {dl:List Deferred} {listed:Array Bool} {p:Nat} {G:Gh} {HS:aA} {w:World} {a:Act} {sS:List AV}
theorem oT.quiet (I:oT P g ops rl pairs anc s0 H0 Hs ss vs G0 w0 dl listed p G HS w a sS) (D:dS P g rl pj pairs s0 H0 Hs ss vs) (K:sZ ops rl pairs anc)
 {j:Nat} {r:bK} (hj:WC ops listed j) (hr:rl[j]?=some r) (he:r.op.pK=false) (hf:r.op.fresh=true->bU (ss j) r=false) {G':Gh} {w':World} {u:Value}
 (hw:WR g G' HS w') (e:Ext G HS w G' HS w') (hv:VR G' w' (vs j) u):
 oT P g ops rl pairs anc s0 H0 Hs ss vs G0 w0 dl (listed.setIfInBounds j true) p G' HS w' (a.put r.dst u) (mZ sS r.dst (vs j)):=by
 have Qp:∀id l,G'.loc id=some l->G.loc id=some l:=fun id l hl=>by
  cases h:G.loc id with
  |none=>have h1:=e.news id l hl h;have h2:=hw.lt id l hl;omega
  |some l'=>rw[e.loc id l' h] at hl;exact hl
 refine I.next K hj hr (p':=p) (by simp[he]) hw I.uK (fun i r' h1 h2 h3=>?_) (fun id l hl=>?_) (fun i r' h1 h2 h3 h4 h5 l hl kP l' cP oU mT=>?_) (I.ext.trans e) hv (I.uX.ext e)
 . obtain⟨l,hl⟩:=h3;have :=I.iq i r' h1 h2 ⟨l,Qp _ _ hl⟩;exact⟨.inr this.1,this.2⟩
 . rcases I.cont id l (Qp _ _ hl) with ⟨i,ri,q1,q2,q3,q4⟩|h
   . exact .inl ⟨i,ri,q1,q2,.inr q3,q4⟩
   exact .inr h
 rcases h4 with rfl|h4
 . rw[hr] at h2;cases h2;rw[hf h3] at h5;cases h5
 exact I.aEg i r' h1 h2 h3 h4 h5 l (Qp _ _ hl) kP l' cP (Qp _ _ oU) mT
theorem oT.fresh (I:oT P g ops rl pairs anc s0 H0 Hs ss vs G0 w0 dl listed p G HS w a sS) (D:dS P g rl pj pairs s0 H0 Hs ss vs) (K:sZ ops rl pairs anc)
 {j:Nat} {r:bK} (hj:WC ops listed j) (hr:rl[j]?=some r) (hf:r.op.fresh=true) (hwt:bU (ss j) r=true) {o:Oper} (rO:DG P g o r.op):
 ∃u w' G' HS',(execOp a.eval o).run P w=.ok (.value u) w'/\
  oT P g ops rl pairs anc s0 H0 Hs ss vs G0 w0 dl (listed.setIfInBounds j true) p G' HS' w' (a.put r.dst u) (mZ sS r.dst (vs j)):=by
 have he:=nD hf;have fF:=(Bk.1 hr).1;obtain⟨ob,val,f1,f2,f3⟩:=D.nS hr hf hwt
 have f1':xQ (Arg.eval g sS) r.op=some (ob,val):=by rw[sT (ev':=Arg.eval g (ss j)) (fun y hy=>I.eval_eq K hj hr D y hy)];exact f1
 have Zo:G.loc (kept H0 rl j)=none:=by
  cases h:G.loc (kept H0 rl j) with
  |none=>rfl
  |some l=>have :=(I.iq j r hr hf ⟨l,h⟩).1;rw[hj.not] at this;cases this
 have aSf:kept H0 rl j<HS.next:=by rw[I.uK];exact I.xX D K hr hf I.ple
 obtain⟨u,w',G',jE,M,hv⟩:=rO sS a G HS (HS.set (kept H0 rl j) ob) w ob val (kept H0 rl j) I.rel I.uX f1' Zo (fun m=>by rw[aA.aD]) (Ab _) aSf;obtain⟨l0,hblk,Qs,sI⟩:=M.bHy
 have hgo:∀id l,G.loc id=some l->G'.loc id=some l:=fun id l hl=>by rw[sI id (fun hh=>by rw[hh,Zo] at hl;cases hl)];exact hl
 have pF:∀b q,G.gZ b q->G'.gZ b q/\w'.cell? ⟨b,q,none⟩=w.cell? ⟨b,q,none⟩:=fun b q hi=>by refine⟨M.bGf b q hi,gI (M.CI b ?_)⟩;obtain⟨v,hv⟩:=I.rel.iX b q hi;have :=wD hv;simpa using this
 have lD:∀{id},id≠kept H0 rl j->(HS.set (kept H0 rl j) ob).live id->HS.live id:=fun {id} cP ⟨x,h1,h2⟩=>⟨x,by rw[aA.aD,if_neg cP] at h1;exact h1,h2⟩;refine⟨u,w',G',HS.set (kept H0 rl j) ob,jE,?_⟩;refine I.next K hj hr (p':=p) (by simp[he]) M.rel I.uK (fun i r' h1 h2 h3=>?_) (fun id l hl=>?_) (fun i r' h1 h2 h3 h4 h5 l hl kP l' cP oU mT=>?_) (M.ext I.ext (Hg _ _)) ?_ ?_
 . obtain⟨l,hl⟩:=h3;by_cases yN:i=j
   . subst yN;rw[hr] at h1;cases h1;exact⟨.inl rfl,hwt⟩
   rw[sI _ (nK h1 hr h2 hf yN)] at hl;have :=I.iq i r' h1 h2 ⟨l,hl⟩;exact⟨.inr this.1,this.2⟩
 . by_cases dB:id=kept H0 rl j
   . subst dB;by_cases SU:p<=j
     . exact .inl ⟨j,r,hr,hf,.inl rfl,hwt,SU,rfl,by rw[f3,aA.aD,if_pos rfl,aA.aD,if_pos rfl]⟩
     refine .inr ⟨fun i ri q1 q2 q3 q4=>nK hr q2 hf q3 (by omega),?_⟩
     have hjp:(Hs p).get (kept H0 rl j)=(Hs (j+1)).get (kept H0 rl j):=
      D.rF (p:=j+1) (q:=p) I.ple (fun e re q1 q2 q3 q4 q5=>by
       have hd:=(I.pos e re q3 q4).2 q2
       exact D.Oy j e ((K.cmp j e r re (by omega) hr q3 (I.aw D K hj hd)).2.2.2.1 q4 (.inr hf)) r re hr q3 hwt q5 _ (.inr ⟨hf,rfl⟩)) (fun k rk q1 q2 q3 q4 q5=>nK hr q3 hf q4 (by omega)) p (by omega) (Ab _)
     rw[hjp,f3,aA.aD,if_pos rfl,aA.aD,if_pos rfl]
   rw[sI id dB] at hl;have DR:(HS.set (kept H0 rl j) ob).get id=HS.get id:=(by rw[aA.aD,if_neg dB]);rw[DR]
   rcases I.cont id l hl with ⟨i,ri,q1,q2,q3,q4⟩|h
   . exact .inl ⟨i,ri,q1,q2,.inr q3,q4⟩
   exact .inr h
 . by_cases yN:i=j
   . subst yN;rw[Qs] at hl;cases hl;rw[sI kP cP] at oU;have :=I.rel.mP oU (lD cP mT);omega
   have vq:=nK (H0:=H0) h2 hr h3 hf yN
   have hd:dN listed i=true:=by
    rcases h4 with h|h
    . exact absurd h yN
    exact h
   rw[sI _ vq] at hl;by_cases dB:kP=kept H0 rl j
   . subst dB;rw[Qs] at oU;cases oU
     have oz:HS.live (kept H0 rl i):=by
      rcases I.cont _ l hl with ⟨i',ri',q1,q2,q3,q4,q5,q6,q7⟩|⟨q1,_⟩
      . have :i=i':=by
         refine Ev fun hn=>?_;exact nK h2 q1 h3 q2 hn q6
        subst this;obtain⟨ob',bJd,g1,_,g3⟩:=D.nS h2 h3 h5;refine⟨ob',?_,Ub g1⟩;rw[q7,g3,aA.aD,if_pos rfl]
      exact absurd rfl (q1 i r' h1 h2 h3 h5)
     have :=I.rel.mP hl oz;omega
   rw[sI _ dB] at oU;exact I.aEg i r' h1 h2 h3 hd h5 l hl kP l' cP oU (lD dB mT)
 . rw[f2];exact hv
 exact⟨I.uX.1,fun t ht=>(I.uX.2 t ht).mono hgo pF⟩
theorem oT.done (I:oT P g ops rl pairs anc s0 H0 Hs ss vs G0 w0 dl listed p G HS w a sS) (D:dS P g rl pj pairs s0 H0 Hs ss vs) (K:sZ ops rl pairs anc)
 (bV:∀i,i<rl.length->dN listed i=true) {ds:List gM} (hd:Ro G0 w0 ds dl) {Q:AQ} (hQ:Q .normal (ss rl.length) ds (Hs rl.length)):QR g G0 H0 w0 Q .normal a w:=by
 have eW:∀e re,p<=e->e<rl.length->rl[e]?=some re->re.op.pK=false:=fun e re h1 h2 h3=>by
  cases JM:re.op.pK with
  |false=>rfl
  |true=>have :=(I.pos e re h3 JM).1 (bV e h2);omega
 have cW:∀id l,G.loc id=some l->(Hs rl.length).get id=HS.get id:=fun id l hl=>by
  rcases I.cont id l hl with ⟨i,ri,q1,q2,q3,q4,q5,q6,q7⟩|⟨q1,q2⟩
  . have hi:=(Bk.1 q1).1;rw[q7]
    exact D.rF (p:=i+1) (q:=rl.length) (Ab _) (fun e re c1 c2 c3 c4 c5=>by rw[eW e re (by omega) c2 c3] at c4;cases c4)
     (fun k rk c1 c2 c3 c4 c5=>by rw[q6];exact nK q1 c3 q2 c4 (by omega)) rl.length (by omega) (Ab _)
  rw[q2]
  exact D.rF (p:=p) (q:=rl.length) (Ab _) (fun e re c1 c2 c3 c4 c5=>by rw[eW e re (by omega) c2 c3] at c4;cases c4)
   (fun k rk c1 c2 c3 c4 c5=>q1 k rk c1 c3 c4 c5) rl.length I.ple (Ab _)
 have AN:HS.next<=(Hs rl.length).next:=by rw[I.uK];exact D.wU rl.length I.ple (Ab _)
 have hs:sS=ss rl.length:=by
  have yY:=D.KQ rl.length (Ab _);refine Gd fun t=>?_;by_cases ht:t<s0.length
  . have h1:=I.last t;rw[qZ (S':=fun _=>true) rl.length (fun i hi=>by rw[bV i hi]),<-D.Ox t rl.length (Ab _)] at h1;have e1:t<sS.length:=by rw[I.len];exact ht
    have e2:t<(ss rl.length).length:=(by rw[yY];exact ht);rw[Ad e1,Ad e2];simpa [getD_eq,Ad e1,Ad e2] using h1
  rw[Bu (by rw[I.len];omega),Bu (by rw[yY];omega)]
 refine⟨.normal,ss rl.length,ds,Hs rl.length,G,hQ,I.rel.nV cW AN,I.ext.nV cW AN,?_,?_,trivial⟩
 . rw[<-hs];exact I.uX
 rw[I.dfr];exact hd.ext I.ext
theorem KY {i:Nat} (hs:listed.size=ops.size):i∈Region.ready .any ops listed↔WC ops listed i:=by
 have cW:∀k,k<ops.size->listed.getD k true=dN listed k:=fun k hk=>by unfold dN;simp[Bo,hs,hk]
 unfold Region.ready;simp only[Fg,Au,Al,Cn];constructor
 . rintro⟨h1,h2,h3⟩;refine⟨h1,by rw[<-cW i h1];exact h2,fun o ho e he hb=>?_⟩;rw[ho] at h3;simp only[Bx,Bi] at h3
   have h4:(!Region.binds .any e||listed.getD e.on false)=true:=by rw[Array.all_eq_true_iff_forall_mem] at h3;exact h3 e he
   rw[hb] at h4;simpa [dN] using h4
 rintro⟨h1,h2,h3⟩;refine⟨h1,by rw[cW i h1];exact h2,?_⟩
 obtain⟨o,ho⟩:∃o,ops[i]?=some o:=⟨ops[i],by simp[h1]⟩
 rw[ho];simp only[Bx,Bi];rw[Array.all_eq_true_iff_forall_mem];intro e he
 cases hb:Region.binds .any e with
 |false=>rfl
 |true=>have :=h3 o ho e he hb;simpa [dN] using this
theorem OS (hs:listed.size=ops.size) (K:sZ ops rl pairs anc) (h:Region.ready .any ops listed=[]):∀i,i<ops.size->dN listed i=true:=by
 intro i
 induction i using Nat.strongRecOn with
 |_ i ih=>
  intro hi
  cases hd:dN listed i with
  |true=>rfl
  |false=>
   have :i∈Region.ready .any ops listed:=(KY hs).2 ⟨hi,hd,fun o ho e he hb=>by
    have h1:=K.aUi i o ho e he hb
    exact ih e.on h1 (by omega)⟩
   rw[h] at this;cases this
def todo (listed:Array Bool) (n:Nat):Nat:=(List.range n).countP fun i=> !dN listed i
theorem GW {p q:Nat->Bool}:∀(l:List Nat) (j:Nat),j∈l->(∀i∈l,q i=true->p i=true)->p j=true->q j=false->l.countP q<l.countP p
 |[],j,h,_,_,_=>by cases h
 |x::l,j,h,Td,hp,hq=>by
  have hle:l.countP q<=l.countP p:=List.countP_mono_left fun i hi=>Td i (Aw _ hi);rw[Gl,Gl]
  rcases Am.1 h with rfl|h
  . simp only[hp,hq,if_true];simp;omega
  have :=GW l j h (fun i hi=>Td i (Aw _ hi)) hp hq
  have h2:(if q x=true then 1 else 0)<=(if p x=true then 1 else 0):=by
   by_cases hqx:q x=true
   . simp[hqx,Td x Ar hqx]
   simp[hqx]
  omega
theorem aBr {j n:Nat} (hj:dN listed j=false) (fF:j<n) (hs:listed.size=n):todo (listed.setIfInBounds j true) n<todo listed n:=by
 have Lt:∀i,dN (listed.setIfInBounds j true) i=if i=j then true else dN listed i:=fun i=>by
  unfold dN;rw[Bo,Bo,Fh];by_cases h:j=i
  . subst h;simp[hs,fF]
  rw[if_neg h,if_neg (Ne.symm h)]
 refine GW _ j (Au.2 fF) (fun i _ h=>?_) (by simp[hj]) (by simp[Lt]);rw[Lt] at h;by_cases yN:i=j
 . rw[yN,hj];rfl
 rw[if_neg yN] at h;exact h
theorem Ext.pre {G G':Gh} {H H1 H':aA} {w w':World} (h:Ext G H1 w G' H' w') (hl:∀id l,G.loc id=some l->H1.live id->H.live id) (hn:H.next<=H1.next):Ext G H w G' H' w':=
 {h with
  frame:=fun b hb hf=>h.frame b hb fun id l q1 q2=>hf id l q1 (hl id l q1 q2)
  lL:=fun id l q1 q2=>(h.lL id l q1 q2).imp (fun x=>x) fun⟨a,b,c,d,e⟩=>⟨a,b,c,hl _ _ c d,e⟩
  pG:=fun b o q=>(h.pG b o q).imp (fun x=>x) fun q=>q.imp (fun x=>x) fun⟨a,b,c,d,e⟩=>⟨a,b,c,hl _ _ c d,e⟩
  next:=Ce hn h.next
  news:=fun id l q1 q2=>Ce hn (h.news id l q1 q2)
  dead:=fun id l q1 q2=>hl _ _ q1 (h.dead id l q1 q2)}
def aIc (P:Program) (g:bG) (rl:List bK) (anc:Nat->Nat->Bool) (Hs:Nat->aA) (ss:Nat->List AV) (E:AV->List AV->aA->Prop) (j:Nat):Prop:=
 (∀k,k<rl.length->(k<j->anc k j=true)/\(j<k->anc j k=true))/\
 ∃r f azs p x H1,rl[j]?=some r/\r.op=.call f azs/\bU (ss j) r=true/\mE (f.eval g (ss j))=some p/\
  Sound P g p.1 (p.2.1++azs.map (Arg.eval g (ss j))++p.2.2) (Hs j) (.JP x) H1/\E x (ss j) H1
theorem oT.aBh (I:oT P g ops rl pairs anc s0 H0 Hs ss vs G0 w0 dl listed p G HS w a sS) (D:dS P g rl pj pairs s0 H0 Hs ss vs) (K:sZ ops rl pairs anc)
 {j:Nat} (hj:WC ops listed j) (fF:j<rl.length) (hc:∀k,k<rl.length->(k<j->anc k j=true)/\(j<k->anc j k=true)):sS=ss j:=by
 have h1:∀k,k<j->dN listed k=true:=fun k hk=>I.zL K hj ((hc k (by omega)).1 hk)
 have h2:∀k,j<=k->k<rl.length->dN listed k=false:=fun k hk tQ=>by
  by_cases he:k=j
  . rw[he];exact hj.not
  cases hd:dN listed k with
  |false=>rfl
  |true=>have :=I.closed j k hd ((hc k tQ).2 (by omega));rw[hj.not] at this;cases this
 have yY:=D.KQ j (by omega);refine Gd fun t=>?_;by_cases ht:t<s0.length
 . have h3:=I.last t;rw[xY (k:=j) rl.length (by omega) (fun i q1 q2=>by rw[h2 i q1 q2];rfl),qZ (S':=fun _=>true) j (fun i hi=>by rw[h1 i hi]),<-D.Ox t j (by omega)] at h3;have e1:t<sS.length:=by rw[I.len];exact ht
   have e2:t<(ss j).length:=(by rw[yY];exact ht);rw[Ad e1,Ad e2];simpa [getD_eq,Ad e1,Ad e2] using h3
 rw[Bu (by rw[I.len];omega),Bu (by rw[yY];omega)]
theorem XB {ro:Option Nat} (hc:lP P g mu ops ops.toList=some rl) (D:dS P g rl pj pairs s0 H0 Hs ss vs) (K:sZ ops rl pairs anc) (FG:∀id l,G0.loc id=some l->id<H0.next)
 {ds:List gM} (hd:Ro G0 w0 ds dl) {Q:AQ} (hQ:pj=none->Q .normal (ss rl.length) ds (Hs rl.length)) (hP:∀j,pj=some j->aIc P g rl anc Hs ss (fun x s H=>Q (.panic x) s ds H) j):
 ∀(fuel:Nat) (listed:Array Bool) (p:Nat) (G:Gh) (HS:aA) (w:World) (a:Act) (sS:List AV),todo listed rl.length<=fuel->
  oT P g ops rl pairs anc s0 H0 Hs ss vs G0 w0 dl listed p G HS w a sS->(∀k,pj=some k->dN listed k=false)->wpAnyIn (Fw ro) 0 P .any ops (QR g G0 H0 w0 Q) fuel listed a w:=by
 obtain⟨hlen,cW⟩:=xN _ _ hc;have kZ:rl.length=ops.size:=by simpa using hlen
 have hnn:∀{listed:Array Bool},(∀i,i<rl.length->dN listed i=true)->(∀k,pj=some k->dN listed k=false)->pj=none:=fun {listed} h1 h2=>by
  cases SU:pj with
  |none=>rfl
  |some k=>obtain⟨_,r,_,_,_,_,_,e1,_⟩:=hP k SU;have :=h1 k (Bk.1 e1).1;rw[h2 k SU] at this;cases this
 intro fuel
 induction fuel with
 |zero=>
  intro listed p G HS w a sS ht I hnp
  have bV:∀i,i<rl.length->dN listed i=true:=fun i hi=>by have h0:todo listed rl.length=0:=(by omega);unfold todo at h0;rw[List.countP_eq_zero] at h0;have :=h0 i (Au.2 hi);simpa using this
  refine⟨?_,I.done D K bV hd (hQ (hnn bV hnp))⟩;refine Ey.2 fun i hi=>?_;have :=(KY (by rw[I.size,kZ])).1 hi;have h2:=bV i (by rw[kZ];exact this.lt);rw[this.not] at h2;cases h2
 |succ fuel ih=>
  intro listed p G HS w a sS ht I hnp;have Us:listed.size=ops.size:=by rw[I.size,kZ]
  refine⟨fun hn=>I.done D K (fun i hi=>OS Us K hn i (by omega)) hd (hQ (hnn (fun i hi=>OS Us K hn i (by omega)) hnp)),fun j hjr=>?_⟩;have hj:=(KY Us).1 hjr
  obtain⟨o,ho⟩:∃o,ops[j]?=some o:=⟨ops[j]'hj.lt,by simp[hj.lt]⟩
  obtain⟨r,hr,hco⟩:=cW j o (by simpa using ho);obtain⟨CY,tO,_⟩:=EN hco;have MN:j<rl.length:=by rw[kZ];exact hj.lt
  have Qw:todo (listed.setIfInBounds j true) rl.length<=fuel:=by have :=aBr (n:=rl.length) hj.not MN I.size;omega
  have aEs:pj≠some j->∀k,pj=some k->dN (listed.setIfInBounds j true) k=false:=fun cP k hk=>by rw[QV I K (by rw[I.size];exact MN),if_neg (fun he=>cP (by rw[hk,he]))];exact hnp k hk
  have DO:pj=some j->(∃f azs,r.op=.call f azs)/\bU (ss j) r=true:=fun h=>by obtain⟨_,r',f,azs,_,_,_,e1,e2,e3,_⟩:=hP j h;rw[hr] at e1;cases e1;exact⟨⟨f,azs,e2⟩,e3⟩
  have Zr:=PG hco I.uX;rw[I.og K hj hr D] at Zr;have gP:=(D.step j r hr).1;unfold wpOpIn;simp only[ho];rw[Zr];unfold DStep at gP;by_cases Pq:bU (ss j) r=true
  . rw[if_pos Pq] at gP ⊢;by_cases hf:r.op.fresh=true
    . obtain⟨u,w',G',HS',jE,I'⟩:=I.fresh D K hj hr hf Pq (aDw tO hf);refine⟨fun _ _=>trivial,?_⟩;rw[show o.semAt (Fw ro).round a.eval=execOp a.eval o from Oper.semAt_eq _ _ _ (xM tO fun f azs e=>by rw[e] at hf;cases hf),jE];rw[CY] at I'
      exact ih _ _ _ _ _ _ _ Qw I' (aEs fun h=>by
       obtain⟨⟨f,azs,e⟩,_⟩:=DO h;rw[e] at hf
       cases hf)
    rw[if_neg hf] at gP;have hf':r.op.fresh=false:=(by simpa using hf);split at gP
    . rename_i f azs fL;have he:r.op.pK=true:=(by rw[fL];rfl);have hev:=I.eval_eq K hj hr D;rw[fL] at tO hev;obtain⟨c,f0,e1,e2,e3,e4⟩:=UJ tO;have XV:f.eval g sS=f.eval g (ss j):=hev f Zac;have hae:azs.map (Arg.eval g sS)=azs.map (Arg.eval g (ss j)):=Fl fun y hy=>hev y (by simp[eE.args,hy]);by_cases hpn:pj=some j
      . obtain⟨hcc,r',f',as',q,x,H1,b1,b2,b3,b4,hS,hq⟩:=hP j hpn;rw[hr] at b1;cases b1;rw[fL] at b2;cases b2;refine TU e1 e2 e3 e4 (I.TH D K hj hr he) I.uX (by rw[XV,hae];exact .inl ⟨q,b4,hS⟩) (fun v hv=>by cases hv) (fun v hv u w' G' lI JM Lv=>?_);cases hv;have hs:=I.aBh D K hj MN hcc
        have ex:=I.ext.trans (JM.pre (fun id l h1 h2=>by
         rcases I.Wm D K hj hr he id l h1 with ⟨_,_,_,_,_,_,_,_,_,hn⟩|⟨_,h⟩
         . obtain⟨o,ho,_⟩:=h2;rw[hn] at ho;cases ho
         obtain⟨o,ho,hv⟩:=h2;exact⟨o,h.trans ho,hv⟩) (by rw[I.uK];exact D.wU j (I.OR K hj hr he).1 (by omega)))
        exact⟨.panic x,ss j,ds,H1,G',hq,lI,ex,hs▸I.uX.ext JM,by rw[I.dfr];exact hd.ext ex,u,rfl,Lv⟩
      rw[if_neg (by simpa using hpn)] at gP;obtain⟨q,hq,hS⟩:=gP;refine TU e1 e2 e3 e4 (I.TH D K hj hr he) I.uX (by rw[XV,hae];exact .inl ⟨q,hq,hS⟩) (fun v hv u w' G' lI JM Lv=>?_) (fun v hv=>by cases hv);cases hv;obtain⟨ek,I'⟩:=I.JW D K FG hj hr he lI JM Lv;rw[CY] at I';exact ih _ _ _ _ _ _ _ Qw I' (aEs hpn)
    . exact gP.elim
    . exact gP.elim
    rename_i n1 n2 n3;have cP:=aEs fun h=>by obtain⟨⟨f,azs,e⟩,_⟩:=DO h;exact n1 f azs e
    have mN:r.op.plain=true:=by cases Ns:r.op<;>first|rfl|exact absurd Ns (n1 _ _)|exact absurd Ns (n2 _)|exact absurd Ns (n3 _ _)|(rw[Ns] at gP;cases gP)
    have aVt:dA (Arg.eval g sS) (Hs j) r.op=some (vs j,Hs (j+1)):=by rw[fh (Hs j) (ev':=Arg.eval g (ss j)) (fun y hy=>I.eval_eq K hj hr D y hy)];exact gP
    by_cases he:r.op.pK=true
    . refine PH (Wu tO mN) (xM tO n3) (I.TH D K hj hr he) I.uX aVt (fun u w' G' lI JM Lv=>?_);obtain⟨ek,I'⟩:=I.JW D K FG hj hr he lI JM Lv;rw[CY] at I';exact ih _ _ _ _ _ _ _ Qw I' cP
    have xS:r.op.pK=false:=by simpa using he
    have hq:=JX (H1:=HS) xS hf' aVt (fun id dB=>by
     have FD:r.op.dJ (Arg.eval g (ss j))=some id:=by rw[<-Ps (ev:=Arg.eval g sS) (fun y hy=>I.eval_eq K hj hr D y hy)];exact dB
     obtain⟨y,hy,hyi⟩:=Vc dB
     have sI:∃l,G.loc id=some l:=by
      cases y with
      |tmp t=>exact xp hyi (I.uX.getD t)
      |const v=>have :=K.lits j r hr (kU dB) v hy;rw[Arg.eval,this] at hyi;cases hyi
      |jD n=>simp only[Arg.eval] at hyi;split at hyi<;>cases hyi
     obtain⟨l,hl⟩:=sI
     exact I.lj D K hj hr Pq FD hl (Mx gP FD))
    refine PH (Wu tO mN) (xM tO n3) I.rel I.uX hq.2 (fun u w' G' lI JM Lv=>?_);have I':=I.quiet D K hj hr xS (fun h=>by rw[hf'] at h;cases h) lI JM Lv;rw[CY] at I';exact ih _ _ _ _ _ _ _ Qw I' cP
  rw[if_neg Pq] at gP ⊢;refine⟨fun _ _=>trivial,?_⟩;obtain⟨hv,hH⟩:=gP;have cP:=aEs fun h=>absurd (DO h).2 Pq;have bGb:bU (ss j) r=false:=by simpa using Pq
  by_cases he:r.op.pK=true
  . have aSd:=I.TH D K hj hr he;obtain⟨ek,I'⟩:=I.JW D K FG hj hr he (G1:=G) (w1:=w) (u:=undef) (by rw[hH];exact aSd) (by rw[hH];exact Ext.refl G (Hs j) w) (by rw[hv];exact VR.oG G w);rw[CY] at I';exact ih _ _ _ _ _ _ _ Qw I' cP
  have I':=I.quiet D K hj hr (by simpa using he) (fun _=>bGb) (u:=undef) I.rel (Ext.refl G HS w) (by rw[hv];exact VR.oG G w);rw[CY] at I';exact ih _ _ _ _ _ _ _ Qw I' cP
theorem NT {ro:Option Nat} {id:Nat} (hm:P.follows .mixedOrders=true) (hc:lP P g mu ops ops.toList=some rl) (D:dS P g rl pj pairs s0 H0 Hs ss vs) (K:sZ ops rl pairs anc)
 (hw:WR g G0 H0 w0) (hs:SR G0 w0 s0 a) {ds:List gM} (hd:Ro G0 w0 ds a.defers) {Q:AQ} (hQ:pj=none->Q .normal (ss rl.length) ds (Hs rl.length)) (hP:∀j,pj=some j->aIc P g rl anc Hs ss (fun x s H=>Q (.panic x) s ds H) j):
 (Code.region id ops true).wpIn (Fw ro) 0 P (QR g G0 H0 w0 Q) a w0:=by
 refine wpIn_region_any hm ?_;obtain⟨hlen,cW⟩:=xN _ _ hc;have kZ:rl.length=ops.size:=by simpa using hlen
 have hH:∀id,(Hs 0).get id=H0.get id:=fun id=>by rw[D.h0];rfl
 have hN:H0.next<=(Hs 0).next:=by rw[D.h0];exact Hg _ _
 have wL:∀i,dN (Array.replicate ops.size false) i=false:=fun i=>by unfold dN;rw[Bo,Array.getElem?_replicate];split<;>rfl
 have aIt:∀i r,rl[i]?=some r->∀l,G0.loc (kept H0 rl i)=some l->False:=fun i r hr l hl=>by have :=hw.lt _ _ hl;unfold kept at this;omega
 have sF:Ro G0 w0 ds a.defers:=hd;refine XB (pairs:=pairs) (anc:=anc) (G0:=G0) (w0:=w0) (dl:=a.defers) hc D K hw.lt hd hQ hP ops.size (Array.replicate ops.size false) 0 G0 (Hs 0) {w0 with drawn:=w0.drawn+1} a s0 ?_ ?_ fun k _=>wL k
 . unfold todo;refine Ce List.countP_le_length ?_;simp[kZ]
 exact {
  size:=by simp[kZ]
  closed:=fun i j h=>by rw[wL] at h;cases h
  ple:=Az _
  pos:=fun i r h1 h2=>by rw[wL];simp
  rel:=(hw.drawn _).nV (fun id l _=>hH id) hN
  uK:=rfl
  iq:=fun i r h1 h2 ⟨l,h3⟩=>(aIt i r h1 l h3).elim
  cont:=fun id l hl=>.inr ⟨fun i r h1 h2 h3 h4 he=>by rw[he] at hl;exact aIt i r h2 l hl,rfl⟩
  aEg:=fun i r h1 h2 h3 h4=>by rw[wL] at h4;cases h4
  ext:=(Ext.drawn G0 H0 w0 _ (Hg _ _)).nV (fun id l _=>hH id) hN
  uX:=hs.ext (Ext.drawn G0 H0 w0 _ (Hg _ _))
  last:=fun t=>by
   have :∀m,wP (dN (Array.replicate ops.size false)) rl s0 vs t m=s0.getD t aC:=fun m=>by
    induction m with
    |zero=>rfl
    |succ m ih=>simp only[wP,wL,Jd,Bb,Bq,ih]
   rw[this]
  len:=rfl
  dfr:=rfl}
end
end
end Go.Av
