/-
  Part of the proof of statement 12
-/
import Derived.Test.YtgggiembljfnhaaGreatDoorB02
import Derived.Maps.RangeRun
import Derived.RangeFuncLeaves
import Derived.RangeFuncSeq
import Derived.OrdersIn
import Derived.Orders
set_option linter.unusedVariables false
set_option linter.unusedSimpArgs false
set_option linter.unusedSectionVars false
namespace Go.Av
open Go
def kF:Operand->Bool
 |.const _=>true
 |_=>false
def pZ (P:Program) (g:bG) (op:BinOp) (t:TypeId) (x y:Operand):Option eE:=
 match bN g x,bN g y with
 |some x',some y'=>
  if op=.eql\/op=.neq then
   match P.underlying t with
   |some .bool=>some (.eqb (op== .neq) x' y')
   |some (.struct _)|some (.array _ _)=>
    match oH P 60 t with
    |some ks=>if P.eqGuardType P.depth t=false then some (.eqf (op== .neq) ks x' y') else none
    |none=>none
   |some (.pointer _)=>some (.tz (op== .neq) .ptr (kF x||kF y) x' y')
   |some (.interface _)=>some (.tz (op== .neq) .ifc (kF x||kF y) x' y')
   |some (.slice _)=>some (.tz (op== .neq) .sli (kF x||kF y) x' y')
   |some (.map _ _)=>some (.tz (op== .neq) .mp (kF x||kF y) x' y')
   |some (.func _ _ _)=>some (.tz (op== .neq) .fn (kF x||kF y) x' y')
   |_=>some (.bin op x' y')
  else some (.bin op x' y')
 |_,_=>none
def mI (P:Program) (g:bG) (src dst:TypeId) (x:Operand):Option eE:=
 match bN g x with
 |some x'=>
  match P.underlying src,P.underlying dst with
  |some _,some (.int k)=>some (.NQ k x')
  |some .string,some (.slice e)=>if P.underlying e matches some (.int .u8) then some (.BG x') else none
  |some (.slice e),some .string=>if P.underlying e matches some (.int .u8) then some (.DH x') else none
  |_,_=>none
 |none=>none
def kB (P:Program) (g:bG) (t:TypeId) (x:Operand) (lo hi mx:Option Operand):Option eE:=
 match bN g x,mZ g lo,mZ g hi,mZ g mx with
 |some x',some WV,some gQ,some mx'=>
  match zL P t with
  |some (n,sz,_)=>some (.DY n sz x' WV gQ mx')
  |none=>
   match nC P t with
   |some (_,sz)=>some (.Yk sz x' WV gQ mx')
   |none=>
    match P.underlying t,mx with
    |some .string,none=>some (.Oz x' WV gQ)
    |_,_=>none
 |_,_,_,_=>none
def qA (P:Program) (g:bG) (c:Call):Option eE:=
 match c.args.toList,c.argTypes[0]? with
 |[x],some t=>
  match P.underlying t,bN g x with
  |some .string,some x'=>some (.lens x')
  |some (.slice _),some x'=>some (.OF x')
  |_,_=>none
 |_,_=>none
def iK (P:Program) (g:bG) (mu:Bool) (c:Call):Option eE:=
 match c.args.toList,c.argTypes.toList with
 |[x,y],[t,t2]=>
  match bN g x,bN g y,nC P t with
  |some x',some y',some (e,sz)=>
   match P.info? e,lL P e,P.underlying t2 with
   |some _,some _,some (.int _)=>none
   |some i,some z,some _=>if 1<=i.bytes/\z.cells.size=sz then some (.append sz i.bytes mu x' y') else none
   |_,_,_=>none
  |_,_,_=>none
 |_,_=>none
def nO (P:Program) (g:bG) (mu:Bool) (c:Call):Option eE:=
 match c.callee with
 |.builtin .len=>qA P g c
 |.builtin .append=>iK P g mu c
 |.builtin .copy=>match c.args.toList,c.argTypes[0]? with
  |[x,y],some t=>match bN g x,bN g y,nC P t with
   |some x',some y',some (_,sz)=>some (.copy sz x' y')
   |_,_,_=>none
  |_,_=>none
 |.value f=>match bN g f,nZ g c.args.toList with
  |some f',some azs=>some (.call f' azs)
  |_,_=>none
 |.builtin .max=>match c.args.toList with
  |[x,y]=>match bN g x,bN g y with
   |some x',some y'=>some (.VI x' y')
   |_,_=>none
  |_=>none
 |.builtin .min=>match c.args.toList with
  |[x,y]=>match bN g x,bN g y with
   |some x',some y'=>some (.VL x' y')
   |_,_=>none
  |_=>none
 |.builtin .clear=>match c.args.toList,c.argTypes[0]? with
  |[x],some t=>match bN g x,nC P t with
   |some x',some (e,sz)=>match lL P e with
    |some z=>(jT z.cells.toList).map fun zs=>.clr sz zs x'
    |none=>none
   |_,_=>none
  |_,_=>none
 |_=>none
def dj (P:Program) (t:TypeId):Option AV:=
 match lL P t with
 |some z=>ofConst z
 |none=>none
def NR (P:Program) (g:bG) (mu:Bool) (o:Oper):Option eE:=
 match o.op with
 |.move x|.assign x=>(bN g x).map .TC
 |.pick c x y=>match bN g c,bN g x,bN g y with
  |some c',some x',some y'=>some (.pick c' x' y')
  |_,_,_=>none
 |.alloc t=>match lL P t with
  |some z=>(jT z.cells.toList).map .alloc
  |none=>none
 |.box _ x=>(bN g x).map .box
 |.build t parts=>match lL P t with
  |some z=>match jT z.cells.toList,P.underlying t with
   |some zs,some (.struct fs)=>match IQ P fs.toList with
    |some l=>(vH g (l[·]?) parts.toList).map (.build zs)
    |none=>none
   |some zs,some (.array _ e)=>match kG P e with
    |some sz=>(vH g (fun i=>some (i*sz,sz)) parts.toList).map (.build zs)
    |none=>none
   |_,_=>none
  |none=>none
 |.buildSlice t len parts=>match nC P t with
  |some (e,sz)=>match lL P e,IB g 0 parts.toList with
   |some _,some ys=>if len=parts.size/\len*sz<=2^24 then(if TP mu sz ys=true then some (.jJ 1 1 [.str []] (.const (.int .i64 1)) (.const (.int .i64 1))) else some (.OR sz ys)) else none
   |_,_=>none
  |none=>none
 |.load t x=>match bN g x,fT P t,kG P t with
  |some x',some agg,some n=>some (.load agg n x')
  |_,_,_=>none
 |.store t x y=>match bN g x,bN g y,kG P t with
  |some x',some y',some n=>some (.store n x' y')
  |_,_,_=>none
 |.nilCheck x=>(bN g x).map .OS
 |.binOp op t x y _=>pZ P g op t x y
 |.unOp op _ x=>(bN g x).map (.un op)
 |.convert src dst x=>mI P g src dst x
 |.sliceToArrayPointer t x=>match bN g x,P.underlying t with
  |some x',some (.array n _)=>some (.Yh n x')
  |_,_=>none
 |.makeInterface t x=>match bN g x,P.underlying t with
  |some _,some (.interface _)=>none
  |some x',some _=>some (.Xu t x')
  |_,_=>none
 |.makeFunc fn fs cs=>match nZ g fs.toList,nZ g cs.toList with
  |some fs',some Lr=>some (.Xt fn fs' Lr)
  |_,_=>none
 |.makeMap t r=>match P.underlying t,r with
  |some (.map _ _),none=>some .yO
  |some (.map _ _),some (.const (.int _ _))=>some .yO
  |_,_=>none
 |.makeSlice t x y=>match bN g x,bN g y,nC P t with
  |some x',some y',some (e,sz)=>match P.info? e,lL P e with
   |some i,some z=>match jT z.cells.toList with
    |some zs=>if 1<=sz/\1<=i.bytes then some (.jJ sz i.bytes zs x' y') else none
    |none=>none
   |_,_=>none
  |_,_,_=>none
 |.slice t x lo hi mx=>kB P g t x lo hi mx
 |.fieldAddr t x i=>match bN g x,XQ P t i with
  |some x',some (off,_,_)=>some (.XP off x')
  |_,_=>none
 |.indexAddr t x i=>match bN g x,bN g i with
  |some x',some i'=>match zL P t with
   |some (n,sz,_)=>some (.Sq (some n) sz x' i')
   |none=>match nC P t with
    |some (_,sz)=>some (.Sq none sz x' i')
    |none=>none
  |_,_=>none
 |.index t x i=>match bN g x,bN g i with
  |some x',some i'=>match zL P t with
   |some (n,sz,b)=>some (.idx n sz b x' i')
   |none=>if P.underlying t matches some .string then some (.idxs x' i') else none
  |_,_=>none
 |.lookup t x i ok=>match bN g x,bN g i,P.underlying t with
  |some x',some i',some (.map kt vt)=>match HV P kt,dj P vt with
   |some k,some z=>some (.lookup k z ok x' i')
   |_,_=>none
  |_,_,_=>none
 |.mapUpdate t m i x|.insert t m i x=>match bN g m,bN g i,bN g x,P.underlying t with
  |some m',some i',some x',some (.map kt _)=>(HV P kt).map fun k=>.OO k m' i' x'
  |_,_,_,_=>none
 |.typeAssert x _ t ok=>match bN g x,P.underlying t,dj P t with
  |some _,some (.interface _),_=>none
  |some x',some _,some z=>some (.Ys t ok z x')
  |_,_,_=>none
 |.extract x i=>(bN g x).map fun x'=>.XN x' i
 |.range t x=>match bN g x,P.underlying t with
  |some x',some (.map _ _)=>some (.vG x')
  |_,_=>none
 |.next x s=>match bN g x,s with
  |some x',false=>some (.DR x')
  |_,_=>none
 |.entry x=>(bN g x).map .xV
 |.call c=>nO P g mu c
 |.panic x=>(bN g x).map .panic
 |.defer c=>match c.callee with
  |.value f=>match bN g f,nZ g c.args.toList with
   |some f',some azs=>some (.lD f' azs)
   |_,_=>none
  |_=>none
 |_=>none
def eE.plain:eE->Bool
 |.call _ _|.panic _|.lD _ _|.vG _|.DR _|.xV _=>false
 |_=>true
theorem uc {op:BinOp} (h:op=.eql\/op=.neq):op=if(op== .neq) then .neq else .eql:=by rcases h with rfl|rfl<;>rfl
theorem Vv {P:Program} {f:Nat} {t:TypeId} {ks:List Sk} (h:oH P f t=some ks) {d:TypeDesc} (hu:P.underlying t=some d) (hd:(∃fs,d=.struct fs)\/∃n e,d=.array n e):fT P t=some true:=by
 unfold fT
 rcases hd with ⟨fs,rfl⟩|⟨n,e,rfl⟩<;>rw[hu]
theorem gw {P:Program} {g:bG} {o:Oper} {op:BinOp} {t t2:TypeId} {x y:Operand} {r:eE} (ho:o.op=.binOp op t x y t2) (h:pZ P g op t x y=some r):cP P g o r:=by
 have hl:(kF x||kF y)=true->(∃c,x=.const c)\/∃c,y=.const c:=fun hh=>by cases x<;>cases y<;>simp[kF] at hh ⊢
 have nk:∀{d:TypeDesc} {k:Nk},P.underlying t=some d->(match (some d:Option TypeDesc) with|some (.pointer _)=>some Nk.ptr|some (.interface _)=>some .ifc|some (.slice _)=>some .sli|some (.map _ _)=>some .mp|some (.func _ _ _)=>some .fn|_=>none)=some k->nkP P t=some k:=fun hu hk=>by unfold nkP;rw[hu];exact hk
 unfold pZ at h;split at h
 . rename_i x' y' hx hy;split at h
   . rename_i fK
     split at h<;>rename_i hu<;>first
      |(obtain rfl:=Aa h;exact aTp ho (uc fK) hu hx hy)
      |(obtain rfl:=Aa h;exact aTr ho (uc fK) (nk hu rfl) hl hx hy)
      |(split at h
        . rename_i ks hks;split at h
          . rename_i hg;obtain rfl:=Aa h;exact aTq ho (uc fK) (by omega) hks (Vv hks hu (by first|exact .inl ⟨_,rfl⟩|exact .inr ⟨_,_,rfl⟩)) hg hx hy
          cases h
        cases h)
      |(obtain rfl:=Aa h;exact zp ho hx hy)
   obtain rfl:=Aa h;exact zp ho hx hy
 cases h
theorem Wy {P:Program} {g:bG} {o:Oper} {src dst:TypeId} {x:Operand} {r:eE} (ho:o.op=.convert src dst x) (h:mI P g src dst x=some r):cP P g o r:=by
 unfold mI at h;split at h
 . rename_i x' hx;split at h
   . rename_i d k hs hd;obtain rfl:=Aa h;exact zt ho hx hs hd
   . rename_i e hs hd;split at h
     . rename_i he;obtain rfl:=Aa h;exact z8 ho hx hs hd he
     cases h
   . rename_i e hs hd;split at h
     . rename_i he;obtain rfl:=Aa h;exact zo ho hx hs hd he
     cases h
   cases h
 cases h
theorem UN {P:Program} {g:bG} {o:Oper} {t:TypeId} {x:Operand} {lo hi mx:Option Operand} {r:eE} (ho:o.op=.slice t x lo hi mx) (h:kB P g t x lo hi mx=some r):cP P g o r:=by
 unfold kB at h;split at h
 . rename_i x' WV gQ mx' hx Ti Lt pr;split at h
   . rename_i n sz b ht;obtain rfl:=Aa h;exact zx ho hx Ti Lt pr ht
   split at h
   . rename_i e sz ht;obtain rfl:=Aa h;exact aGx ho hx Ti Lt pr ht
   split at h
   . rename_i ht;obtain rfl:=Aa h;exact zy ho hx Ti Lt ht
   cases h
 cases h
theorem NB {c:Call} {x:Operand} (h:c.args.toList=[x]):c.args= #[x]:=by apply Fk;simpa using h
theorem GQ {c:Call} {x y:Operand} (h:c.args.toList=[x,y]):c.args= #[x,y]:=by apply Fk;simpa using h
theorem ia {P:Program} {g:bG} {o:Oper} {c:Call} {r:eE} (ho:o.op=.call c) (hc:c.callee=.builtin .len) (h:qA P g c=some r):cP P g o r:=by
 unfold qA at h;split at h
 . rename_i x t ha Pj;split at h
   . rename_i x' ht hx;obtain rfl:=Aa h;exact aGp ho hc (NB ha) hx Pj ht
   . rename_i e x' ht hx;obtain rfl:=Aa h;exact aGo ho hc (NB ha) hx Pj ht
   cases h
 cases h
theorem SF {P:Program} {g:bG} {mu:Bool} {o:Oper} {c:Call} {r:eE} (ho:o.op=.call c) (hc:c.callee=.builtin .append) (h:iK P g mu c=some r):cP P g o r:=by
 unfold iK at h;split at h
 . rename_i x y t t2 ha Pj;have bEr:c.argTypes= #[t,t2]:=by apply Fk;simpa using Pj
   split at h
   . rename_i x' y' e sz hx hy ht;obtain⟨hu,lE⟩:=kK ht;split at h
     . cases h
     . rename_i i z d hd hi hz h2;split at h
       . rename_i eW;obtain rfl:=Aa h;exact kg ho hc (GQ ha) hx hy bEr hu lE h2 (fun k he=>hd k he) hi eW.1 hz eW.2
       cases h
     cases h
   cases h
 cases h
theorem PL {P:Program} {t:TypeId} {z:AV} (h:dj P t=some z):∃zv,lL P t=some zv/\ofConst zv=some z:=by
 unfold dj at h;split at h
 . rename_i zv hz;exact⟨zv,hz,h⟩
 cases h
theorem XA {P:Program} {g:bG} {mu:Bool} {o:Oper} {r:eE} (h:NR P g mu o=some r) (hp:r.plain=true):cP P g o r:=by
 unfold NR at h;split at h
 . rename_i x ho;simp only[Ah] at h;obtain⟨x',hx,rfl⟩:=h;exact bq (.inl ho) hx
 . rename_i x ho;simp only[Ah] at h;obtain⟨x',hx,rfl⟩:=h;exact bq (.inr ho) hx
 . rename_i c x y ho;split at h
   . rename_i c' x' y' hc hx hy;obtain rfl:=Aa h;exact aGv ho hc hx hy
   cases h
 . rename_i t ho;split at h
   . rename_i z hz;simp only[Ah] at h;obtain⟨zs,BZ,rfl⟩:=h;exact zn ho hz BZ
   cases h
 . rename_i t x ho;simp only[Ah] at h;obtain⟨x',hx,rfl⟩:=h;exact aTn ho hx
 . rename_i t parts ho;split at h
   . rename_i z hz;split at h
     . rename_i zs fs BZ hu;split at h
       . rename_i l hl;simp only[Ah] at h;obtain⟨ps,Uv,rfl⟩:=h;exact Ly ho hu hz BZ hl Uv
       cases h
     . rename_i zs n e BZ hu;split at h
       . rename_i sz lE;simp only[Ah] at h;obtain⟨ps,Uv,rfl⟩:=h;exact OW ho hu lE hz BZ Uv
       cases h
     cases h
   cases h
 . rename_i t len parts ho;split at h
   . rename_i e sz ht;split at h
     . rename_i z ys hz MU;split at h
       . rename_i eW;split at h
         . rename_i hr;obtain rfl:=Aa h;exact kh ho ht hz eW.1 eW.2 MU hr
         obtain rfl:=Aa h;exact zu ho ht hz eW.1 eW.2 MU
       cases h
     cases h
   cases h
 . rename_i t x ho;split at h
   . rename_i x' agg n hx qZ hn;obtain rfl:=Aa h;exact aGq ho hx qZ hn
   cases h
 . rename_i t x y ho;split at h
   . rename_i x' y' n hx hy hn;obtain rfl:=Aa h;exact z6 ho hx hy hn
   cases h
 . rename_i x ho;simp only[Ah] at h;obtain⟨x',hx,rfl⟩:=h;exact zw ho hx
 . rename_i op t x y t2 ho;exact gw ho h
 . rename_i op t x ho;simp only[Ah] at h;obtain⟨x',hx,rfl⟩:=h;exact bDp ho hx
 . rename_i src dst x ho;exact Wy ho h
 . rename_i t x ho;split at h
   . rename_i x' n e hx ht;obtain rfl:=Aa h;exact aGw ho hx ht
   cases h
 . rename_i t x ho;split at h
   . cases h
   . rename_i x' d hni hx ht;obtain rfl:=Aa h;refine aGu ho hx ?_;rw[ht]
     cases d<;>first|rfl|exact absurd rfl (hni _)
   cases h
 . rename_i fn fs cs ho;split at h
   . rename_i fs' Lr hf hc;obtain rfl:=Aa h;exact aGt ho hf hc
   cases h
 . rename_i t rr ho;split at h
   . rename_i k v ht;obtain rfl:=Aa h;exact VS ho ht (.inl rfl)
   . rename_i k v j n ht;obtain rfl:=Aa h;exact VS ho ht (.inr ⟨_,_,rfl⟩)
   cases h
 . rename_i t x y ho;split at h
   . rename_i x' y' e sz hx hy ht;split at h
     . rename_i i z hi hz;split at h
       . rename_i zs BZ;split at h
         . rename_i eW;obtain rfl:=Aa h;exact YB ho hx hy ht hi hz BZ eW.1 eW.2
         cases h
       cases h
     cases h
   cases h
 . rename_i t x lo hi mx ho;exact UN ho h
 . rename_i t x i ho;split at h
   . rename_i x' off n b hx hf;obtain rfl:=Aa h;exact aGm ho hx hf
   cases h
 . rename_i t x i ho;split at h
   . rename_i x' i' hx hi;split at h
     . rename_i n sz b ht;obtain rfl:=Aa h;exact VP ho hx hi ht
     split at h
     . rename_i e sz ht;obtain rfl:=Aa h;exact YA ho hx hi ht
     cases h
   cases h
 . rename_i t x i ho;split at h
   . rename_i x' i' hx hi;split at h
     . rename_i n sz b ht;obtain rfl:=Aa h;exact aTs ho hx hi ht
     split at h
     . rename_i gV;obtain rfl:=Aa h;exact aGn ho hx hi gV
     cases h
   cases h
 . rename_i t x i ok ho;split at h
   . rename_i x' i' kt vt hx hi ht;split at h
     . rename_i k z hk hz;obtain rfl:=Aa h;obtain⟨zv,hz1,hz2⟩:=PL hz;exact ki ho hx hi ht hk hz1 hz2
     cases h
   cases h
 . rename_i t m i x ho;split at h
   . rename_i m' i' x' kt vt hm hi hx ht;simp only[Ah] at h;obtain⟨k,hk,rfl⟩:=h;exact VQ (.inl ho) hm hi hx ht hk
   cases h
 . rename_i t m i x ho;split at h
   . rename_i m' i' x' kt vt hm hi hx ht;simp only[Ah] at h;obtain⟨k,hk,rfl⟩:=h;exact VQ (.inr ho) hm hi hx ht hk
   cases h
 . rename_i x ti t ok ho;split at h
   . cases h
   . rename_i x' d z hni hx ht hz;obtain rfl:=Aa h;obtain⟨zv,hz1,hz2⟩:=PL hz;exact aGy ho hx ht (fun ms he=>hni ms he) hz1 hz2
   cases h
 . rename_i x i ho;simp only[Ah] at h;obtain⟨x',hx,rfl⟩:=h;exact aGl ho hx
 . rename_i t x ho;exact Zbf
 . rename_i x st ho;exact Zbf
 . rename_i x ho;simp only[Ah] at h;obtain⟨x',hx,rfl⟩:=h;cases hp
 . rename_i c ho;unfold nO at h;split at h
   . rename_i hc;exact ia ho hc h
   . rename_i hc;exact SF ho hc h
   . rename_i hc;split at h
     . rename_i x y t ha Pj;split at h
       . rename_i x' y' e sz hx hy ht;obtain rfl:=Aa h;obtain⟨hu,lE⟩:=kK ht;exact aGk ho hc (GQ ha) hx hy Pj hu lE
       cases h
     cases h
   . rename_i f hc;exact Zbf
   . rename_i hc;split at h
     . rename_i x y ha;split at h
       . rename_i x' y' hx hy;obtain rfl:=Aa h;exact aGr ho hc (GQ ha) hx hy
       cases h
     cases h
   . rename_i hc;split at h
     . rename_i x y ha;split at h
       . rename_i x' y' hx hy;obtain rfl:=Aa h;exact aGs ho hc (GQ ha) hx hy
       cases h
     cases h
   . rename_i hc;split at h
     . rename_i x t ha Pj;split at h
       . rename_i x' e sz hx ht;obtain⟨hu,lE⟩:=kK ht;split at h
         . rename_i z hz;simp only[Ah] at h;obtain⟨zs,BZ,rfl⟩:=h;exact aTo ho hc (NB ha) hx Pj hu hz BZ
         cases h
       cases h
     cases h
   cases h
 . rename_i x ho;simp only[Ah] at h;obtain⟨x',hx,rfl⟩:=h;cases hp
 . rename_i c ho;split at h
   . exact Zbf
   cases h
 cases h
def eE.fresh:eE->Bool
 |.alloc _|.box _|.yO|.jJ _ _ _ _ _|.BG _=>true
 |_=>false
theorem aEl {P:Program} {g:bG} {mu:Bool} {o:Oper} {r:eE} (h:NR P g mu o=some r) (hp:r.fresh=true):DE P g o r:=by
 unfold NR at h;split at h
 case h_4=>
  rename_i t ho;split at h
  . rename_i z hz;simp only[Ah] at h;obtain⟨zs,BZ,rfl⟩:=h;exact Qk ho hz BZ
  cases h
 case h_5=>rename_i t x ho;simp only[Ah] at h;obtain⟨x',hx,rfl⟩:=h;exact ZX ho hx
 case h_7=>
  rename_i t len parts ho;split at h
  . rename_i e sz ht;split at h
    . rename_i z ys hz MU;split at h
      . rename_i eW;split at h
        . rename_i hr;obtain rfl:=Aa h;exact Nf ho ht hz eW.1 eW.2 MU hr
        obtain rfl:=Aa h;cases hp
      cases h
    cases h
  cases h
 case h_13=>
  rename_i src dst x ho;unfold mI at h;split at h
  . rename_i x' hx;split at h
    . obtain rfl:=Aa h;cases hp
    . rename_i e hs hd;split at h
      . rename_i he;obtain rfl:=Aa h;exact Ql ho hx hs hd he
      cases h
    . exact Zbf
    cases h
  cases h
 case h_17=>
  rename_i t rr ho;split at h
  . rename_i k v ht;obtain rfl:=Aa h;exact KD ho ht (.inl rfl)
  . rename_i k v j n ht;obtain rfl:=Aa h;exact KD ho ht (.inr ⟨_,_,rfl⟩)
  cases h
 case h_18=>
  rename_i t x y ho;split at h
  . rename_i x' y' e sz hx hy ht;split at h
    . rename_i i z hi hz;split at h
      . rename_i zs BZ;split at h
        . rename_i eW;obtain rfl:=Aa h;exact LL ho hx hy ht hi hz BZ eW.1 eW.2
        cases h
      cases h
    cases h
  cases h
 all_goals exfalso
 all_goals (try unfold pZ at h)
 all_goals (try unfold kB at h)
 all_goals (try unfold nO at h)
 all_goals (try unfold qA at h)
 all_goals (try unfold iK at h)
 all_goals repeat' (split at h)
 all_goals first
  |(cases h;done)
  |(obtain rfl:=Aa h;cases hp)
  |(simp only[Ah] at h;obtain⟨_,_,rfl⟩:=h;cases hp)
inductive Out where
 |ret (v:AV)
 |JL (v:AV)
def Wj (G:Gh) (w:World):Out->Ending->Prop
 |.ret v,.returned u=>VR G w v u
 |.JL v,.panicked chain=>∃u,chain=[{v:=u,recovered:=false}]/\VR G w v u
 |_,_=>False
def Mp (P:Program) (f:FuncId):Prop:=∃fn,P.funcs[f]?=some fn/\fn.body.isSome=true/\(fn.name== "runtime.NumGoroutine")=false
def Sound (P:Program) (g:bG) (f:FuncId) (args:List AV) (H:aA) (out:Out) (H':aA):Prop:=
 Mp P f/\∀(G:Gh) (w:World) (vs:List Value),WR g G H w->iO G w args vs->
  Calls P f vs.toArray w fun e w'=>∃G',WR g G' H' w'/\Ext G H w G' H' w'/\Wj G' w' out e
def Fw (ro:Option Nat):Fence:={Fence.wide with round:=ro}
def EG (P:Program) (g:bG) (id:Nat) (args:List AV) (H:aA) (out:Out) (H':aA):Prop:=
 ∀(G:Gh) (w:World) (vs:List Value) (l:Loc),WR g G H w->iO G w args vs->G.loc id=some l->
  YieldAt Fence.wide 0 P l.dB vs.toArray w fun e w'=>∃G',WR g G' H' w'/\Ext G H w G' H' w'/\Wj G' w' out e
inductive gN where
 |call (f:FuncId) (azs:List AV)
 |mark (id:Nat)
inductive AEx where
 |normal
 |exit (id:Nat)
 |ret
 |panic (v:AV)
def bT (s:List AV) (o:bK):Bool:=
 match o.guard with
 |none=>true
 |some (d,b)=>match s.getD d aD with
  |.bool c=>c==b
  |_=>false
def nA (s:List AV) (dst:Option Nat) (v:AV):List AV:=
 match dst with
 |none=>s
 |some d=>s.set d v
def mH:AV->Option (FuncId×List AV×List AV)
 |.func (.func f) fs cs=>some (f,fs,cs)
 |_=>none
def QE (P:Program) (g:bG) (fv:AV) (args:List AV) (H:aA) (out:Out) (H':aA):Prop:=
 (∃p,mH fv=some p/\Sound P g p.1 (p.2.1++args++p.2.2) H out H')\/(∃id,fv=.yield id/\EG P g id args H out H')
abbrev AQ:=AEx->List AV->List gN->aA->Prop
def uF (P:Program) (g:bG):List bK->List AV->List gN->aA->AQ->Prop
 |[],s,ds,H,Q=>Q .normal s ds H
 |o::r,s,ds,H,Q=>
  if bT s o then
   match o.op with
   |.call f azs=>∃out H',QE P g (f.eval g s) (azs.map (Arg.eval g s)) H out H'/\
     match out with
     |.ret v=>uF P g r (nA s o.dst v) ds H' Q
     |.JL v=>Q (.panic v) s ds H'
   |.panic x=>∃t v,x.eval g s=.iface t v/\Q (.panic (.iface t v)) s ds H
   |.lD f azs=>∃p,mH (f.eval g s)=some p/\uF P g r (nA s o.dst aD) (.call p.1 (p.2.1++azs.map (Arg.eval g s)++p.2.2)::ds) H Q
   |.vG x=>∃m es,x.eval g s=.map m/\H.get m=some (.map es)/\∀bs c mb,bs.length=es.length->bs.Nodup->
     uF P g r (nA s o.dst (.ref H.next 0)) ds ((H.set m (.sN es bs c mb)).alloc (.iter m mb c [])) Q
   |.DR x=>∃it m mb c seen es bs,x.eval g s=.ref it 0/\H.get it=some (.iter m mb c seen)/\H.get m=some (.sN es bs c mb)/\
     ((∀b∈bs,b∈seen)->uF P g r (nA s o.dst (.iA [.bool false])) ds H Q)/\
     ∀j,j<bs.length->bs.getD j 0∉seen->uF P g r (nA s o.dst (.iA [.bool true,(es.getD j (aD,aD)).1,(es.getD j (aD,aD)).2])) ds (H.set it (.iter m mb c (seen++[bs.getD j 0]))) Q
   |.xV x=>∃it m mb c seen es bs j,x.eval g s=.ref it 0/\H.get it=some (.iter m mb c (seen++[bs.getD j 0]))/\H.get m=some (.sN es bs c mb)/\j<bs.length/\
     uF P g r (nA s o.dst (.iA [(es.getD j (aD,aD)).1,(es.getD j (aD,aD)).2])) ds H Q
   |op=>∃v H',dA (Arg.eval g s) H op=some (v,H')/\uF P g r (nA s o.dst v) ds H' Q
  else uF P g r (nA s o.dst aD) ds H Q
def Rt (G:Gh) (w:World):List gN->List Deferred->Prop
 |[],[]=>True
 |.call f azs::ds,d::r=>(∃cap:List Value,d.target=.fn (.func f) cap.toArray/\iO G w azs (d.args.toList++cap))/\Rt G w ds r
 |.mark id::ds,d::r=>(∃l,G.loc id=some l/\d.target=.collected l.dB)/\Rt G w ds r
 |_,_=>False
theorem Rt.ext {G G':Gh} {H H':aA} {w w':World} (e:Ext G H w G' H' w'):∀{ds:List gN} {l:List Deferred},Rt G w ds l->Rt G' w' ds l
 |[],[],_=>trivial
 |.call f azs::ds,d::r,h=>⟨let⟨cap,h1,h2⟩:=h.1;⟨cap,h1,h2.ext e⟩,Rt.ext e h.2⟩
 |.mark id::ds,d::r,h=>⟨let⟨l,h1,h2⟩:=h.1;⟨l,e.loc _ _ h1,h2⟩,Rt.ext e h.2⟩
 |[],_::_,h=>h.elim
 |.call _ _::_,[],h=>h.elim
 |.mark _::_,[],h=>h.elim
def ExR (G:Gh) (w:World):AEx->Exit->Prop
 |.normal,.normal=>True
 |.exit i,.exit j=>i=j
 |.ret,.ret=>True
 |.panic v,.panic chain=>∃u,chain=[{v:=u,recovered:=false}]/\VR G w v u
 |_,_=>False
def QR (g:bG) (G:Gh) (H:aA) (w:World) (Q:AQ):Exit->Act->World->Prop:=fun e a' w'=>∃ae s' fQ H' G',Q ae s' fQ H'/\WR g G' H' w'/\Ext G H w G' H' w'/\SR G' w' s' a'/\Rt G' w' fQ a'.defers/\ExR G' w' ae e
theorem QR.trans {g:bG} {G G1:Gh} {H H1:aA} {w w1:World} {Q:AQ} (e:Ext G H w G1 H1 w1) {x:Exit} {a:Act} {w':World} (h:QR g G1 H1 w1 Q x a w'):QR g G H w Q x a w':=
 let⟨ae,s',fQ,H',G',q,hw,he,hs,hd,hx⟩:=h
 ⟨ae,s',fQ,H',G',q,hw,e.trans he,hs,hd,hx⟩
def LD (P:Program) (g:bG) (mu:Bool) (ops:Array Oper) (o:Oper):Option bK:=
 match NR P g mu o with
 |some r=>
  match o.guard with
  |none=>some ⟨o.dst,r,none⟩
  |some (j,b)=>match (ops[j]?).bind (·.dst) with
   |some d=>some ⟨o.dst,r,some (d,b)⟩
   |none=>none
 |none=>none
def lT (P:Program) (g:bG) (mu:Bool) (ops:Array Oper):List Oper->Option (List bK)
 |[]=>some []
 |o::r=>match LD P g mu ops o,lT P g mu ops r with
  |some x,some xs=>some (x::xs)
  |_,_=>none
theorem EL {P:Program} {g:bG} {mu:Bool} {ops:Array Oper} {o:Oper} {r:bK} (h:LD P g mu ops o=some r):r.dst=o.dst/\NR P g mu o=some r.op/\
 ((o.guard=none/\r.guard=none)\/∃j b d,o.guard=some (j,b)/\(ops[j]?).bind (·.dst)=some d/\r.guard=some (d,b)):=by
 unfold LD at h;split at h
 . rename_i r' hr;split at h
   . rename_i hg;obtain rfl:=Aa h;exact⟨rfl,hr,.inl ⟨hg,rfl⟩⟩
   rename_i j b hg;split at h
   . rename_i d hd;obtain rfl:=Aa h;exact⟨rfl,hr,.inr ⟨j,b,d,hg,hd,rfl⟩⟩
   cases h
 cases h
theorem VR.sr {G:Gh} {w:World} {v:AV} {u:Value} (h:VR G w v u) (b:Bool):v=.bool b↔u=.bool b:=by
 constructor
 . rintro rfl;exact h.jY
 rintro rfl;cases h;rfl
theorem CR (a:Array Value) (d:Nat) (b:Bool):a[d]?=some (.bool b)↔a.getD d undef=.bool b:=by
 rw[Bo]
 cases h:a[d]? with
 |none=>simp[undef]
 |some v=>simp
theorem PJ {P:Program} {g:bG} {mu:Bool} {ops:Array Oper} {o:Oper} {r:bK} (h:LD P g mu ops o=some r) {G:Gh} {w:World} {s:List AV} {a:Act} (hs:SR G w s a):
 Region.wanted o (yielded ops a.tmps)=bT s r:=by
 obtain⟨_,_,hg⟩:=EL h
 rcases hg with ⟨h1,h2⟩|⟨j,b,d,h1,h2,h3⟩
 . simp[Region.wanted,bT,h1,h2]
 simp only[Region.wanted,bT,h1,h3,yielded,h2,Option.bind_some];have hv:=hs.getD d
 have key:∀c,s.getD d aD=.bool c↔a.tmps[d]?=some (.bool c):=fun c=>by rw[CR];exact hv.sr c
 cases hsd:s.getD d aD with
 |bool c=>rw[(key c).1 hsd];simp
 |_=>
  have :∀c,a.tmps[d]?≠some (.bool c):=fun c hc=>by have :=(key c).2 hc;rw[hsd] at this;cases this
  split
  . rename_i c hc;exact absurd hc (this c)
  rfl
theorem SR.put {G:Gh} {w:World} {s:List AV} {a:Act} (h:SR G w s a) (dst:Option Nat) {v:AV} {u:Value} (hv:VR G w v u):SR G w (nA s dst v) (a.put dst u):=by
 cases dst with
 |none=>exact h
 |some d=>
  have hl:=h.1;refine⟨by simpa [nA,Act.put] using hl,fun j hj=>?_⟩;simp only[nA,Bx] at hj;simp only[Dc] at hl;have FA:j<a.tmps.size:=by omega
  simp only[nA,Act.put];rw[iI,getD_eq,Ha,Fj];by_cases hd:d=j
  . subst hd;simp only[if_true,hj,FA,Bi];exact hv
  rw[if_neg hd,if_neg hd];have :=h.2 j hj
  rwa [iI] at this
theorem SR.ext {G G':Gh} {H H':aA} {w w':World} {s:List AV} {a:Act} (h:SR G w s a) (e:Ext G H w G' H' w'):SR G' w' s a:=iO.ext h e
theorem EJ {G:Gh} {w:World} {v:AV} {u:Value} {p:FuncId×List AV×List AV} (h:mH v=some p) (hv:VR G w v u):
 ∃azs bs:List Value,u=.func (.func p.1) azs.toArray bs.toArray/\iO G w p.2.1 azs/\iO G w p.2.2 bs:=by
 cases v<;>simp only[mH] at h<;>try (cases h;done)
 rename_i fn fs cs
 cases fn<;>simp only[] at h<;>first|(cases h;done)|skip
 obtain rfl:=Aa h
 cases hv with
 |func _ _ _ azs bs ha hb hav hbv=>exact⟨azs,bs,rfl,⟨ha,hav⟩,⟨hb,hbv⟩⟩
theorem wX {P:Program} {ρ:Operand->Value} {c:Call} {t:TypeId} {f:Operand} {fid:FuncId} {azs bs:List Value} (hc:c.callee=.value f) (hf:ρ f=.func (.func fid) azs.toArray bs.toArray) (w:World):
 (resolve ρ c t).run P w=.ok {target:=.fn (.func fid) bs.toArray,args:=azs.toArray++c.args.map ρ} w:=by
 simp[resolve,hc,hf,Deferred.ofValue]
theorem nX {P:Program} {fid:FuncId} (qP:Mp P fid) (args:Array Value) (cap:Array Value) (w:World):(invoke (.fn (.func fid) cap) args).run P w=.ok (.enter fid (args++cap)) w:=by
 obtain⟨fn,h1,h2,h3⟩:=qP;have hb:¬fn.body=none:=fun hh=>by rw[hh] at h2;cases h2
 have h3':¬fn.name= "runtime.NumGoroutine" :=by simpa using h3
 simp[invoke,callFunc,program,Sem.run,h1,h3',hb]
theorem NH {ro:Option Nat} {n:Nat} {P:Program} {f:FuncId} {args:Array Value} {w:World} {R:Ending->World->Prop} (h:Calls P f args w R):CallsIn (Fw ro) n P f args w R:=
 (callsIn_wide (n:=n)).2 h
theorem AS {ro:Option Nat} {n:Nat}:(Fw ro).depth.isSome=true->1<=n:=fun h=>by cases h
def sx (next:Act->World->Prop) (Q:Exit->Act->World->Prop) (a:Act) (d:Option Nat):Ending->World->Prop
 |.returned v,w=>next (a.put d v) w
 |.panicked chain,w=>Q (.panic chain) a w
 |.outgrown,_=>LetsOut Q
theorem QQ {g:bG} {o:Oper} {G:Gh} {H H':aA} {w:World} {a:Act} {out:Out} {next:Act->World->Prop} {Q:Exit->Act->World->Prop}
 (hn:∀v,out=.ret v->∀u w' G',WR g G' H' w'->Ext G H w G' H' w'->VR G' w' v u->next (a.put o.dst u) w')
 (hx:∀v,out=.JL v->∀u w' G',WR g G' H' w'->Ext G H w G' H' w'->VR G' w' v u->Q (.panic [{v:=u,recovered:=false}]) a w') (e:Ending) (w':World)
 (he:∃G',WR g G' H' w'/\Ext G H w G' H' w'/\Wj G' w' out e):
 sx next Q a o.dst e w':=by
 obtain⟨G',lM,xO,qG⟩:=he
 cases out with
 |ret v=>
  cases e with
  |returned u=>exact hn v rfl u w' G' lM xO qG
  |panicked _=>exact qG.elim
  |outgrown=>exact qG.elim
 |JL v=>
  cases e with
  |returned _=>exact qG.elim
  |panicked chain=>obtain⟨u,rfl,hv⟩:=qG;exact hx v rfl u w' G' lM xO hv
  |outgrown=>exact qG.elim
theorem aCn {G:Gh} {w:World} {id:Nat} {u:Value} (h:VR G w (.yield id) u):∃l,G.loc id=some l/\u=.func (.yield l.dB) #[] #[]:=by
 cases h with
 |yield _ l hl=>exact⟨l,hl,rfl⟩
theorem Tb {P:Program} {g:bG} {ro:Option Nat} {o:Oper} {c:Call} {f:Operand} {f':Arg} {as':List Arg} (ho:o.op=.call c) (hc:c.callee=.value f) (hf:bN g f=some f') (has:nZ g c.args.toList=some as')
 {G:Gh} {H H':aA} {w:World} {s:List AV} {a:Act} {out:Out} (hw:WR g G H w) (hs:SR G w s a)
 (hS:QE P g (f'.eval g s) (as'.map (Arg.eval g s)) H out H') {next:Act->World->Prop} {Q:Exit->Act->World->Prop}
 (hn:∀v,out=.ret v->∀u w' G',WR g G' H' w'->Ext G H w G' H' w'->VR G' w' v u->next (a.put o.dst u) w')
 (hx:∀v,out=.JL v->∀u w' G',WR g G' H' w'->Ext G H w G' H' w'->VR G' w' v u->Q (.panic [{v:=u,recovered:=false}]) a w'):
 o.wpIn (Fw ro) 0 P a w next Q:=by
 have No:=tD hw hs has;have bGn:o.semAt (Fw ro).round a.eval=execOp a.eval o:=Oper.semAt_eq _ _ _ fun c' h=>by rw[ho] at h;cases h
 refine⟨fun _ _=>trivial,?_⟩;rw[bGn];have aSi:=bM hw hs hf
 rcases hS with ⟨p,hp,hS⟩|⟨id,hp,hS⟩
 . obtain⟨us,bs,hfv,h1,h2⟩:=EJ hp aSi
   have jH:(execOp a.eval o).run P w=.ok (.enter p.1 (us++c.args.toList.map a.eval++bs).toArray) w:=by simp only[execOp,ho,Sem.run_bind,wX hc hfv,Result.andThen_ok,nX hS.1];congr 2;apply Fk;simp
   have DM:=hS.2 G w _ hw ((h1.append No).append h2);rw[jH];exact⟨AS,(NH DM).mono fun e w' he=>by have :=QQ hn hx e w' he;cases e<;>exact this⟩
 rw[hp] at aSi;obtain⟨l,hl,hfv⟩:=aCn aSi;obtain⟨fn,tmps,assign,body,hy,hR⟩:=hS G w _ l hw No hl
 have jH:(execOp a.eval o).run P w=.ok (.round l.dB fn tmps assign body) w:=by
  have hy':(Instr.yield l.dB (c.args.map a.eval)).run P w=.ok (.round l.dB fn tmps assign body) w:=by rw[<-hy];congr 2;apply Fk;simp
  simp[execOp,ho,resolve,hc,hfv,Deferred.ofValue,invoke,hy']
 rw[jH];exact⟨AS,RoundIn.mono (show RoundIn (Fw ro) 0 P l.dB fn tmps assign body w _ from hR) fun e w' he=>by have :=QQ hn hx e w' he;cases e<;>exact this⟩
theorem PK {P:Program} {g:bG} {ro:Option Nat} {o:Oper} {r:eE} (qP:cP P g o r) (Pm:∀c,o.op≠ .defer c) {G:Gh} {H H':aA} {w:World} {s:List AV} {a:Act} {v:AV} (hw:WR g G H w) (hs:SR G w s a)
 (h:dA (Arg.eval g s) H r=some (v,H')) {next:Act->World->Prop} {Q:Exit->Act->World->Prop}
 (hn:∀u w' G',WR g G' H' w'->Ext G H w G' H' w'->VR G' w' v u->next (a.put o.dst u) w'):o.wpIn (Fw ro) 0 P a w next Q:=by
 obtain⟨n,u,w',G',hr,hnv,r1,r2,r3⟩:=qP s a G H w v H' hw hs h;refine⟨fun _ _=>trivial,?_⟩;rw[show o.semAt (Fw ro).round a.eval=execOp a.eval o from Oper.semAt_eq _ _ _ Pm,hr]
 rcases hnv with rfl|⟨rfl,rfl⟩
 . exact hn u w' G' r1 r2 r3
 exact hn undef w' G' r1 r2 r3
theorem xJ {P:Program} {g:bG} {mu:Bool} {o:Oper} {r:eE} (h:NR P g mu o=some r) (hr:∀f azs,r≠ .lD f azs):∀c,o.op≠ .defer c:=by
 intro c ho;unfold NR at h;rw[ho] at h;simp only at h;split at h
 . split at h
   . obtain rfl:=Aa h;exact hr _ _ rfl
   cases h
 cases h
theorem UO {P:Program} {g:bG} {mu:Bool} {o:Oper} {f':Arg} {as':List Arg} (h:NR P g mu o=some (.call f' as')):
 ∃c f,o.op=.call c/\c.callee=.value f/\bN g f=some f'/\nZ g c.args.toList=some as':=by
 unfold NR at h;split at h
 case h_31=>
  rename_i c ho;unfold nO at h;split at h
  case h_4=>
   rename_i f hc;split at h
   . rename_i f2 as2 hf has;cases h;exact⟨c,f,ho,hc,hf,has⟩
   cases h
  all_goals exfalso
  all_goals (try unfold qA at h)
  all_goals (try unfold iK at h)
  all_goals repeat' (split at h)
  all_goals first
   |(cases h;done)
   |(simp only[Ah] at h;obtain⟨_,_,h⟩:=h;cases h;done)
 all_goals exfalso
 all_goals (try unfold pZ at h)
 all_goals (try unfold kB at h)
 all_goals (try unfold mI at h)
 all_goals repeat' (split at h)
 all_goals first
  |(cases h;done)
  |(simp only[Ah] at h;obtain⟨_,_,h⟩:=h;cases h;done)
theorem ig {P:Program} {g:bG} {mu:Bool} {o:Oper} {x':Arg} (h:NR P g mu o=some (.panic x')):∃x,o.op=.panic x/\bN g x=some x':=by
 unfold NR at h;split at h
 case h_32=>rename_i x ho;simp only[Ah] at h;obtain⟨y,hy,he⟩:=h;cases he;exact⟨x,ho,hy⟩
 all_goals exfalso
 all_goals (try unfold pZ at h)
 all_goals (try unfold kB at h)
 all_goals (try unfold mI at h)
 all_goals (try unfold nO at h)
 all_goals (try unfold qA at h)
 all_goals (try unfold iK at h)
 all_goals repeat' (split at h)
 all_goals first
  |(cases h;done)
  |(simp only[Ah] at h;obtain⟨_,_,h⟩:=h;cases h;done)
theorem ic {P:Program} {g:bG} {mu:Bool} {o:Oper} {f':Arg} {as':List Arg} (h:NR P g mu o=some (.lD f' as')):
 ∃c f,o.op=.defer c/\c.callee=.value f/\bN g f=some f'/\nZ g c.args.toList=some as':=by
 unfold NR at h;split at h
 case h_33=>
  rename_i c ho;split at h
  . rename_i f hc;split at h
    . rename_i f2 as2 hf has;cases h;exact⟨c,f,ho,hc,hf,has⟩
    cases h
  cases h
 all_goals exfalso
 all_goals (try unfold pZ at h)
 all_goals (try unfold kB at h)
 all_goals (try unfold mI at h)
 all_goals (try unfold nO at h)
 all_goals (try unfold qA at h)
 all_goals (try unfold iK at h)
 all_goals repeat' (split at h)
 all_goals first
  |(cases h;done)
  |(simp only[Ah] at h;obtain⟨_,_,h⟩:=h;cases h;done)
theorem Ta {P:Program} {ops:Array Oper} {ro:Option Nat} {Q Q':Exit->Act->World->Prop} (hq:∀e a w,Q e a w->Q' e a w):∀(l:List Nat) (a:Act) (w2:World),wpOpsIn (Fw ro) 0 P ops Q l a w2->wpOpsIn (Fw ro) 0 P ops Q' l a w2:=by
 intro l
 induction l with
 |nil=>exact fun a w2 hh=>hq _ _ _ hh
 |cons i l ih=>
  intro a w2 hh;rw[wpOpsIn_cons] at hh ⊢;unfold wpOpIn at hh ⊢;split
  . rename_i hi;simp only[hi] at hh;exact ih _ _ hh
  rename_i x hi;simp only[hi] at hh;split
  . rename_i Pt;simp only[Pt,if_true] at hh;unfold Oper.wpIn at *;refine⟨hh.1,?_⟩;have hh:=hh.2;generalize (x.semAt (Fw ro).round a.eval).run P w2=rr at *
    have eq:∀(e:Ending) (w4:World),sx (wpOpsIn (Fw ro) 0 P ops Q l) Q a x.dst e w4->sx (wpOpsIn (Fw ro) 0 P ops Q' l) Q' a x.dst e w4:=fun e w4 xN=>by
     cases e with
     |returned v=>exact ih _ _ xN
     |panicked ch=>exact hq _ _ _ xN
     |outgrown=>exact let⟨a0,w0,q⟩:=xN;⟨a0,w0,hq _ _ _ q⟩
    cases rr with
    |ok n w3=>
     cases n<;>simp only[Oper.uponIn] at hh ⊢ <;>first
      |exact ih _ _ hh
      |exact hh
      |exact⟨hh.1,CallsIn.mono hh.2 (fun e w4 h=>by have :=eq e w4 (by cases e<;>exact h);cases e<;>exact this)⟩
      |exact⟨hh.1,RoundIn.mono hh.2 (fun e w4 h=>by have :=eq e w4 (by cases e<;>exact h);cases e<;>exact this)⟩
      |exact⟨hh.1,RowsIn.mono hh.2 (fun _ _ xN=>ih _ _ xN)⟩
    |halt y w3=>cases y<;>simp only[Oper.uponIn] at hh ⊢ <;>first|exact hh|exact hq _ _ _ hh
  rename_i Pt;simp only[Pt] at hh;exact⟨hh.1,ih _ _ hh.2⟩
theorem ij {P:Program} {g:bG} {mu:Bool} {o:Oper} {x':Arg} (h:NR P g mu o=some (.vG x')):∃t x k v,o.op=.range t x/\bN g x=some x'/\P.underlying t=some (.map k v):=by
 unfold NR at h;split at h
 case h_28=>
  rename_i t x ho;split at h
  . rename_i y k v hy ht;cases h;exact⟨t,x,k,v,ho,hy,ht⟩
  cases h
 all_goals exfalso
 all_goals (try unfold pZ at h)
 all_goals (try unfold kB at h)
 all_goals (try unfold mI at h)
 all_goals (try unfold nO at h)
 all_goals (try unfold qA at h)
 all_goals (try unfold iK at h)
 all_goals repeat' (split at h)
 all_goals first
  |(cases h;done)
  |(simp only[Ah] at h;obtain⟨_,_,h⟩:=h;cases h;done)
theorem te {P:Program} {g:bG} {mu:Bool} {o:Oper} {x':Arg} (h:NR P g mu o=some (.DR x')):∃x,o.op=.next x false/\bN g x=some x':=by
 unfold NR at h;split at h
 case h_29=>
  rename_i x s ho;split at h
  . rename_i y hy;cases h;exact⟨x,ho,hy⟩
  cases h
 all_goals exfalso
 all_goals (try unfold pZ at h)
 all_goals (try unfold kB at h)
 all_goals (try unfold mI at h)
 all_goals (try unfold nO at h)
 all_goals (try unfold qA at h)
 all_goals (try unfold iK at h)
 all_goals repeat' (split at h)
 all_goals first
  |(cases h;done)
  |(simp only[Ah] at h;obtain⟨_,_,h⟩:=h;cases h;done)
theorem ie {P:Program} {g:bG} {mu:Bool} {o:Oper} {x':Arg} (h:NR P g mu o=some (.xV x')):∃x,o.op=.entry x/\bN g x=some x':=by
 unfold NR at h;split at h
 case h_30=>rename_i x ho;simp only[Ah] at h;obtain⟨y,hy,he⟩:=h;cases he;exact⟨x,ho,hy⟩
 all_goals exfalso
 all_goals (try unfold pZ at h)
 all_goals (try unfold kB at h)
 all_goals (try unfold mI at h)
 all_goals (try unfold nO at h)
 all_goals (try unfold qA at h)
 all_goals (try unfold iK at h)
 all_goals repeat' (split at h)
 all_goals first
  |(cases h;done)
  |(simp only[Ah] at h;obtain⟨_,_,h⟩:=h;cases h;done)
theorem Xs {G:Gh} {w:World} {id:Nat} {u:Value} (h:VR G w (.map id) u):∃l,G.loc id=some l/\u=.map (some l.dB):=by
 cases h with
 |map _ l hl=>exact⟨l,hl,rfl⟩
theorem aAt {G:Gh} {w:World} {id off:Nat} {u:Value} (h:VR G w (.ref id off) u):∃l,G.loc id=some l/\u=.pointer (some ⟨l.dB,l.base+off,none⟩):=by
 cases h with
 |ref _ _ l hl=>exact⟨l,hl,rfl⟩
theorem FV {α:Type} {a:Array α} {i:Nat} {x:α} (h:a[i]?=some x):a.setIfInBounds i x=a:=by
 apply Array.ext_getElem?;intro j;rw[Fj];split
 . rename_i yL;subst yL;rw[if_pos (Cg.1 h).1,h]
 rfl
theorem WR.fresh {g:bG} {G:Gh} {H:aA} {w:World} (hw:WR g G H w):G.loc H.next=none:=by
 cases hl:G.loc H.next with
 |none=>rfl
 |some l'=>exact absurd (hw.lt _ _ hl) (Ez _)
theorem YU {P:Program} {g:bG} {G:Gh} {H:aA} {w:World} (hw:WR g G H w) {m:Nat} {es:List (AV×AV)} {u:Value} (hg:H.get m=some (.map es)) (hu:VR G w (.map m) u)
 {t k v:TypeId} (ht:P.underlying t=some (.map k v)):∃bs c mb u' w' G',bs.length=es.length/\bs.Nodup/\(Instr.range t u).run P w=.ok u' w'/\
   WR g G' ((H.set m (.sN es bs c mb)).alloc (.iter m mb c [])) w'/\Ext G H w G' ((H.set m (.sN es bs c mb)).alloc (.iter m mb c [])) w'/\VR G' w' (.ref H.next 0) u':=by
 obtain⟨l,hl,rfl⟩:=Xs hu;obtain⟨XY,Tf,ents,clock,h1,h2,h3,h4⟩:=hw.iV _ _ _ hl hg rfl;have hlen:(ents.toList.map (·.born)).length=es.length:=by simpa using h2
 have Pm:(ents.toList.map (·.born)).Nodup:=by rw[List.Nodup,Gc];intro i j hi hj yL he;simp only[Af,Dc] at hi hj;simp only[Dq,Array.getElem_toList] at he;have :=h3.2 i j hi hj (by rw[Bo,Bo,Dv hi,Dv hj];exact he);omega
 have fJ:∀b∈ents.toList.map (·.born),b<clock:=by
  intro b hb;simp only[Bf] at hb;obtain⟨x,hx,rfl⟩:=hb;obtain⟨i,hi,rfl⟩:=Ej hx;have gQ:i<ents.size:=by simpa using hi
  have :=h3.1 i gQ;rw[Bo,Dv gQ] at this;simpa using this
 refine⟨ents.toList.map (·.born),clock,l.dB,.pointer (some ⟨w.heap.size,0,none⟩),w.alloc (.mapIter (some l.dB) clock #[] clock),G.dY H.next ⟨w.heap.size,0,0,1⟩,hlen,Pm,?_,?_⟩
 . simp[Instr.range,underlying,program,ht,getObj,newObj,Sem.run,h1,Result.andThen]
 obtain⟨q1,q2⟩:=hw.FU (o':=.sN es (ents.toList.map (·.born)) clock l.dB) (x:=.map ents clock) (w':=w) hl hg rfl rfl (FV h1).symm .now
  (fun _ wG=>⟨rfl,Pm,fJ,ents,wG,rfl,hlen,h4⟩)
 have m1:=q1.CF (H':=(H.set m (.sN es (ents.toList.map (·.born)) clock l.dB)).alloc (.iter m l.dB clock [])) H.next (.iter m l.dB clock []) (.mapIter (some l.dB) clock #[] clock) rfl q1.fresh (aA.aG _ _) (Gn _) (Ex _) (w':=w.alloc (.mapIter (some l.dB) clock #[] clock)) ⟨rfl,.now⟩
  (fun hm=>⟨by show(w.heap.push _)[w.heap.size]?=_;simp,hm _ _ (.map m l hl)⟩)
 exact⟨m1.rel,m1.ext q2 (Ab _),.ref H.next 0 ⟨w.heap.size,0,0,1⟩ (by show(if H.next=H.next then some (⟨w.heap.size,0,0,1⟩:Loc) else _)=_;simp)⟩
theorem kd {P:Program} {g:bG} {G:Gh} {H:aA} {w:World} (hw:WR g G H w) {it m mb c:Nat} {seen bs:List Nat} {es:List (AV×AV)} {u:Value} (EX:H.get it=some (.iter m mb c seen)) (hgm:H.get m=some (.sN es bs c mb))
 (hu:VR G w (.ref it 0) u) (ty:TypeId):
 ((∀b∈bs,b∈seen)/\(Instr.next u false ty).run P w=.ok (.tuple #[.bool false]) w)\/
 ∃j u' w' G',j<bs.length/\bs.getD j 0∉seen/\(Instr.next u false ty).run P w=.ok u' w'/\WR g G' (H.set it (.iter m mb c (seen++[bs.getD j 0]))) w'/\Ext G H w G' (H.set it (.iter m mb c (seen++[bs.getD j 0]))) w'/\
  VR G' w' (.iA [.bool true,(es.getD j (aD,aD)).1,(es.getD j (aD,aD)).2]) u':=by
 obtain⟨li,pq,rfl⟩:=aAt hu;obtain⟨XY,Tf,hbi,hvm⟩:=hw.iV _ _ _ pq EX rfl;obtain⟨lm,hlm,hmb⟩:=Xs hvm;cases hmb;obtain⟨_,_,_,Pm,fJ,ents,vh,Zd,hlen,oU⟩:=hw.iV _ _ _ hlm hgm rfl;rw[XY];have hold:∀x∈ents.toList,x.born<c:=fun x hx=>fJ _ (by rw[<-Zd];exact List.mem_map_of_mem hx)
 rcases run_next_at (P:=P) w ty li.dB lm.dB c c seen.toArray ents c hbi vh hold (Ab _) with ⟨h0,hr⟩|⟨e,he,w1,RB,hr⟩
 . refine .inl ⟨fun b hb=>?_,hr⟩;rw[<-Zd] at hb;obtain⟨x,hx,rfl⟩:=Bf.1 hb;have Nl:=Array.eq_empty_of_size_eq_zero h0;unfold leftOf at Nl;rw[Array.filter_eq_empty_iff] at Nl;have :=Nl x (by simpa using hx);simpa using this
 right;unfold leftOf at he;simp only[Array.toList_filter,Fh,Cn,List.contains_toArray] at he;obtain⟨hem,hns⟩:=he;obtain⟨j,hj,hje⟩:=Ej hem;have hjs:j<ents.size:=by simpa using hj
 have hjb:j<bs.length:=by rw[<-Zd];simpa using hj
 have hbj:bs.getD j 0=e.born:=by subst Zd;simp[Bg,Cv,Ad hj,hje]
 have aSd:ents.getD j default=e:=by rw[Bo,Dv hjs];simpa using hje
 have aVs:w1.heap=w.heap:=by rcases RB with rfl|rfl<;>rfl
 have DQ:zA w w1:=by rcases RB with rfl|rfl<;>exact .now
 obtain⟨q1,q2⟩:=hw.FU (o':=.iter m lm.dB c (seen++[bs.getD j 0])) (x:=.mapIter (some lm.dB) c (seen.toArray.push e.born) c)
  (w':=ChangeMaps.setBlock w1 li.dB (.mapIter (some lm.dB) c (seen.toArray.push e.born) c)) pq EX rfl rfl (by show w1.heap.setIfInBounds _ _=_;rw[aVs]) ⟨DQ.os,DQ.output,DQ.tape,DQ.drawn⟩
  (fun hm wG=>⟨by rw[wG,hbj];simp,hm _ _ hvm⟩)
 obtain⟨vk,vv⟩:=oU j (by omega);rw[aSd] at vk vv;refine⟨j,_,_,G,hjb,by rw[hbj];simpa using hns,hr,q1,q2,?_⟩;have hm':∀a u,VR G w a u->VR G (ChangeMaps.setBlock w1 li.dB (.mapIter (some lm.dB) c (seen.toArray.push e.born) c)) a u:=fun a u h=>h.ext q2;refine VR.iA _ [.bool true,e.key,e.val] rfl fun i hi=>?_
 match i,hi with
 |0,_=>exact .bool true
 |1,_=>exact hm' _ _ vk
 |2,_=>exact hm' _ _ vv
 |k+3,hi=>simp at hi;omega
theorem XL {P:Program} {g:bG} {G:Gh} {H:aA} {w:World} (hw:WR g G H w) {it m mb c j:Nat} {seen bs:List Nat} {es:List (AV×AV)} {u:Value} (EX:H.get it=some (.iter m mb c (seen++[bs.getD j 0])))
 (hgm:H.get m=some (.sN es bs c mb)) (hj:j<bs.length) (hu:VR G w (.ref it 0) u):
 ∃u',(Instr.entry u).run P w=.ok u' w/\VR G w (.iA [(es.getD j (aD,aD)).1,(es.getD j (aD,aD)).2]) u':=by
 obtain⟨li,pq,rfl⟩:=aAt hu;obtain⟨XY,Tf,hbi,hvm⟩:=hw.iV _ _ _ pq EX rfl;obtain⟨lm,hlm,hmb⟩:=Xs hvm;cases hmb;obtain⟨_,_,_,Pm,fJ,ents,vh,Zd,hlen,oU⟩:=hw.iV _ _ _ hlm hgm rfl;rw[XY];have hje:j<ents.toList.length:=by rw[<-Zd] at hj;simpa using hj
 have hjs:j<ents.size:=by simpa using hje
 have hbj:bs.getD j 0=ents.toList[j].born:=by subst Zd;simp[Bg,Cv,Ad hje]
 have aSd:ents.getD j default=ents.toList[j]:=by rw[Bo,Dv hjs];simp
 have hr:=run_entry_at (P:=P) w li.dB lm.dB c seen.toArray ents c ents.toList[j] (by rw[hbi,hbj];simp) vh (Ac hje) (by rw[Zd];exact Pm);obtain⟨vk,vv⟩:=oU j (by omega);rw[aSd] at vk vv;refine⟨_,hr,VR.iA _ [_,_] rfl fun i hi=>?_⟩
 match i,hi with
 |0,_=>exact vk
 |1,_=>exact vv
 |k+2,hi=>simp at hi;omega
theorem Mm {P:Program} {g:bG} {mu:Bool} {ro:Option Nat} {ops:Array Oper}:∀(l:List Oper) (rl:List bK) (k:Nat),lT P g mu ops l=some rl->(∀j,(h:j<l.length)->ops[k+j]?=some l[j])->
 (ro=none\/∀r∈rl,∀f azs,r.op≠ .lD f azs)->∀(s:List AV) (ds:List gN) (G:Gh) (H:aA) (w:World) (a:Act) (Q:AQ),uF P g rl s ds H Q->WR g G H w->SR G w s a->Rt G w ds a.defers->
   wpOpsIn (Fw ro) 0 P ops (QR g G H w Q) (List.range' k l.length) a w
 |[],rl,k,hc,hl,BW,s,ds,G,H,w,a,Q,h,hw,hs,hd=>by obtain rfl:=Aa hc;exact⟨.normal,s,ds,H,G,h,hw,Ext.refl G H w,hs,hd,trivial⟩
 |o::l,rl,k,hc,hl,BW,s,ds,G,H,w,a,Q,h,hw,hs,hd=>by
  unfold lT at hc;split at hc
  . rename_i r rs hr hrs;obtain rfl:=Aa hc
    have ho:ops[k]?=some o:=hl 0 (by simp)
    have pA:∀j,(h:j<l.length)->ops[k+1+j]?=some l[j]:=fun j hj=>by have :=hl (j+1) ZaC;simpa [show k+(j+1)=k+1+j by omega] using this
    obtain⟨CU,tO,_⟩:=EL hr;have Zu:=PJ hr hs
    have next:∀{v:AV} {u:Value} {H1:aA} {w1:World} {G1:Gh} {rL:List gN} {a1:Act},uF P g rs (nA s r.dst v) rL H1 Q->WR g G1 H1 w1->Ext G H w G1 H1 w1->VR G1 w1 v u->SR G w s a1->Rt G1 w1 rL a1.defers->
     wpOpsIn (Fw ro) 0 P ops (QR g G H w Q) (List.range' (k+1) l.length) (a1.put o.dst u) w1:=by
     intro v u H1 w1 G1 rL a1 hA RB he hv hs1 MK;have BX:=(hs1.ext he).put r.dst hv;rw[CU] at BX hA
     have hdp:Rt G1 w1 rL (a1.put o.dst u).defers:=by cases o.dst<;>exact MK
     have :=Mm l rs (k+1) hrs pA (BW.imp id fun h x hx=>h x (Au _ hx)) _ rL G1 H1 w1 _ Q hA RB BX hdp;exact Ta (fun _ _ _=>QR.trans he) _ _ _ this
    simp only[As,List.range'_succ];rw[wpOpsIn_cons];unfold wpOpIn;simp only[ho];rw[Zu];unfold uF at h;by_cases Pt:bT s r=true
    . rw[if_pos Pt] at h ⊢;split at h
      . rename_i f azs fK;obtain⟨out,H',hS,qG⟩:=h;rw[fK] at tO;obtain⟨c,f0,e1,e2,e3,e4⟩:=UO tO;refine Tb e1 e2 e3 e4 hw hs hS (fun v hv u w' G' lM he Lw=>?_) (fun v hv u w' G' lM he Lw=>?_)
        . subst hv
          exact next qG lM he Lw hs (hd.ext he)
        subst hv;exact⟨.panic v,s,ds,H',G',qG,lM,he,hs.ext he,hd.ext he,u,rfl,Lw⟩
      . rename_i x fK;obtain⟨t,v,hx,hq⟩:=h;rw[fK] at tO;obtain⟨x0,e1,e2⟩:=ig tO;have vx:=bM hw hs e2;rw[hx] at vx;generalize eG:a.eval x0=u at vx
        have jH:∀q,u=.iface t q->(execOp a.eval o).run P w=.halt (.panic u) w:=fun q hq=>by subst hq;simp[execOp,e1,eG,Instr.panic,goPanic]
        have vx':=vx;refine⟨fun _ _=>trivial,?_⟩;rw[show o.semAt (Fw ro).round a.eval=execOp a.eval o from Oper.semAt_eq _ _ _ fun c' h=>by rw[e1] at h;cases h]
        cases vx with
        |iface _ _ q hqv=>rw[jH q rfl];exact⟨.panic (.iface t v),s,ds,H,G,hq,hw,Ext.refl G H w,hs,hd,_,rfl,vx'⟩
      . rename_i f azs fK;obtain⟨p,hp,hA⟩:=h;rw[fK] at tO;obtain⟨c,f0,e1,e2,e3,e4⟩:=ic tO;obtain⟨us,bs,hfv,h1,h2⟩:=EJ hp (bM hw hs e3);have No:=tD hw hs e4
        have jH:(execOp a.eval o).run P w=.ok (.defer {target:=.fn (.func p.1) bs.toArray,args:=us.toArray++c.args.map a.eval}) w:=by simp only[execOp,e1,Sem.run_bind,wX e2 hfv,Result.andThen_ok,Sem.run_pure]
        have bGm:ro=none:=BW.resolve_right fun h=>h r (by simp) _ _ fK;subst bGm;refine⟨fun _ _=>trivial,?_⟩;rw[show o.semAt (Fw none).round a.eval=execOp a.eval o from rfl,jH]
        exact next hA hw (Ext.refl G H w) (VR.oK G w) (a1:={a with defers:={target:=.fn (.func p.1) bs.toArray,args:=us.toArray++c.args.map a.eval}::a.defers}) hs
         ⟨⟨bs,rfl,by simpa using(h1.append No).append h2⟩,hd⟩
      . rename_i x fK;obtain⟨m,es,hx,hg,hA⟩:=h;rw[fK] at tO;obtain⟨t,x0,kt,vt,e1,e2,e3⟩:=ij tO;have vx:=bM hw hs e2;rw[hx] at vx;obtain⟨bs,c,mb,u',w',G',h1,h2,hr,q1,q2,q3⟩:=YU (P:=P) hw hg vx e3;refine⟨fun _ _=>trivial,?_⟩;rw[show o.semAt (Fw ro).round a.eval=execOp a.eval o from Oper.semAt_eq _ _ _ fun c' h=>by rw[e1] at h;cases h];rw[show(execOp a.eval o).run P w=.ok (.value u') w' by simp[execOp,e1,hr]]
        exact next (hA _ _ _ h1 h2) q1 q2 q3 hs (hd.ext q2)
      . rename_i x fK;obtain⟨it,m,mb,c,seen,es,bs,hx,EX,hgm,wD,gR⟩:=h;rw[fK] at tO;obtain⟨x0,e1,e2⟩:=te tO;have vx:=bM hw hs e2;rw[hx] at vx;refine⟨fun _ _=>trivial,?_⟩;rw[show o.semAt (Fw ro).round a.eval=execOp a.eval o from Oper.semAt_eq _ _ _ fun c' h=>by rw[e1] at h;cases h]
        rcases kd (P:=P) hw EX hgm vx o.type with ⟨h1,hr⟩|⟨j,u',w',G',h1,h2,hr,q1,q2,q3⟩
        . rw[show(execOp a.eval o).run P w=.ok (.value (.tuple #[.bool false])) w by simp[execOp,e1,hr]]
          exact next (wD h1) hw (Ext.refl G H w) (VR.iA [.bool false] [.bool false] rfl fun i hi=>by
           obtain rfl:i=0:=by simp at hi;exact hi
           exact .bool false) hs hd
        rw[show(execOp a.eval o).run P w=.ok (.value u') w' by simp[execOp,e1,hr]]
        exact next (gR j h1 h2) q1 q2 q3 hs (hd.ext q2)
      . rename_i x fK;obtain⟨it,m,mb,c,seen,es,bs,j,hx,EX,hgm,hj,hA⟩:=h;rw[fK] at tO;obtain⟨x0,e1,e2⟩:=ie tO;have vx:=bM hw hs e2;rw[hx] at vx;obtain⟨u',hr,hv⟩:=XL (P:=P) hw EX hgm hj vx;refine⟨fun _ _=>trivial,?_⟩;rw[show o.semAt (Fw ro).round a.eval=execOp a.eval o from Oper.semAt_eq _ _ _ fun c' h=>by rw[e1] at h;cases h];rw[show(execOp a.eval o).run P w=.ok (.value u') w by simp[execOp,e1,hr]]
        exact next hA hw (Ext.refl G H w) hv hs hd
      rename_i n1 n2 n3 n4 n5 n6;obtain⟨v,H',hA,hn⟩:=h
      have nS:r.op.plain=true:=by cases Nu:r.op<;>first|rfl|exact absurd Nu (n1 _ _)|exact absurd Nu (n2 _)|exact absurd Nu (n3 _ _)|exact absurd Nu (n4 _)|exact absurd Nu (n5 _)|exact absurd Nu (n6 _)
      refine PK (XA tO nS) (xJ tO n3) hw hs hA (fun u w' G' lM he hv=>?_)
      exact next hn lM he hv hs (hd.ext he)
    rw[if_neg Pt] at h ⊢;exact⟨fun _ _=>trivial,next h hw (Ext.refl G H w) (VR.oK G w) hs hd⟩
  cases hc
def eE.pP:eE->Bool
 |.store _ _ _|.append _ _ _ _ _|.copy _ _ _|.clr _ _ _|.OO _ _ _ _|.call _ _=>true
 |_=>false
def eE.reads:eE->Bool
 |.load _ _ _|.DY _ _ _ _ _ _|.DH _|.lookup _ _ _ _ _=>true
 |_=>false
def AK:AV->Option Nat
 |.ref id _=>some id
 |.sl id _ _ _ _=>some id
 |.map id=>some id
 |_=>none
def eE.dK (ev:Arg->AV):eE->Option Nat
 |.load _ _ a=>AK (ev a)
 |.DY _ _ x _ _ _=>AK (ev x)
 |.DH x=>AK (ev x)
 |.lookup _ _ _ x _=>AK (ev x)
 |_=>none
def Arg.tmps:Arg->List Nat
 |.tmp t=>[t]
 |_=>[]
def eE.args:eE->List Arg
 |.TC x|.box x|.OS x|.un _ x|.NQ _ x|.BG x|.DH x|.Yh _ x|.Xu _ x|.XP _ x|.Ys _ _ _ x|.XN x _|.lens x|.OF x|.load _ _ x|.panic x|.clr _ _ x=>[x]
 |.pick a b c=>[a,b,c]
 |.alloc _|.yO=>[]
 |.build _ ps=>ps.map (·.2.2)
 |.OR _ xs=>xs
 |.store _ a x=>[a,x]
 |.bin _ x y|.eqb _ x y|.eqf _ _ x y|.tz _ _ _ x y=>[x,y]
 |.Xt _ a b=>a++b
 |.jJ _ _ _ l c=>[l,c]
 |.Oz x l h=>x::(l.toList++h.toList)
 |.Yk _ x l h m|.DY _ _ x l h m=>x::(l.toList++(h.toList++m.toList))
 |.Sq _ _ x i|.idx _ _ _ x i|.idxs x i|.VI x i|.VL x i=>[x,i]
 |.append _ _ _ x y|.copy _ x y=>[x,y]
 |.lookup _ _ _ x i=>[x,i]
 |.OO _ m k v=>[m,k,v]
 |.call f azs|.lD f azs=>f::azs
 |.vG x|.DR x|.xV x=>[x]
theorem jK {ev ev':Arg->AV} {x:Option Arg} (h:∀y∈x.toList,ev y=ev' y):eB ev x=eB ev' x:=by
 cases x with
 |none=>rfl
 |some y=>simp[eB,h y (by simp)]
theorem LI {ev ev':Arg->AV}:∀(ps:List (Nat×Nat×Arg)) (cs:List AV),(∀y∈ps.map (·.2.2),ev y=ev' y)->GY ev cs ps=GY ev' cs ps
 |[],cs,h=>rfl
 |(o,n,x)::r,cs,h=>by
  have hx:=h x (by simp);simp only[GY,hx];split
  . exact LI r _ (fun y hy=>h y (by simp at hy ⊢;exact .inr hy))
  rfl
theorem OG {ev ev':Arg->AV} (sz:Nat):∀(xs:List Arg),(∀y∈xs,ev y=ev' y)->KQ ev sz xs=KQ ev' sz xs
 |[],h=>rfl
 |x::r,h=>by have hx:=h x (by simp);simp only[KQ,hx,OG sz r (fun y hy=>h y (by simp[hy]))]
theorem sW {ev ev':Arg->AV} {r:eE} (h:∀y∈r.args,ev y=ev' y):xB ev r=xB ev' r:=by
 cases r<;>simp only[xB]<;>first
  |rfl
  |(have h1:=h _ (Ar);simp only[eE.args] at h;simp only[h1])
  |skip
 case jJ sz b z l c=>have h2:=h c (by simp);rw[h2]
theorem fo {ev ev':Arg->AV} {r:eE} (H:aA) (h:∀y∈r.args,ev y=ev' y):dA ev H r=dA ev' H r:=by
 have hm:∀l:List Arg,(∀y∈l,y∈r.args)->l.map ev=l.map ev':=fun l hl=>Fl fun y hy=>h y (hl y hy)
 cases r with
 |build z ps=>simp only[dA];rw[LI ps z h]
 |OR sz xs=>simp only[dA];rw[OG sz xs h]
 |Xt fn a b=>simp only[dA];rw[hm a (fun y hy=>by simp[eE.args,hy]),hm b (fun y hy=>by simp[eE.args,hy])]
 |Oz x l hh=>have h1:=h x Zaa;have h2:eB ev l=eB ev' l:=jK fun y hy=>h y (by simp only[eE.args,Am,Ao];exact .inr (.inl hy));have h3:eB ev hh=eB ev' hh:=jK fun y hy=>h y (by simp only[eE.args,Am,Ao];exact .inr (.inr hy));simp only[dA,h1,h2,h3]
 |Yk sz x l hh m=>have h1:=h x Zaa;have h2:eB ev l=eB ev' l:=jK fun y hy=>h y (by simp only[eE.args,Am,Ao];exact .inr (.inl hy));have h3:eB ev hh=eB ev' hh:=jK fun y hy=>h y (by simp only[eE.args,Am,Ao];exact .inr (.inr (.inl hy)));have h4:eB ev m=eB ev' m:=jK fun y hy=>h y (by simp only[eE.args,Am,Ao];exact .inr (.inr (.inr hy)));simp only[dA,h1,h2,h3,h4]
 |DY n sz x l hh m=>have h1:=h x Zaa;have h2:eB ev l=eB ev' l:=jK fun y hy=>h y (by simp only[eE.args,Am,Ao];exact .inr (.inl hy));have h3:eB ev hh=eB ev' hh:=jK fun y hy=>h y (by simp only[eE.args,Am,Ao];exact .inr (.inr (.inl hy)));have h4:eB ev m=eB ev' m:=jK fun y hy=>h y (by simp only[eE.args,Am,Ao];exact .inr (.inr (.inr hy)));simp only[dA,h1,h2,h3,h4]
 |alloc z=>simp only[dA,sW (r:=.alloc z) h]
 |box x=>simp only[dA,sW (r:=.box x) h]
 |yO=>simp only[dA,sW (r:=.yO) h]
 |jJ a b c d e=>simp only[dA,sW (r:=.jJ a b c d e) h]
 |BG x=>simp only[dA,sW (r:=.BG x) h]
 |pick a b c=>have h1:=h a Zaa;have h2:=h b Zaa;have h3:=h c Zaa;simp only[dA,h1,h2,h3]
 |OO k m i v=>have h1:=h m Zaa;have h2:=h i Zaa;have h3:=h v Zaa;simp only[dA,h1,h2,h3]
 |call f azs=>rfl
 |lD f azs=>rfl
 |panic x=>rfl
 |vG x=>rfl
 |DR x=>rfl
 |xV x=>rfl
 |store n a b=>have h1:=h a Zaa;have h2:=h b Zaa;simp only[dA,h1,h2]
 |bin op a b=>have h1:=h a Zaa;have h2:=h b Zaa;simp only[dA,h1,h2]
 |eqb op a b=>have h1:=h a Zaa;have h2:=h b Zaa;simp only[dA,h1,h2]
 |eqf op s a b=>have h1:=h a Zaa;have h2:=h b Zaa;simp only[dA,h1,h2]
 |tz op k l a b=>have h1:=h a Zaa;have h2:=h b Zaa;simp only[dA,h1,h2]
 |Sq n sz a b=>have h1:=h a Zaa;have h2:=h b Zaa;simp only[dA,h1,h2]
 |idx n sz g a b=>have h1:=h a Zaa;have h2:=h b Zaa;simp only[dA,h1,h2]
 |idxs a b=>have h1:=h a Zaa;have h2:=h b Zaa;simp only[dA,h1,h2]
 |append s b m x y=>have h1:=h x Zaa;have h2:=h y Zaa;simp only[dA,h1,h2]
 |copy s x y=>have h1:=h x Zaa;have h2:=h y Zaa;simp only[dA,h1,h2]
 |lookup k z ok x y=>have h1:=h x Zaa;have h2:=h y Zaa;simp only[dA,h1,h2]
 |TC x=>have h1:=h x Zaa;simp only[dA,h1]
 |VI x y=>have h1:=h x Zaa;have h2:=h y Zaa;simp only[dA,h1,h2]
 |VL x y=>have h1:=h x Zaa;have h2:=h y Zaa;simp only[dA,h1,h2]
 |clr n z x=>have h1:=h x Zaa;simp only[dA,h1]
 |OS x=>have h1:=h x Zaa;simp only[dA,h1]
 |un o x=>have h1:=h x Zaa;simp only[dA,h1]
 |NQ k x=>have h1:=h x Zaa;simp only[dA,h1]
 |DH x=>have h1:=h x Zaa;simp only[dA,h1]
 |Yh n x=>have h1:=h x Zaa;simp only[dA,h1]
 |Xu t x=>have h1:=h x Zaa;simp only[dA,h1]
 |XP n x=>have h1:=h x Zaa;simp only[dA,h1]
 |Ys t ok z x=>have h1:=h x Zaa;simp only[dA,h1]
 |XN x i=>have h1:=h x Zaa;simp only[dA,h1]
 |lens x=>have h1:=h x Zaa;simp only[dA,h1]
 |OF x=>have h1:=h x Zaa;simp only[dA,h1]
 |load g n x=>have h1:=h x Zaa;simp only[dA,h1]
theorem JT {ev:Arg->AV} {r:eE} (he:r.pP=false) (hf:r.fresh=false) {H H1:aA} {v:AV} {H':aA} (h:dA ev H r=some (v,H'))
 (hr:∀id,r.dK ev=some id->H1.get id=H.get id):H'=H/\dA ev H1 r=some (v,H1):=by
 have hca:∀{id:Nat},H1.get id=H.get id->H1.eS id=H.eS id:=fun hh=>by simp[aA.eS,hh]
 cases r<;>first
  |(cases he;done)
  |(cases hf;done)
  |skip
 case load agg n a=>
  simp only[dA] at h ⊢;simp only[eE.dK] at hr;split at h
  . rename_i id off dC;have :=hca (hr id (by rw[dC];rfl));simp only[this];split at h
    . split at h
      . split at h
        . exact Zbc
        split at h
        . exact Zbc
        cases h
      cases h
    cases h
  . rename_i cs dC;split at h
    . split at h
      . exact Zbc
      split at h
      . exact Zbc
      cases h
    cases h
  cases h
 case DY n sz x lo hi mx=>
  simp only[dA] at h ⊢;simp only[eE.dK] at hr;split at h
  . simp only[Ah,Ak] at h ⊢;obtain⟨v',h,rfl,rfl⟩:=h;refine⟨rfl,v',?_,by simp⟩;unfold mM at h ⊢;simp only at h ⊢;split at h
    . rename_i hc;rw[if_pos hc];split at h
      . rename_i id o dC;have :=hca (hr id (by rw[dC];rfl));simp only[this];exact h
      . exact h
      cases h
    cases h
  cases h
 case DH x=>
  simp only[dA] at h ⊢;simp only[eE.dK] at hr
  have WO:cK H1 1 (ev x)=cK H 1 (ev x):=by cases hx:ev x<;>simp only[cK];rename_i id sz off len cap;have :=hca (hr id (by rw[hx];rfl));simp only[this]
  split at h
  . cases h
  rename_i hns;rw[WO];split at h
  . simp only[Ah,Ak] at h ⊢;obtain⟨bs,h1,rfl,rfl⟩:=h;exact⟨rfl,bs,h1,by simp⟩
  cases h
 case lookup k z ok x i=>
  simp only[dA] at h ⊢;simp only[eE.dK] at hr;split at h
  . rename_i hk;rw[if_pos hk];split at h
    . exact Zbc
    . rename_i id dC;have :=hr id (by rw[dC];rfl);simp only[this];split at h
      . split at h
        . exact Zbc
        . exact Zbc
        cases h
      cases h
    cases h
  cases h
 case VI x y=>
  simp only[dA] at h ⊢;split at h
  . rename_i h1 h2;simp only[Ae,Ak] at h;obtain⟨rfl,rfl⟩:=h;exact ZaR
  cases h
 case VL x y=>
  simp only[dA] at h ⊢;split at h
  . rename_i h1 h2;simp only[Ae,Ak] at h;obtain⟨rfl,rfl⟩:=h;exact ZaR
  cases h
 all_goals
  simp only[dA] at h ⊢
  repeat' (split at h)
  all_goals first
   |(cases h;done)
   |(simp only[Ae,Ak] at h
     obtain⟨rfl,rfl⟩:=h
     exact⟨rfl,by simp_all⟩)
   |(simp only[Ah,Ak] at h
     obtain⟨q,h1,rfl,rfl⟩:=h
     exact⟨rfl,by simp_all⟩)
section
def BH (r:bK):List Nat:=r.op.args.flatMap Arg.tmps++(match r.guard with|some (d,_)=>[d]|none=>[])
def gX (rl:List bK) (i:Nat):Nat:=(rl.take i).countP (·.op.fresh)
def DStep (P:Program) (g:bG) (pn:Bool) (id:Nat) (r:bK) (s:List AV) (H:aA) (v:AV) (H':aA):Prop:=
 if bT s r then
  if r.op.fresh then ∃ob val,xB (Arg.eval g s) r.op=some (ob,val)/\v=val id/\H'=H.set id ob
  else match r.op with
   |.call f azs=>if pn=true then v=aD/\H'=H else ∃p,mH (f.eval g s)=some p/\Sound P g p.1 (p.2.1++azs.map (Arg.eval g s)++p.2.2) H (.ret v) H'
   |.panic _|.lD _ _=>False
   |op=>dA (Arg.eval g s) H op=some (v,H')
 else v=aD/\H'=H
structure dU (P:Program) (g:bG) (rl:List bK) (pj:Option Nat) (pairs:List (Nat×Nat)) (s0:List AV) (H0:aA) (Hs:Nat->aA) (ss:Nat->List AV) (vs:Nat->AV):Prop where
 s0:ss 0=s0
 h0:Hs 0={H0 with next:=H0.next+rl.countP (·.op.fresh)}
 free:∀k,k<rl.countP (·.op.fresh)->H0.get (H0.next+k)=none
 step:∀i r,rl[i]?=some r->DStep P g (pj==some i) (H0.next+gX rl i) r (ss i) (Hs i) (vs i) (Hs (i+1))/\ss (i+1)=nA (ss i) r.dst (vs i)
 mono:∀i r,rl[i]?=some r->r.op.pP=true->(Hs i).next<=(Hs (i+1)).next
 PB:∀i e,(i,e)∈pairs->∀ri re,rl[i]?=some ri->rl[e]?=some re->bT (ss i) ri=true->bT (ss e) re=true->
  ∀id,(ri.op.dK (Arg.eval g (ss i))=some id\/(ri.op.fresh=true/\id=H0.next+gX rl i))->(Hs e).get id=(Hs (e+1)).get id
structure tC (ops:Array Oper) (rl:List bK) (pairs:List (Nat×Nat)) (anc:Nat->Nat->Bool):Prop where
 aUz:∀j o,ops[j]?=some o->∀e∈o.after,Region.binds .any e=true->e.on<j
 wit:∀i j,anc i j=true->∃o,ops[j]?=some o/\∃e∈o.after,Region.binds .any e=true/\(e.on=i\/anc i e.on=true)
 cmp:∀i j ri rj,i<j->rl[i]?=some ri->rl[j]?=some rj->anc i j=false->
  (ri.op.pP=true->rj.op.pP=false)/\(∀d,ri.dst=some d->d∉BH rj/\rj.dst≠some d)/\(∀d,rj.dst=some d->d∉BH ri)/\
  (rj.op.pP=true->(ri.op.reads=true\/ri.op.fresh=true)->(i,j)∈pairs)/\(ri.op.pP=true->rj.op.reads=true->(j,i)∈pairs)
 early:∀i j ri rj,i<j->rl[i]?=some ri->rl[j]?=some rj->ri.op.pP=true->rj.op.fresh=true->(j,i)∈pairs
 lits:∀(i:Nat) (r:bK),rl[i]?=some r->r.op.reads=true->∀v,Arg.const v∈r.op.args->AK v=none
theorem nK {r:eE} (h:r.fresh=true):r.pP=false:=by cases r<;>first|rfl|cases h
theorem kZ {r:eE} {ev:Arg->AV} {id:Nat} (h:r.dK ev=some id):r.reads=true:=by cases r<;>first|rfl|cases h
theorem Mz {ev:Arg->AV} {r:eE} {H:aA} {x:AV×aA} {id:Nat} (h:dA ev H r=some x) (hr:r.dK ev=some id):H.get id≠none:=by
 intro hn;have hc:H.eS id=none:=by simp[aA.eS,hn]
 cases r<;>simp only[eE.dK] at hr<;>try (cases hr;done)
 . rename_i agg n a;simp only[dA] at h
   cases ha:ev a<;>rw[ha] at hr<;>simp only[AK] at hr<;>try (cases hr;done)
   all_goals (obtain rfl:=Aa hr;simp[ha,hc] at h)
 . rename_i x;simp only[dA] at h
   cases ha:ev x<;>rw[ha] at hr<;>simp only[AK] at hr<;>try (cases hr;done)
   all_goals (obtain rfl:=Aa hr;simp[ha,cK,hc] at h)
 . rename_i n sz x lo hi mx;simp only[dA] at h;split at h
   . unfold mM at h
     cases ha:ev x<;>rw[ha] at hr<;>simp only[AK] at hr<;>try (cases hr;done)
     all_goals (obtain rfl:=Aa hr;simp[ha,hc] at h)
   cases h
 rename_i k z ok x i;simp only[dA] at h;split at h
 . cases ha:ev x<;>rw[ha] at hr<;>simp only[AK] at hr<;>try (cases hr;done)
   all_goals (obtain rfl:=Aa hr;simp[ha,hn] at h)
 cases h
section
variable {P:Program} {g:bG} {rl:List bK} {pj:Option Nat} {pairs:List (Nat×Nat)} {s0:List AV} {H0:aA} {Hs:Nat->aA} {ss:Nat->List AV} {vs:Nat->AV}
abbrev kept (H0:aA) (rl:List bK) (i:Nat):Nat:=H0.next+gX rl i
theorem zX {α:Type} (p:α->Bool):∀(l:List α) (i:Nat) (x:α),l[i]?=some x->p x=true->(l.take i).countP p<l.countP p
 |[],i,x,h,_=>by simp at h
 |y::l,0,x,h,hp=>by simp at h;subst h;simp[Gl,hp]
 |y::l,i+1,x,h,hp=>by have :=zX p l i x Zbi hp;simp only[Dp,Gl];omega
theorem vX {α:Type} (p:α->Bool):∀(l:List α) (i j:Nat) (x:α),l[i]?=some x->p x=true->i<j->(l.take i).countP p<(l.take j).countP p
 |[],i,j,x,h,_,_=>by simp at h
 |y::l,0,j+1,x,h,hp,_=>by simp at h;subst h;simp[Gl,hp]
 |y::l,i+1,j+1,x,h,hp,yL=>by have :=vX p l i j x Zbi hp (by omega);simp only[Dp,Gl];omega
theorem nV {i j:Nat} {ri rj:bK} (hi:rl[i]?=some ri) (hj:rl[j]?=some rj) (fi:ri.op.fresh=true) (fj:rj.op.fresh=true) (cQ:i≠j):kept H0 rl i≠kept H0 rl j:=by
 have key:∀{i j:Nat} {ri:bK},rl[i]?=some ri->ri.op.fresh=true->i<j->gX rl i<gX rl j:=fun h f yL=>vX (fun r:bK=>r.op.fresh) rl _ _ _ h f yL
 unfold kept
 rcases Nat.lt_or_gt_of_ne cQ with h|h
 . have :=key hi fi h;omega
 have :=key hj fj h;omega
theorem aa {i:Nat} {ri:bK} (hi:rl[i]?=some ri) (fi:ri.op.fresh=true):gX rl i<rl.countP (·.op.fresh):=
 zX (fun r:bK=>r.op.fresh) rl i ri hi fi
theorem dU.oD (D:dU P g rl pj pairs s0 H0 Hs ss vs) {i:Nat} {r:bK} (hi:rl[i]?=some r) (hf:r.op.fresh=true) (hw:bT (ss i) r=true):
 ∃ob val,xB (Arg.eval g (ss i)) r.op=some (ob,val)/\vs i=val (kept H0 rl i)/\Hs (i+1)=(Hs i).set (kept H0 rl i) ob:=by
 have :=(D.step i r hi).1;unfold DStep at this;rw[if_pos hw,if_pos hf] at this;exact this
theorem dU.FN (D:dU P g rl pj pairs s0 H0 Hs ss vs) {i:Nat} {r:bK} (hi:rl[i]?=some r) (hf:r.op.fresh=false) (he:r.op.pP=false):Hs (i+1)=Hs i:=by
 have :=(D.step i r hi).1;unfold DStep at this;split at this
 . rw[if_neg (by simp[hf])] at this;split at this
   . rename_i fK;rw[fK] at he;cases he
   . exact this.elim
   . exact this.elim
   exact(JT (H1:=Hs i) he hf this (fun id _=>rfl)).1
 exact this.2
theorem dU.vN (D:dU P g rl pj pairs s0 H0 Hs ss vs) {i:Nat} {r:bK} (hi:rl[i]?=some r) (hw:bT (ss i) r=false):Hs (i+1)=Hs i/\vs i=aD:=by have :=(D.step i r hi).1;unfold DStep at this;rw[if_neg (by simp[hw])] at this;exact⟨this.2,this.1⟩
theorem dU.AT {ops:Array Oper} {anc:Nat->Nat->Bool} (D:dU P g rl pj pairs s0 H0 Hs ss vs) (K:tC ops rl pairs anc) {i:Nat} {r:bK} (hi:rl[i]?=some r) (hf:r.op.fresh=true) (hw:bT (ss i) r=true):
 ∀k,k<=i->(Hs k).get (kept H0 rl i)=none:=by
 intro k
 induction k with
 |zero=>intro _;rw[D.h0];exact D.free _ (aa hi hf)
 |succ k ih=>
  intro hk;have ihk:=ih (by omega);have fJ:=(Bk.1 hi).1
  obtain⟨rk,Qy⟩:∃rk,rl[k]?=some rk:=⟨rl[k]'(by omega),Ad (by omega)⟩
  by_cases xz:bT (ss k) rk=true
  . by_cases WN:rk.op.pP=true
    . rw[<-D.PB i k (K.early k i rk r (by omega) Qy hi WN hf) r rk hi Qy hw xz _ (.inr ⟨hf,rfl⟩)];exact ihk
    by_cases Xa:rk.op.fresh=true
    . obtain⟨ob,val,_,_,h3⟩:=D.oD Qy Xa xz;rw[h3,aA.aC,if_neg (nV hi Qy hf Xa (by omega))];exact ihk
    rw[D.FN Qy (by simpa using Xa) (by simpa using WN)];exact ihk
  rw[(D.vN Qy (by simpa using xz)).1];exact ihk
theorem dU.rI (D:dU P g rl pj pairs s0 H0 Hs ss vs) {id:Nat} {p q:Nat} (hq:q<=rl.length)
 (aSe:∀e r,p<=e->e<q->rl[e]?=some r->r.op.pP=true->bT (ss e) r=true->(Hs e).get id=(Hs (e+1)).get id)
 (ML:∀i r,p<=i->i<q->rl[i]?=some r->r.op.fresh=true->bT (ss i) r=true->id≠kept H0 rl i):
 ∀k,p<=k->k<=q->(Hs k).get id=(Hs p).get id:=by
 intro k
 induction k with
 |zero=>intro h1 _;obtain rfl:p=0:=(by omega);rfl
 |succ k ih=>
  intro h1 h2;by_cases hp:p=k+1
  . rw[hp]
  rw[<-ih (by omega) (by omega)]
  obtain⟨rk,Qy⟩:∃rk,rl[k]?=some rk:=⟨rl[k]'(by omega),Ad (by omega)⟩
  by_cases xz:bT (ss k) rk=true
  . by_cases WN:rk.op.pP=true
    . exact(aSe k rk (by omega) (by omega) Qy WN xz).symm
    by_cases Xa:rk.op.fresh=true
    . obtain⟨ob,val,_,_,h3⟩:=D.oD Qy Xa xz;rw[h3,aA.aC,if_neg (ML k rk (by omega) (by omega) Qy Xa xz)]
    rw[D.FN Qy (by simpa using Xa) (by simpa using WN)]
  rw[(D.vN Qy (by simpa using xz)).1]
theorem dU.Rf (D:dU P g rl pj pairs s0 H0 Hs ss vs) {p q:Nat} (hq:q<=rl.length) (aSe:∀e r,p<=e->e<q->rl[e]?=some r->r.op.pP=false):
 ∀k,p<=k->k<=q->(Hs k).next=(Hs p).next:=by
 intro k
 induction k with
 |zero=>intro h1 _;obtain rfl:p=0:=(by omega);rfl
 |succ k ih=>
  intro h1 h2;by_cases hp:p=k+1
  . rw[hp]
  rw[<-ih (by omega) (by omega)]
  obtain⟨rk,Qy⟩:∃rk,rl[k]?=some rk:=⟨rl[k]'(by omega),Ad (by omega)⟩
  have WN:=aSe k rk (by omega) (by omega) Qy;by_cases xz:bT (ss k) rk=true
  . by_cases Xa:rk.op.fresh=true
    . obtain⟨ob,val,_,_,h3⟩:=D.oD Qy Xa xz;rw[h3];rfl
    rw[D.FN Qy (by simpa using Xa) WN]
  rw[(D.vN Qy (by simpa using xz)).1]
theorem dU.wO (D:dU P g rl pj pairs s0 H0 Hs ss vs) {p:Nat}:∀k,p<=k->k<=rl.length->(Hs p).next<=(Hs k).next:=by
 intro k
 induction k with
 |zero=>intro h1 _;obtain rfl:p=0:=(by omega);exact Ab _
 |succ k ih=>
  intro h1 h2;by_cases hp:p=k+1
  . rw[hp];exact Ab _
  refine Cd (ih (by omega) (by omega)) ?_
  obtain⟨rk,Qy⟩:∃rk,rl[k]?=some rk:=⟨rl[k]'(by omega),Ad (by omega)⟩
  by_cases WN:rk.op.pP=true
  . exact D.mono k rk Qy WN
  have :=D.Rf (p:=k) (q:=k+1) h2 (fun e r h3 h4 h5=>by
   obtain rfl:e=k:=by omega
   rw[Qy] at h5;cases h5
   simpa using WN) (k+1) (by omega) (Ab _)
  omega
def writes (rl:List bK) (s0:List AV) (t i:Nat):Bool:=
 match rl[i]? with
 |some r=>r.dst==some t&&decide (t<s0.length)
 |none=>false
def wJ (S:Nat->Bool) (rl:List bK) (s0:List AV) (vs:Nat->AV) (t:Nat):Nat->AV
 |0=>s0.getD t aD
 |i+1=>if(S i&&writes rl s0 t i)=true then vs i else wJ S rl s0 vs t i
theorem Qq (s:List AV) (dst:Option Nat) (v:AV) (t:Nat):(nA s dst v).getD t aD=if dst=some t/\t<s.length then v else s.getD t aD:=by
 cases dst with
 |none=>simp[nA]
 |some d=>
  simp only[nA,Ae];rw[getD_eq,getD_eq,Ha];by_cases hd:d=t
  . subst hd;by_cases hl:d<s.length
    . simp[hl]
    simp[hl]
  simp[hd]
theorem LX (s:List AV) (dst:Option Nat) (v:AV):(nA s dst v).length=s.length:=by cases dst<;>simp[nA]
theorem dU.KO (D:dU P g rl pj pairs s0 H0 Hs ss vs):∀j,j<=rl.length->(ss j).length=s0.length:=by
 intro j
 induction j with
 |zero=>intro _;rw[D.s0]
 |succ j ih=>
  intro hj
  obtain⟨r,hr⟩:∃r,rl[j]?=some r:=⟨rl[j]'(by omega),Ad (by omega)⟩
  rw[(D.step j r hr).2,LX,ih (by omega)]
theorem dU.PA (D:dU P g rl pj pairs s0 H0 Hs ss vs) (t:Nat):∀j,j<=rl.length->(ss j).getD t aD=wJ (fun _=>true) rl s0 vs t j:=by
 intro j
 induction j with
 |zero=>intro _;rw[D.s0];rfl
 |succ j ih=>
  intro hj
  obtain⟨r,hr⟩:∃r,rl[j]?=some r:=⟨rl[j]'(by omega),Ad (by omega)⟩
  rw[(D.step j r hr).2,Qq,D.KO j (by omega),ih (by omega)];simp only[wJ,writes,hr,Co,Al,Cf,Bd]
end
end
section
def dN (listed:Array Bool) (i:Nat):Bool:=listed.getD i false
structure oY (P:Program) (g:bG) (ops:Array Oper) (rl:List bK) (pairs:List (Nat×Nat)) (anc:Nat->Nat->Bool) (s0:List AV) (H0:aA) (Hs:Nat->aA) (ss:Nat->List AV) (vs:Nat->AV)
 (G0:Gh) (w0:World) (dl:List Deferred) (listed:Array Bool) (p:Nat) (G:Gh) (HS:aA) (w:World) (a:Act) (sS:List AV):Prop where
 size:listed.size=rl.length
 closed:∀i j,dN listed j=true->anc i j=true->dN listed i=true
 ple:p<=rl.length
 pos:∀i r,rl[i]?=some r->r.op.pP=true->(dN listed i=true↔i<p)
 rel:WR g G HS w
 uH:HS.next=(Hs p).next
 ja:∀i r,rl[i]?=some r->r.op.fresh=true->(∃l,G.loc (kept H0 rl i)=some l)->dN listed i=true/\bT (ss i) r=true
 cont:∀id l,G.loc id=some l->
  (∃i r,rl[i]?=some r/\r.op.fresh=true/\dN listed i=true/\bT (ss i) r=true/\p<=i/\id=kept H0 rl i/\HS.get id=(Hs (i+1)).get id)\/
  ((∀i r,p<=i->rl[i]?=some r->r.op.fresh=true->bT (ss i) r=true->id≠kept H0 rl i)/\HS.get id=(Hs p).get id)
 aEv:∀i r,p<=i->rl[i]?=some r->r.op.fresh=true->dN listed i=true->bT (ss i) r=true->∀l,G.loc (kept H0 rl i)=some l->
  ∀kU l',kU≠kept H0 rl i->G.loc kU=some l'->HS.live kU->l'.dB≠l.dB
 ext:Ext G0 H0 w0 G HS w
 uT:SR G w sS a
 last:∀t,sS.getD t aD=wJ (dN listed) rl s0 vs t rl.length
 len:sS.length=s0.length
 dfr:a.defers=dl
section
variable {P:Program} {g:bG} {ops:Array Oper} {rl:List bK} {pj:Option Nat} {pairs:List (Nat×Nat)} {anc:Nat->Nat->Bool} {s0:List AV} {H0:aA} {Hs:Nat->aA} {ss:Nat->List AV} {vs:Nat->AV}
variable {G0:Gh} {w0:World} {dl:List Deferred} {listed:Array Bool} {p:Nat} {G:Gh} {HS:aA} {w:World} {a:Act} {sS:List AV}
theorem rC {S S':Nat->Bool} {t:Nat}:∀m,(∀i,i<m->(S i&&writes rl s0 t i)=(S' i&&writes rl s0 t i))->wJ S rl s0 vs t m=wJ S' rl s0 vs t m
 |0,_=>rfl
 |m+1,h=>by simp only[wJ];rw[h m (by omega),rC m (fun i hi=>h i (by omega))]
theorem xU {S:Nat->Bool} {t k:Nat}:∀m,k<=m->(∀i,k<=i->i<m->(S i&&writes rl s0 t i)=false)->wJ S rl s0 vs t m=wJ S rl s0 vs t k
 |0,hk,_=>by obtain rfl:k=0:=(by omega);rfl
 |m+1,hk,h=>by
  by_cases he:k=m+1
  . rw[he]
  simp only[wJ];rw[h m (by omega) (by omega)];simp only[Bb,Bp];exact xU m (by omega) (fun i h1 h2=>h i h1 (by omega))
theorem BJ {t i:Nat} (h:writes rl s0 t i=true):∃r,rl[i]?=some r/\r.dst=some t/\t<s0.length:=by
 unfold writes at h;split at h
 . rename_i r hr;simp only[Al,Cf,Bd] at h;exact⟨r,hr,h.1,h.2⟩
 cases h
structure WI (ops:Array Oper) (listed:Array Bool) (j:Nat):Prop where
 lt:j<ops.size
 not:dN listed j=false
 bEm:∀o,ops[j]?=some o->∀e∈o.after,Region.binds .any e=true->dN listed e.on=true
variable (I:oY P g ops rl pairs anc s0 H0 Hs ss vs G0 w0 dl listed p G HS w a sS) (D:dU P g rl pj pairs s0 H0 Hs ss vs) (K:tC ops rl pairs anc)
include I K
theorem oY.zF {j:Nat} (hj:WI ops listed j) {i:Nat} (h:anc i j=true):dN listed i=true:=by
 obtain⟨o,ho,e,he,hb,hc⟩:=K.wit i j h;have hd:=hj.bEm o ho e he hb
 rcases hc with rfl|hc
 . exact hd
 exact I.closed _ _ hd hc
theorem oY.bEh {j:Nat} {r:bK} (hj:WI ops listed j) (hr:rl[j]?=some r) {t:Nat} (ht:t∈BH r) (D:dU P g rl pj pairs s0 H0 Hs ss vs):sS.getD t aD=(ss j).getD t aD:=by
 have fJ:=(Bk.1 hr).1;rw[I.last t,D.PA t j (by omega)];rw[xU (k:=j) rl.length (by omega) (fun i h1 h2=>?_)]
 . refine rC j (fun i hi=>?_);by_cases hw:writes rl s0 t i=true
   . obtain⟨ri,pz,hd,_⟩:=BJ hw
     have :anc i j=true:=by
      cases hc:anc i j with
      |true=>rfl
      |false=>exact absurd ht ((K.cmp i j ri r hi pz hr hc).2.1 t hd).1
     rw[I.zF K hj this]
   simp[hw]
 cases hs:dN listed i with
 |false=>rfl
 |true=>
  cases hw:writes rl s0 t i with
  |false=>rfl
  |true=>
   obtain⟨ri,pz,hd,_⟩:=BJ hw;have cQ:i≠j:=fun he=>by rw[he,hj.not] at hs;cases hs
   have :anc j i=true:=by
    cases hc:anc j i with
    |true=>rfl
    |false=>exact absurd ht ((K.cmp j i r ri (by omega) hr pz hc).2.2.1 t hd)
   have :=I.closed j i hs this;rw[hj.not] at this;cases this
theorem oY.eval_eq {j:Nat} {r:bK} (hj:WI ops listed j) (hr:rl[j]?=some r) (D:dU P g rl pj pairs s0 H0 Hs ss vs):∀y∈r.op.args,Arg.eval g sS y=Arg.eval g (ss j) y:=by
 intro y hy
 cases y with
 |tmp t=>
  have :t∈BH r:=by unfold BH;refine Ao.2 (.inl (Fp.2 ⟨_,hy,?_⟩));simp[Arg.tmps]
  exact I.bEh K hj hr this D
 |const v=>rfl
 |jG n=>rfl
theorem oY.ot {j:Nat} {r:bK} (hj:WI ops listed j) (hr:rl[j]?=some r) (D:dU P g rl pj pairs s0 H0 Hs ss vs):bT sS r=bT (ss j) r:=by
 unfold bT;split
 . rfl
 rename_i d b hg;rw[I.bEh K hj hr (t:=d) (by unfold BH;rw[hg];simp) D]
theorem QY {listed:Array Bool} {j:Nat} (hj:j<listed.size) (i:Nat):dN (listed.setIfInBounds j true) i=if i=j then true else dN listed i:=by
 unfold dN;rw[Bo,Bo,Fj];by_cases h:j=i
 . subst h;simp[hj]
 rw[if_neg h,if_neg (Ne.symm h)]
theorem oY.OT {j:Nat} {r:bK} (hj:WI ops listed j) (hr:rl[j]?=some r) (he:r.op.pP=true):p<=j/\∀e re,p<=e->e<j->rl[e]?=some re->re.op.pP=false:=by
 have Sa:p<=j:=by refine Ih fun fJ=>?_;have :=(I.pos j r hr he).2 fJ;rw[hj.not] at this;cases this
 refine⟨Sa,fun e re h1 h2 Zr=>?_⟩
 cases JH:re.op.pP with
 |false=>rfl
 |true=>
  have :anc e j=true:=by
   cases hc:anc e j with
   |true=>rfl
   |false=>have :=(K.cmp e j re r h2 Zr hr hc).1 JH;rw[he] at this;cases this
  have :=(I.pos e re Zr JH).1 (I.zF K hj this);omega
theorem oY.next {j:Nat} {r:bK} (hj:WI ops listed j) (hr:rl[j]?=some r) {p':Nat} {G':Gh} {HS':aA} {w':World} {u:Value} (hp':p'=if r.op.pP=true then j+1 else p)
 (aUa:WR g G' HS' w') (bIr:HS'.next=(Hs p').next)
 (aUx:∀i r',rl[i]?=some r'->r'.op.fresh=true->(∃l,G'.loc (kept H0 rl i)=some l)->(i=j\/dN listed i=true)/\bT (ss i) r'=true)
 (aUv:∀id l,G'.loc id=some l->
   (∃i r,rl[i]?=some r/\r.op.fresh=true/\(i=j\/dN listed i=true)/\bT (ss i) r=true/\p'<=i/\id=kept H0 rl i/\HS'.get id=(Hs (i+1)).get id)\/
   ((∀i r,p'<=i->rl[i]?=some r->r.op.fresh=true->bT (ss i) r=true->id≠kept H0 rl i)/\HS'.get id=(Hs p').get id))
 (aVa:∀i r,p'<=i->rl[i]?=some r->r.op.fresh=true->(i=j\/dN listed i=true)->bT (ss i) r=true->∀l,G'.loc (kept H0 rl i)=some l->
   ∀kU l',kU≠kept H0 rl i->G'.loc kU=some l'->HS'.live kU->l'.dB≠l.dB)
 (ext':Ext G0 H0 w0 G' HS' w') (hv:VR G' w' (vs j) u) (BX:SR G' w' sS a):
 oY P g ops rl pairs anc s0 H0 Hs ss vs G0 w0 dl (listed.setIfInBounds j true) p' G' HS' w' (a.put r.dst u) (nA sS r.dst (vs j)):=by
 have fJ:=(Bk.1 hr).1
 have Lv:∀i,dN (listed.setIfInBounds j true) i=if i=j then true else dN listed i:=QY I K (by rw[I.size];exact fJ)
 have xm:∀i,(i=j\/dN listed i=true)↔dN (listed.setIfInBounds j true) i=true:=fun i=>by rw[Lv];by_cases hi:i=j<;>simp[hi]
 refine⟨by simp[I.size],fun i k h1 h2=>?_,?_,fun i ri pz hei=>?_,aUa,bIr,fun i r' h1 h2 h3=>?_,fun id l hl=>?_,fun i r' h1 h2 h3 h4 h5=>?_,ext',BX.put r.dst hv,fun t=>?_,?_,?_⟩
 . rw[<-xm] at h1 ⊢
   rcases h1 with rfl|h1
   . exact .inr (I.zF K hj h2)
   exact .inr (I.closed i k h1 h2)
 . rw[hp'];split
   . omega
   exact I.ple
 . rw[<-xm];by_cases he:r.op.pP=true
   . rw[hp',if_pos he];obtain⟨h1,h2⟩:=I.OT K hj hr he;constructor
     . rintro(rfl|h)
       . omega
       have :=(I.pos i ri pz hei).1 h;omega
     intro h;by_cases hi:i=j
     . exact .inl hi
     refine .inr ((I.pos i ri pz hei).2 (Nat.lt_of_not_le fun hle=>?_));have :=h2 i ri hle (by omega) pz;rw[hei] at this;cases this
   rw[hp',if_neg he];rw[<-I.pos i ri pz hei];constructor
   . rintro(rfl|h)
     . rw[hr] at pz;cases pz;exact absurd hei he
     exact h
   exact .inr
 . have :=aUx i r' h1 h2 h3;exact⟨(xm i).1 this.1,this.2⟩
 . rcases aUv id l hl with ⟨i,ri,c1,c2,c3,c4⟩|h
   . exact .inl ⟨i,ri,c1,c2,(xm i).1 c3,c4⟩
   exact .inr h
 . exact aVa i r' h1 h2 h3 ((xm i).2 h4) h5
 . rw[Qq,I.len,I.last t];by_cases hw:r.dst=some t/\t<s0.length
   . rw[if_pos hw];have hwr:writes rl s0 t j=true:=(by simp[writes,hr,hw]);rw[xU (k:=j+1) rl.length (by omega) (fun i h1 h2=>?_)]
     . simp only[wJ,Lv j,if_true,hwr,Cp]
     rw[Lv,if_neg (by omega)]
     cases hs:dN listed i with
     |false=>rfl
     |true=>
      cases hwi:writes rl s0 t i with
      |false=>rfl
      |true=>
       obtain⟨ri,pz,hd,_⟩:=BJ hwi
       have :anc j i=true:=by
        cases hc:anc j i with
        |true=>rfl
        |false=>exact absurd hd ((K.cmp j i r ri (by omega) hr pz hc).2.1 t hw.1).2
       have :=I.closed j i hs this;rw[hj.not] at this;cases this
   rw[if_neg hw];refine rC rl.length (fun i hi=>?_);rw[Lv];by_cases yL:i=j
   . subst yL
     have :writes rl s0 t i=false:=by simp only[writes,hr];simpa using hw
     rw[this];simp
   rw[if_neg yL]
 . rw[LX,I.len]
 cases r.dst<;>exact I.dfr
end
end
section
theorem vJ {r:eE} (h:r.reads=true):r.pP=false:=by cases r<;>first|rfl|cases h
theorem yQ {r:eE} (h:r.reads=true):r.fresh=false:=by cases r<;>first|rfl|cases h
theorem ya {G:Gh} {w:World} {v:AV} {u:Value} {id:Nat} (h:AK v=some id) (hv:VR G w v u):∃l,G.loc id=some l:=by
 cases hv<;>simp only[AK] at h<;>first
  |(cases h;done)
  |(obtain rfl:=Aa h;exact⟨_,by assumption⟩)
theorem Vg {ev:Arg->AV} {r:eE} {id:Nat} (h:r.dK ev=some id):∃y∈r.args,AK (ev y)=some id:=by
 cases r<;>simp only[eE.dK] at h<;>first
  |(cases h;done)
  |exact⟨_,by simp[eE.args],h⟩
theorem Pv {ev ev':Arg->AV} {r:eE} (h:∀y∈r.args,ev y=ev' y):r.dK ev=r.dK ev':=by
 cases r<;>simp only[eE.dK]<;>first
  |rfl
  |rw[h _ Zaa]
theorem Uj {ev:Arg->AV} {r:eE} {ob:fB} {val:Nat->AV} (h:xB ev r=some (ob,val)):ob.live=true:=by
 cases r<;>simp only[xB] at h<;>first
  |(cases h;done)
  |(obtain⟨rfl,rfl⟩:=Prod.mk.inj (Aa h);rfl)
  |(repeat' (split at h)
    all_goals first
     |(cases h;done)
     |(obtain⟨rfl,rfl⟩:=Prod.mk.inj (Aa h);rfl))
section
variable {P:Program} {g:bG} {ops:Array Oper} {rl:List bK} {pj:Option Nat} {pairs:List (Nat×Nat)} {anc:Nat->Nat->Bool} {s0:List AV} {H0:aA} {Hs:Nat->aA} {ss:Nat->List AV} {vs:Nat->AV}
variable {G0:Gh} {w0:World} {dl:List Deferred} {listed:Array Bool} {p:Nat} {G:Gh} {HS:aA} {w:World} {a:Act} {sS:List AV}
variable (I:oY P g ops rl pairs anc s0 H0 Hs ss vs G0 w0 dl listed p G HS w a sS) (D:dU P g rl pj pairs s0 H0 Hs ss vs) (K:tC ops rl pairs anc)
include I K D
theorem oY.bh {j e:Nat} (hj:WI ops listed j) (he:dN listed e=true):anc j e=false:=by
 cases hc:anc j e with
 |false=>rfl
 |true=>have :=I.closed j e he hc;rw[hj.not] at this;cases this
theorem oY.VO {j e:Nat} (hj:WI ops listed j) (he:dN listed e=false):anc e j=false:=by
 cases hc:anc e j with
 |false=>rfl
 |true=>have :=I.zF K hj hc;rw[he] at this;cases this
theorem oY.aCh {e:Nat} {re:bK} (Zr:rl[e]?=some re) (JH:re.op.pP=true) (h:p<=e):dN listed e=false:=by
 cases hs:dN listed e with
 |false=>rfl
 |true=>have :=(I.pos e re Zr JH).1 hs;omega
theorem oY.l8 {j:Nat} {r:bK} (hj:WI ops listed j) (hr:rl[j]?=some r) (hw:bT (ss j) r=true) {id:Nat} (dC:r.op.dK (Arg.eval g (ss j))=some id) {l:Loc} (hl:G.loc id=some l)
 (xx:(Hs j).get id≠none):HS.get id=(Hs j).get id:=by
 have hrd:=kZ dC;have fJ:=(Bk.1 hr).1
 rcases I.cont id l hl with ⟨i,ri,h1,h2,h3,h4,h5,rfl,h7⟩|⟨h1,h2⟩
 . have cQ:i≠j:=fun he=>by rw[he,hj.not] at h3;cases h3
   by_cases yL:i<j
   . rw[h7];refine(D.rI (p:=i+1) (q:=j) (by omega) (fun e re q1 q2 q3 q4 q5=>?_) (fun k rk q1 q2 q3 q4 q5=>nV h1 q3 h2 q4 (by omega)) j (by omega) (Ab _)).symm;have Pm:=I.aCh D K q3 q4 (by omega);exact D.PB j e ((K.cmp e j re r q2 q3 hr (I.VO D K hj Pm)).2.2.2.2 q4 hrd) r re hr q3 hw q5 _ (.inl dC)
   exact absurd (D.AT K h1 h2 h4 j (by omega)) xx
 rw[h2];by_cases Sa:p<=j
 . refine(D.rI (p:=p) (q:=j) (by omega) (fun e re q1 q2 q3 q4 q5=>?_) (fun k rk q1 q2 q3 q4 q5=>h1 k rk q1 q3 q4 q5) j Sa (Ab _)).symm;have Pm:=I.aCh D K q3 q4 q1;exact D.PB j e ((K.cmp e j re r q2 q3 hr (I.VO D K hj Pm)).2.2.2.2 q4 hrd) r re hr q3 hw q5 _ (.inl dC)
 refine D.rI (p:=j) (q:=p) I.ple (fun e re q1 q2 q3 q4 q5=>?_) (fun k rk q1 q2 q3 q4 q5 he=>?_) p (by omega) (Ab _)
 . have cQ:e≠j:=fun he=>by
    subst he;rw[hr] at q3;cases q3;rw[vJ hrd] at q4;cases q4
   have hd:=(I.pos e re q3 q4).2 q2;exact D.PB j e ((K.cmp j e r re (by omega) hr q3 (I.bh D K hj hd)).2.2.2.1 q4 (.inl hrd)) r re hr q3 hw q5 _ (.inl dC)
 rw[he] at xx;exact xx (D.AT K q3 q4 q5 j q1)
theorem oY.xT {i:Nat} {ri:bK} (hi:rl[i]?=some ri) (hf:ri.op.fresh=true) {k:Nat} (hk:k<=rl.length):kept H0 rl i<(Hs k).next:=by have h1:=D.wO (p:=0) k (Az _) hk;have h2:=aa (rl:=rl) hi hf;rw[D.h0] at h1;unfold kept;simp only at h1;omega
theorem oY.Wr {j:Nat} {r:bK} (hj:WI ops listed j) (hr:rl[j]?=some r) (he:r.op.pP=true):∀id l,G.loc id=some l->
 (∃i ri,rl[i]?=some ri/\ri.op.fresh=true/\dN listed i=true/\bT (ss i) ri=true/\j<i/\id=kept H0 rl i/\HS.get id=(Hs (i+1)).get id/\(Hs j).get id=none)\/
 ((∀i ri,j<=i->rl[i]?=some ri->ri.op.fresh=true->bT (ss i) ri=true->id≠kept H0 rl i)/\HS.get id=(Hs j).get id):=by
 intro id l hl;have fJ:=(Bk.1 hr).1;obtain⟨Sa,fS⟩:=I.OT K hj hr he
 have noE:∀{q:Nat},p<=q->∀e re,q<=e->e<j->rl[e]?=some re->re.op.pP=true->bT (ss e) re=true->(Hs e).get id=(Hs (e+1)).get id:=fun hq e re q1 q2 q3 q4 q5=>by have :=fS e re (by omega) q2 q3;rw[q4] at this;cases this
 rcases I.cont id l hl with ⟨i,ri,h1,h2,h3,h4,h5,h6,h7⟩|⟨h1,h2⟩
 . have cQ:i≠j:=fun hh=>by rw[hh,hj.not] at h3;cases h3
   by_cases yL:i<j
   . refine .inr ⟨fun k rk q1 q2 q3 q4=>?_,?_⟩
     . rw[h6];exact nV h1 q2 h2 q3 (by omega)
     rw[h7];exact(D.rI (p:=i+1) (q:=j) (by omega) (noE (by omega)) (fun k rk q1 q2 q3 q4 q5=>by rw[h6];exact nV h1 q3 h2 q4 (by omega)) j (by omega) (Ab _)).symm
   exact .inl ⟨i,ri,h1,h2,h3,h4,by omega,h6,h7,by rw[h6];exact D.AT K h1 h2 h4 j (by omega)⟩
 refine .inr ⟨fun k rk q1 q2 q3 q4=>h1 k rk (by omega) q2 q3 q4,?_⟩;rw[h2];exact(D.rI (p:=p) (q:=j) (by omega) (noE (Ab _)) (fun k rk q1 q2 q3 q4 q5=>h1 k rk q1 q3 q4 q5) j Sa (Ab _)).symm
theorem oY.TO {j:Nat} {r:bK} (hj:WI ops listed j) (hr:rl[j]?=some r) (he:r.op.pP=true):WR g G (Hs j) w:=by
 have hA:=I.Wr D K hj hr he;have fJ:=(Bk.1 hr).1;obtain⟨Sa,fS⟩:=I.OT K hj hr he
 have cY:∀{id l o},G.loc id=some l->(Hs j).get id=some o->HS.get id=some o:=fun hl ho=>by
  rcases hA _ _ hl with ⟨_,_,_,_,_,_,_,_,_,hn⟩|⟨_,h⟩
  . rw[hn] at ho;cases ho
  rw[h];exact ho
 have pR:∀{id l},G.loc id=some l->(Hs j).live id->HS.live id:=fun hl ⟨o,ho,hv⟩=>⟨o,cY hl ho,hv⟩
 exact {
  cells:=fun id l cs eN h1 h2=>I.rel.cells id l cs eN h1 (cY h1 h2)
  room:=fun id l h1 h2=>I.rel.room id l h1 (h2.imp (fun⟨cs,eN,h⟩=>⟨cs,eN,cY h1 h⟩) (fun h=>cY h1 h))
  kT:=fun id kU l l' cQ h1 h2 h3 h4=>I.rel.kT id kU l l' cQ h1 h2 (pR h1 h3) (pR h2 h4)
  kE:=fun id l h1 h2=>I.rel.kE id l h1 (pR h1 h2)
  iV:=fun id l o h1 h2=>I.rel.iV id l o h1 (cY h1 h2)
  lt:=fun id l h1=>by
   have :=I.rel.lt id l h1;rw[I.uH] at this
   rwa [D.Rf (p:=p) (q:=j) (by omega) fS j Sa (Ab _)]
  jA:=I.rel.jA
  jG:=I.rel.jG
  BV:=I.rel.BV
  mo:=I.rel.mo}
theorem oY.ju (j:Nat) (H:aA):∀m,m<=rl.length->∃Hm:aA,Hm.next=H.next/\
 (∀i ri,i<m->rl[i]?=some ri->ri.op.fresh=true->dN listed i=true->bT (ss i) ri=true->j<i->Hm.get (kept H0 rl i)=(Hs (i+1)).get (kept H0 rl i))/\
 (∀id,(∀i ri,i<m->rl[i]?=some ri->ri.op.fresh=true->dN listed i=true->bT (ss i) ri=true->j<i->id≠kept H0 rl i)->Hm.get id=H.get id):=by
 intro m
 induction m with
 |zero=>exact fun _=>⟨H,rfl,fun i ri h=>absurd h (Ap i),fun id _=>rfl⟩
 |succ m ih=>
  intro hm;obtain⟨Hm,h1,h2,h3⟩:=ih (by omega)
  obtain⟨rm,hrm⟩:∃r,rl[m]?=some r:=⟨rl[m]'(by omega),Ad (by omega)⟩
  by_cases hc:rm.op.fresh=true/\dN listed m=true/\bT (ss m) rm=true/\j<m
  . obtain⟨c1,c2,c3,c4⟩:=hc;obtain⟨ob,val,_,_,e3⟩:=D.oD hrm c1 c3;have SZ:(Hs (m+1)).get (kept H0 rl m)=some ob:=by rw[e3,aA.aC,if_pos rfl]
    refine⟨Hm.set (kept H0 rl m) ob,h1,fun i ri q1 q2 q3 q4 q5 q6=>?_,fun id dC=>?_⟩
    . rw[aA.aC];by_cases him:i=m
      . subst him;rw[if_pos rfl,SZ]
      rw[if_neg (nV q2 hrm q3 c1 him)];exact h2 i ri (by omega) q2 q3 q4 q5 q6
    rw[aA.aC,if_neg (dC m rm (by omega) hrm c1 c2 c3 c4)];exact h3 id (fun i ri q1=>dC i ri (by omega))
  refine⟨Hm,h1,fun i ri q1 q2 q3 q4 q5 q6=>?_,fun id dC=>h3 id (fun i ri q1=>dC i ri (by omega))⟩;by_cases him:i=m
  . subst him;rw[hrm] at q2;cases q2;exact absurd ⟨q3,q4,q5,q6⟩ hc
  exact h2 i ri (by omega) q2 q3 q4 q5 q6
theorem oY.JS (FD:∀id l,G0.loc id=some l->id<H0.next) {j:Nat} {r:bK} (hj:WI ops listed j) (hr:rl[j]?=some r) (he:r.op.pP=true) {G1:Gh} {w1:World} {u:Value}
 (Pw:WR g G1 (Hs (j+1)) w1) (e1:Ext G (Hs j) w G1 (Hs (j+1)) w1) (hv:VR G1 w1 (vs j) u):
 ∃ey,oY P g ops rl pairs anc s0 H0 Hs ss vs G0 w0 dl (listed.setIfInBounds j true) (j+1) G1 ey w1 (a.put r.dst u) (nA sS r.dst (vs j)):=by
 have hA:=I.Wr D K hj hr he;have fJ:=(Bk.1 hr).1;obtain⟨Sa,fS⟩:=I.OT K hj hr he;obtain⟨ey,n1,n2,n3⟩:=I.ju D K j (Hs (j+1)) rl.length (Ab _)
 let uX:Nat->Prop:=fun id=>∃i ri,rl[i]?=some ri/\ri.op.fresh=true/\dN listed i=true/\bT (ss i) ri=true/\j<i/\id=kept H0 rl i
 have xf:∀id,uX id->∃i ri,rl[i]?=some ri/\ri.op.fresh=true/\dN listed i=true/\bT (ss i) ri=true/\j<i/\id=kept H0 rl i/\ey.get id=(Hs (i+1)).get id:=fun id ⟨i,ri,q1,q2,q3,q4,q5,q6⟩=>⟨i,ri,q1,q2,q3,q4,q5,q6,by rw[q6];exact n2 i ri (Bk.1 q1).1 q1 q2 q3 q4 q5⟩
 have Ns:∀id,¬uX id->ey.get id=(Hs (j+1)).get id:=fun id hn=>n3 id (fun i ri q0 q1 q2 q3 q4 q5 he=>hn ⟨i,ri,q1,q2,q3,q4,q5,he⟩)
 have AO:∀{id l},uX id->G1.loc id=some l->G.loc id=some l:=fun {id l} ⟨i,ri,q1,q2,q3,q4,q5,q6⟩ yV=>by
  cases hl:G.loc id with
  |none=>have :=e1.news id l yV hl;have h2:=I.xT D K q1 q2 (k:=j) (by omega);rw[q6] at this;omega
  |some l'=>rw[e1.loc id l' hl] at yV;exact yV
 have HX:∀{id l},uX id->G.loc id=some l->ey.get id=HS.get id/\(Hs j).get id=none:=fun {id l} hL hl=>by
  obtain⟨i,ri,q1,q2,q3,q4,q5,q6,q7⟩:=xf id hL
  rcases hA id l hl with ⟨i',ri',p1,p2,p3,p4,p5,p6,p7,p8⟩|⟨h1,_⟩
  . have :i=i':=by
     refine Ew fun cQ=>?_;exact nV q1 p1 q2 p2 cQ (q6.symm.trans p6)
    subst this;exact⟨q7.trans p7.symm,p8⟩
  exact absurd q6 (h1 i ri (by omega) q1 q2 q4)
 have IC:∀{eX l0},G.loc eX=some l0->(Hs j).live eX->HS.live eX/\¬uX eX:=fun {eX l0} Qw ⟨o,ho,hv⟩=>by
  rcases hA eX l0 Qw with ⟨_,_,_,_,_,_,_,_,_,hn⟩|⟨h1,h2⟩
  . rw[hn] at ho;cases ho
  refine⟨⟨o,by rw[h2];exact ho,hv⟩,fun hL=>?_⟩;have :=(HX hL Qw).2;rw[this] at ho;cases ho
 have VG:∀{id l},uX id->G.loc id=some l->∀kU l',kU≠id->G.loc kU=some l'->HS.live kU->l'.dB≠l.dB:=fun {id l} ⟨i,ri,q1,q2,q3,q4,q5,q6⟩ hl kU l' cQ pA mX=>by rw[q6] at hl cQ;exact I.aEv i ri (by omega) q1 q2 q3 q4 l hl kU l' cQ pA mX
 have wK:∀{id l},uX id->G.loc id=some l->HS.live id:=fun {id l} hL hl=>by obtain⟨i,ri,q1,q2,q3,q4,q5,q6,q7⟩:=xf id hL;obtain⟨ob,val,f1,_,f3⟩:=D.oD q1 q2 q4;refine⟨ob,?_,Uj f1⟩;rw[<-(HX hL hl).1,q7,q6,f3,aA.aC,if_pos rfl]
 have NF:∀{id l},uX id->G.loc id=some l->∀eX l0,G.loc eX=some l0->(Hs j).live eX->l0.dB≠l.dB:=fun hL hl eX l0 Qw PQ=>by obtain⟨h1,h2⟩:=IC Qw PQ;exact VG hL hl eX l0 (fun he=>h2 (he▸hL)) Qw h1
 have aRk:∀{id l},uX id->G.loc id=some l->∀kU l',G1.loc kU=some l'->(Hs (j+1)).live kU->l'.dB≠l.dB:=fun hL hl kU l' pA mX=>by
  have hb:=I.rel.mQ hl (wK hL hl)
  rcases e1.lP kU l' pA mX with h|⟨eX,l0,h1,h2,h3⟩
  . omega
  rw[<-h3];exact NF hL hl eX l0 h1 h2
 have HO:∀{id l},uX id->G.loc id=some l->w1.heap[l.dB]?=w.heap[l.dB]?:=fun hL hl=>e1.frame _ (I.rel.mQ hl (wK hL hl)) (fun eX l0 h1 h2=>NF hL hl eX l0 h1 h2)
 have CC:∀{id},ey.live id->uX id\/(¬uX id/\(Hs (j+1)).live id):=fun {id} ⟨o,ho,hv⟩=>by
  by_cases hL:uX id
  . exact .inl hL
  exact .inr ⟨hL,o,by rw[<-Ns id hL];exact ho,hv⟩
 have Oc:∀{id l},uX id->G1.loc id=some l->∀kU l',kU≠id->G1.loc kU=some l'->ey.live kU->l'.dB≠l.dB:=fun {id l} hL yV kU l' cQ pA mX=>by
  have hl:=AO hL yV
  rcases CC mX with hL'|⟨_,mX⟩
  . exact VG hL hl kU l' cQ (AO hL' pA) (wK hL' (AO hL' pA))
  exact aRk hL hl kU l' pA mX
 have hm:∀{x y},VR G w x y->VR G1 w1 x y:=fun hx=>hx.mono e1.loc e1.iB
 have aUa:WR g G1 ey w1:={
  cells:=fun id l cs eN h1 h2=>by
   by_cases hL:uX id
   . have hl:=AO hL h1;obtain⟨a1,a2,a3,a4,a5⟩:=I.rel.cells id l cs eN hl (by rw[<-(HX hL hl).1];exact h2);refine⟨a1,a2,a3,a4,fun k hk=>?_⟩;obtain⟨x,hx,hvx⟩:=a5 k hk;exact⟨x,by rw[gI (HO hL hl)];exact hx,hm hvx⟩
   exact Pw.cells id l cs eN h1 (by rw[<-Ns id hL];exact h2)
  room:=fun id l h1 h2=>by
   by_cases hL:uX id
   . have hl:=AO hL h1;obtain⟨c,el,fz,a1,a2,a3⟩:=I.rel.room id l hl (by rw[<-(HX hL hl).1];exact h2);exact⟨c,el,fz,by rw[HO hL hl];exact a1,a2,fun k hk=>by rw[kY (HO hL hl)];exact a3 k hk⟩
   exact Pw.room id l h1 (by rw[<-Ns id hL];exact h2)
  kT:=fun id kU l l' cQ h1 h2 tR sY=>by
   by_cases hL:uX id
   . exact .inl (Ne.symm (Oc hL h1 kU l' (Ne.symm cQ) h2 sY))
   by_cases hL':uX kU
   . exact .inl (Oc hL' h2 id l cQ h1 tR)
   rcases CC tR with h|⟨_,tR⟩
   . exact absurd h hL
   rcases CC sY with h|⟨_,sY⟩
   . exact absurd h hL'
   exact Pw.kT id kU l l' cQ h1 h2 tR sY
  kE:=fun id l h1 tR k hk hi=>by
   rcases CC tR with hL|⟨_,tR⟩
   . have hl:=AO hL h1
     rcases e1.pK _ _ hi with h|h|⟨eX,l0,q1,q2,q3⟩
     . exact I.rel.kE id l hl (wK hL hl) k hk h
     . have :=I.rel.mQ hl (wK hL hl);omega
     exact NF hL hl eX l0 q1 q2 q3
   exact Pw.kE id l h1 tR k hk hi
  iV:=fun id l o h1 h2 hk=>by
   by_cases hL:uX id
   . have hl:=AO hL h1;obtain⟨a1,a2,a3⟩:=I.rel.iV id l o hl (by rw[<-(HX hL hl).1];exact h2) hk;exact⟨a1,a2,a3.mono (HO hL hl) fun _ _=>hm⟩
   exact Pw.iV id l o h1 (by rw[<-Ns id hL];exact h2) hk
  lt:=fun id l h1=>by rw[n1];exact Pw.lt id l h1
  jA:=Pw.jA
  jG:=Pw.jG
  BV:=Pw.BV
  mo:=Pw.mo}
 have ext':Ext G0 H0 w0 G1 ey w1:={
  loc:=fun id l h=>e1.loc _ _ (I.ext.loc _ _ h)
  iB:=fun b o hi=>⟨(e1.iB _ _ (I.ext.iB _ _ hi).1).1,((e1.iB _ _ (I.ext.iB _ _ hi).1).2).trans (I.ext.iB _ _ hi).2⟩
  size:=Cd I.ext.size e1.size
  frame:=fun b hb hn=>by
   rw[e1.frame b (Ck hb I.ext.size) (fun id l h1 h2=>?_),I.ext.frame b hb hn]
   rcases I.ext.lP id l h1 (IC h1 h2).1 with h|⟨eX,l0,q1,q2,q3⟩
   . omega
   rw[<-q3];exact hn eX l0 q1 q2
  lP:=fun id l h1 h2=>by
   have CE:∀{id l},G.loc id=some l->HS.live id->w0.heap.size<=l.dB\/∃eX l0,G0.loc eX=some l0/\H0.live eX/\l0.dB=l.dB:=fun h1 h2=>I.ext.lP _ _ h1 h2
   rcases CC h2 with hL|⟨_,h2⟩
   . have hl:=AO hL h1;exact CE hl (wK hL hl)
   rcases e1.lP id l h1 h2 with h|⟨eX,l0,q1,q2,q3⟩
   . exact .inl (Cd I.ext.size h)
   rw[<-q3];exact CE q1 (IC q1 q2).1
  pK:=fun b o hi=>by
   rcases e1.pK b o hi with h|h|⟨eX,l0,q1,q2,q3⟩
   . exact I.ext.pK b o h
   . exact .inr (.inl (Cd I.ext.size h))
   rcases I.ext.lP eX l0 q1 (IC q1 q2).1 with h|⟨id1,l1,p1,p2,p3⟩
   . exact .inr (.inl (by omega))
   exact .inr (.inr ⟨id1,l1,p1,p2,p3.trans q3⟩)
  next:=by have h1:=I.ext.next;rw[I.uH] at h1;rw[n1];exact Cd h1 (D.wO (p:=p) (j+1) (by omega) (by omega))
  news:=fun id l h1 h2=>by
   cases hl:G.loc id with
   |none=>have :=e1.news id l h1 hl;have h3:=I.ext.next;rw[I.uH] at h3;exact Cd (Cd h3 (D.wO (p:=p) j Sa (by omega))) this
   |some l'=>exact I.ext.news id l' hl h2
  dead:=fun id l h1 h2=>by
   have hl:=I.ext.loc id l h1
   have hnl:¬uX id:=fun⟨i,ri,q1,q2,q3,q4,q5,q6⟩=>by have :=FD id l h1;rw[q6] at this;unfold kept at this;omega
   rcases CC h2 with h|⟨_,h2⟩
   . exact absurd h hnl
   exact I.ext.dead id l h1 (IC hl (e1.dead id l hl h2)).1
  mo:=e1.mo.trans I.ext.mo
  same:=I.ext.same.trans (I.ext.mo▸e1.same)}
 refine⟨ey,I.next K hj hr (p':=j+1) (by rw[if_pos he]) aUa (by rw[n1]) (fun i ri h1 h2 ⟨l,h3⟩=>?_) (fun id l yV=>?_) (fun i ri h1 h2 h3 h4 h5 l yV kU l' cQ pA mX=>?_) ext' hv (I.uT.ext e1)⟩
 . have hl:∃l,G.loc (kept H0 rl i)=some l:=by
    cases hl:G.loc (kept H0 rl i) with
    |none=>have :=e1.news _ l h3 hl;have :=I.xT D K h1 h2 (k:=j) (by omega);omega
    |some l'=>exact⟨l',rfl⟩
   have :=I.ja i ri h1 h2 hl;exact⟨.inr this.1,this.2⟩
 . by_cases hL:uX id
   . obtain⟨i,ri,q1,q2,q3,q4,q5,q6,q7⟩:=xf id hL;exact .inl ⟨i,ri,q1,q2,.inr q3,q4,by omega,q6,q7⟩
   refine .inr ⟨fun i ri q1 q2 q3 q4 q5=>hL ?_,Ns id hL⟩
   have hl:∃l,G.loc (kept H0 rl i)=some l:=by
    rw[q5] at yV
    cases hl:G.loc (kept H0 rl i) with
    |none=>have :=e1.news _ l yV hl;have :=I.xT D K q2 q3 (k:=j) (by omega);omega
    |some l'=>exact⟨l',rfl⟩
   have :=I.ja i ri q2 q3 hl;exact⟨i,ri,q2,q3,this.1,this.2,by omega,q5⟩
 have hd:dN listed i=true:=by
  rcases h4 with rfl|h4
  . omega
  exact h4
 exact Oc ⟨i,ri,h2,h3,hd,h5,by omega,rfl⟩ yV kU l' cQ pA mX
end
end
section
theorem xK {P:Program} {g:bG} {mu:Bool} {ops:Array Oper}:∀(l:List Oper) (rl:List bK),lT P g mu ops l=some rl->
 rl.length=l.length/\∀(i:Nat) (o:Oper),l[i]?=some o->∃r,rl[i]?=some r/\LD P g mu ops o=some r
 |[],rl,h=>by obtain rfl:=Aa h;exact⟨rfl,fun i o h=>by simp at h⟩
 |o::l,rl,h=>by
  unfold lT at h;split at h
  . rename_i r rs hr hrs;obtain rfl:=Aa h;obtain⟨h1,h2⟩:=xK l rs hrs;refine⟨by simp[h1],fun i o' hi=>?_⟩
    cases i with
    |zero=>simp at hi;subst hi;exact⟨r,rfl,hr⟩
    |succ i=>simpa using h2 i o' (by simpa using hi)
  cases h
theorem WR.oE {g:bG} {G:Gh} {H H':aA} {w:World} (h:WR g G H w) (hg:∀id l,G.loc id=some l->H'.get id=H.get id) (hn:H.next<=H'.next):WR g G H' w:=by
 have hl:∀{id l},G.loc id=some l->H'.live id->H.live id:=fun h1 ⟨o,h2,h3⟩=>⟨o,by rw[<-hg _ _ h1];exact h2,h3⟩
 exact {
  cells:=fun id l cs eN h1 h2=>h.cells id l cs eN h1 (by rw[<-hg _ _ h1];exact h2)
  room:=fun id l h1 h2=>h.room id l h1 (by rw[<-hg _ _ h1];exact h2)
  kT:=fun id kU l l' cQ h1 h2 h3 h4=>h.kT id kU l l' cQ h1 h2 (hl h1 h3) (hl h2 h4)
  kE:=fun id l h1 h2=>h.kE id l h1 (hl h1 h2)
  iV:=fun id l o h1 h2=>h.iV id l o h1 (by rw[<-hg _ _ h1];exact h2)
  lt:=fun id l h1=>Ck (h.lt id l h1) hn
  jA:=h.jA
  jG:=h.jG
  BV:=h.BV
  mo:=h.mo}
theorem Ext.oE {G G':Gh} {H H' GK:aA} {w w':World} (h:Ext G H w G' H' w') (hg:∀id l,G'.loc id=some l->GK.get id=H'.get id) (hn:H'.next<=GK.next):Ext G H w G' GK w':=by
 have hl:∀{id l},G'.loc id=some l->GK.live id->H'.live id:=fun h1 ⟨o,h2,h3⟩=>⟨o,by rw[<-hg _ _ h1];exact h2,h3⟩
 exact {h with
  lP:=fun id l h1 h2=>h.lP id l h1 (hl h1 h2)
  next:=Cd h.next hn
  dead:=fun id l h1 h2=>h.dead id l h1 (hl (h.loc _ _ h1) h2)}
theorem WR.drawn {g:bG} {G:Gh} {H:aA} {w:World} (h:WR g G H w) (n:Nat):WR g G H {w with drawn:=n}:=by
 have hv:∀{x y},VR G w x y->VR G {w with drawn:=n} x y:=fun hx=>hx.mono (fun _ _ h=>h) (fun _ _ h=>⟨h,rfl⟩)
 exact {
  cells:=fun id l cs eN h1 h2=>let⟨a,b,c,d,e⟩:=h.cells id l cs eN h1 h2;⟨a,b,c,d,fun j hj=>let⟨u,h3,h4⟩:=e j hj;⟨u,h3,hv h4⟩⟩
  room:=fun id l h1 h2=>h.room id l h1 h2
  kT:=h.kT
  kE:=h.kE
  iV:=fun id l o h1 h2 hk=>let⟨a,b,c⟩:=h.iV id l o h1 h2 hk;⟨a,b,c.mono rfl fun _ _=>hv⟩
  lt:=h.lt
  jA:=h.jA
  jG:=fun k cs h1=>hv (h.jG k cs h1)
  BV:=h.BV
  mo:=h.mo}
theorem Ext.drawn (G:Gh) (H:aA) (w:World) (n:Nat) (hn:w.drawn<=n):Ext G H w G H {w with drawn:=n} where
 loc:=fun _ _ h=>h
 iB:=fun _ _ h=>⟨h,rfl⟩
 size:=Ab _
 frame:=fun _ _ _=>rfl
 lP:=fun id l h hl=>.inr ⟨id,l,h,hl,rfl⟩
 pK:=fun _ _ h=>.inl h
 next:=Ab _
 news:=fun _ _ h h'=>by rw[h] at h';cases h'
 dead:=fun _ _ _ h=>h
 mo:=rfl
 same:=zA.toB (.now (h4:=hn)) _
section
variable {P:Program} {g:bG} {mu:Bool} {ops:Array Oper} {rl:List bK} {pj:Option Nat} {pairs:List (Nat×Nat)} {anc:Nat->Nat->Bool} {s0:List AV} {H0:aA} {Hs:Nat->aA} {ss:Nat->List AV} {vs:Nat->AV}
variable {G0:Gh} {w0:World} {dl:List Deferred} {listed:Array Bool} {p:Nat} {G:Gh} {HS:aA} {w:World} {a:Act} {sS:List AV}
theorem oY.quiet (I:oY P g ops rl pairs anc s0 H0 Hs ss vs G0 w0 dl listed p G HS w a sS) (D:dU P g rl pj pairs s0 H0 Hs ss vs) (K:tC ops rl pairs anc)
 {j:Nat} {r:bK} (hj:WI ops listed j) (hr:rl[j]?=some r) (he:r.op.pP=false) (hf:r.op.fresh=true->bT (ss j) r=false) {G':Gh} {w':World} {u:Value}
 (hw:WR g G' HS w') (e:Ext G HS w G' HS w') (hv:VR G' w' (vs j) u):
 oY P g ops rl pairs anc s0 H0 Hs ss vs G0 w0 dl (listed.setIfInBounds j true) p G' HS w' (a.put r.dst u) (nA sS r.dst (vs j)):=by
 have Qs:∀id l,G'.loc id=some l->G.loc id=some l:=fun id l hl=>by
  cases h:G.loc id with
  |none=>have h1:=e.news id l hl h;have h2:=hw.lt id l hl;omega
  |some l'=>rw[e.loc id l' h] at hl;exact hl
 refine I.next K hj hr (p':=p) (by simp[he]) hw I.uH (fun i r' h1 h2 h3=>?_) (fun id l hl=>?_) (fun i r' h1 h2 h3 h4 h5 l hl kU l' cQ pA mX=>?_) (I.ext.trans e) hv (I.uT.ext e)
 . obtain⟨l,hl⟩:=h3;have :=I.ja i r' h1 h2 ⟨l,Qs _ _ hl⟩;exact⟨.inr this.1,this.2⟩
 . rcases I.cont id l (Qs _ _ hl) with ⟨i,ri,q1,q2,q3,q4⟩|h
   . exact .inl ⟨i,ri,q1,q2,.inr q3,q4⟩
   exact .inr h
 rcases h4 with rfl|h4
 . rw[hr] at h2;cases h2;rw[hf h3] at h5;cases h5
 exact I.aEv i r' h1 h2 h3 h4 h5 l (Qs _ _ hl) kU l' cQ (Qs _ _ pA) mX
theorem oY.fresh (I:oY P g ops rl pairs anc s0 H0 Hs ss vs G0 w0 dl listed p G HS w a sS) (D:dU P g rl pj pairs s0 H0 Hs ss vs) (K:tC ops rl pairs anc)
 {j:Nat} {r:bK} (hj:WI ops listed j) (hr:rl[j]?=some r) (hf:r.op.fresh=true) (hwt:bT (ss j) r=true) {o:Oper} (qP:DE P g o r.op):
 ∃u w' G' HS',(execOp a.eval o).run P w=.ok (.value u) w'/\
  oY P g ops rl pairs anc s0 H0 Hs ss vs G0 w0 dl (listed.setIfInBounds j true) p G' HS' w' (a.put r.dst u) (nA sS r.dst (vs j)):=by
 have he:=nK hf;have fJ:=(Bk.1 hr).1;obtain⟨ob,val,f1,f2,f3⟩:=D.oD hr hf hwt
 have f1':xB (Arg.eval g sS) r.op=some (ob,val):=by rw[sW (ev':=Arg.eval g (ss j)) (fun y hy=>I.eval_eq K hj hr D y hy)];exact f1
 have Zq:G.loc (kept H0 rl j)=none:=by
  cases h:G.loc (kept H0 rl j) with
  |none=>rfl
  |some l=>have :=(I.ja j r hr hf ⟨l,h⟩).1;rw[hj.not] at this;cases this
 have aSu:kept H0 rl j<HS.next:=by rw[I.uH];exact I.xT D K hr hf I.ple
 obtain⟨u,w',G',jH,M,hv⟩:=qP sS a G HS (HS.set (kept H0 rl j) ob) w ob val (kept H0 rl j) I.rel I.uT f1' Zq (fun m=>by rw[aA.aC]) (Ab _) aSu;obtain⟨l0,hblk,Qw,sM⟩:=M.bIq
 have hgo:∀id l,G.loc id=some l->G'.loc id=some l:=fun id l hl=>by rw[sM id (fun hh=>by rw[hh,Zq] at hl;cases hl)];exact hl
 have pJ:∀b q,G.iB b q->G'.iB b q/\w'.cell? ⟨b,q,none⟩=w.cell? ⟨b,q,none⟩:=fun b q hi=>by refine⟨M.bGy b q hi,gI (M.CE b ?_)⟩;obtain⟨v,hv⟩:=I.rel.jA b q hi;have :=vW hv;simpa using this
 have lH:∀{id},id≠kept H0 rl j->(HS.set (kept H0 rl j) ob).live id->HS.live id:=fun {id} cQ ⟨x,h1,h2⟩=>⟨x,by rw[aA.aC,if_neg cQ] at h1;exact h1,h2⟩;refine⟨u,w',G',HS.set (kept H0 rl j) ob,jH,?_⟩;refine I.next K hj hr (p':=p) (by simp[he]) M.rel I.uH (fun i r' h1 h2 h3=>?_) (fun id l hl=>?_) (fun i r' h1 h2 h3 h4 h5 l hl kU l' cQ pA mX=>?_) (M.ext I.ext (Hh _ _)) ?_ ?_
 . obtain⟨l,hl⟩:=h3;by_cases yL:i=j
   . subst yL;rw[hr] at h1;cases h1;exact⟨.inl rfl,hwt⟩
   rw[sM _ (nV h1 hr h2 hf yL)] at hl;have :=I.ja i r' h1 h2 ⟨l,hl⟩;exact⟨.inr this.1,this.2⟩
 . by_cases dC:id=kept H0 rl j
   . subst dC;by_cases Sa:p<=j
     . exact .inl ⟨j,r,hr,hf,.inl rfl,hwt,Sa,rfl,by rw[f3,aA.aC,if_pos rfl,aA.aC,if_pos rfl]⟩
     refine .inr ⟨fun i ri q1 q2 q3 q4=>nV hr q2 hf q3 (by omega),?_⟩
     have hjp:(Hs p).get (kept H0 rl j)=(Hs (j+1)).get (kept H0 rl j):=
      D.rI (p:=j+1) (q:=p) I.ple (fun e re q1 q2 q3 q4 q5=>by
       have hd:=(I.pos e re q3 q4).2 q2
       exact D.PB j e ((K.cmp j e r re (by omega) hr q3 (I.bh D K hj hd)).2.2.2.1 q4 (.inr hf)) r re hr q3 hwt q5 _ (.inr ⟨hf,rfl⟩)) (fun k rk q1 q2 q3 q4 q5=>nV hr q3 hf q4 (by omega)) p (by omega) (Ab _)
     rw[hjp,f3,aA.aC,if_pos rfl,aA.aC,if_pos rfl]
   rw[sM id dC] at hl;have DQ:(HS.set (kept H0 rl j) ob).get id=HS.get id:=(by rw[aA.aC,if_neg dC]);rw[DQ]
   rcases I.cont id l hl with ⟨i,ri,q1,q2,q3,q4⟩|h
   . exact .inl ⟨i,ri,q1,q2,.inr q3,q4⟩
   exact .inr h
 . by_cases yL:i=j
   . subst yL;rw[Qw] at hl;cases hl;rw[sM kU cQ] at pA;have :=I.rel.mQ pA (lH cQ mX);omega
   have wx:=nV (H0:=H0) h2 hr h3 hf yL
   have hd:dN listed i=true:=by
    rcases h4 with h|h
    . exact absurd h yL
    exact h
   rw[sM _ wx] at hl;by_cases dC:kU=kept H0 rl j
   . subst dC;rw[Qw] at pA;cases pA
     have pq:HS.live (kept H0 rl i):=by
      rcases I.cont _ l hl with ⟨i',ri',q1,q2,q3,q4,q5,q6,q7⟩|⟨q1,_⟩
      . have :i=i':=by
         refine Ew fun hn=>?_;exact nV h2 q1 h3 q2 hn q6
        subst this;obtain⟨ob',bJw,g1,_,g3⟩:=D.oD h2 h3 h5;refine⟨ob',?_,Uj g1⟩;rw[q7,g3,aA.aC,if_pos rfl]
      exact absurd rfl (q1 i r' h1 h2 h3 h5)
     have :=I.rel.mQ hl pq;omega
   rw[sM _ dC] at pA;exact I.aEv i r' h1 h2 h3 hd h5 l hl kU l' cQ pA (lH dC mX)
 . rw[f2];exact hv
 exact⟨I.uT.1,fun t ht=>(I.uT.2 t ht).mono hgo pJ⟩
theorem oY.done (I:oY P g ops rl pairs anc s0 H0 Hs ss vs G0 w0 dl listed p G HS w a sS) (D:dU P g rl pj pairs s0 H0 Hs ss vs) (K:tC ops rl pairs anc)
 (bU:∀i,i<rl.length->dN listed i=true) {ds:List gN} (hd:Rt G0 w0 ds dl) {Q:AQ} (hQ:Q .normal (ss rl.length) ds (Hs rl.length)):QR g G0 H0 w0 Q .normal a w:=by
 have fS:∀e re,p<=e->e<rl.length->rl[e]?=some re->re.op.pP=false:=fun e re h1 h2 h3=>by
  cases JH:re.op.pP with
  |false=>rfl
  |true=>have :=(I.pos e re h3 JH).1 (bU e h2);omega
 have cY:∀id l,G.loc id=some l->(Hs rl.length).get id=HS.get id:=fun id l hl=>by
  rcases I.cont id l hl with ⟨i,ri,q1,q2,q3,q4,q5,q6,q7⟩|⟨q1,q2⟩
  . have hi:=(Bk.1 q1).1;rw[q7]
    exact D.rI (p:=i+1) (q:=rl.length) (Ab _) (fun e re c1 c2 c3 c4 c5=>by rw[fS e re (by omega) c2 c3] at c4;cases c4)
     (fun k rk c1 c2 c3 c4 c5=>by rw[q6];exact nV q1 c3 q2 c4 (by omega)) rl.length (by omega) (Ab _)
  rw[q2]
  exact D.rI (p:=p) (q:=rl.length) (Ab _) (fun e re c1 c2 c3 c4 c5=>by rw[fS e re (by omega) c2 c3] at c4;cases c4)
   (fun k rk c1 c2 c3 c4 c5=>q1 k rk c1 c3 c4 c5) rl.length I.ple (Ab _)
 have AJ:HS.next<=(Hs rl.length).next:=by rw[I.uH];exact D.wO rl.length I.ple (Ab _)
 have hs:sS=ss rl.length:=by
  have yV:=D.KO rl.length (Ab _);refine Gd fun t=>?_;by_cases ht:t<s0.length
  . have h1:=I.last t;rw[rC (S':=fun _=>true) rl.length (fun i hi=>by rw[bU i hi]),<-D.PA t rl.length (Ab _)] at h1;have e1:t<sS.length:=by rw[I.len];exact ht
    have e2:t<(ss rl.length).length:=(by rw[yV];exact ht);rw[Ad e1,Ad e2];simpa [getD_eq,Ad e1,Ad e2] using h1
  rw[Bv (by rw[I.len];omega),Bv (by rw[yV];omega)]
 refine⟨.normal,ss rl.length,ds,Hs rl.length,G,hQ,I.rel.oE cY AJ,I.ext.oE cY AJ,?_,?_,trivial⟩
 . rw[<-hs];exact I.uT
 rw[I.dfr];exact hd.ext I.ext
theorem KX {i:Nat} (hs:listed.size=ops.size):i∈Region.ready .any ops listed↔WI ops listed i:=by
 have cY:∀k,k<ops.size->listed.getD k true=dN listed k:=fun k hk=>by unfold dN;simp[Bo,hs,hk]
 unfold Region.ready;simp only[Fh,Ay,Al,Cn];constructor
 . rintro⟨h1,h2,h3⟩;refine⟨h1,by rw[<-cY i h1];exact h2,fun o ho e he hb=>?_⟩;rw[ho] at h3;simp only[Bu,Bi] at h3
   have h4:(!Region.binds .any e||listed.getD e.on false)=true:=by rw[Array.all_eq_true_iff_forall_mem] at h3;exact h3 e he
   rw[hb] at h4;simpa [dN] using h4
 rintro⟨h1,h2,h3⟩;refine⟨h1,by rw[cY i h1];exact h2,?_⟩
 obtain⟨o,ho⟩:∃o,ops[i]?=some o:=⟨ops[i],by simp[h1]⟩
 rw[ho];simp only[Bu,Bi];rw[Array.all_eq_true_iff_forall_mem];intro e he
 cases hb:Region.binds .any e with
 |false=>rfl
 |true=>have :=h3 o ho e he hb;simpa [dN] using this
theorem OU (hs:listed.size=ops.size) (K:tC ops rl pairs anc) (h:Region.ready .any ops listed=[]):∀i,i<ops.size->dN listed i=true:=by
 intro i
 induction i using Nat.strongRecOn with
 |_ i ih=>
  intro hi
  cases hd:dN listed i with
  |true=>rfl
  |false=>
   have :i∈Region.ready .any ops listed:=(KX hs).2 ⟨hi,hd,fun o ho e he hb=>by
    have h1:=K.aUz i o ho e he hb
    exact ih e.on h1 (by omega)⟩
   rw[h] at this;cases this
def todo (listed:Array Bool) (n:Nat):Nat:=(List.range n).countP fun i=> !dN listed i
theorem GR {p q:Nat->Bool}:∀(l:List Nat) (j:Nat),j∈l->(∀i∈l,q i=true->p i=true)->p j=true->q j=false->l.countP q<l.countP p
 |[],j,h,_,_,_=>by cases h
 |x::l,j,h,Xh,hp,hq=>by
  have hle:l.countP q<=l.countP p:=List.countP_mono_left fun i hi=>Xh i (Au _ hi);rw[Gl,Gl]
  rcases Am.1 h with rfl|h
  . simp only[hp,hq,if_true];simp;omega
  have :=GR l j h (fun i hi=>Xh i (Au _ hi)) hp hq
  have h2:(if q x=true then 1 else 0)<=(if p x=true then 1 else 0):=by
   by_cases hqx:q x=true
   . simp[hqx,Xh x Ar hqx]
   simp[hqx]
  omega
theorem aCf {j n:Nat} (hj:dN listed j=false) (fJ:j<n) (hs:listed.size=n):todo (listed.setIfInBounds j true) n<todo listed n:=by
 have Lv:∀i,dN (listed.setIfInBounds j true) i=if i=j then true else dN listed i:=fun i=>by
  unfold dN;rw[Bo,Bo,Fj];by_cases h:j=i
  . subst h;simp[hs,fJ]
  rw[if_neg h,if_neg (Ne.symm h)]
 refine GR _ j (Ay.2 fJ) (fun i _ h=>?_) (by simp[hj]) (by simp[Lv]);rw[Lv] at h;by_cases yL:i=j
 . rw[yL,hj];rfl
 rw[if_neg yL] at h;exact h
theorem Ext.pre {G G':Gh} {H H1 H':aA} {w w':World} (h:Ext G H1 w G' H' w') (hl:∀id l,G.loc id=some l->H1.live id->H.live id) (hn:H.next<=H1.next):Ext G H w G' H' w':=
 {h with
  frame:=fun b hb hf=>h.frame b hb fun id l q1 q2=>hf id l q1 (hl id l q1 q2)
  lP:=fun id l q1 q2=>(h.lP id l q1 q2).imp (fun x=>x) fun⟨a,b,c,d,e⟩=>⟨a,b,c,hl _ _ c d,e⟩
  pK:=fun b o q=>(h.pK b o q).imp (fun x=>x) fun q=>q.imp (fun x=>x) fun⟨a,b,c,d,e⟩=>⟨a,b,c,hl _ _ c d,e⟩
  next:=Cd hn h.next
  news:=fun id l q1 q2=>Cd hn (h.news id l q1 q2)
  dead:=fun id l q1 q2=>hl _ _ q1 (h.dead id l q1 q2)}
def aIr (P:Program) (g:bG) (rl:List bK) (anc:Nat->Nat->Bool) (Hs:Nat->aA) (ss:Nat->List AV) (E:AV->List AV->aA->Prop) (j:Nat):Prop:=
 (∀k,k<rl.length->(k<j->anc k j=true)/\(j<k->anc j k=true))/\
 ∃r f azs p x H1,rl[j]?=some r/\r.op=.call f azs/\bT (ss j) r=true/\mH (f.eval g (ss j))=some p/\
  Sound P g p.1 (p.2.1++azs.map (Arg.eval g (ss j))++p.2.2) (Hs j) (.JL x) H1/\E x (ss j) H1
theorem oY.aBv (I:oY P g ops rl pairs anc s0 H0 Hs ss vs G0 w0 dl listed p G HS w a sS) (D:dU P g rl pj pairs s0 H0 Hs ss vs) (K:tC ops rl pairs anc)
 {j:Nat} (hj:WI ops listed j) (fJ:j<rl.length) (hc:∀k,k<rl.length->(k<j->anc k j=true)/\(j<k->anc j k=true)):sS=ss j:=by
 have h1:∀k,k<j->dN listed k=true:=fun k hk=>I.zF K hj ((hc k (by omega)).1 hk)
 have h2:∀k,j<=k->k<rl.length->dN listed k=false:=fun k hk tQ=>by
  by_cases he:k=j
  . rw[he];exact hj.not
  cases hd:dN listed k with
  |false=>rfl
  |true=>have :=I.closed j k hd ((hc k tQ).2 (by omega));rw[hj.not] at this;cases this
 have yV:=D.KO j (by omega);refine Gd fun t=>?_;by_cases ht:t<s0.length
 . have h3:=I.last t;rw[xU (k:=j) rl.length (by omega) (fun i q1 q2=>by rw[h2 i q1 q2];rfl),rC (S':=fun _=>true) j (fun i hi=>by rw[h1 i hi]),<-D.PA t j (by omega)] at h3;have e1:t<sS.length:=by rw[I.len];exact ht
   have e2:t<(ss j).length:=(by rw[yV];exact ht);rw[Ad e1,Ad e2];simpa [getD_eq,Ad e1,Ad e2] using h3
 rw[Bv (by rw[I.len];omega),Bv (by rw[yV];omega)]
theorem XH {ro:Option Nat} (hc:lT P g mu ops ops.toList=some rl) (D:dU P g rl pj pairs s0 H0 Hs ss vs) (K:tC ops rl pairs anc) (FD:∀id l,G0.loc id=some l->id<H0.next)
 {ds:List gN} (hd:Rt G0 w0 ds dl) {Q:AQ} (hQ:pj=none->Q .normal (ss rl.length) ds (Hs rl.length)) (hP:∀j,pj=some j->aIr P g rl anc Hs ss (fun x s H=>Q (.panic x) s ds H) j):
 ∀(fuel:Nat) (listed:Array Bool) (p:Nat) (G:Gh) (HS:aA) (w:World) (a:Act) (sS:List AV),todo listed rl.length<=fuel->
  oY P g ops rl pairs anc s0 H0 Hs ss vs G0 w0 dl listed p G HS w a sS->(∀k,pj=some k->dN listed k=false)->wpAnyIn (Fw ro) 0 P .any ops (QR g G0 H0 w0 Q) fuel listed a w:=by
 obtain⟨hlen,cY⟩:=xK _ _ hc;have lE:rl.length=ops.size:=by simpa using hlen
 have hnn:∀{listed:Array Bool},(∀i,i<rl.length->dN listed i=true)->(∀k,pj=some k->dN listed k=false)->pj=none:=fun {listed} h1 h2=>by
  cases Sa:pj with
  |none=>rfl
  |some k=>obtain⟨_,r,_,_,_,_,_,e1,_⟩:=hP k Sa;have :=h1 k (Bk.1 e1).1;rw[h2 k Sa] at this;cases this
 intro fuel
 induction fuel with
 |zero=>
  intro listed p G HS w a sS ht I hnp
  have bU:∀i,i<rl.length->dN listed i=true:=fun i hi=>by have h0:todo listed rl.length=0:=(by omega);unfold todo at h0;rw[List.countP_eq_zero] at h0;have :=h0 i (Ay.2 hi);simpa using this
  refine⟨?_,I.done D K bU hd (hQ (hnn bU hnp))⟩;refine Ey.2 fun i hi=>?_;have :=(KX (by rw[I.size,lE])).1 hi;have h2:=bU i (by rw[lE];exact this.lt);rw[this.not] at h2;cases h2
 |succ fuel ih=>
  intro listed p G HS w a sS ht I hnp;have Uw:listed.size=ops.size:=by rw[I.size,lE]
  refine⟨fun hn=>I.done D K (fun i hi=>OU Uw K hn i (by omega)) hd (hQ (hnn (fun i hi=>OU Uw K hn i (by omega)) hnp)),fun j hjr=>?_⟩;have hj:=(KX Uw).1 hjr
  obtain⟨o,ho⟩:∃o,ops[j]?=some o:=⟨ops[j]'hj.lt,by simp[hj.lt]⟩
  obtain⟨r,hr,hco⟩:=cY j o (by simpa using ho);obtain⟨CU,tO,_⟩:=EL hco;have MP:j<rl.length:=by rw[lE];exact hj.lt
  have RA:todo (listed.setIfInBounds j true) rl.length<=fuel:=by have :=aCf (n:=rl.length) hj.not MP I.size;omega
  have aFh:pj≠some j->∀k,pj=some k->dN (listed.setIfInBounds j true) k=false:=fun cQ k hk=>by rw[QY I K (by rw[I.size];exact MP),if_neg (fun he=>cQ (by rw[hk,he]))];exact hnp k hk
  have DM:pj=some j->(∃f azs,r.op=.call f azs)/\bT (ss j) r=true:=fun h=>by obtain⟨_,r',f,azs,_,_,_,e1,e2,e3,_⟩:=hP j h;rw[hr] at e1;cases e1;exact⟨⟨f,azs,e2⟩,e3⟩
  have Zu:=PJ hco I.uT;rw[I.ot K hj hr D] at Zu;have gR:=(D.step j r hr).1;unfold wpOpIn;simp only[ho];rw[Zu];unfold DStep at gR;by_cases Pt:bT (ss j) r=true
  . rw[if_pos Pt] at gR ⊢;by_cases hf:r.op.fresh=true
    . obtain⟨u,w',G',HS',jH,I'⟩:=I.fresh D K hj hr hf Pt (aEl tO hf);refine⟨fun _ _=>trivial,?_⟩;rw[show o.semAt (Fw ro).round a.eval=execOp a.eval o from Oper.semAt_eq _ _ _ (xJ tO fun f azs e=>by rw[e] at hf;cases hf),jH];rw[CU] at I'
      exact ih _ _ _ _ _ _ _ RA I' (aFh fun h=>by
       obtain⟨⟨f,azs,e⟩,_⟩:=DM h;rw[e] at hf
       cases hf)
    rw[if_neg hf] at gR;have hf':r.op.fresh=false:=(by simpa using hf);split at gR
    . rename_i f azs fK;have he:r.op.pP=true:=(by rw[fK];rfl);have hev:=I.eval_eq K hj hr D;rw[fK] at tO hev;obtain⟨c,f0,e1,e2,e3,e4⟩:=UO tO;have Zh:f.eval g sS=f.eval g (ss j):=hev f Zaa;have hae:azs.map (Arg.eval g sS)=azs.map (Arg.eval g (ss j)):=Fl fun y hy=>hev y (by simp[eE.args,hy]);by_cases hpn:pj=some j
      . obtain⟨hcc,r',f',as',q,x,H1,b1,b2,b3,b4,hS,hq⟩:=hP j hpn;rw[hr] at b1;cases b1;rw[fK] at b2;cases b2;refine Tb e1 e2 e3 e4 (I.TO D K hj hr he) I.uT (by rw[Zh,hae];exact .inl ⟨q,b4,hS⟩) (fun v hv=>by cases hv) (fun v hv u w' G' lM JH Lw=>?_);cases hv;have hs:=I.aBv D K hj MP hcc
        have ex:=I.ext.trans (JH.pre (fun id l h1 h2=>by
         rcases I.Wr D K hj hr he id l h1 with ⟨_,_,_,_,_,_,_,_,_,hn⟩|⟨_,h⟩
         . obtain⟨o,ho,_⟩:=h2;rw[hn] at ho;cases ho
         obtain⟨o,ho,hv⟩:=h2;exact⟨o,h.trans ho,hv⟩) (by rw[I.uH];exact D.wO j (I.OT K hj hr he).1 (by omega)))
        exact⟨.panic x,ss j,ds,H1,G',hq,lM,ex,hs▸I.uT.ext JH,by rw[I.dfr];exact hd.ext ex,u,rfl,Lw⟩
      rw[if_neg (by simpa using hpn)] at gR;obtain⟨q,hq,hS⟩:=gR;refine Tb e1 e2 e3 e4 (I.TO D K hj hr he) I.uT (by rw[Zh,hae];exact .inl ⟨q,hq,hS⟩) (fun v hv u w' G' lM JH Lw=>?_) (fun v hv=>by cases hv);cases hv;obtain⟨ey,I'⟩:=I.JS D K FD hj hr he lM JH Lw;rw[CU] at I';exact ih _ _ _ _ _ _ _ RA I' (aFh hpn)
    . exact gR.elim
    . exact gR.elim
    rename_i n1 n2 n3;have cQ:=aFh fun h=>by obtain⟨⟨f,azs,e⟩,_⟩:=DM h;exact n1 f azs e
    have nS:r.op.plain=true:=by cases Nu:r.op<;>first|rfl|exact absurd Nu (n1 _ _)|exact absurd Nu (n2 _)|exact absurd Nu (n3 _ _)|(rw[Nu] at gR;cases gR)
    have aWj:dA (Arg.eval g sS) (Hs j) r.op=some (vs j,Hs (j+1)):=by rw[fo (Hs j) (ev':=Arg.eval g (ss j)) (fun y hy=>I.eval_eq K hj hr D y hy)];exact gR
    by_cases he:r.op.pP=true
    . refine PK (XA tO nS) (xJ tO n3) (I.TO D K hj hr he) I.uT aWj (fun u w' G' lM JH Lw=>?_);obtain⟨ey,I'⟩:=I.JS D K FD hj hr he lM JH Lw;rw[CU] at I';exact ih _ _ _ _ _ _ _ RA I' cQ
    have xN:r.op.pP=false:=by simpa using he
    have hq:=JT (H1:=HS) xN hf' aWj (fun id dC=>by
     have EZ:r.op.dK (Arg.eval g (ss j))=some id:=by rw[<-Pv (ev:=Arg.eval g sS) (fun y hy=>I.eval_eq K hj hr D y hy)];exact dC
     obtain⟨y,hy,hyi⟩:=Vg dC
     have sM:∃l,G.loc id=some l:=by
      cases y with
      |tmp t=>exact ya hyi (I.uT.getD t)
      |const v=>have :=K.lits j r hr (kZ dC) v hy;rw[Arg.eval,this] at hyi;cases hyi
      |jG n=>simp only[Arg.eval] at hyi;split at hyi<;>cases hyi
     obtain⟨l,hl⟩:=sM
     exact I.l8 D K hj hr Pt EZ hl (Mz gR EZ))
    refine PK (XA tO nS) (xJ tO n3) I.rel I.uT hq.2 (fun u w' G' lM JH Lw=>?_);have I':=I.quiet D K hj hr xN (fun h=>by rw[hf'] at h;cases h) lM JH Lw;rw[CU] at I';exact ih _ _ _ _ _ _ _ RA I' cQ
  rw[if_neg Pt] at gR ⊢;refine⟨fun _ _=>trivial,?_⟩;obtain⟨hv,hH⟩:=gR;have cQ:=aFh fun h=>absurd (DM h).2 Pt;have bGu:bT (ss j) r=false:=by simpa using Pt
  by_cases he:r.op.pP=true
  . have aSs:=I.TO D K hj hr he;obtain⟨ey,I'⟩:=I.JS D K FD hj hr he (G1:=G) (w1:=w) (u:=undef) (by rw[hH];exact aSs) (by rw[hH];exact Ext.refl G (Hs j) w) (by rw[hv];exact VR.oK G w);rw[CU] at I';exact ih _ _ _ _ _ _ _ RA I' cQ
  have I':=I.quiet D K hj hr (by simpa using he) (fun _=>bGu) (u:=undef) I.rel (Ext.refl G HS w) (by rw[hv];exact VR.oK G w);rw[CU] at I';exact ih _ _ _ _ _ _ _ RA I' cQ
theorem NW {ro:Option Nat} {id:Nat} (hm:P.follows .mixedOrders=true) (hc:lT P g mu ops ops.toList=some rl) (D:dU P g rl pj pairs s0 H0 Hs ss vs) (K:tC ops rl pairs anc)
 (hw:WR g G0 H0 w0) (hs:SR G0 w0 s0 a) {ds:List gN} (hd:Rt G0 w0 ds a.defers) {Q:AQ} (hQ:pj=none->Q .normal (ss rl.length) ds (Hs rl.length)) (hP:∀j,pj=some j->aIr P g rl anc Hs ss (fun x s H=>Q (.panic x) s ds H) j):
 (Code.region id ops true).wpIn (Fw ro) 0 P (QR g G0 H0 w0 Q) a w0:=by
 refine wpIn_region_any hm ?_;obtain⟨hlen,cY⟩:=xK _ _ hc;have lE:rl.length=ops.size:=by simpa using hlen
 have hH:∀id,(Hs 0).get id=H0.get id:=fun id=>by rw[D.h0];rfl
 have hN:H0.next<=(Hs 0).next:=by rw[D.h0];exact Hh _ _
 have wD:∀i,dN (Array.replicate ops.size false) i=false:=fun i=>by unfold dN;rw[Bo,Array.getElem?_replicate];split<;>rfl
 have aJi:∀i r,rl[i]?=some r->∀l,G0.loc (kept H0 rl i)=some l->False:=fun i r hr l hl=>by have :=hw.lt _ _ hl;unfold kept at this;omega
 have rM:Rt G0 w0 ds a.defers:=hd;refine XH (pairs:=pairs) (anc:=anc) (G0:=G0) (w0:=w0) (dl:=a.defers) hc D K hw.lt hd hQ hP ops.size (Array.replicate ops.size false) 0 G0 (Hs 0) {w0 with drawn:=w0.drawn+1} a s0 ?_ ?_ fun k _=>wD k
 . unfold todo;refine Cd List.countP_le_length ?_;simp[lE]
 exact {
  size:=by simp[lE]
  closed:=fun i j h=>by rw[wD] at h;cases h
  ple:=Az _
  pos:=fun i r h1 h2=>by rw[wD];simp
  rel:=(hw.drawn _).oE (fun id l _=>hH id) hN
  uH:=rfl
  ja:=fun i r h1 h2 ⟨l,h3⟩=>(aJi i r h1 l h3).elim
  cont:=fun id l hl=>.inr ⟨fun i r h1 h2 h3 h4 he=>by rw[he] at hl;exact aJi i r h2 l hl,rfl⟩
  aEv:=fun i r h1 h2 h3 h4=>by rw[wD] at h4;cases h4
  ext:=(Ext.drawn G0 H0 w0 _ (Hh _ _)).oE (fun id l _=>hH id) hN
  uT:=hs.ext (Ext.drawn G0 H0 w0 _ (Hh _ _))
  last:=fun t=>by
   have :∀m,wJ (dN (Array.replicate ops.size false)) rl s0 vs t m=s0.getD t aD:=fun m=>by
    induction m with
    |zero=>rfl
    |succ m ih=>simp only[wJ,wD,Je,Bb,Bp,ih]
   rw[this]
  len:=rfl
  dfr:=rfl}
end
end
end Go.Av
