/-
  Part of the proof of statement 7
-/
import Derived.Test.YtogfcjbgeebfkaaGreatDoorA02
import Derived.Maps.RangeRun
import Derived.RangeFuncLeaves
import Derived.RangeFuncSeq
import Derived.OrdersIn
import Derived.Orders
set_option linter.unusedVariables false
set_option linter.unusedSimpArgs false
set_option linter.unusedSectionVars false
namespace Go.Av
open Go
def jW:Operand->Bool
 |.const _=>true
 |_=>false
def qE(P:Program)(g:bF)(op:BinOp)(t:TypeId)(x y:Operand):Option dY:=
 match bJ g x,bJ g y with
 |some x',some y'=>
  if op=.eql\/op=.neq then
   match P.underlying t with
   |some .bool=>some (.eqb (op== .neq) x' y')
   |some (.struct _)|some (.array _ _)=>
    match oM P 60 t with
    |some ks=>if P.eqGuardType P.depth t=false then some (.eqf (op== .neq) ks x' y') else none
    |none=>none
   |some (.pointer _)=>some (.eqn (op== .neq) .ptr (jW x||jW y) x' y')
   |some (.interface _)=>some (.eqn (op== .neq) .ifc (jW x||jW y) x' y')
   |some (.slice _)=>some (.eqn (op== .neq) .sli (jW x||jW y) x' y')
   |some (.map _ _)=>some (.eqn (op== .neq) .mp (jW x||jW y) x' y')
   |some (.func _ _ _)=>some (.eqn (op== .neq) .fn (jW x||jW y) x' y')
   |_=>some (.bin op x' y')
  else some (.bin op x' y')
 |_,_=>none
def mQ(P:Program)(g:bF)(src dst:TypeId)(x:Operand):Option dY:=
 match bJ g x with
 |some x'=>
  match P.underlying src,P.underlying dst with
  |some _,some (.int k)=>some (.OX k x')
  |some .string,some (.slice e)=>if P.underlying e matches some (.int .u8) then some (.CJ x') else none
  |some (.slice e),some .string=>if P.underlying e matches some (.int .u8) then some (.EI x') else none
  |_,_=>none
 |none=>none
def jT(P:Program)(g:bF)(t:TypeId)(x:Operand)(lo hi mx:Option Operand):Option dY:=
 match bJ g x,nJ g lo,nJ g hi,nJ g mx with
 |some x',some p9,some pB,some mx'=>
  match AN P t with
  |some (n,sz,_)=>some (.EW n sz x' p9 pB mx')
  |none=>
   match nK P t with
   |some (_,sz)=>some (.al sz x' p9 pB mx')
   |none=>
    match P.underlying t,mx with
    |some .string,none=>some (.QM x' p9 pB)
    |_,_=>none
 |_,_,_,_=>none
def qF(P:Program)(g:bF)(c:Call):Option dY:=
 match c.args.toList,c.argTypes[0]? with
 |[x],some t=>
  match P.underlying t,bJ g x with
  |some .string,some x'=>some (.lens x')
  |some (.slice _),some x'=>some (.WQ x')
  |_,_=>none
 |_,_=>none
def gY(P:Program)(g:bF)(mu:Bool)(c:Call):Option dY:=
 match c.args.toList,c.argTypes.toList with
 |[x,y],[t,t2]=>
  match bJ g x,bJ g y,nK P t with
  |some x',some y',some (e,sz)=>
   match P.info? e,lX P e,P.underlying t2 with
   |some _,some _,some (.int _)=>none
   |some i,some z,some _=>if 1<=i.bytes/\z.cells.size=sz then some (.append sz i.bytes mu x' y') else none
   |_,_,_=>none
  |_,_,_=>none
 |_,_=>none
def nZ(P:Program)(g:bF)(mu:Bool)(c:Call):Option dY:=
 match c.callee with
 |.builtin .len=>qF P g c
 |.builtin .append=>gY P g mu c
 |.builtin .copy=>match c.args.toList,c.argTypes[0]? with
  |[x,y],some t=>match bJ g x,bJ g y,nK P t with
   |some x',some y',some (_,sz)=>some (.copy sz x' y')
   |_,_,_=>none
  |_,_=>none
 |.value f=>match bJ g f,oE g c.args.toList with
  |some f',some azs=>some (.call f' azs)
  |_,_=>none
 |.builtin .max=>match c.args.toList with
  |[x,y]=>match bJ g x,bJ g y with
   |some x',some y'=>some (.WW x' y')
   |_,_=>none
  |_=>none
 |.builtin .min=>match c.args.toList with
  |[x,y]=>match bJ g x,bJ g y with
   |some x',some y'=>some (.WY x' y')
   |_,_=>none
  |_=>none
 |.builtin .clear=>match c.args.toList,c.argTypes[0]? with
  |[x],some t=>match bJ g x,nK P t with
   |some x',some (e,sz)=>match lX P e with
    |some z=>(jJ z.cells.toList).map fun zs=>.clr sz zs x'
    |none=>none
   |_,_=>none
  |_,_=>none
 |_=>none
def kb(P:Program)(t:TypeId):Option AV:=
 match lX P t with
 |some z=>ofConst z
 |none=>none
def OY(P:Program)(g:bF)(mu:Bool)(o:Oper):Option dY:=
 match o.op with
 |.move x|.assign x=>(bJ g x).map .Lu
 |.pick c x y=>match bJ g c,bJ g x,bJ g y with
  |some c',some x',some y'=>some (.pick c' x' y')
  |_,_,_=>none
 |.alloc t=>match lX P t with
  |some z=>(jJ z.cells.toList).map .alloc
  |none=>none
 |.box _ x=>(bJ g x).map .box
 |.build t parts=>match lX P t with
  |some z=>match jJ z.cells.toList,P.underlying t with
   |some zs,some (.struct fs)=>match JV P fs.toList with
    |some l=>(vT g (l[·]?) parts.toList).map (.build zs)
    |none=>none
   |some zs,some (.array _ e)=>match jY P e with
    |some sz=>(vT g (fun i=>some (i*sz,sz)) parts.toList).map (.build zs)
    |none=>none
   |_,_=>none
  |none=>none
 |.buildSlice t len parts=>match nK P t with
  |some (e,sz)=>match lX P e,JI g 0 parts.toList with
   |some _,some ys=>if len=parts.size/\len*sz<=2^24 then(if UX mu sz ys=true then some (.jM 1 1 [.str []] (.const (.int .i64 1)) (.const (.int .i64 1))) else some (.Pb sz ys)) else none
   |_,_=>none
  |none=>none
 |.load t x=>match bJ g x,fS P t,jY P t with
  |some x',some agg,some n=>some (.load agg n x')
  |_,_,_=>none
 |.store t x y=>match bJ g x,bJ g y,jY P t with
  |some x',some y',some n=>some (.store n x' y')
  |_,_,_=>none
 |.nilCheck x=>(bJ g x).map .Pf
 |.binOp op t x y _=>qE P g op t x y
 |.unOp op _ x=>(bJ g x).map (.un op)
 |.convert src dst x=>mQ P g src dst x
 |.sliceToArrayPointer t x=>match bJ g x,P.underlying t with
  |some x',some (.array n _)=>some (.ai n x')
  |_,_=>none
 |.makeInterface t x=>match bJ g x,P.underlying t with
  |some _,some (.interface _)=>none
  |some x',some _=>some (.ZX t x')
  |_,_=>none
 |.makeFunc fn fs cs=>match oE g fs.toList,oE g cs.toList with
  |some fs',some DT=>some (.ZW fn fs' DT)
  |_,_=>none
 |.makeMap t r=>match P.underlying t,r with
  |some (.map _ _),none=>some .zT
  |some (.map _ _),some (.const (.int _ _))=>some .zT
  |_,_=>none
 |.makeSlice t x y=>match bJ g x,bJ g y,nK P t with
  |some x',some y',some (e,sz)=>match P.info? e,lX P e with
   |some i,some z=>match jJ z.cells.toList with
    |some zs=>if 1<=sz/\1<=i.bytes then some (.jM sz i.bytes zs x' y') else none
    |none=>none
   |_,_=>none
  |_,_,_=>none
 |.slice t x lo hi mx=>jT P g t x lo hi mx
 |.fieldAddr t x i=>match bJ g x,Yp P t i with
  |some x',some (off,_,_)=>some (.Yn off x')
  |_,_=>none
 |.indexAddr t x i=>match bJ g x,bJ g i with
  |some x',some i'=>match AN P t with
   |some (n,sz,_)=>some (.UB (some n) sz x' i')
   |none=>match nK P t with
    |some (_,sz)=>some (.UB none sz x' i')
    |none=>none
  |_,_=>none
 |.index t x i=>match bJ g x,bJ g i with
  |some x',some i'=>match AN P t with
   |some (n,sz,b)=>some (.idx n sz b x' i')
   |none=>if P.underlying t matches some .string then some (.idxs x' i') else none
  |_,_=>none
 |.lookup t x i ok=>match bJ g x,bJ g i,P.underlying t with
  |some x',some i',some (.map kt vt)=>match JD P kt,kb P vt with
   |some k,some z=>some (.lookup k z ok x' i')
   |_,_=>none
  |_,_,_=>none
 |.mapUpdate t m i x|.insert t m i x=>match bJ g m,bJ g i,bJ g x,P.underlying t with
  |some m',some i',some x',some (.map kt _)=>(JD P kt).map fun k=>.PX k m' i' x'
  |_,_,_,_=>none
 |.typeAssert x _ t ok=>match bJ g x,P.underlying t,kb P t with
  |some _,some (.interface _),_=>none
  |some x',some _,some z=>some (.bd t ok z x')
  |_,_,_=>none
 |.extract x i=>(bJ g x).map fun x'=>.Ym x' i
 |.range t x=>match bJ g x,P.underlying t with
  |some x',some (.map _ _)=>some (.vR x')
  |_,_=>none
 |.next x s=>match bJ g x,s with
  |some x',false=>some (.EP x')
  |_,_=>none
 |.entry x=>(bJ g x).map .yR
 |.call c=>nZ P g mu c
 |.panic x=>(bJ g x).map .panic
 |.defer c=>match c.callee with
  |.value f=>match bJ g f,oE g c.args.toList with
   |some f',some azs=>some (.lN f' azs)
   |_,_=>none
  |_=>none
 |_=>none
def dY.plain:dY->Bool
 |.call _ _|.panic _|.lN _ _|.vR _|.EP _|.yR _=>false
 |_=>true
theorem aAq{op:BinOp}(h:op=.eql\/op=.neq):op=if(op== .neq) then .neq else .eql:=by rcases h with rfl|rfl<;>rfl
theorem XF{P:Program}{f:Nat}{t:TypeId}{ks:List Sk}(h:oM P f t=some ks){d:TypeDesc}(hu:P.underlying t=some d)(hd:(∃fs,d=.struct fs)\/∃n e,d=.array n e):fS P t=some true:=by
 unfold fS
 rcases hd with ⟨fs,rfl⟩|⟨n,e,rfl⟩<;>rw[hu]
theorem mj{P:Program}{g:bF}{o:Oper}{op:BinOp}{t t2:TypeId}{x y:Operand}{r:dY}(ho:o.op=.binOp op t x y t2)(h:qE P g op t x y=some r):cN P g o r:=by
 have hl:(jW x||jW y)=true->(∃c,x=.const c)\/∃c,y=.const c:=fun hh=>by cases x<;>cases y<;>simp[jW] at hh ⊢
 have nk:∀{d:TypeDesc} {k:Nk},P.underlying t=some d->(match (some d:Option TypeDesc) with|some (.pointer _)=>some Nk.ptr|some (.interface _)=>some .ifc|some (.slice _)=>some .sli|some (.map _ _)=>some .mp|some (.func _ _ _)=>some .fn|_=>none)=some k->nkP P t=some k:=fun hu hk=>by unfold nkP;rw[hu];exact hk
 unfold qE at h;split at h
 . rename_i x' y' hx hy;split at h
   . rename_i fP
     split at h<;>rename_i hu<;>first
      |(obtain rfl:=Aa h;exact aWq ho (aAq fP) hu hx hy)
      |(obtain rfl:=Aa h;exact aWs ho (aAq fP) (nk hu rfl) hl hx hy)
      |(split at h
        . rename_i ks hks;split at h
          . rename_i hg;obtain rfl:=Aa h;exact aWr ho (aAq fP) A0 hks (XF hks hu (by first|exact .inl ⟨_,rfl⟩|exact .inr ⟨_,_,rfl⟩)) hg hx hy
          cases h
        cases h)
      |(obtain rfl:=Aa h;exact aDa ho hx hy)
   obtain rfl:=Aa h;exact aDa ho hx hy
 cases h
theorem YU{P:Program}{g:bF}{o:Oper}{src dst:TypeId}{x:Operand}{r:dY}(ho:o.op=.convert src dst x)(h:mQ P g src dst x=some r):cN P g o r:=by
 unfold mQ at h;split at h
 . rename_i x' hx;split at h
   . rename_i d k hs hd;obtain rfl:=Aa h;exact aDb ho hx hs hd
   . rename_i e hs hd;split at h
     . rename_i he;obtain rfl:=Aa h;exact aDh ho hx hs hd he
     cases h
   . rename_i e hs hd;split at h
     . rename_i he;obtain rfl:=Aa h;exact aCz ho hx hs hd he
     cases h
   cases h
 cases h
theorem VY{P:Program}{g:bF}{o:Oper}{t:TypeId}{x:Operand}{lo hi mx:Option Operand}{r:dY}(ho:o.op=.slice t x lo hi mx)(h:jT P g t x lo hi mx=some r):cN P g o r:=by
 unfold jT at h;split at h
 . rename_i x' p9 pB mx' hx Qj o5 hmx;split at h
   . rename_i n sz b ht;obtain rfl:=Aa h;exact aDe ho hx Qj o5 hmx ht
   split at h
   . rename_i e sz ht;obtain rfl:=Aa h;exact aKd ho hx Qj o5 hmx ht
   split at h
   . rename_i ht;obtain rfl:=Aa h;exact aDf ho hx Qj o5 ht
   cases h
 cases h
theorem ON{c:Call}{x:Operand}(h:c.args.toList=[x]):c.args= #[x]:=by apply Fh;simpa using h
theorem IA{c:Call}{x y:Operand}(h:c.args.toList=[x,y]):c.args= #[x,y]:=by apply Fh;simpa using h
theorem ml{P:Program}{g:bF}{o:Oper}{c:Call}{r:dY}(ho:o.op=.call c)(hc:c.callee=.builtin .len)(h:qF P g c=some r):cN P g o r:=by
 unfold qF at h;split at h
 . rename_i x t ha RE;split at h
   . rename_i x' ht hx;obtain rfl:=Aa h;exact aJv ho hc (ON ha) hx RE ht
   . rename_i e x' ht hx;obtain rfl:=Aa h;exact aJu ho hc (ON ha) hx RE ht
   cases h
 cases h
theorem TZ{P:Program}{g:bF}{mu:Bool}{o:Oper}{c:Call}{r:dY}(ho:o.op=.call c)(hc:c.callee=.builtin .append)(h:gY P g mu c=some r):cN P g o r:=by
 unfold gY at h;split at h
 . rename_i x y t t2 ha RE;have bGv:c.argTypes= #[t,t2]:=by apply Fh;simpa using RE
   split at h
   . rename_i x' y' e sz hx hy ht;obtain⟨hu,lF⟩:=kV ht;split at h
     . cases h
     . rename_i i z d hd hi hz h2;split at h
       . rename_i eU;obtain rfl:=Aa h;exact qm ho hc (IA ha) hx hy bGv hu lF h2 (fun k he=>hd k he) hi eU.1 hz eU.2
       cases h
     cases h
   cases h
 cases h
theorem Qe{P:Program}{t:TypeId}{z:AV}(h:kb P t=some z):∃zv,lX P t=some zv/\ofConst zv=some z:=by
 unfold kb at h;split at h
 . rename_i zv hz;exact⟨zv,hz,h⟩
 cases h
theorem YW{P:Program}{g:bF}{mu:Bool}{o:Oper}{r:dY}(h:OY P g mu o=some r)(hp:r.plain=true):cN P g o r:=by
 unfold OY at h;split at h
 . rename_i x ho;simp only[Ae] at h;obtain⟨x',hx,rfl⟩:=h;exact jc (.inl ho) hx
 . rename_i x ho;simp only[Ae] at h;obtain⟨x',hx,rfl⟩:=h;exact jc (.inr ho) hx
 . rename_i c x y ho;split at h
   . rename_i c' x' y' hc hx hy;obtain rfl:=Aa h;exact aKb ho hc hx hy
   cases h
 . rename_i t ho;split at h
   . rename_i z hz;simp only[Ae] at h;obtain⟨zs,EB,rfl⟩:=h;exact aCy ho hz EB
   cases h
 . rename_i t x ho;simp only[Ae] at h;obtain⟨x',hx,rfl⟩:=h;exact aWo ho hx
 . rename_i t parts ho;split at h
   . rename_i z hz;split at h
     . rename_i zs fs EB hu;split at h
       . rename_i l hl;simp only[Ae] at h;obtain⟨ps,SO,rfl⟩:=h;exact NS ho hu hz EB hl SO
       cases h
     . rename_i zs n e EB hu;split at h
       . rename_i sz lF;simp only[Ae] at h;obtain⟨ps,SO,rfl⟩:=h;exact Pk ho hu lF hz EB SO
       cases h
     cases h
   cases h
 . rename_i t len parts ho;split at h
   . rename_i e sz ht;split at h
     . rename_i z ys hz Ln;split at h
       . rename_i eU;split at h
         . rename_i hr;obtain rfl:=Aa h;exact qt ho ht hz eU.1 eU.2 Ln hr
         obtain rfl:=Aa h;exact aDc ho ht hz eU.1 eU.2 Ln
       cases h
     cases h
   cases h
 . rename_i t x ho;split at h
   . rename_i x' agg n hx rD hn;obtain rfl:=Aa h;exact aJw ho hx rD hn
   cases h
 . rename_i t x y ho;split at h
   . rename_i x' y' n hx hy hn;obtain rfl:=Aa h;exact aDg ho hx hy hn
   cases h
 . rename_i x ho;simp only[Ae] at h;obtain⟨x',hx,rfl⟩:=h;exact aDd ho hx
 . rename_i op t x y t2 ho;exact mj ho h
 . rename_i op t x ho;simp only[Ae] at h;obtain⟨x',hx,rfl⟩:=h;exact bFn ho hx
 . rename_i src dst x ho;exact YU ho h
 . rename_i t x ho;split at h
   . rename_i x' n e hx ht;obtain rfl:=Aa h;exact aKc ho hx ht
   cases h
 . rename_i t x ho;split at h
   . cases h
   . rename_i x' d hni hx ht;obtain rfl:=Aa h;refine aKa ho hx ?_;rw[ht]
     cases d<;>first|rfl|exact absurd rfl (hni _)
   cases h
 . rename_i fn fs cs ho;split at h
   . rename_i fs' DT hf hc;obtain rfl:=Aa h;exact aJz ho hf hc
   cases h
 . rename_i t rr ho;split at h
   . rename_i k v ht;obtain rfl:=Aa h;exact Wh ho ht (.inl rfl)
   . rename_i k v j n ht;obtain rfl:=Aa h;exact Wh ho ht (.inr ⟨_,_,rfl⟩)
   cases h
 . rename_i t x y ho;split at h
   . rename_i x' y' e sz hx hy ht;split at h
     . rename_i i z hi hz;split at h
       . rename_i zs EB;split at h
         . rename_i eU;obtain rfl:=Aa h;exact Ze ho hx hy ht hi hz EB eU.1 eU.2
         cases h
       cases h
     cases h
   cases h
 . rename_i t x lo hi mx ho;exact VY ho h
 . rename_i t x i ho;split at h
   . rename_i x' off n b hx hf;obtain rfl:=Aa h;exact aJs ho hx hf
   cases h
 . rename_i t x i ho;split at h
   . rename_i x' i' hx hi;split at h
     . rename_i n sz b ht;obtain rfl:=Aa h;exact Wf ho hx hi ht
     split at h
     . rename_i e sz ht;obtain rfl:=Aa h;exact Zd ho hx hi ht
     cases h
   cases h
 . rename_i t x i ho;split at h
   . rename_i x' i' hx hi;split at h
     . rename_i n sz b ht;obtain rfl:=Aa h;exact aWt ho hx hi ht
     split at h
     . rename_i AF;obtain rfl:=Aa h;exact aJt ho hx hi AF
     cases h
   cases h
 . rename_i t x i ok ho;split at h
   . rename_i x' i' kt vt hx hi ht;split at h
     . rename_i k z hk hz;obtain rfl:=Aa h;obtain⟨zv,hz1,hz2⟩:=Qe hz;exact qu ho hx hi ht hk hz1 hz2
     cases h
   cases h
 . rename_i t m i x ho;split at h
   . rename_i m' i' x' kt vt hm hi hx ht;simp only[Ae] at h;obtain⟨k,hk,rfl⟩:=h;exact Wg (.inl ho) hm hi hx ht hk
   cases h
 . rename_i t m i x ho;split at h
   . rename_i m' i' x' kt vt hm hi hx ht;simp only[Ae] at h;obtain⟨k,hk,rfl⟩:=h;exact Wg (.inr ho) hm hi hx ht hk
   cases h
 . rename_i x ti t ok ho;split at h
   . cases h
   . rename_i x' d z hni hx ht hz;obtain rfl:=Aa h;obtain⟨zv,hz1,hz2⟩:=Qe hz;exact aKe ho hx ht (fun ms he=>hni ms he) hz1 hz2
   cases h
 . rename_i x i ho;simp only[Ae] at h;obtain⟨x',hx,rfl⟩:=h;exact aJr ho hx
 . rename_i t x ho;exact ZaT
 . rename_i x st ho;exact ZaT
 . rename_i x ho;simp only[Ae] at h;obtain⟨x',hx,rfl⟩:=h;cases hp
 . rename_i c ho;unfold nZ at h;split at h
   . rename_i hc;exact ml ho hc h
   . rename_i hc;exact TZ ho hc h
   . rename_i hc;split at h
     . rename_i x y t ha RE;split at h
       . rename_i x' y' e sz hx hy ht;obtain rfl:=Aa h;obtain⟨hu,lF⟩:=kV ht;exact aJq ho hc (IA ha) hx hy RE hu lF
       cases h
     cases h
   . rename_i f hc;exact ZaT
   . rename_i hc;split at h
     . rename_i x y ha;split at h
       . rename_i x' y' hx hy;obtain rfl:=Aa h;exact aJx ho hc (IA ha) hx hy
       cases h
     cases h
   . rename_i hc;split at h
     . rename_i x y ha;split at h
       . rename_i x' y' hx hy;obtain rfl:=Aa h;exact aJy ho hc (IA ha) hx hy
       cases h
     cases h
   . rename_i hc;split at h
     . rename_i x t ha RE;split at h
       . rename_i x' e sz hx ht;obtain⟨hu,lF⟩:=kV ht;split at h
         . rename_i z hz;simp only[Ae] at h;obtain⟨zs,EB,rfl⟩:=h;exact aWp ho hc (ON ha) hx RE hu hz EB
         cases h
       cases h
     cases h
   cases h
 . rename_i x ho;simp only[Ae] at h;obtain⟨x',hx,rfl⟩:=h;cases hp
 . rename_i c ho;split at h
   . exact ZaT
   cases h
 cases h
def dY.fresh:dY->Bool
 |.alloc _|.box _|.zT|.jM _ _ _ _ _|.CJ _=>true
 |_=>false
theorem aHk{P:Program}{g:bF}{mu:Bool}{o:Oper}{r:dY}(h:OY P g mu o=some r)(hp:r.fresh=true):EG P g o r:=by
 unfold OY at h;split at h
 case h_4=>
  rename_i t ho;split at h
  . rename_i z hz;simp only[Ae] at h;obtain⟨zs,EB,rfl⟩:=h;exact Rw ho hz EB
  cases h
 case h_5=>rename_i t x ho;simp only[Ae] at h;obtain⟨x',hx,rfl⟩:=h;exact dv ho hx
 case h_7=>
  rename_i t len parts ho;split at h
  . rename_i e sz ht;split at h
    . rename_i z ys hz Ln;split at h
      . rename_i eU;split at h
        . rename_i hr;obtain rfl:=Aa h;exact Ol ho ht hz eU.1 eU.2 Ln hr
        obtain rfl:=Aa h;cases hp
      cases h
    cases h
  cases h
 case h_13=>
  rename_i src dst x ho;unfold mQ at h;split at h
  . rename_i x' hx;split at h
    . obtain rfl:=Aa h;cases hp
    . rename_i e hs hd;split at h
      . rename_i he;obtain rfl:=Aa h;exact Ry ho hx hs hd he
      cases h
    . exact ZaT
    cases h
  cases h
 case h_17=>
  rename_i t rr ho;split at h
  . rename_i k v ht;obtain rfl:=Aa h;exact LR ho ht (.inl rfl)
  . rename_i k v j n ht;obtain rfl:=Aa h;exact LR ho ht (.inr ⟨_,_,rfl⟩)
  cases h
 case h_18=>
  rename_i t x y ho;split at h
  . rename_i x' y' e sz hx hy ht;split at h
    . rename_i i z hi hz;split at h
      . rename_i zs EB;split at h
        . rename_i eU;obtain rfl:=Aa h;exact Mb ho hx hy ht hi hz EB eU.1 eU.2
        cases h
      cases h
    cases h
  cases h
 all_goals exfalso
 all_goals (try unfold qE at h)
 all_goals (try unfold jT at h)
 all_goals (try unfold nZ at h)
 all_goals (try unfold qF at h)
 all_goals (try unfold gY at h)
 all_goals repeat' (split at h)
 all_goals first
  |(cases h;done)
  |(obtain rfl:=Aa h;cases hp)
  |(simp only[Ae] at h;obtain⟨_,_,rfl⟩:=h;cases hp)
inductive Out where
 |ret (v:AV)
 |JU (v:AV)
def YE(G:Gh)(w:World):Out->Ending->Prop
 |.ret v,.returned u=>VR G w v u
 |.JU v,.panicked chain=>∃u,chain=[{v:=u,recovered:=false}]/\VR G w v u
 |_,_=>False
def AJ (P:Program) (f:FuncId):Prop:=∃fn,P.funcs[f]?=some fn/\fn.body.isSome=true/\(fn.name== "runtime.NumGoroutine")=false
def Sound(P:Program)(g:bF)(f:FuncId)(args:List AV)(H:aA)(out:Out)(H':aA):Prop:=
 AJ P f/\∀(G:Gh) (w:World) (vs:List Value),WR g G H w->gW G w args vs->
  Calls P f vs.toArray w fun e w'=>∃G',WR g G' H' w'/\Ext G H w G' H' w'/\YE G' w' out e
def Fw(ro:Option Nat):Fence:={Fence.wide with round:=ro}
def rS(P:Program)(g:bF)(id:Nat)(args:List AV)(H:aA)(out:Out)(H':aA):Prop:=
 ∀(G:Gh) (w:World) (vs:List Value) (l:Loc),WR g G H w->gW G w args vs->G.loc id=some l->
  YieldAt Fence.wide 0 P l.cV vs.toArray w fun e w'=>∃G',WR g G' H' w'/\Ext G H w G' H' w'/\YE G' w' out e
inductive fY where
 |call (f:FuncId) (azs:List AV)
 |mark (id:Nat)
inductive kd where
 |normal
 |exit (id:Nat)
 |ret
 |panic (v:AV)
def bN(s:List AV)(o:aZ):Bool:=
 match o.guard with
 |none=>true
 |some (d,b)=>match s.getD d aB with
  |.bool c=>c==b
  |_=>false
def mT(s:List AV)(dst:Option Nat)(v:AV):List AV:=
 match dst with
 |none=>s
 |some d=>s.set d v
def lQ:AV->Option (FuncId×List AV×List AV)
 |.func (.func f) fs cs=>some (f,fs,cs)
 |_=>none
def RY(P:Program)(g:bF)(fv:AV)(args:List AV)(H:aA)(out:Out)(H':aA):Prop:=
 (∃p,lQ fv=some p/\Sound P g p.1 (p.2.1++args++p.2.2) H out H')\/(∃id,fv=.yield id/\rS P g id args H out H')
abbrev AQ:=kd->List AV->List fY->aA->Prop
def tF(P:Program)(g:bF):List aZ->List AV->List fY->aA->AQ->Prop
 |[],s,ds,H,Q=>Q .normal s ds H
 |o::r,s,ds,H,Q=>
  if bN s o then
   match o.op with
   |.call f azs=>∃out H',RY P g (f.eval g s) (azs.map (Arg.eval g s)) H out H'/\
     match out with
     |.ret v=>tF P g r (mT s o.dst v) ds H' Q
     |.JU v=>Q (.panic v) s ds H'
   |.panic x=>∃t v,x.eval g s=.iface t v/\Q (.panic (.iface t v)) s ds H
   |.lN f azs=>∃p,lQ (f.eval g s)=some p/\tF P g r (mT s o.dst aB) (.call p.1 (p.2.1++azs.map (Arg.eval g s)++p.2.2)::ds) H Q
   |.vR x=>∃m es,x.eval g s=.map m/\H.get m=some (.map es)/\∀bs c mb,bs.length=es.length->bs.Nodup->
     tF P g r (mT s o.dst (.ref H.next 0)) ds ((H.set m (.sO es bs c mb)).alloc (.iter m mb c [])) Q
   |.EP x=>∃it m mb c seen es bs,x.eval g s=.ref it 0/\H.get it=some (.iter m mb c seen)/\H.get m=some (.sO es bs c mb)/\
     ((∀b∈bs,b∈seen)->tF P g r (mT s o.dst (.jZ [.bool false])) ds H Q)/\
     ∀j,j<bs.length->bs.getD j 0∉seen->tF P g r (mT s o.dst (.jZ [.bool true,(es.getD j (aB,aB)).1,(es.getD j (aB,aB)).2])) ds (H.set it (.iter m mb c (seen++[bs.getD j 0]))) Q
   |.yR x=>∃it m mb c seen es bs j,x.eval g s=.ref it 0/\H.get it=some (.iter m mb c (seen++[bs.getD j 0]))/\H.get m=some (.sO es bs c mb)/\j<bs.length/\
     tF P g r (mT s o.dst (.jZ [(es.getD j (aB,aB)).1,(es.getD j (aB,aB)).2])) ds H Q
   |op=>∃v H',dE (Arg.eval g s) H op=some (v,H')/\tF P g r (mT s o.dst v) ds H' Q
  else tF P g r (mT s o.dst aB) ds H Q
def TJ(G:Gh)(w:World):List fY->List Deferred->Prop
 |[],[]=>True
 |.call f azs::ds,d::r=>(∃cap:List Value,d.target=.fn (.func f) cap.toArray/\gW G w azs (d.args.toList++cap))/\TJ G w ds r
 |.mark id::ds,d::r=>(∃l,G.loc id=some l/\d.target=.collected l.cV)/\TJ G w ds r
 |_,_=>False
theorem TJ.ext{G G':Gh}{H H':aA}{w w':World}(e:Ext G H w G' H' w'):∀{ds:List fY} {l:List Deferred},TJ G w ds l->TJ G' w' ds l
 |[],[],_=>trivial
 |.call f azs::ds,d::r,h=>⟨let⟨cap,h1,h2⟩:=h.1;⟨cap,h1,h2.ext e⟩,TJ.ext e h.2⟩
 |.mark id::ds,d::r,h=>⟨let⟨l,h1,h2⟩:=h.1;⟨l,e.loc _ _ h1,h2⟩,TJ.ext e h.2⟩
 |[],_::_,h=>h.elim
 |.call _ _::_,[],h=>h.elim
 |.mark _::_,[],h=>h.elim
def ExR(G:Gh)(w:World):kd->Exit->Prop
 |.normal,.normal=>True
 |.exit i,.exit j=>i=j
 |.ret,.ret=>True
 |.panic v,.panic chain=>∃u,chain=[{v:=u,recovered:=false}]/\VR G w v u
 |_,_=>False
def QR(g:bF)(G:Gh)(H:aA)(w:World)(Q:AQ):Exit->Act->World->Prop:=fun e a' w'=>∃ae s' fH H' G',Q ae s' fH H'/\WR g G' H' w'/\Ext G H w G' H' w'/\SR G' w' s' a'/\TJ G' w' fH a'.defers/\ExR G' w' ae e
theorem QR.trans{g:bF}{G G1:Gh}{H H1:aA}{w w1:World}{Q:AQ}(e:Ext G H w G1 H1 w1){x:Exit}{a:Act}{w':World}(h:QR g G1 H1 w1 Q x a w'):QR g G H w Q x a w':=
 let⟨ae,s',fH,H',G',q,hw,he,hs,hd,hx⟩:=h
 ⟨ae,s',fH,H',G',q,hw,e.trans he,hs,hd,hx⟩
def MT(P:Program)(g:bF)(mu:Bool)(ops:Array Oper)(o:Oper):Option aZ:=
 match OY P g mu o with
 |some r=>
  match o.guard with
  |none=>some ⟨o.dst,r,none⟩
  |some (j,b)=>match (ops[j]?).bind (·.dst) with
   |some d=>some ⟨o.dst,r,some (d,b)⟩
   |none=>none
 |none=>none
def lM(P:Program)(g:bF)(mu:Bool)(ops:Array Oper):List Oper->Option (List aZ)
 |[]=>some []
 |o::r=>match MT P g mu ops o,lM P g mu ops r with
  |some x,some xs=>some (x::xs)
  |_,_=>none
theorem FP{P:Program}{g:bF}{mu:Bool}{ops:Array Oper}{o:Oper}{r:aZ}(h:MT P g mu ops o=some r):r.dst=o.dst/\OY P g mu o=some r.op/\
 ((o.guard=none/\r.guard=none)\/∃j b d,o.guard=some (j,b)/\(ops[j]?).bind (·.dst)=some d/\r.guard=some (d,b)):=by
 unfold MT at h;split at h
 . rename_i r' hr;split at h
   . rename_i hg;obtain rfl:=Aa h;exact⟨rfl,hr,.inl ⟨hg,rfl⟩⟩
   rename_i j b hg;split at h
   . rename_i d hd;obtain rfl:=Aa h;exact⟨rfl,hr,.inr ⟨j,b,d,hg,hd,rfl⟩⟩
   cases h
 cases h
theorem VR.z7{G:Gh}{w:World}{v:AV}{u:Value}(h:VR G w v u)(b:Bool):v=.bool b↔u=.bool b:=by
 constructor
 . rintro rfl;exact h.jR
 rintro rfl;cases h;rfl
theorem DU(a:Array Value)(d:Nat)(b:Bool):a[d]?=some (.bool b)↔a.getD d undef=.bool b:=by
 rw[Bs]
 cases h:a[d]? with
 |none=>simp[undef]
 |some v=>simp
theorem Qa{P:Program}{g:bF}{mu:Bool}{ops:Array Oper}{o:Oper}{r:aZ}(h:MT P g mu ops o=some r){G:Gh}{w:World}{s:List AV}{a:Act}(hs:SR G w s a):
 Region.wanted o (yielded ops a.tmps)=bN s r:=by
 obtain⟨_,_,hg⟩:=FP h
 rcases hg with ⟨h1,h2⟩|⟨j,b,d,h1,h2,h3⟩
 . simp[Region.wanted,bN,h1,h2]
 simp only[Region.wanted,bN,h1,h3,yielded,h2,Option.bind_some];have hv:=hs.getD d
 have key:∀c,s.getD d aB=.bool c↔a.tmps[d]?=some (.bool c):=fun c=>by rw[DU];exact hv.z7 c
 cases Oz:s.getD d aB with
 |bool c=>rw[(key c).1 Oz];simp
 |_=>
  have :∀c,a.tmps[d]?≠some (.bool c):=fun c hc=>by have :=(key c).2 hc;rw[Oz] at this;cases this
  split
  . rename_i c hc;exact absurd hc (this c)
  rfl
theorem SR.put{G:Gh}{w:World}{s:List AV}{a:Act}(h:SR G w s a)(dst:Option Nat){v:AV}{u:Value}(hv:VR G w v u):SR G w (mT s dst v) (a.put dst u):=by
 cases dst with
 |none=>exact h
 |some d=>
  have hl:=h.1;refine⟨by simpa [mT,Act.put] using hl,fun j hj=>?_⟩;simp only[mT,Ii] at hj;simp only[Cz] at hl;have HI:j<a.tmps.size:=by omega
  simp only[mT,Act.put];rw[gU,getD_eq,Hw,Gc];by_cases hd:d=j
  . subst hd;simp only[if_true,hj,HI,Bl];exact hv
  rw[if_neg hd,if_neg hd];have :=h.2 j hj
  rwa [gU] at this
theorem SR.ext{G G':Gh}{H H':aA}{w w':World}{s:List AV}{a:Act}(h:SR G w s a)(e:Ext G H w G' H' w'):SR G' w' s a:=gW.ext h e
theorem FL{G:Gh}{w:World}{v:AV}{u:Value}{p:FuncId×List AV×List AV}(h:lQ v=some p)(hv:VR G w v u):
 ∃azs bs:List Value,u=.func (.func p.1) azs.toArray bs.toArray/\gW G w p.2.1 azs/\gW G w p.2.2 bs:=by
 cases v<;>simp only[lQ] at h<;>try (cases h;done)
 rename_i fn fs cs
 cases fn<;>simp only[] at h<;>first|(cases h;done)|skip
 obtain rfl:=Aa h
 cases hv with
 |func _ _ _ azs bs ha hb hav hbv=>exact⟨azs,bs,rfl,⟨ha,hav⟩,⟨hb,hbv⟩⟩
theorem xQ{P:Program}{ρ:Operand->Value}{c:Call}{t:TypeId}{f:Operand}{fid:FuncId}{azs bs:List Value}(hc:c.callee=.value f)(hf:ρ f=.func (.func fid) azs.toArray bs.toArray)(w:World):
 (resolve ρ c t).run P w=.ok {target:=.fn (.func fid) bs.toArray,args:=azs.toArray++c.args.map ρ} w:=by
 simp[resolve,hc,hf,Deferred.ofValue]
theorem oC{P:Program}{fid:FuncId}(NO:AJ P fid)(args:Array Value)(cap:Array Value)(w:World):(invoke (.fn (.func fid) cap) args).run P w=.ok (.enter fid (args++cap)) w:=by
 obtain⟨fn,h1,h2,h3⟩:=NO;have hb:¬fn.body=none:=fun hh=>by rw[hh] at h2;cases h2
 have h3':¬fn.name= "runtime.NumGoroutine" :=by simpa using h3
 simp[invoke,callFunc,program,Sem.run,h1,h3',hb]
theorem OQ{ro:Option Nat}{n:Nat}{P:Program}{f:FuncId}{args:Array Value}{w:World}{R:Ending->World->Prop}(h:Calls P f args w R):CallsIn (Fw ro) n P f args w R:=
 (callsIn_wide (n:=n)).2 h
theorem BV{ro:Option Nat}{n:Nat}:(Fw ro).depth.isSome=true->1<=n:=fun h=>by cases h
def aAa(next:Act->World->Prop)(Q:Exit->Act->World->Prop)(a:Act)(d:Option Nat):Ending->World->Prop
 |.returned v,w=>next (a.put d v) w
 |.panicked chain,w=>Q (.panic chain) a w
 |.outgrown,_=>LetsOut Q
theorem Rg{g:bF}{o:Oper}{G:Gh}{H H':aA}{w:World}{a:Act}{out:Out}{next:Act->World->Prop}{Q:Exit->Act->World->Prop}
 (hn:∀v,out=.ret v->∀u w' G',WR g G' H' w'->Ext G H w G' H' w'->VR G' w' v u->next (a.put o.dst u) w')
 (hx:∀v,out=.JU v->∀u w' G',WR g G' H' w'->Ext G H w G' H' w'->VR G' w' v u->Q (.panic [{v:=u,recovered:=false}]) a w') (e:Ending) (w':World)
 (he:∃G',WR g G' H' w'/\Ext G H w G' H' w'/\YE G' w' out e):
 aAa next Q a o.dst e w':=by
 obtain⟨G',lT,yJ,vQ⟩:=he
 cases out with
 |ret v=>
  cases e with
  |returned u=>exact hn v rfl u w' G' lT yJ vQ
  |panicked _=>exact vQ.elim
  |outgrown=>exact vQ.elim
 |JU v=>
  cases e with
  |returned _=>exact vQ.elim
  |panicked chain=>obtain⟨u,rfl,hv⟩:=vQ;exact hx v rfl u w' G' lT yJ hv
  |outgrown=>exact vQ.elim
theorem aFs{G:Gh}{w:World}{id:Nat}{u:Value}(h:VR G w (.yield id) u):∃l,G.loc id=some l/\u=.func (.yield l.cV) #[] #[]:=by
 cases h with
 |yield _ l hl=>exact⟨l,hl,rfl⟩
theorem Uo{P:Program}{g:bF}{ro:Option Nat}{o:Oper}{c:Call}{f:Operand}{f':Arg}{lk:List Arg}(ho:o.op=.call c)(hc:c.callee=.value f)(hf:bJ g f=some f')(has:oE g c.args.toList=some lk)
 {G:Gh} {H H':aA} {w:World} {s:List AV} {a:Act} {out:Out} (hw:WR g G H w) (hs:SR G w s a)
 (hS:RY P g (f'.eval g s) (lk.map (Arg.eval g s)) H out H') {next:Act->World->Prop} {Q:Exit->Act->World->Prop}
 (hn:∀v,out=.ret v->∀u w' G',WR g G' H' w'->Ext G H w G' H' w'->VR G' w' v u->next (a.put o.dst u) w')
 (hx:∀v,out=.JU v->∀u w' G',WR g G' H' w'->Ext G H w G' H' w'->VR G' w' v u->Q (.panic [{v:=u,recovered:=false}]) a w'):
 o.wpIn (Fw ro) 0 P a w next Q:=by
 have IS:=tK hw hs has;have bJb:o.semAt (Fw ro).round a.eval=execOp a.eval o:=Oper.semAt_eq _ _ _ fun c' h=>by rw[ho] at h;cases h
 refine⟨fun _ _=>trivial,?_⟩;rw[bJb];have aTz:=bG hw hs hf
 rcases hS with ⟨p,hp,hS⟩|⟨id,hp,hS⟩
 . obtain⟨us,bs,hfv,h1,h2⟩:=FL hp aTz
   have iX:(execOp a.eval o).run P w=.ok (.enter p.1 (us++c.args.toList.map a.eval++bs).toArray) w:=by simp only[execOp,ho,Sem.run_bind,xQ hc hfv,Result.andThen_ok,oC hS.1];congr 2;apply Fh;simp
   have EL:=hS.2 G w _ hw ((h1.append IS).append h2);rw[iX];exact⟨BV,(OQ EL).mono fun e w' he=>by have :=Rg hn hx e w' he;cases e<;>exact this⟩
 rw[hp] at aTz;obtain⟨l,hl,hfv⟩:=aFs aTz;obtain⟨fn,tmps,assign,body,hy,hR⟩:=hS G w _ l hw IS hl
 have iX:(execOp a.eval o).run P w=.ok (.round l.cV fn tmps assign body) w:=by
  have hy':(Instr.yield l.cV (c.args.map a.eval)).run P w=.ok (.round l.cV fn tmps assign body) w:=by rw[<-hy];congr 2;apply Fh;simp
  simp[execOp,ho,resolve,hc,hfv,Deferred.ofValue,invoke,hy']
 rw[iX];exact⟨BV,RoundIn.mono (show RoundIn (Fw ro) 0 P l.cV fn tmps assign body w _ from hR) fun e w' he=>by have :=Rg hn hx e w' he;cases e<;>exact this⟩
theorem Qb{P:Program}{g:bF}{ro:Option Nat}{o:Oper}{r:dY}(NO:cN P g o r)(RH:∀c,o.op≠ .defer c){G:Gh}{H H':aA}{w:World}{s:List AV}{a:Act}{v:AV}(hw:WR g G H w)(hs:SR G w s a)
 (h:dE (Arg.eval g s) H r=some (v,H')) {next:Act->World->Prop} {Q:Exit->Act->World->Prop}
 (hn:∀u w' G',WR g G' H' w'->Ext G H w G' H' w'->VR G' w' v u->next (a.put o.dst u) w'):o.wpIn (Fw ro) 0 P a w next Q:=by
 obtain⟨n,u,w',G',hr,hnv,r1,r2,r3⟩:=NO s a G H w v H' hw hs h;refine⟨fun _ _=>trivial,?_⟩;rw[show o.semAt (Fw ro).round a.eval=execOp a.eval o from Oper.semAt_eq _ _ _ RH,hr]
 rcases hnv with rfl|⟨rfl,rfl⟩
 . exact hn u w' G' r1 r2 r3
 exact hn undef w' G' r1 r2 r3
theorem yE{P:Program}{g:bF}{mu:Bool}{o:Oper}{r:dY}(h:OY P g mu o=some r)(hr:∀f azs,r≠ .lN f azs):∀c,o.op≠ .defer c:=by
 intro c ho;unfold OY at h;rw[ho] at h;simp only at h;split at h
 . split at h
   . obtain rfl:=Aa h;exact hr _ _ rfl
   cases h
 cases h
theorem VZ{P:Program}{g:bF}{mu:Bool}{o:Oper}{f':Arg}{lk:List Arg}(h:OY P g mu o=some (.call f' lk)):
 ∃c f,o.op=.call c/\c.callee=.value f/\bJ g f=some f'/\oE g c.args.toList=some lk:=by
 unfold OY at h;split at h
 case h_31=>
  rename_i c ho;unfold nZ at h;split at h
  case h_4=>
   rename_i f hc;split at h
   . rename_i f2 as2 hf has;cases h;exact⟨c,f,ho,hc,hf,has⟩
   cases h
  all_goals exfalso
  all_goals (try unfold qF at h)
  all_goals (try unfold gY at h)
  all_goals repeat' (split at h)
  all_goals first
   |(cases h;done)
   |(simp only[Ae] at h;obtain⟨_,_,h⟩:=h;cases h;done)
 all_goals exfalso
 all_goals (try unfold qE at h)
 all_goals (try unfold jT at h)
 all_goals (try unfold mQ at h)
 all_goals repeat' (split at h)
 all_goals first
  |(cases h;done)
  |(simp only[Ae] at h;obtain⟨_,_,h⟩:=h;cases h;done)
theorem mr{P:Program}{g:bF}{mu:Bool}{o:Oper}{x':Arg}(h:OY P g mu o=some (.panic x')):∃x,o.op=.panic x/\bJ g x=some x':=by
 unfold OY at h;split at h
 case h_32=>rename_i x ho;simp only[Ae] at h;obtain⟨y,hy,he⟩:=h;cases he;exact⟨x,ho,hy⟩
 all_goals exfalso
 all_goals (try unfold qE at h)
 all_goals (try unfold jT at h)
 all_goals (try unfold mQ at h)
 all_goals (try unfold nZ at h)
 all_goals (try unfold qF at h)
 all_goals (try unfold gY at h)
 all_goals repeat' (split at h)
 all_goals first
  |(cases h;done)
  |(simp only[Ae] at h;obtain⟨_,_,h⟩:=h;cases h;done)
theorem mm{P:Program}{g:bF}{mu:Bool}{o:Oper}{f':Arg}{lk:List Arg}(h:OY P g mu o=some (.lN f' lk)):
 ∃c f,o.op=.defer c/\c.callee=.value f/\bJ g f=some f'/\oE g c.args.toList=some lk:=by
 unfold OY at h;split at h
 case h_33=>
  rename_i c ho;split at h
  . rename_i f hc;split at h
    . rename_i f2 as2 hf has;cases h;exact⟨c,f,ho,hc,hf,has⟩
    cases h
  cases h
 all_goals exfalso
 all_goals (try unfold qE at h)
 all_goals (try unfold jT at h)
 all_goals (try unfold mQ at h)
 all_goals (try unfold nZ at h)
 all_goals (try unfold qF at h)
 all_goals (try unfold gY at h)
 all_goals repeat' (split at h)
 all_goals first
  |(cases h;done)
  |(simp only[Ae] at h;obtain⟨_,_,h⟩:=h;cases h;done)
theorem KL{P:Program}{ops:Array Oper}{ro:Option Nat}{Q Q':Exit->Act->World->Prop}(hq:∀e a w,Q e a w->Q' e a w):∀(l:List Nat) (a:Act) (w2:World),wpOpsIn (Fw ro) 0 P ops Q l a w2->wpOpsIn (Fw ro) 0 P ops Q' l a w2:=by
 intro l
 induction l with
 |nil=>exact fun a w2 hh=>hq _ _ _ hh
 |cons i l ih=>
  intro a w2 hh;rw[wpOpsIn_cons] at hh ⊢;unfold wpOpIn at hh ⊢;split
  . rename_i hi;simp only[hi] at hh;exact ih _ _ hh
  rename_i x hi;simp only[hi] at hh;split
  . rename_i RN;simp only[RN,if_true] at hh;unfold Oper.wpIn at *;refine⟨hh.1,?_⟩;have hh:=hh.2;generalize (x.semAt (Fw ro).round a.eval).run P w2=rr at *
    have eq:∀(e:Ending) (w4:World),aAa (wpOpsIn (Fw ro) 0 P ops Q l) Q a x.dst e w4->aAa (wpOpsIn (Fw ro) 0 P ops Q' l) Q' a x.dst e w4:=fun e w4 wX=>by
     cases e with
     |returned v=>exact ih _ _ wX
     |panicked ch=>exact hq _ _ _ wX
     |outgrown=>exact let⟨a0,w0,q⟩:=wX;⟨a0,w0,hq _ _ _ q⟩
    cases rr with
    |ok n w3=>
     cases n<;>simp only[Oper.uponIn] at hh ⊢ <;>first
      |exact ih _ _ hh
      |exact hh
      |exact⟨hh.1,CallsIn.mono hh.2 (fun e w4 h=>by have :=eq e w4 (by cases e<;>exact h);cases e<;>exact this)⟩
      |exact⟨hh.1,RoundIn.mono hh.2 (fun e w4 h=>by have :=eq e w4 (by cases e<;>exact h);cases e<;>exact this)⟩
      |exact⟨hh.1,RowsIn.mono hh.2 (fun _ _ wX=>ih _ _ wX)⟩
    |halt y w3=>cases y<;>simp only[Oper.uponIn] at hh ⊢ <;>first|exact hh|exact hq _ _ _ hh
  rename_i RN;simp only[RN] at hh;exact⟨hh.1,ih _ _ hh.2⟩
theorem mv{P:Program}{g:bF}{mu:Bool}{o:Oper}{x':Arg}(h:OY P g mu o=some (.vR x')):∃t x k v,o.op=.range t x/\bJ g x=some x'/\P.underlying t=some (.map k v):=by
 unfold OY at h;split at h
 case h_28=>
  rename_i t x ho;split at h
  . rename_i y k v hy ht;cases h;exact⟨t,x,k,v,ho,hy,ht⟩
  cases h
 all_goals exfalso
 all_goals (try unfold qE at h)
 all_goals (try unfold jT at h)
 all_goals (try unfold mQ at h)
 all_goals (try unfold nZ at h)
 all_goals (try unfold qF at h)
 all_goals (try unfold gY at h)
 all_goals repeat' (split at h)
 all_goals first
  |(cases h;done)
  |(simp only[Ae] at h;obtain⟨_,_,h⟩:=h;cases h;done)
theorem aAh{P:Program}{g:bF}{mu:Bool}{o:Oper}{x':Arg}(h:OY P g mu o=some (.EP x')):∃x,o.op=.next x false/\bJ g x=some x':=by
 unfold OY at h;split at h
 case h_29=>
  rename_i x s ho;split at h
  . rename_i y hy;cases h;exact⟨x,ho,hy⟩
  cases h
 all_goals exfalso
 all_goals (try unfold qE at h)
 all_goals (try unfold jT at h)
 all_goals (try unfold mQ at h)
 all_goals (try unfold nZ at h)
 all_goals (try unfold qF at h)
 all_goals (try unfold gY at h)
 all_goals repeat' (split at h)
 all_goals first
  |(cases h;done)
  |(simp only[Ae] at h;obtain⟨_,_,h⟩:=h;cases h;done)
theorem mq{P:Program}{g:bF}{mu:Bool}{o:Oper}{x':Arg}(h:OY P g mu o=some (.yR x')):∃x,o.op=.entry x/\bJ g x=some x':=by
 unfold OY at h;split at h
 case h_30=>rename_i x ho;simp only[Ae] at h;obtain⟨y,hy,he⟩:=h;cases he;exact⟨x,ho,hy⟩
 all_goals exfalso
 all_goals (try unfold qE at h)
 all_goals (try unfold jT at h)
 all_goals (try unfold mQ at h)
 all_goals (try unfold nZ at h)
 all_goals (try unfold qF at h)
 all_goals (try unfold gY at h)
 all_goals repeat' (split at h)
 all_goals first
  |(cases h;done)
  |(simp only[Ae] at h;obtain⟨_,_,h⟩:=h;cases h;done)
theorem ZU{G:Gh}{w:World}{id:Nat}{u:Value}(h:VR G w (.map id) u):∃l,G.loc id=some l/\u=.map (some l.cV):=by
 cases h with
 |map _ l hl=>exact⟨l,hl,rfl⟩
theorem aEa{G:Gh}{w:World}{id off:Nat}{u:Value}(h:VR G w (.ref id off) u):∃l,G.loc id=some l/\u=.pointer (some ⟨l.cV,l.base+off,none⟩):=by
 cases h with
 |ref _ _ l hl=>exact⟨l,hl,rfl⟩
theorem GY{α:Type}{a:Array α}{i:Nat}{x:α}(h:a[i]?=some x):a.setIfInBounds i x=a:=by
 apply Array.ext_getElem?;intro j;rw[Gc];split
 . rename_i uU;subst uU;rw[if_pos (Cg.1 h).1,h]
 rfl
theorem WR.fresh{g:bF}{G:Gh}{H:aA}{w:World}(hw:WR g G H w):G.loc H.next=none:=by
 cases hl:G.loc H.next with
 |none=>rfl
 |some l'=>exact absurd (hw.lt _ _ hl) (Ew _)
theorem Zt{P:Program}{g:bF}{G:Gh}{H:aA}{w:World}(hw:WR g G H w){m:Nat}{es:List (AV×AV)}{u:Value}(hg:H.get m=some (.map es))(hu:VR G w (.map m) u)
 {t k v:TypeId} (ht:P.underlying t=some (.map k v)):∃bs c mb u' w' G',bs.length=es.length/\bs.Nodup/\(Instr.range t u).run P w=.ok u' w'/\
   WR g G' ((H.set m (.sO es bs c mb)).alloc (.iter m mb c [])) w'/\Ext G H w G' ((H.set m (.sO es bs c mb)).alloc (.iter m mb c [])) w'/\VR G' w' (.ref H.next 0) u':=by
 obtain⟨l,hl,rfl⟩:=ZU hu;obtain⟨Qg,Ur,ents,clock,h1,h2,h3,h4⟩:=hw.iG _ _ _ hl hg rfl;have hlen:(ents.toList.map (·.born)).length=es.length:=by simpa using h2
 have RH:(ents.toList.map (·.born)).Nodup:=by rw[List.Nodup,Gk];intro i j hi hj uU he;simp only[Ai,Cz] at hi hj;simp only[Dv,Array.getElem_toList] at he;have :=h3.2 i j hi hj (by rw[Bs,Bs,Eg hi,Eg hj];exact he);omega
 have dT:∀b∈ents.toList.map (·.born),b<clock:=by
  intro b hb;simp only[Bm] at hb;obtain⟨x,hx,rfl⟩:=hb;obtain⟨i,hi,rfl⟩:=Dt hx;have pB:i<ents.size:=by simpa using hi
  have :=h3.1 i pB;rw[Bs,Eg pB] at this;simpa using this
 refine⟨ents.toList.map (·.born),clock,l.cV,.pointer (some ⟨w.heap.size,0,none⟩),w.alloc (.mapIter (some l.cV) clock #[] clock),G.dW H.next ⟨w.heap.size,0,0,1⟩,hlen,RH,?_,?_⟩
 . simp[Instr.range,underlying,program,ht,getObj,newObj,Sem.run,h1,Result.andThen]
 obtain⟨q1,q2⟩:=hw.GX (o':=.sO es (ents.toList.map (·.born)) clock l.cV) (x:=.map ents clock) (w':=w) hl hg rfl rfl (GY h1).symm .now
  (fun _ xA=>⟨rfl,RH,dT,ents,xA,rfl,hlen,h4⟩)
 have m1:=q1.DM (H':=(H.set m (.sO es (ents.toList.map (·.born)) clock l.cV)).alloc (.iter m l.cV clock [])) H.next (.iter m l.cV clock []) (.mapIter (some l.cV) clock #[] clock) rfl q1.fresh (aA.aI _ _) (Hg _) (Fm _) (w':=w.alloc (.mapIter (some l.cV) clock #[] clock)) ⟨rfl,.now⟩
  (fun hm=>⟨by show(w.heap.push _)[w.heap.size]?=_;simp,hm _ _ (.map m l hl)⟩)
 exact⟨m1.rel,m1.ext q2 (Ag _),.ref H.next 0 ⟨w.heap.size,0,0,1⟩ (by show(if H.next=H.next then some (⟨w.heap.size,0,0,1⟩:Loc) else _)=_;simp)⟩
theorem qj{P:Program}{g:bF}{G:Gh}{H:aA}{w:World}(hw:WR g G H w){it m mb c:Nat}{seen bs:List Nat}{es:List (AV×AV)}{u:Value}(LV:H.get it=some (.iter m mb c seen))(hgm:H.get m=some (.sO es bs c mb))
 (hu:VR G w (.ref it 0) u) (ty:TypeId):
 ((∀b∈bs,b∈seen)/\(Instr.next u false ty).run P w=.ok (.tuple #[.bool false]) w)\/
 ∃j u' w' G',j<bs.length/\bs.getD j 0∉seen/\(Instr.next u false ty).run P w=.ok u' w'/\WR g G' (H.set it (.iter m mb c (seen++[bs.getD j 0]))) w'/\Ext G H w G' (H.set it (.iter m mb c (seen++[bs.getD j 0]))) w'/\
  VR G' w' (.jZ [.bool true,(es.getD j (aB,aB)).1,(es.getD j (aB,aB)).2]) u':=by
 obtain⟨li,wb,rfl⟩:=aEa hu;obtain⟨Qg,Ur,hbi,hvm⟩:=hw.iG _ _ _ wb LV rfl;obtain⟨lm,hlm,hmb⟩:=ZU hvm;cases hmb;obtain⟨_,_,_,RH,dT,ents,hbm,eo,hlen,nQ⟩:=hw.iG _ _ _ hlm hgm rfl;rw[Qg];have hold:∀x∈ents.toList,x.born<c:=fun x hx=>dT _ (by rw[<-eo];exact List.mem_map_of_mem hx)
 rcases run_next_at (P:=P) w ty li.cV lm.cV c c seen.toArray ents c hbi hbm hold (Ag _) with ⟨h0,hr⟩|⟨e,he,w1,PC,hr⟩
 . refine .inl ⟨fun b hb=>?_,hr⟩;rw[<-eo] at hb;obtain⟨x,hx,rfl⟩:=Bm.1 hb;have Yu:=Array.eq_empty_of_size_eq_zero h0;unfold leftOf at Yu;rw[Array.filter_eq_empty_iff] at Yu;have :=Yu x (by simpa using hx);simpa using this
 right;unfold leftOf at he;simp only[Array.toList_filter,Fk,Cs,List.contains_toArray] at he;obtain⟨hem,hns⟩:=he;obtain⟨j,hj,hje⟩:=Dt hem;have hjs:j<ents.size:=by simpa using hj
 have hjb:j<bs.length:=by rw[<-eo];simpa using hj
 have hbj:bs.getD j 0=e.born:=by subst eo;simp[Cl,Ci,Ac hj,hje]
 have aTu:ents.getD j default=e:=by rw[Bs,Eg hjs];simpa using hje
 have aZb:w1.heap=w.heap:=by rcases PC with rfl|rfl<;>rfl
 have wZ:AK w w1:=by rcases PC with rfl|rfl<;>exact .now
 obtain⟨q1,q2⟩:=hw.GX (o':=.iter m lm.cV c (seen++[bs.getD j 0])) (x:=.mapIter (some lm.cV) c (seen.toArray.push e.born) c)
  (w':=ChangeMaps.setBlock w1 li.cV (.mapIter (some lm.cV) c (seen.toArray.push e.born) c)) wb LV rfl rfl (by show w1.heap.setIfInBounds _ _=_;rw[aZb]) ⟨wZ.os,wZ.output,wZ.tape,wZ.drawn⟩
  (fun hm xA=>⟨by rw[xA,hbj];simp,hm _ _ hvm⟩)
 obtain⟨vk,vv⟩:=nQ j A0;rw[aTu] at vk vv;refine⟨j,_,_,G,hjb,by rw[hbj];simpa using hns,hr,q1,q2,?_⟩;have ZE:∀a u,VR G w a u->VR G (ChangeMaps.setBlock w1 li.cV (.mapIter (some lm.cV) c (seen.toArray.push e.born) c)) a u:=fun a u h=>h.ext q2;refine VR.jZ _ [.bool true,e.key,e.val] rfl fun i hi=>?_
 match i,hi with
 |0,_=>exact .bool true
 |1,_=>exact ZE _ _ vk
 |2,_=>exact ZE _ _ vv
 |k+3,hi=>simp at hi;omega
theorem Yk{P:Program}{g:bF}{G:Gh}{H:aA}{w:World}(hw:WR g G H w){it m mb c j:Nat}{seen bs:List Nat}{es:List (AV×AV)}{u:Value}(LV:H.get it=some (.iter m mb c (seen++[bs.getD j 0])))
 (hgm:H.get m=some (.sO es bs c mb)) (hj:j<bs.length) (hu:VR G w (.ref it 0) u):
 ∃u',(Instr.entry u).run P w=.ok u' w/\VR G w (.jZ [(es.getD j (aB,aB)).1,(es.getD j (aB,aB)).2]) u':=by
 obtain⟨li,wb,rfl⟩:=aEa hu;obtain⟨Qg,Ur,hbi,hvm⟩:=hw.iG _ _ _ wb LV rfl;obtain⟨lm,hlm,hmb⟩:=ZU hvm;cases hmb;obtain⟨_,_,_,RH,dT,ents,hbm,eo,hlen,nQ⟩:=hw.iG _ _ _ hlm hgm rfl;rw[Qg];have hje:j<ents.toList.length:=by rw[<-eo] at hj;simpa using hj
 have hjs:j<ents.size:=by simpa using hje
 have hbj:bs.getD j 0=ents.toList[j].born:=by subst eo;simp[Cl,Ci,Ac hje]
 have aTu:ents.getD j default=ents.toList[j]:=by rw[Bs,Eg hjs];simp
 have hr:=run_entry_at (P:=P) w li.cV lm.cV c seen.toArray ents c ents.toList[j] (by rw[hbi,hbj];simp) hbm (Ah hje) (by rw[eo];exact RH);obtain⟨vk,vv⟩:=nQ j A0;rw[aTu] at vk vv;refine⟨_,hr,VR.jZ _ [_,_] rfl fun i hi=>?_⟩
 match i,hi with
 |0,_=>exact vk
 |1,_=>exact vv
 |k+2,hi=>simp at hi;omega
theorem EZ{P:Program}{g:bF}{mu:Bool}{ro:Option Nat}{ops:Array Oper}:∀(l:List Oper) (rl:List aZ) (k:Nat),lM P g mu ops l=some rl->(∀j,(h:j<l.length)->ops[k+j]?=some l[j])->
 (ro=none\/∀r∈rl,∀f azs,r.op≠ .lN f azs)->∀(s:List AV) (ds:List fY) (G:Gh) (H:aA) (w:World) (a:Act) (Q:AQ),tF P g rl s ds H Q->WR g G H w->SR G w s a->TJ G w ds a.defers->
   wpOpsIn (Fw ro) 0 P ops (QR g G H w Q) (List.range' k l.length) a w
 |[],rl,k,hc,hl,AE,s,ds,G,H,w,a,Q,h,hw,hs,hd=>by obtain rfl:=Aa hc;exact⟨.normal,s,ds,H,G,h,hw,Ext.refl G H w,hs,hd,trivial⟩
 |o::l,rl,k,hc,hl,AE,s,ds,G,H,w,a,Q,h,hw,hs,hd=>by
  unfold lM at hc;split at hc
  . rename_i r rs hr hrs;obtain rfl:=Aa hc
    have ho:ops[k]?=some o:=hl 0 A2
    have nB:∀j,(h:j<l.length)->ops[k+1+j]?=some l[j]:=fun j hj=>by have :=hl (j+1) Zas;simpa [show k+(j+1)=k+1+j by omega] using this
    obtain⟨DW,tP,_⟩:=FP hr;have fw:=Qa hr hs
    have next:∀{v:AV} {u:Value} {H1:aA} {w1:World} {G1:Gh} {pI:List fY} {a1:Act},tF P g rs (mT s r.dst v) pI H1 Q->WR g G1 H1 w1->Ext G H w G1 H1 w1->VR G1 w1 v u->SR G w s a1->TJ G1 w1 pI a1.defers->
     wpOpsIn (Fw ro) 0 P ops (QR g G H w Q) (List.range' (k+1) l.length) (a1.put o.dst u) w1:=by
     intro v u H1 w1 G1 pI a1 hA PC he hv hs1 ot;have BL:=(hs1.ext he).put r.dst hv;rw[DW] at BL hA
     have hdp:TJ G1 w1 pI (a1.put o.dst u).defers:=by cases o.dst<;>exact ot
     have :=EZ l rs (k+1) hrs nB (AE.imp id fun h x hx=>h x (Aw _ hx)) _ pI G1 H1 w1 _ Q hA PC BL hdp;exact KL (fun _ _ _=>QR.trans he) _ _ _ this
    simp only[As,List.range'_succ];rw[wpOpsIn_cons];unfold wpOpIn;simp only[ho];rw[fw];unfold tF at h;by_cases RN:bN s r=true
    . rw[if_pos RN] at h ⊢;split at h
      . rename_i f azs fP;obtain⟨out,H',hS,vQ⟩:=h;rw[fP] at tP;obtain⟨c,f0,e1,e2,e3,e4⟩:=VZ tP;refine Uo e1 e2 e3 e4 hw hs hS (fun v hv u w' G' lT he NP=>?_) (fun v hv u w' G' lT he NP=>?_)
        . subst hv
          exact next vQ lT he NP hs (hd.ext he)
        subst hv;exact⟨.panic v,s,ds,H',G',vQ,lT,he,hs.ext he,hd.ext he,u,rfl,NP⟩
      . rename_i x fP;obtain⟨t,v,hx,hq⟩:=h;rw[fP] at tP;obtain⟨x0,e1,e2⟩:=mr tP;have vx:=bG hw hs e2;rw[hx] at vx;generalize eA:a.eval x0=u at vx
        have iX:∀q,u=.iface t q->(execOp a.eval o).run P w=.halt (.panic u) w:=fun q hq=>by subst hq;simp[execOp,e1,eA,Instr.panic,goPanic]
        have vx':=vx;refine⟨fun _ _=>trivial,?_⟩;rw[show o.semAt (Fw ro).round a.eval=execOp a.eval o from Oper.semAt_eq _ _ _ fun c' h=>by rw[e1] at h;cases h]
        cases vx with
        |iface _ _ q hqv=>rw[iX q rfl];exact⟨.panic (.iface t v),s,ds,H,G,hq,hw,Ext.refl G H w,hs,hd,_,rfl,vx'⟩
      . rename_i f azs fP;obtain⟨p,hp,hA⟩:=h;rw[fP] at tP;obtain⟨c,f0,e1,e2,e3,e4⟩:=mm tP;obtain⟨us,bs,hfv,h1,h2⟩:=FL hp (bG hw hs e3);have IS:=tK hw hs e4
        have iX:(execOp a.eval o).run P w=.ok (.defer {target:=.fn (.func p.1) bs.toArray,args:=us.toArray++c.args.map a.eval}) w:=by simp only[execOp,e1,Sem.run_bind,xQ e2 hfv,Result.andThen_ok,Sem.run_pure]
        have bJa:ro=none:=AE.resolve_right fun h=>h r A2 _ _ fP;subst bJa;refine⟨fun _ _=>trivial,?_⟩;rw[show o.semAt (Fw none).round a.eval=execOp a.eval o from rfl,iX]
        exact next hA hw (Ext.refl G H w) (VR.nL G w) (a1:={a with defers:={target:=.fn (.func p.1) bs.toArray,args:=us.toArray++c.args.map a.eval}::a.defers}) hs
         ⟨⟨bs,rfl,by simpa using(h1.append IS).append h2⟩,hd⟩
      . rename_i x fP;obtain⟨m,es,hx,hg,hA⟩:=h;rw[fP] at tP;obtain⟨t,x0,kt,vt,e1,e2,e3⟩:=mv tP;have vx:=bG hw hs e2;rw[hx] at vx;obtain⟨bs,c,mb,u',w',G',h1,h2,hr,q1,q2,q3⟩:=Zt (P:=P) hw hg vx e3;refine⟨fun _ _=>trivial,?_⟩;rw[show o.semAt (Fw ro).round a.eval=execOp a.eval o from Oper.semAt_eq _ _ _ fun c' h=>by rw[e1] at h;cases h];rw[show(execOp a.eval o).run P w=.ok (.value u') w' by simp[execOp,e1,hr]]
        exact next (hA _ _ _ h1 h2) q1 q2 q3 hs (hd.ext q2)
      . rename_i x fP;obtain⟨it,m,mb,c,seen,es,bs,hx,LV,hgm,wW,fA⟩:=h;rw[fP] at tP;obtain⟨x0,e1,e2⟩:=aAh tP;have vx:=bG hw hs e2;rw[hx] at vx;refine⟨fun _ _=>trivial,?_⟩;rw[show o.semAt (Fw ro).round a.eval=execOp a.eval o from Oper.semAt_eq _ _ _ fun c' h=>by rw[e1] at h;cases h]
        rcases qj (P:=P) hw LV hgm vx o.type with ⟨h1,hr⟩|⟨j,u',w',G',h1,h2,hr,q1,q2,q3⟩
        . rw[show(execOp a.eval o).run P w=.ok (.value (.tuple #[.bool false])) w by simp[execOp,e1,hr]]
          exact next (wW h1) hw (Ext.refl G H w) (VR.jZ [.bool false] [.bool false] rfl fun i hi=>by
           obtain rfl:i=0:=by simp at hi;exact hi
           exact .bool false) hs hd
        rw[show(execOp a.eval o).run P w=.ok (.value u') w' by simp[execOp,e1,hr]]
        exact next (fA j h1 h2) q1 q2 q3 hs (hd.ext q2)
      . rename_i x fP;obtain⟨it,m,mb,c,seen,es,bs,j,hx,LV,hgm,hj,hA⟩:=h;rw[fP] at tP;obtain⟨x0,e1,e2⟩:=mq tP;have vx:=bG hw hs e2;rw[hx] at vx;obtain⟨u',hr,hv⟩:=Yk (P:=P) hw LV hgm hj vx;refine⟨fun _ _=>trivial,?_⟩;rw[show o.semAt (Fw ro).round a.eval=execOp a.eval o from Oper.semAt_eq _ _ _ fun c' h=>by rw[e1] at h;cases h];rw[show(execOp a.eval o).run P w=.ok (.value u') w by simp[execOp,e1,hr]]
        exact next hA hw (Ext.refl G H w) hv hs hd
      rename_i n1 n2 n3 n4 n5 n6;obtain⟨v,H',hA,hn⟩:=h
      have DY:r.op.plain=true:=by cases Oy:r.op<;>first|rfl|exact absurd Oy (n1 _ _)|exact absurd Oy (n2 _)|exact absurd Oy (n3 _ _)|exact absurd Oy (n4 _)|exact absurd Oy (n5 _)|exact absurd Oy (n6 _)
      refine Qb (YW tP DY) (yE tP n3) hw hs hA (fun u w' G' lT he hv=>?_)
      exact next hn lT he hv hs (hd.ext he)
    rw[if_neg RN] at h ⊢;exact⟨fun _ _=>trivial,next h hw (Ext.refl G H w) (VR.nL G w) hs hd⟩
  cases hc
def dY.pJ:dY->Bool
 |.store _ _ _|.append _ _ _ _ _|.copy _ _ _|.clr _ _ _|.PX _ _ _ _|.call _ _=>true
 |_=>false
def dY.reads:dY->Bool
 |.load _ _ _|.EW _ _ _ _ _ _|.EI _|.lookup _ _ _ _ _=>true
 |_=>false
def BN:AV->Option Nat
 |.ref id _=>some id
 |.sl id _ _ _ _=>some id
 |.map id=>some id
 |_=>none
def dY.cZ(ev:Arg->AV):dY->Option Nat
 |.load _ _ a=>BN (ev a)
 |.EW _ _ x _ _ _=>BN (ev x)
 |.EI x=>BN (ev x)
 |.lookup _ _ _ x _=>BN (ev x)
 |_=>none
def Arg.tmps:Arg->List Nat
 |.tmp t=>[t]
 |_=>[]
def dY.args:dY->List Arg
 |.Lu x|.box x|.Pf x|.un _ x|.OX _ x|.CJ x|.EI x|.ai _ x|.ZX _ x|.Yn _ x|.bd _ _ _ x|.Ym x _|.lens x|.WQ x|.load _ _ x|.panic x|.clr _ _ x=>[x]
 |.pick a b c=>[a,b,c]
 |.alloc _|.zT=>[]
 |.build _ ps=>ps.map (·.2.2)
 |.Pb _ xs=>xs
 |.store _ a x=>[a,x]
 |.bin _ x y|.eqb _ x y|.eqf _ _ x y|.eqn _ _ _ x y=>[x,y]
 |.ZW _ a b=>a++b
 |.jM _ _ _ l c=>[l,c]
 |.QM x l h=>x::(l.toList++h.toList)
 |.al _ x l h m|.EW _ _ x l h m=>x::(l.toList++(h.toList++m.toList))
 |.UB _ _ x i|.idx _ _ _ x i|.idxs x i|.WW x i|.WY x i=>[x,i]
 |.append _ _ _ x y|.copy _ x y=>[x,y]
 |.lookup _ _ _ x i=>[x,i]
 |.PX _ m k v=>[m,k,v]
 |.call f azs|.lN f azs=>f::azs
 |.vR x|.EP x|.yR x=>[x]
theorem iY{ev ev':Arg->AV}{x:Option Arg}(h:∀y∈x.toList,ev y=ev' y):dV ev x=dV ev' x:=by
 cases x with
 |none=>rfl
 |some y=>simp[dV,h y A2]
theorem MY{ev ev':Arg->AV}:∀(ps:List (Nat×Nat×Arg)) (cs:List AV),(∀y∈ps.map (·.2.2),ev y=ev' y)->IG ev cs ps=IG ev' cs ps
 |[],cs,h=>rfl
 |(o,n,x)::r,cs,h=>by
  have hx:=h x A2;simp only[IG,hx];split
  . exact MY r _ (fun y hy=>h y (by simp at hy ⊢;exact .inr hy))
  rfl
theorem PR{ev ev':Arg->AV}(sz:Nat):∀(xs:List Arg),(∀y∈xs,ev y=ev' y)->Lr ev sz xs=Lr ev' sz xs
 |[],h=>rfl
 |x::r,h=>by have hx:=h x A2;simp only[Lr,hx,PR sz r (fun y hy=>h y (by simp[hy]))]
theorem sY{ev ev':Arg->AV}{r:dY}(h:∀y∈r.args,ev y=ev' y):yH ev r=yH ev' r:=by
 cases r<;>simp only[yH]<;>first
  |rfl
  |(have h1:=h _ (Bc);simp only[dY.args] at h;simp only[h1])
  |skip
 case jM sz b z l c=>have h2:=h c A2;rw[h2]
theorem lj{ev ev':Arg->AV}{r:dY}(H:aA)(h:∀y∈r.args,ev y=ev' y):dE ev H r=dE ev' H r:=by
 have hm:∀l:List Arg,(∀y∈l,y∈r.args)->l.map ev=l.map ev':=fun l hl=>El fun y hy=>h y (hl y hy)
 cases r with
 |build z ps=>simp only[dE];rw[MY ps z h]
 |Pb sz xs=>simp only[dE];rw[PR sz xs h]
 |ZW fn a b=>simp only[dE];rw[hm a (fun y hy=>by simp[dY.args,hy]),hm b (fun y hy=>by simp[dY.args,hy])]
 |QM x l hh=>have h1:=h x Zab;have h2:dV ev l=dV ev' l:=iY fun y hy=>h y (by simp only[dY.args,Am,Aq];exact .inr (.inl hy));have h3:dV ev hh=dV ev' hh:=iY fun y hy=>h y (by simp only[dY.args,Am,Aq];exact .inr (.inr hy));simp only[dE,h1,h2,h3]
 |al sz x l hh m=>have h1:=h x Zab;have h2:dV ev l=dV ev' l:=iY fun y hy=>h y (by simp only[dY.args,Am,Aq];exact .inr (.inl hy));have h3:dV ev hh=dV ev' hh:=iY fun y hy=>h y (by simp only[dY.args,Am,Aq];exact .inr (.inr (.inl hy)));have h4:dV ev m=dV ev' m:=iY fun y hy=>h y (by simp only[dY.args,Am,Aq];exact .inr (.inr (.inr hy)));simp only[dE,h1,h2,h3,h4]
 |EW n sz x l hh m=>have h1:=h x Zab;have h2:dV ev l=dV ev' l:=iY fun y hy=>h y (by simp only[dY.args,Am,Aq];exact .inr (.inl hy));have h3:dV ev hh=dV ev' hh:=iY fun y hy=>h y (by simp only[dY.args,Am,Aq];exact .inr (.inr (.inl hy)));have h4:dV ev m=dV ev' m:=iY fun y hy=>h y (by simp only[dY.args,Am,Aq];exact .inr (.inr (.inr hy)));simp only[dE,h1,h2,h3,h4]
 |alloc z=>simp only[dE,sY (r:=.alloc z) h]
 |box x=>simp only[dE,sY (r:=.box x) h]
 |zT=>simp only[dE,sY (r:=.zT) h]
 |jM a b c d e=>simp only[dE,sY (r:=.jM a b c d e) h]
 |CJ x=>simp only[dE,sY (r:=.CJ x) h]
 |pick a b c=>have h1:=h a Zab;have h2:=h b Zab;have h3:=h c Zab;simp only[dE,h1,h2,h3]
 |PX k m i v=>have h1:=h m Zab;have h2:=h i Zab;have h3:=h v Zab;simp only[dE,h1,h2,h3]
 |call f azs=>rfl
 |lN f azs=>rfl
 |panic x=>rfl
 |vR x=>rfl
 |EP x=>rfl
 |yR x=>rfl
 |store n a b=>have h1:=h a Zab;have h2:=h b Zab;simp only[dE,h1,h2]
 |bin op a b=>have h1:=h a Zab;have h2:=h b Zab;simp only[dE,h1,h2]
 |eqb op a b=>have h1:=h a Zab;have h2:=h b Zab;simp only[dE,h1,h2]
 |eqf op s a b=>have h1:=h a Zab;have h2:=h b Zab;simp only[dE,h1,h2]
 |eqn op k l a b=>have h1:=h a Zab;have h2:=h b Zab;simp only[dE,h1,h2]
 |UB n sz a b=>have h1:=h a Zab;have h2:=h b Zab;simp only[dE,h1,h2]
 |idx n sz g a b=>have h1:=h a Zab;have h2:=h b Zab;simp only[dE,h1,h2]
 |idxs a b=>have h1:=h a Zab;have h2:=h b Zab;simp only[dE,h1,h2]
 |append s b m x y=>have h1:=h x Zab;have h2:=h y Zab;simp only[dE,h1,h2]
 |copy s x y=>have h1:=h x Zab;have h2:=h y Zab;simp only[dE,h1,h2]
 |lookup k z ok x y=>have h1:=h x Zab;have h2:=h y Zab;simp only[dE,h1,h2]
 |Lu x=>have h1:=h x Zab;simp only[dE,h1]
 |WW x y=>have h1:=h x Zab;have h2:=h y Zab;simp only[dE,h1,h2]
 |WY x y=>have h1:=h x Zab;have h2:=h y Zab;simp only[dE,h1,h2]
 |clr n z x=>have h1:=h x Zab;simp only[dE,h1]
 |Pf x=>have h1:=h x Zab;simp only[dE,h1]
 |un o x=>have h1:=h x Zab;simp only[dE,h1]
 |OX k x=>have h1:=h x Zab;simp only[dE,h1]
 |EI x=>have h1:=h x Zab;simp only[dE,h1]
 |ai n x=>have h1:=h x Zab;simp only[dE,h1]
 |ZX t x=>have h1:=h x Zab;simp only[dE,h1]
 |Yn n x=>have h1:=h x Zab;simp only[dE,h1]
 |bd t ok z x=>have h1:=h x Zab;simp only[dE,h1]
 |Ym x i=>have h1:=h x Zab;simp only[dE,h1]
 |lens x=>have h1:=h x Zab;simp only[dE,h1]
 |WQ x=>have h1:=h x Zab;simp only[dE,h1]
 |load g n x=>have h1:=h x Zab;simp only[dE,h1]
theorem LC{ev:Arg->AV}{r:dY}(he:r.pJ=false)(hf:r.fresh=false){H H1:aA}{v:AV}{H':aA}(h:dE ev H r=some (v,H'))
 (hr:∀id,r.cZ ev=some id->H1.get id=H.get id):H'=H/\dE ev H1 r=some (v,H1):=by
 have hca:∀{id:Nat},H1.get id=H.get id->H1.eG id=H.eG id:=fun hh=>by simp[aA.eG,hh]
 cases r<;>first
  |(cases he;done)
  |(cases hf;done)
  |skip
 case load agg n a=>
  simp only[dE] at h ⊢;simp only[dY.cZ] at hr;split at h
  . rename_i id off hid;have :=hca (hr id (by rw[hid];rfl));simp only[this];split at h
    . split at h
      . split at h
        . exact ZaR
        split at h
        . exact ZaR
        cases h
      cases h
    cases h
  . rename_i cs hid;split at h
    . split at h
      . exact ZaR
      split at h
      . exact ZaR
      cases h
    cases h
  cases h
 case EW n sz x lo hi mx=>
  simp only[dE] at h ⊢;simp only[dY.cZ] at hr;split at h
  . simp only[Ae,Af] at h ⊢;obtain⟨v',h,rfl,rfl⟩:=h;refine⟨rfl,v',?_,by simp⟩;unfold iT at h ⊢;simp only at h ⊢;split at h
    . rename_i hc;rw[if_pos hc];split at h
      . rename_i id o hid;have :=hca (hr id (by rw[hid];rfl));simp only[this];exact h
      . exact h
      cases h
    cases h
  cases h
 case EI x=>
  simp only[dE] at h ⊢;simp only[dY.cZ] at hr
  have Xl:dI H1 1 (ev x)=dI H 1 (ev x):=by cases hx:ev x<;>simp only[dI];rename_i id sz off len cap;have :=hca (hr id (by rw[hx];rfl));simp only[this]
  split at h
  . cases h
  rename_i hns;rw[Xl];split at h
  . simp only[Ae,Af] at h ⊢;obtain⟨bs,h1,rfl,rfl⟩:=h;exact⟨rfl,bs,h1,by simp⟩
  cases h
 case lookup k z ok x i=>
  simp only[dE] at h ⊢;simp only[dY.cZ] at hr;split at h
  . rename_i hk;rw[if_pos hk];split at h
    . exact ZaR
    . rename_i id hid;have :=hr id (by rw[hid];rfl);simp only[this];split at h
      . split at h
        . exact ZaR
        . exact ZaR
        cases h
      cases h
    cases h
  cases h
 case WW x y=>
  simp only[dE] at h ⊢;split at h
  . rename_i h1 h2;simp only[Ab,Af] at h;obtain⟨rfl,rfl⟩:=h;exact⟨rfl,rfl⟩
  cases h
 case WY x y=>
  simp only[dE] at h ⊢;split at h
  . rename_i h1 h2;simp only[Ab,Af] at h;obtain⟨rfl,rfl⟩:=h;exact⟨rfl,rfl⟩
  cases h
 all_goals
  simp only[dE] at h ⊢
  repeat' (split at h)
  all_goals first
   |(cases h;done)
   |(simp only[Ab,Af] at h
     obtain⟨rfl,rfl⟩:=h
     exact⟨rfl,by simp_all⟩)
   |(simp only[Ae,Af] at h
     obtain⟨q,h1,rfl,rfl⟩:=h
     exact⟨rfl,by simp_all⟩)
section
def wB(r:aZ):List Nat:=r.op.args.flatMap Arg.tmps++(match r.guard with|some (d,_)=>[d]|none=>[])
def gL(rl:List aZ)(i:Nat):Nat:=(rl.take i).countP (·.op.fresh)
def DStep(P:Program)(g:bF)(pn:Bool)(id:Nat)(r:aZ)(s:List AV)(H:aA)(v:AV)(H':aA):Prop:=
 if bN s r then
  if r.op.fresh then ∃ob val,yH (Arg.eval g s) r.op=some (ob,val)/\v=val id/\H'=H.set id ob
  else match r.op with
   |.call f azs=>if pn=true then v=aB/\H'=H else ∃p,lQ (f.eval g s)=some p/\Sound P g p.1 (p.2.1++azs.map (Arg.eval g s)++p.2.2) H (.ret v) H'
   |.panic _|.lN _ _=>False
   |op=>dE (Arg.eval g s) H op=some (v,H')
 else v=aB/\H'=H
structure dH (P:Program) (g:bF) (rl:List aZ) (pj:Option Nat) (pairs:List (Nat×Nat)) (s0:List AV) (H0:aA) (Hs:Nat->aA) (ss:Nat->List AV) (vs:Nat->AV):Prop where
 s0:ss 0=s0
 h0:Hs 0={H0 with next:=H0.next+rl.countP (·.op.fresh)}
 free:∀k,k<rl.countP (·.op.fresh)->H0.get (H0.next+k)=none
 step:∀i r,rl[i]?=some r->DStep P g (pj==some i) (H0.next+gL rl i) r (ss i) (Hs i) (vs i) (Hs (i+1))/\ss (i+1)=mT (ss i) r.dst (vs i)
 mono:∀i r,rl[i]?=some r->r.op.pJ=true->(Hs i).next<=(Hs (i+1)).next
 QO:∀i e,(i,e)∈pairs->∀ri re,rl[i]?=some ri->rl[e]?=some re->bN (ss i) ri=true->bN (ss e) re=true->
  ∀id,(ri.op.cZ (Arg.eval g (ss i))=some id\/(ri.op.fresh=true/\id=H0.next+gL rl i))->(Hs e).get id=(Hs (e+1)).get id
structure pD (ops:Array Oper) (rl:List aZ) (pairs:List (Nat×Nat)) (anc:Nat->Nat->Bool):Prop where
 aMg:∀j o,ops[j]?=some o->∀e∈o.after,Region.binds .any e=true->e.on<j
 wit:∀i j,anc i j=true->∃o,ops[j]?=some o/\∃e∈o.after,Region.binds .any e=true/\(e.on=i\/anc i e.on=true)
 cmp:∀i j ri rj,i<j->rl[i]?=some ri->rl[j]?=some rj->anc i j=false->
  (ri.op.pJ=true->rj.op.pJ=false)/\(∀d,ri.dst=some d->d∉wB rj/\rj.dst≠some d)/\(∀d,rj.dst=some d->d∉wB ri)/\
  (rj.op.pJ=true->(ri.op.reads=true\/ri.op.fresh=true)->(i,j)∈pairs)/\(ri.op.pJ=true->rj.op.reads=true->(j,i)∈pairs)
 early:∀i j ri rj,i<j->rl[i]?=some ri->rl[j]?=some rj->ri.op.pJ=true->rj.op.fresh=true->(j,i)∈pairs
 lits:∀(i:Nat) (r:aZ),rl[i]?=some r->r.op.reads=true->∀v,Arg.const v∈r.op.args->BN v=none
theorem nP{r:dY}(h:r.fresh=true):r.pJ=false:=by cases r<;>first|rfl|cases h
theorem lK{r:dY}{ev:Arg->AV}{id:Nat}(h:r.cZ ev=some id):r.reads=true:=by cases r<;>first|rfl|cases h
theorem OL{ev:Arg->AV}{r:dY}{H:aA}{x:AV×aA}{id:Nat}(h:dE ev H r=some x)(hr:r.cZ ev=some id):H.get id≠none:=by
 intro hn;have hc:H.eG id=none:=by simp[aA.eG,hn]
 cases r<;>simp only[dY.cZ] at hr<;>try (cases hr;done)
 . rename_i agg n a;simp only[dE] at h
   cases ha:ev a<;>rw[ha] at hr<;>simp only[BN] at hr<;>try (cases hr;done)
   all_goals (obtain rfl:=Aa hr;simp[ha,hc] at h)
 . rename_i x;simp only[dE] at h
   cases ha:ev x<;>rw[ha] at hr<;>simp only[BN] at hr<;>try (cases hr;done)
   all_goals (obtain rfl:=Aa hr;simp[ha,dI,hc] at h)
 . rename_i n sz x lo hi mx;simp only[dE] at h;split at h
   . unfold iT at h
     cases ha:ev x<;>rw[ha] at hr<;>simp only[BN] at hr<;>try (cases hr;done)
     all_goals (obtain rfl:=Aa hr;simp[ha,hc] at h)
   cases h
 rename_i k z ok x i;simp only[dE] at h;split at h
 . cases ha:ev x<;>rw[ha] at hr<;>simp only[BN] at hr<;>try (cases hr;done)
   all_goals (obtain rfl:=Aa hr;simp[ha,hn] at h)
 cases h
section
variable {P:Program} {g:bF} {rl:List aZ} {pj:Option Nat} {pairs:List (Nat×Nat)} {s0:List AV} {H0:aA} {Hs:Nat->aA} {ss:Nat->List AV} {vs:Nat->AV}
abbrev kept(H0:aA)(rl:List aZ)(i:Nat):Nat:=H0.next+gL rl i
theorem AT{α:Type}(p:α->Bool):∀(l:List α) (i:Nat) (x:α),l[i]?=some x->p x=true->(l.take i).countP p<l.countP p
 |[],i,x,h,_=>by simp at h
 |y::l,0,x,h,hp=>by simp at h;subst h;simp[Hd,hp]
 |y::l,i+1,x,h,hp=>by have :=AT p l i x Zay hp;simp only[Ds,Hd];omega
theorem wM{α:Type}(p:α->Bool):∀(l:List α) (i j:Nat) (x:α),l[i]?=some x->p x=true->i<j->(l.take i).countP p<(l.take j).countP p
 |[],i,j,x,h,_,_=>by simp at h
 |y::l,0,j+1,x,h,hp,_=>by simp at h;subst h;simp[Hd,hp]
 |y::l,i+1,j+1,x,h,hp,uU=>by have :=wM p l i j x Zay hp A0;simp only[Ds,Hd];omega
theorem oB{i j:Nat}{ri rj:aZ}(hi:rl[i]?=some ri)(hj:rl[j]?=some rj)(fi:ri.op.fresh=true)(fj:rj.op.fresh=true)(cG:i≠j):kept H0 rl i≠kept H0 rl j:=by
 have key:∀{i j:Nat} {ri:aZ},rl[i]?=some ri->ri.op.fresh=true->i<j->gL rl i<gL rl j:=fun h f uU=>wM (fun r:aZ=>r.op.fresh) rl _ _ _ h f uU
 unfold kept
 rcases Nat.lt_or_gt_of_ne cG with h|h
 . have :=key hi fi h;omega
 have :=key hj fj h;omega
theorem gh{i:Nat}{ri:aZ}(hi:rl[i]?=some ri)(fi:ri.op.fresh=true):gL rl i<rl.countP (·.op.fresh):=
 AT (fun r:aZ=>r.op.fresh) rl i ri hi fi
theorem dH.oG(D:dH P g rl pj pairs s0 H0 Hs ss vs){i:Nat}{r:aZ}(hi:rl[i]?=some r)(hf:r.op.fresh=true)(hw:bN (ss i) r=true):
 ∃ob val,yH (Arg.eval g (ss i)) r.op=some (ob,val)/\vs i=val (kept H0 rl i)/\Hs (i+1)=(Hs i).set (kept H0 rl i) ob:=by
 have :=(D.step i r hi).1;unfold DStep at this;rw[if_pos hw,if_pos hf] at this;exact this
theorem dH.GR(D:dH P g rl pj pairs s0 H0 Hs ss vs){i:Nat}{r:aZ}(hi:rl[i]?=some r)(hf:r.op.fresh=false)(he:r.op.pJ=false):Hs (i+1)=Hs i:=by
 have :=(D.step i r hi).1;unfold DStep at this;split at this
 . rw[if_neg (by simp[hf])] at this;split at this
   . rename_i fP;rw[fP] at he;cases he
   . exact this.elim
   . exact this.elim
   exact(LC (H1:=Hs i) he hf this (fun id _=>rfl)).1
 exact this.2
theorem dH.wA(D:dH P g rl pj pairs s0 H0 Hs ss vs){i:Nat}{r:aZ}(hi:rl[i]?=some r)(hw:bN (ss i) r=false):Hs (i+1)=Hs i/\vs i=aB:=by have :=(D.step i r hi).1;unfold DStep at this;rw[if_neg (by simp[hw])] at this;exact⟨this.2,this.1⟩
theorem dH.BW{ops:Array Oper}{anc:Nat->Nat->Bool}(D:dH P g rl pj pairs s0 H0 Hs ss vs)(K:pD ops rl pairs anc){i:Nat}{r:aZ}(hi:rl[i]?=some r)(hf:r.op.fresh=true)(hw:bN (ss i) r=true):
 ∀k,k<=i->(Hs k).get (kept H0 rl i)=none:=by
 intro k
 induction k with
 |zero=>intro _;rw[D.h0];exact D.free _ (gh hi hf)
 |succ k ih=>
  intro hk;have ihk:=ih A0;have dT:=(Be.1 hi).1
  obtain⟨rk,SP⟩:∃rk,rl[k]?=some rk:=⟨rl[k]'(by omega),Ac A0⟩
  by_cases hwk:bN (ss k) rk=true
  . by_cases Xk:rk.op.pJ=true
    . rw[<-D.QO i k (K.early k i rk r A0 SP hi Xk hf) r rk hi SP hw hwk _ (.inr ⟨hf,rfl⟩)];exact ihk
    by_cases vp:rk.op.fresh=true
    . obtain⟨ob,val,_,_,h3⟩:=D.oG SP vp hwk;rw[h3,aA.aC,if_neg (oB hi SP hf vp A0)];exact ihk
    rw[D.GR SP (by simpa using vp) (by simpa using Xk)];exact ihk
  rw[(D.wA SP (by simpa using hwk)).1];exact ihk
theorem dH.rM(D:dH P g rl pj pairs s0 H0 Hs ss vs){id:Nat}{p q:Nat}(hq:q<=rl.length)
 (aTv:∀e r,p<=e->e<q->rl[e]?=some r->r.op.pJ=true->bN (ss e) r=true->(Hs e).get id=(Hs (e+1)).get id)
 (yB:∀i r,p<=i->i<q->rl[i]?=some r->r.op.fresh=true->bN (ss i) r=true->id≠kept H0 rl i):
 ∀k,p<=k->k<=q->(Hs k).get id=(Hs p).get id:=by
 intro k
 induction k with
 |zero=>intro h1 _;obtain rfl:p=0:=A0;rfl
 |succ k ih=>
  intro h1 h2;by_cases hp:p=k+1
  . rw[hp]
  rw[<-ih A0 A0]
  obtain⟨rk,SP⟩:∃rk,rl[k]?=some rk:=⟨rl[k]'(by omega),Ac A0⟩
  by_cases hwk:bN (ss k) rk=true
  . by_cases Xk:rk.op.pJ=true
    . exact(aTv k rk A0 A0 SP Xk hwk).symm
    by_cases vp:rk.op.fresh=true
    . obtain⟨ob,val,_,_,h3⟩:=D.oG SP vp hwk;rw[h3,aA.aC,if_neg (yB k rk A0 A0 SP vp hwk)]
    rw[D.GR SP (by simpa using vp) (by simpa using Xk)]
  rw[(D.wA SP (by simpa using hwk)).1]
theorem dH.Su(D:dH P g rl pj pairs s0 H0 Hs ss vs){p q:Nat}(hq:q<=rl.length)(aTv:∀e r,p<=e->e<q->rl[e]?=some r->r.op.pJ=false):
 ∀k,p<=k->k<=q->(Hs k).next=(Hs p).next:=by
 intro k
 induction k with
 |zero=>intro h1 _;obtain rfl:p=0:=A0;rfl
 |succ k ih=>
  intro h1 h2;by_cases hp:p=k+1
  . rw[hp]
  rw[<-ih A0 A0]
  obtain⟨rk,SP⟩:∃rk,rl[k]?=some rk:=⟨rl[k]'(by omega),Ac A0⟩
  have Xk:=aTv k rk A0 A0 SP;by_cases hwk:bN (ss k) rk=true
  . by_cases vp:rk.op.fresh=true
    . obtain⟨ob,val,_,_,h3⟩:=D.oG SP vp hwk;rw[h3];rfl
    rw[D.GR SP (by simpa using vp) Xk]
  rw[(D.wA SP (by simpa using hwk)).1]
theorem dH.xL(D:dH P g rl pj pairs s0 H0 Hs ss vs){p:Nat}:∀k,p<=k->k<=rl.length->(Hs p).next<=(Hs k).next:=by
 intro k
 induction k with
 |zero=>intro h1 _;obtain rfl:p=0:=A0;exact Ag _
 |succ k ih=>
  intro h1 h2;by_cases hp:p=k+1
  . rw[hp];exact Ag _
  refine By (ih A0 A0) ?_
  obtain⟨rk,SP⟩:∃rk,rl[k]?=some rk:=⟨rl[k]'(by omega),Ac A0⟩
  by_cases Xk:rk.op.pJ=true
  . exact D.mono k rk SP Xk
  have :=D.Su (p:=k) (q:=k+1) h2 (fun e r h3 h4 h5=>by
   obtain rfl:e=k:=by omega
   rw[SP] at h5;cases h5
   simpa using Xk) (k+1) A0 (Ag _)
  omega
def writes(rl:List aZ)(s0:List AV)(t i:Nat):Bool:=
 match rl[i]? with
 |some r=>r.dst==some t&&decide (t<s0.length)
 |none=>false
def tR(S:Nat->Bool)(rl:List aZ)(s0:List AV)(vs:Nat->AV)(t:Nat):Nat->AV
 |0=>s0.getD t aB
 |i+1=>if(S i&&writes rl s0 t i)=true then vs i else tR S rl s0 vs t i
theorem SE(s:List AV)(dst:Option Nat)(v:AV)(t:Nat):(mT s dst v).getD t aB=if dst=some t/\t<s.length then v else s.getD t aB:=by
 cases dst with
 |none=>simp[mT]
 |some d=>
  simp only[mT,Ab];rw[getD_eq,getD_eq,Hw];by_cases hd:d=t
  . subst hd;by_cases hl:d<s.length
    . simp[hl]
    simp[hl]
  simp[hd]
theorem Mn(s:List AV)(dst:Option Nat)(v:AV):(mT s dst v).length=s.length:=by cases dst<;>simp[mT]
theorem dH.xD(D:dH P g rl pj pairs s0 H0 Hs ss vs):∀j,j<=rl.length->(ss j).length=s0.length:=by
 intro j
 induction j with
 |zero=>intro _;rw[D.s0]
 |succ j ih=>
  intro hj
  obtain⟨r,hr⟩:∃r,rl[j]?=some r:=⟨rl[j]'(by omega),Ac A0⟩
  rw[(D.step j r hr).2,Mn,ih A0]
theorem dH.KF(D:dH P g rl pj pairs s0 H0 Hs ss vs)(t:Nat):∀j,j<=rl.length->(ss j).getD t aB=tR (fun _=>true) rl s0 vs t j:=by
 intro j
 induction j with
 |zero=>intro _;rw[D.s0];rfl
 |succ j ih=>
  intro hj
  obtain⟨r,hr⟩:∃r,rl[j]?=some r:=⟨rl[j]'(by omega),Ac A0⟩
  rw[(D.step j r hr).2,SE,D.xD j A0,ih A0];simp only[tR,writes,hr,Ct,Ak,Dh,Bf]
end
end
section
def dK(listed:Array Bool)(i:Nat):Bool:=listed.getD i false
structure oX (P:Program) (g:bF) (ops:Array Oper) (rl:List aZ) (pairs:List (Nat×Nat)) (anc:Nat->Nat->Bool) (s0:List AV) (H0:aA) (Hs:Nat->aA) (ss:Nat->List AV) (vs:Nat->AV)
 (G0:Gh) (w0:World) (dl:List Deferred) (listed:Array Bool) (p:Nat) (G:Gh) (HS:aA) (w:World) (a:Act) (sS:List AV):Prop where
 size:listed.size=rl.length
 closed:∀i j,dK listed j=true->anc i j=true->dK listed i=true
 ple:p<=rl.length
 pos:∀i r,rl[i]?=some r->r.op.pJ=true->(dK listed i=true↔i<p)
 rel:WR g G HS w
 sH:HS.next=(Hs p).next
 nh:∀i r,rl[i]?=some r->r.op.fresh=true->(∃l,G.loc (kept H0 rl i)=some l)->dK listed i=true/\bN (ss i) r=true
 cont:∀id l,G.loc id=some l->
  (∃i r,rl[i]?=some r/\r.op.fresh=true/\dK listed i=true/\bN (ss i) r=true/\p<=i/\id=kept H0 rl i/\HS.get id=(Hs (i+1)).get id)\/
  ((∀i r,p<=i->rl[i]?=some r->r.op.fresh=true->bN (ss i) r=true->id≠kept H0 rl i)/\HS.get id=(Hs p).get id)
 aHz:∀i r,p<=i->rl[i]?=some r->r.op.fresh=true->dK listed i=true->bN (ss i) r=true->∀l,G.loc (kept H0 rl i)=some l->
  ∀kS l',kS≠kept H0 rl i->G.loc kS=some l'->HS.live kS->l'.cV≠l.cV
 ext:Ext G0 H0 w0 G HS w
 vC:SR G w sS a
 last:∀t,sS.getD t aB=tR (dK listed) rl s0 vs t rl.length
 len:sS.length=s0.length
 dfr:a.defers=dl
section
variable {P:Program} {g:bF} {ops:Array Oper} {rl:List aZ} {pj:Option Nat} {pairs:List (Nat×Nat)} {anc:Nat->Nat->Bool} {s0:List AV} {H0:aA} {Hs:Nat->aA} {ss:Nat->List AV} {vs:Nat->AV}
variable {G0:Gh} {w0:World} {dl:List Deferred} {listed:Array Bool} {p:Nat} {G:Gh} {HS:aA} {w:World} {a:Act} {sS:List AV}
theorem rH{S S':Nat->Bool}{t:Nat}:∀m,(∀i,i<m->(S i&&writes rl s0 t i)=(S' i&&writes rl s0 t i))->tR S rl s0 vs t m=tR S' rl s0 vs t m
 |0,_=>rfl
 |m+1,h=>by simp only[tR];rw[h m A0,rH m (fun i hi=>h i A0)]
theorem yP{S:Nat->Bool}{t k:Nat}:∀m,k<=m->(∀i,k<=i->i<m->(S i&&writes rl s0 t i)=false)->tR S rl s0 vs t m=tR S rl s0 vs t k
 |0,hk,_=>by obtain rfl:k=0:=A0;rfl
 |m+1,hk,h=>by
  by_cases he:k=m+1
  . rw[he]
  simp only[tR];rw[h m A0 A0];simp only[Au,Ca];exact yP m A0 (fun i h1 h2=>h i h1 A0)
theorem CP{t i:Nat}(h:writes rl s0 t i=true):∃r,rl[i]?=some r/\r.dst=some t/\t<s0.length:=by
 unfold writes at h;split at h
 . rename_i r hr;simp only[Ak,Dh,Bf] at h;exact⟨r,hr,h.1,h.2⟩
 cases h
structure Xc (ops:Array Oper) (listed:Array Bool) (j:Nat):Prop where
 lt:j<ops.size
 not:dK listed j=false
 bGn:∀o,ops[j]?=some o->∀e∈o.after,Region.binds .any e=true->dK listed e.on=true
variable (I:oX P g ops rl pairs anc s0 H0 Hs ss vs G0 w0 dl listed p G HS w a sS) (D:dH P g rl pj pairs s0 H0 Hs ss vs) (K:pD ops rl pairs anc)
include I K
theorem oX.wK{j:Nat}(hj:Xc ops listed j){i:Nat}(h:anc i j=true):dK listed i=true:=by
 obtain⟨o,ho,e,he,hb,hc⟩:=K.wit i j h;have hd:=hj.bGn o ho e he hb
 rcases hc with rfl|hc
 . exact hd
 exact I.closed _ _ hd hc
theorem oX.bGi{j:Nat}{r:aZ}(hj:Xc ops listed j)(hr:rl[j]?=some r){t:Nat}(ht:t∈wB r)(D:dH P g rl pj pairs s0 H0 Hs ss vs):sS.getD t aB=(ss j).getD t aB:=by
 have dT:=(Be.1 hr).1;rw[I.last t,D.KF t j A0];rw[yP (k:=j) rl.length A0 (fun i h1 h2=>?_)]
 . refine rH j (fun i hi=>?_);by_cases hw:writes rl s0 t i=true
   . obtain⟨ri,wc,hd,_⟩:=CP hw
     have :anc i j=true:=by
      cases hc:anc i j with
      |true=>rfl
      |false=>exact absurd ht ((K.cmp i j ri r hi wc hr hc).2.1 t hd).1
     rw[I.wK K hj this]
   simp[hw]
 cases hs:dK listed i with
 |false=>rfl
 |true=>
  cases hw:writes rl s0 t i with
  |false=>rfl
  |true=>
   obtain⟨ri,wc,hd,_⟩:=CP hw;have cG:i≠j:=fun he=>by rw[he,hj.not] at hs;cases hs
   have :anc j i=true:=by
    cases hc:anc j i with
    |true=>rfl
    |false=>exact absurd ht ((K.cmp j i r ri A0 hr wc hc).2.2.1 t hd)
   have :=I.closed j i hs this;rw[hj.not] at this;cases this
theorem oX.eval_eq{j:Nat}{r:aZ}(hj:Xc ops listed j)(hr:rl[j]?=some r)(D:dH P g rl pj pairs s0 H0 Hs ss vs):∀y∈r.op.args,Arg.eval g sS y=Arg.eval g (ss j) y:=by
 intro y hy
 cases y with
 |tmp t=>
  have :t∈wB r:=by unfold wB;refine Aq.2 (.inl (Ek.2 ⟨_,hy,?_⟩));simp[Arg.tmps]
  exact I.bGi K hj hr this D
 |const v=>rfl
 |iW n=>rfl
theorem oX.uz{j:Nat}{r:aZ}(hj:Xc ops listed j)(hr:rl[j]?=some r)(D:dH P g rl pj pairs s0 H0 Hs ss vs):bN sS r=bN (ss j) r:=by
 unfold bN;split
 . rfl
 rename_i d b hg;rw[I.bGi K hj hr (t:=d) (by unfold wB;rw[hg];simp) D]
theorem Rn{listed:Array Bool}{j:Nat}(hj:j<listed.size)(i:Nat):dK (listed.setIfInBounds j true) i=if i=j then true else dK listed i:=by
 unfold dK;rw[Bs,Bs,Gc];by_cases h:j=i
 . subst h;simp[hj]
 rw[if_neg h,if_neg (Ne.symm h)]
theorem oX.Pg{j:Nat}{r:aZ}(hj:Xc ops listed j)(hr:rl[j]?=some r)(he:r.op.pJ=true):p<=j/\∀e re,p<=e->e<j->rl[e]?=some re->re.op.pJ=false:=by
 have fm:p<=j:=by refine Iz fun dT=>?_;have :=(I.pos j r hr he).2 dT;rw[hj.not] at this;cases this
 refine⟨fm,fun e re h1 h2 hre=>?_⟩
 cases Mg:re.op.pJ with
 |false=>rfl
 |true=>
  have :anc e j=true:=by
   cases hc:anc e j with
   |true=>rfl
   |false=>have :=(K.cmp e j re r h2 hre hr hc).1 Mg;rw[he] at this;cases this
  have :=(I.pos e re hre Mg).1 (I.wK K hj this);omega
theorem oX.next{j:Nat}{r:aZ}(hj:Xc ops listed j)(hr:rl[j]?=some r){p':Nat}{G':Gh}{HS':aA}{w':World}{u:Value}(hp':p'=if r.op.pJ=true then j+1 else p)
 (aXd:WR g G' HS' w') (bLc:HS'.next=(Hs p').next)
 (aYd:∀i r',rl[i]?=some r'->r'.op.fresh=true->(∃l,G'.loc (kept H0 rl i)=some l)->(i=j\/dK listed i=true)/\bN (ss i) r'=true)
 (aXz:∀id l,G'.loc id=some l->
   (∃i r,rl[i]?=some r/\r.op.fresh=true/\(i=j\/dK listed i=true)/\bN (ss i) r=true/\p'<=i/\id=kept H0 rl i/\HS'.get id=(Hs (i+1)).get id)\/
   ((∀i r,p'<=i->rl[i]?=some r->r.op.fresh=true->bN (ss i) r=true->id≠kept H0 rl i)/\HS'.get id=(Hs p').get id))
 (aYf:∀i r,p'<=i->rl[i]?=some r->r.op.fresh=true->(i=j\/dK listed i=true)->bN (ss i) r=true->∀l,G'.loc (kept H0 rl i)=some l->
   ∀kS l',kS≠kept H0 rl i->G'.loc kS=some l'->HS'.live kS->l'.cV≠l.cV)
 (ext':Ext G0 H0 w0 G' HS' w') (hv:VR G' w' (vs j) u) (BL:SR G' w' sS a):
 oX P g ops rl pairs anc s0 H0 Hs ss vs G0 w0 dl (listed.setIfInBounds j true) p' G' HS' w' (a.put r.dst u) (mT sS r.dst (vs j)):=by
 have dT:=(Be.1 hr).1
 have EA:∀i,dK (listed.setIfInBounds j true) i=if i=j then true else dK listed i:=Rn I K (by rw[I.size];exact dT)
 have SN:∀i,(i=j\/dK listed i=true)↔dK (listed.setIfInBounds j true) i=true:=fun i=>by rw[EA];by_cases hi:i=j<;>simp[hi]
 refine⟨by simp[I.size],fun i k h1 h2=>?_,?_,fun i ri wc hei=>?_,aXd,bLc,fun i r' h1 h2 h3=>?_,fun id l hl=>?_,fun i r' h1 h2 h3 h4 h5=>?_,ext',BL.put r.dst hv,fun t=>?_,?_,?_⟩
 . rw[<-SN] at h1 ⊢
   rcases h1 with rfl|h1
   . exact .inr (I.wK K hj h2)
   exact .inr (I.closed i k h1 h2)
 . rw[hp'];split
   . omega
   exact I.ple
 . rw[<-SN];by_cases he:r.op.pJ=true
   . rw[hp',if_pos he];obtain⟨h1,h2⟩:=I.Pg K hj hr he;constructor
     . rintro(rfl|h)
       . omega
       have :=(I.pos i ri wc hei).1 h;omega
     intro h;by_cases hi:i=j
     . exact .inl hi
     refine .inr ((I.pos i ri wc hei).2 (Nat.lt_of_not_le fun hle=>?_));have :=h2 i ri hle A0 wc;rw[hei] at this;cases this
   rw[hp',if_neg he];rw[<-I.pos i ri wc hei];constructor
   . rintro(rfl|h)
     . rw[hr] at wc;cases wc;exact absurd hei he
     exact h
   exact .inr
 . have :=aYd i r' h1 h2 h3;exact⟨(SN i).1 this.1,this.2⟩
 . rcases aXz id l hl with ⟨i,ri,c1,c2,c3,c4⟩|h
   . exact .inl ⟨i,ri,c1,c2,(SN i).1 c3,c4⟩
   exact .inr h
 . exact aYf i r' h1 h2 h3 ((SN i).2 h4) h5
 . rw[SE,I.len,I.last t];by_cases hw:r.dst=some t/\t<s0.length
   . rw[if_pos hw];have hwr:writes rl s0 t j=true:=(by simp[writes,hr,hw]);rw[yP (k:=j+1) rl.length A0 (fun i h1 h2=>?_)]
     . simp only[tR,EA j,if_true,hwr,Du]
     rw[EA,if_neg A0]
     cases hs:dK listed i with
     |false=>rfl
     |true=>
      cases hwi:writes rl s0 t i with
      |false=>rfl
      |true=>
       obtain⟨ri,wc,hd,_⟩:=CP hwi
       have :anc j i=true:=by
        cases hc:anc j i with
        |true=>rfl
        |false=>exact absurd hd ((K.cmp j i r ri A0 hr wc hc).2.1 t hw.1).2
       have :=I.closed j i hs this;rw[hj.not] at this;cases this
   rw[if_neg hw];refine rH rl.length (fun i hi=>?_);rw[EA];by_cases uU:i=j
   . subst uU
     have :writes rl s0 t i=false:=by simp only[writes,hr];simpa using hw
     rw[this];simp
   rw[if_neg uU]
 . rw[Mn,I.len]
 cases r.dst<;>exact I.dfr
end
end
section
theorem vX{r:dY}(h:r.reads=true):r.pJ=false:=by cases r<;>first|rfl|cases h
theorem zV{r:dY}(h:r.reads=true):r.fresh=false:=by cases r<;>first|rfl|cases h
theorem aBv{G:Gh}{w:World}{v:AV}{u:Value}{id:Nat}(h:BN v=some id)(hv:VR G w v u):∃l,G.loc id=some l:=by
 cases hv<;>simp only[BN] at h<;>first
  |(cases h;done)
  |(obtain rfl:=Aa h;exact⟨_,by assumption⟩)
theorem Wt{ev:Arg->AV}{r:dY}{id:Nat}(h:r.cZ ev=some id):∃y∈r.args,BN (ev y)=some id:=by
 cases r<;>simp only[dY.cZ] at h<;>first
  |(cases h;done)
  |exact⟨_,by simp[dY.args],h⟩
theorem RP{ev ev':Arg->AV}{r:dY}(h:∀y∈r.args,ev y=ev' y):r.cZ ev=r.cZ ev':=by
 cases r<;>simp only[dY.cZ]<;>first
  |rfl
  |rw[h _ Zab]
theorem Vp{ev:Arg->AV}{r:dY}{ob:eY}{val:Nat->AV}(h:yH ev r=some (ob,val)):ob.live=true:=by
 cases r<;>simp only[yH] at h<;>first
  |(cases h;done)
  |(obtain⟨rfl,rfl⟩:=Prod.mk.inj (Aa h);rfl)
  |(repeat' (split at h)
    all_goals first
     |(cases h;done)
     |(obtain⟨rfl,rfl⟩:=Prod.mk.inj (Aa h);rfl))
section
variable {P:Program} {g:bF} {ops:Array Oper} {rl:List aZ} {pj:Option Nat} {pairs:List (Nat×Nat)} {anc:Nat->Nat->Bool} {s0:List AV} {H0:aA} {Hs:Nat->aA} {ss:Nat->List AV} {vs:Nat->AV}
variable {G0:Gh} {w0:World} {dl:List Deferred} {listed:Array Bool} {p:Nat} {G:Gh} {HS:aA} {w:World} {a:Act} {sS:List AV}
variable (I:oX P g ops rl pairs anc s0 H0 Hs ss vs G0 w0 dl listed p G HS w a sS) (D:dH P g rl pj pairs s0 H0 Hs ss vs) (K:pD ops rl pairs anc)
include I K D
theorem oX.im{j e:Nat}(hj:Xc ops listed j)(he:dK listed e=true):anc j e=false:=by
 cases hc:anc j e with
 |false=>rfl
 |true=>have :=I.closed j e he hc;rw[hj.not] at this;cases this
theorem oX.We{j e:Nat}(hj:Xc ops listed j)(he:dK listed e=false):anc e j=false:=by
 cases hc:anc e j with
 |false=>rfl
 |true=>have :=I.wK K hj hc;rw[he] at this;cases this
theorem oX.aFh{e:Nat}{re:aZ}(hre:rl[e]?=some re)(Mg:re.op.pJ=true)(h:p<=e):dK listed e=false:=by
 cases hs:dK listed e with
 |false=>rfl
 |true=>have :=(I.pos e re hre Mg).1 hs;omega
theorem oX.sx{j:Nat}{r:aZ}(hj:Xc ops listed j)(hr:rl[j]?=some r)(hw:bN (ss j) r=true){id:Nat}(hid:r.op.cZ (Arg.eval g (ss j))=some id){l:Loc}(hl:G.loc id=some l)
 (aBs:(Hs j).get id≠none):HS.get id=(Hs j).get id:=by
 have hrd:=lK hid;have dT:=(Be.1 hr).1
 rcases I.cont id l hl with ⟨i,ri,h1,h2,h3,h4,h5,rfl,h7⟩|⟨h1,h2⟩
 . have cG:i≠j:=fun he=>by rw[he,hj.not] at h3;cases h3
   by_cases uU:i<j
   . rw[h7];refine(D.rM (p:=i+1) (q:=j) A0 (fun e re q1 q2 q3 q4 q5=>?_) (fun k rk q1 q2 q3 q4 q5=>oB h1 q3 h2 q4 A0) j A0 (Ag _)).symm;have RH:=I.aFh D K q3 q4 A0;exact D.QO j e ((K.cmp e j re r q2 q3 hr (I.We D K hj RH)).2.2.2.2 q4 hrd) r re hr q3 hw q5 _ (.inl hid)
   exact absurd (D.BW K h1 h2 h4 j A0) aBs
 rw[h2];by_cases fm:p<=j
 . refine(D.rM (p:=p) (q:=j) A0 (fun e re q1 q2 q3 q4 q5=>?_) (fun k rk q1 q2 q3 q4 q5=>h1 k rk q1 q3 q4 q5) j fm (Ag _)).symm;have RH:=I.aFh D K q3 q4 q1;exact D.QO j e ((K.cmp e j re r q2 q3 hr (I.We D K hj RH)).2.2.2.2 q4 hrd) r re hr q3 hw q5 _ (.inl hid)
 refine D.rM (p:=j) (q:=p) I.ple (fun e re q1 q2 q3 q4 q5=>?_) (fun k rk q1 q2 q3 q4 q5 he=>?_) p A0 (Ag _)
 . have cG:e≠j:=fun he=>by
    subst he;rw[hr] at q3;cases q3;rw[vX hrd] at q4;cases q4
   have hd:=(I.pos e re q3 q4).2 q2;exact D.QO j e ((K.cmp j e r re A0 hr q3 (I.im D K hj hd)).2.2.2.1 q4 (.inl hrd)) r re hr q3 hw q5 _ (.inl hid)
 rw[he] at aBs;exact aBs (D.BW K q3 q4 q5 j q1)
theorem oX.yO{i:Nat}{ri:aZ}(hi:rl[i]?=some ri)(hf:ri.op.fresh=true){k:Nat}(hk:k<=rl.length):kept H0 rl i<(Hs k).next:=by have h1:=D.xL (p:=0) k (Bp _) hk;have h2:=gh (rl:=rl) hi hf;rw[D.h0] at h1;unfold kept;simp only at h1;omega
theorem oX.YO{j:Nat}{r:aZ}(hj:Xc ops listed j)(hr:rl[j]?=some r)(he:r.op.pJ=true):∀id l,G.loc id=some l->
 (∃i ri,rl[i]?=some ri/\ri.op.fresh=true/\dK listed i=true/\bN (ss i) ri=true/\j<i/\id=kept H0 rl i/\HS.get id=(Hs (i+1)).get id/\(Hs j).get id=none)\/
 ((∀i ri,j<=i->rl[i]?=some ri->ri.op.fresh=true->bN (ss i) ri=true->id≠kept H0 rl i)/\HS.get id=(Hs j).get id):=by
 intro id l hl;have dT:=(Be.1 hr).1;obtain⟨fm,BJ⟩:=I.Pg K hj hr he
 have noE:∀{q:Nat},p<=q->∀e re,q<=e->e<j->rl[e]?=some re->re.op.pJ=true->bN (ss e) re=true->(Hs e).get id=(Hs (e+1)).get id:=fun hq e re q1 q2 q3 q4 q5=>by have :=BJ e re A0 q2 q3;rw[q4] at this;cases this
 rcases I.cont id l hl with ⟨i,ri,h1,h2,h3,h4,h5,h6,h7⟩|⟨h1,h2⟩
 . have cG:i≠j:=fun hh=>by rw[hh,hj.not] at h3;cases h3
   by_cases uU:i<j
   . refine .inr ⟨fun k rk q1 q2 q3 q4=>?_,?_⟩
     . rw[h6];exact oB h1 q2 h2 q3 A0
     rw[h7];exact(D.rM (p:=i+1) (q:=j) A0 (noE A0) (fun k rk q1 q2 q3 q4 q5=>by rw[h6];exact oB h1 q3 h2 q4 A0) j A0 (Ag _)).symm
   exact .inl ⟨i,ri,h1,h2,h3,h4,by omega,h6,h7,by rw[h6];exact D.BW K h1 h2 h4 j A0⟩
 refine .inr ⟨fun k rk q1 q2 q3 q4=>h1 k rk A0 q2 q3 q4,?_⟩;rw[h2];exact(D.rM (p:=p) (q:=j) A0 (noE (Ag _)) (fun k rk q1 q2 q3 q4 q5=>h1 k rk q1 q3 q4 q5) j fm (Ag _)).symm
theorem oX.UW{j:Nat}{r:aZ}(hj:Xc ops listed j)(hr:rl[j]?=some r)(he:r.op.pJ=true):WR g G (Hs j) w:=by
 have hA:=I.YO D K hj hr he;have dT:=(Be.1 hr).1;obtain⟨fm,BJ⟩:=I.Pg K hj hr he
 have cS:∀{id l o},G.loc id=some l->(Hs j).get id=some o->HS.get id=some o:=fun hl ho=>by
  rcases hA _ _ hl with ⟨_,_,_,_,_,_,_,_,_,hn⟩|⟨_,h⟩
  . rw[hn] at ho;cases ho
  rw[h];exact ho
 have qA:∀{id l},G.loc id=some l->(Hs j).live id->HS.live id:=fun hl ⟨o,ho,hv⟩=>⟨o,cS hl ho,hv⟩
 exact {
  cells:=fun id l cs eB h1 h2=>I.rel.cells id l cs eB h1 (cS h1 h2)
  room:=fun id l h1 h2=>I.rel.room id l h1 (h2.imp (fun⟨cs,eB,h⟩=>⟨cs,eB,cS h1 h⟩) (fun h=>cS h1 h))
  lD:=fun id kS l l' cG h1 h2 h3 h4=>I.rel.lD id kS l l' cG h1 h2 (qA h1 h3) (qA h2 h4)
  jV:=fun id l h1 h2=>I.rel.jV id l h1 (qA h1 h2)
  iG:=fun id l o h1 h2=>I.rel.iG id l o h1 (cS h1 h2)
  lt:=fun id l h1=>by
   have :=I.rel.lt id l h1;rw[I.sH] at this
   rwa [D.Su (p:=p) (q:=j) A0 BJ j fm (Ag _)]
  iF:=I.rel.iF
  iW:=I.rel.iW
  DH:=I.rel.DH
  mo:=I.rel.mo}
theorem oX.oz(j:Nat)(H:aA):∀m,m<=rl.length->∃Hm:aA,Hm.next=H.next/\
 (∀i ri,i<m->rl[i]?=some ri->ri.op.fresh=true->dK listed i=true->bN (ss i) ri=true->j<i->Hm.get (kept H0 rl i)=(Hs (i+1)).get (kept H0 rl i))/\
 (∀id,(∀i ri,i<m->rl[i]?=some ri->ri.op.fresh=true->dK listed i=true->bN (ss i) ri=true->j<i->id≠kept H0 rl i)->Hm.get id=H.get id):=by
 intro m
 induction m with
 |zero=>exact fun _=>⟨H,rfl,fun i ri h=>absurd h (Ar i),fun id _=>rfl⟩
 |succ m ih=>
  intro hm;obtain⟨Hm,h1,h2,h3⟩:=ih A0
  obtain⟨rm,hrm⟩:∃r,rl[m]?=some r:=⟨rl[m]'(by omega),Ac A0⟩
  by_cases hc:rm.op.fresh=true/\dK listed m=true/\bN (ss m) rm=true/\j<m
  . obtain⟨c1,c2,c3,c4⟩:=hc;obtain⟨ob,val,_,_,e3⟩:=D.oG hrm c1 c3;have Tp:(Hs (m+1)).get (kept H0 rl m)=some ob:=by rw[e3,aA.aC,if_pos rfl]
    refine⟨Hm.set (kept H0 rl m) ob,h1,fun i ri q1 q2 q3 q4 q5 q6=>?_,fun id hid=>?_⟩
    . rw[aA.aC];by_cases him:i=m
      . subst him;rw[if_pos rfl,Tp]
      rw[if_neg (oB q2 hrm q3 c1 him)];exact h2 i ri A0 q2 q3 q4 q5 q6
    rw[aA.aC,if_neg (hid m rm A0 hrm c1 c2 c3 c4)];exact h3 id (fun i ri q1=>hid i ri A0)
  refine⟨Hm,h1,fun i ri q1 q2 q3 q4 q5 q6=>?_,fun id hid=>h3 id (fun i ri q1=>hid i ri A0)⟩;by_cases him:i=m
  . subst him;rw[hrm] at q2;cases q2;exact absurd ⟨q3,q4,q5,q6⟩ hc
  exact h2 i ri A0 q2 q3 q4 q5 q6
theorem oX.LB(GG:∀id l,G0.loc id=some l->id<H0.next){j:Nat}{r:aZ}(hj:Xc ops listed j)(hr:rl[j]?=some r)(he:r.op.pJ=true){G1:Gh}{w1:World}{u:Value}
 (RQ:WR g G1 (Hs (j+1)) w1) (e1:Ext G (Hs j) w G1 (Hs (j+1)) w1) (hv:VR G1 w1 (vs j) u):
 ∃kp,oX P g ops rl pairs anc s0 H0 Hs ss vs G0 w0 dl (listed.setIfInBounds j true) (j+1) G1 kp w1 (a.put r.dst u) (mT sS r.dst (vs j)):=by
 have hA:=I.YO D K hj hr he;have dT:=(Be.1 hr).1;obtain⟨fm,BJ⟩:=I.Pg K hj hr he;obtain⟨kp,n1,n2,n3⟩:=I.oz D K j (Hs (j+1)) rl.length (Ag _)
 let vG:Nat->Prop:=fun id=>∃i ri,rl[i]?=some ri/\ri.op.fresh=true/\dK listed i=true/\bN (ss i) ri=true/\j<i/\id=kept H0 rl i
 have aBl:∀id,vG id->∃i ri,rl[i]?=some ri/\ri.op.fresh=true/\dK listed i=true/\bN (ss i) ri=true/\j<i/\id=kept H0 rl i/\kp.get id=(Hs (i+1)).get id:=fun id ⟨i,ri,q1,q2,q3,q4,q5,q6⟩=>⟨i,ri,q1,q2,q3,q4,q5,q6,by rw[q6];exact n2 i ri (Be.1 q1).1 q1 q2 q3 q4 q5⟩
 have Ow:∀id,¬vG id->kp.get id=(Hs (j+1)).get id:=fun id hn=>n3 id (fun i ri q0 q1 q2 q3 q4 q5 he=>hn ⟨i,ri,q1,q2,q3,q4,q5,he⟩)
 have BR:∀{id l},vG id->G1.loc id=some l->G.loc id=some l:=fun {id l} ⟨i,ri,q1,q2,q3,q4,q5,q6⟩ BI=>by
  cases hl:G.loc id with
  |none=>have :=e1.news id l BI hl;have h2:=I.yO D K q1 q2 (k:=j) A0;rw[q6] at this;omega
  |some l'=>rw[e1.loc id l' hl] at BI;exact BI
 have JF:∀{id l},vG id->G.loc id=some l->kp.get id=HS.get id/\(Hs j).get id=none:=fun {id l} hL hl=>by
  obtain⟨i,ri,q1,q2,q3,q4,q5,q6,q7⟩:=aBl id hL
  rcases hA id l hl with ⟨i',ri',p1,p2,p3,p4,p5,p6,p7,p8⟩|⟨h1,_⟩
  . have :i=i':=by
     refine Fl fun cG=>?_;exact oB q1 p1 q2 p2 cG (q6.symm.trans p6)
    subst this;exact⟨q7.trans p7.symm,p8⟩
  exact absurd q6 (h1 i ri A0 q1 q2 q4)
 have JJ:∀{eV l0},G.loc eV=some l0->(Hs j).live eV->HS.live eV/\¬vG eV:=fun {eV l0} KN ⟨o,ho,hv⟩=>by
  rcases hA eV l0 KN with ⟨_,_,_,_,_,_,_,_,_,hn⟩|⟨h1,h2⟩
  . rw[hn] at ho;cases ho
  refine⟨⟨o,by rw[h2];exact ho,hv⟩,fun hL=>?_⟩;have :=(JF hL KN).2;rw[this] at ho;cases ho
 have WM:∀{id l},vG id->G.loc id=some l->∀kS l',kS≠id->G.loc kS=some l'->HS.live kS->l'.cV≠l.cV:=fun {id l} ⟨i,ri,q1,q2,q3,q4,q5,q6⟩ hl kS l' cG nB lB=>by rw[q6] at hl cG;exact I.aHz i ri A0 q1 q2 q3 q4 l hl kS l' cG nB lB
 have xC:∀{id l},vG id->G.loc id=some l->HS.live id:=fun {id l} hL hl=>by obtain⟨i,ri,q1,q2,q3,q4,q5,q6,q7⟩:=aBl id hL;obtain⟨ob,val,f1,_,f3⟩:=D.oG q1 q2 q4;refine⟨ob,?_,Vp f1⟩;rw[<-(JF hL hl).1,q7,q6,f3,aA.aC,if_pos rfl]
 have OO:∀{id l},vG id->G.loc id=some l->∀eV l0,G.loc eV=some l0->(Hs j).live eV->l0.cV≠l.cV:=fun hL hl eV l0 KN yL=>by obtain⟨h1,h2⟩:=JJ KN yL;exact WM hL hl eV l0 (fun he=>h2 (he▸hL)) KN h1
 have aSy:∀{id l},vG id->G.loc id=some l->∀kS l',G1.loc kS=some l'->(Hs (j+1)).live kS->l'.cV≠l.cV:=fun hL hl kS l' nB lB=>by
  have hb:=I.rel.nF hl (xC hL hl)
  rcases e1.lY kS l' nB lB with h|⟨eV,l0,h1,h2,h3⟩
  . omega
  rw[<-h3];exact OO hL hl eV l0 h1 h2
 have IU:∀{id l},vG id->G.loc id=some l->w1.heap[l.cV]?=w.heap[l.cV]?:=fun hL hl=>e1.frame _ (I.rel.nF hl (xC hL hl)) (fun eV l0 h1 h2=>OO hL hl eV l0 h1 h2)
 have DJ:∀{id},kp.live id->vG id\/(¬vG id/\(Hs (j+1)).live id):=fun {id} ⟨o,ho,hv⟩=>by
  by_cases hL:vG id
  . exact .inl hL
  exact .inr ⟨hL,o,by rw[<-Ow id hL];exact ho,hv⟩
 have Ps:∀{id l},vG id->G1.loc id=some l->∀kS l',kS≠id->G1.loc kS=some l'->kp.live kS->l'.cV≠l.cV:=fun {id l} hL BI kS l' cG nB lB=>by
  have hl:=BR hL BI
  rcases DJ lB with hL'|⟨_,lB⟩
  . exact WM hL hl kS l' cG (BR hL' nB) (xC hL' (BR hL' nB))
  exact aSy hL hl kS l' nB lB
 have hm:∀{x y},VR G w x y->VR G1 w1 x y:=fun hx=>hx.mono e1.loc e1.gM
 have aXd:WR g G1 kp w1:={
  cells:=fun id l cs eB h1 h2=>by
   by_cases hL:vG id
   . have hl:=BR hL h1;obtain⟨a1,a2,a3,a4,a5⟩:=I.rel.cells id l cs eB hl (by rw[<-(JF hL hl).1];exact h2);refine⟨a1,a2,a3,a4,fun k hk=>?_⟩;obtain⟨x,hx,hvx⟩:=a5 k hk;exact⟨x,by rw[fQ (IU hL hl)];exact hx,hm hvx⟩
   exact RQ.cells id l cs eB h1 (by rw[<-Ow id hL];exact h2)
  room:=fun id l h1 h2=>by
   by_cases hL:vG id
   . have hl:=BR hL h1;obtain⟨c,el,fz,a1,a2,a3⟩:=I.rel.room id l hl (by rw[<-(JF hL hl).1];exact h2);exact⟨c,el,fz,by rw[IU hL hl];exact a1,a2,fun k hk=>by rw[lJ (IU hL hl)];exact a3 k hk⟩
   exact RQ.room id l h1 (by rw[<-Ow id hL];exact h2)
  lD:=fun id kS l l' cG h1 h2 uB qK=>by
   by_cases hL:vG id
   . exact .inl (Ne.symm (Ps hL h1 kS l' (Ne.symm cG) h2 qK))
   by_cases hL':vG kS
   . exact .inl (Ps hL' h2 id l cG h1 uB)
   rcases DJ uB with h|⟨_,uB⟩
   . exact absurd h hL
   rcases DJ qK with h|⟨_,qK⟩
   . exact absurd h hL'
   exact RQ.lD id kS l l' cG h1 h2 uB qK
  jV:=fun id l h1 uB k hk hi=>by
   rcases DJ uB with hL|⟨_,uB⟩
   . have hl:=BR hL h1
     rcases e1.oZ _ _ hi with h|h|⟨eV,l0,q1,q2,q3⟩
     . exact I.rel.jV id l hl (xC hL hl) k hk h
     . have :=I.rel.nF hl (xC hL hl);omega
     exact OO hL hl eV l0 q1 q2 q3
   exact RQ.jV id l h1 uB k hk hi
  iG:=fun id l o h1 h2 hk=>by
   by_cases hL:vG id
   . have hl:=BR hL h1;obtain⟨a1,a2,a3⟩:=I.rel.iG id l o hl (by rw[<-(JF hL hl).1];exact h2) hk;exact⟨a1,a2,a3.mono (IU hL hl) fun _ _=>hm⟩
   exact RQ.iG id l o h1 (by rw[<-Ow id hL];exact h2) hk
  lt:=fun id l h1=>by rw[n1];exact RQ.lt id l h1
  iF:=RQ.iF
  iW:=RQ.iW
  DH:=RQ.DH
  mo:=RQ.mo}
 have ext':Ext G0 H0 w0 G1 kp w1:={
  loc:=fun id l h=>e1.loc _ _ (I.ext.loc _ _ h)
  gM:=fun b o hi=>⟨(e1.gM _ _ (I.ext.gM _ _ hi).1).1,((e1.gM _ _ (I.ext.gM _ _ hi).1).2).trans (I.ext.gM _ _ hi).2⟩
  size:=By I.ext.size e1.size
  frame:=fun b hb hn=>by
   rw[e1.frame b (Bj hb I.ext.size) (fun id l h1 h2=>?_),I.ext.frame b hb hn]
   rcases I.ext.lY id l h1 (JJ h1 h2).1 with h|⟨eV,l0,q1,q2,q3⟩
   . omega
   rw[<-q3];exact hn eV l0 q1 q2
  lY:=fun id l h1 h2=>by
   have Uw:∀{id l},G.loc id=some l->HS.live id->w0.heap.size<=l.cV\/∃eV l0,G0.loc eV=some l0/\H0.live eV/\l0.cV=l.cV:=fun h1 h2=>I.ext.lY _ _ h1 h2
   rcases DJ h2 with hL|⟨_,h2⟩
   . have hl:=BR hL h1;exact Uw hl (xC hL hl)
   rcases e1.lY id l h1 h2 with h|⟨eV,l0,q1,q2,q3⟩
   . exact .inl (By I.ext.size h)
   rw[<-q3];exact Uw q1 (JJ q1 q2).1
  oZ:=fun b o hi=>by
   rcases e1.oZ b o hi with h|h|⟨eV,l0,q1,q2,q3⟩
   . exact I.ext.oZ b o h
   . exact .inr (.inl (By I.ext.size h))
   rcases I.ext.lY eV l0 q1 (JJ q1 q2).1 with h|⟨id1,l1,p1,p2,p3⟩
   . exact .inr (.inl A0)
   exact .inr (.inr ⟨id1,l1,p1,p2,p3.trans q3⟩)
  next:=by have h1:=I.ext.next;rw[I.sH] at h1;rw[n1];exact By h1 (D.xL (p:=p) (j+1) A0 A0)
  news:=fun id l h1 h2=>by
   cases hl:G.loc id with
   |none=>have :=e1.news id l h1 hl;have h3:=I.ext.next;rw[I.sH] at h3;exact By (By h3 (D.xL (p:=p) j fm A0)) this
   |some l'=>exact I.ext.news id l' hl h2
  dead:=fun id l h1 h2=>by
   have hl:=I.ext.loc id l h1
   have hnl:¬vG id:=fun⟨i,ri,q1,q2,q3,q4,q5,q6⟩=>by have :=GG id l h1;rw[q6] at this;unfold kept at this;omega
   rcases DJ h2 with h|⟨_,h2⟩
   . exact absurd h hnl
   exact I.ext.dead id l h1 (JJ hl (e1.dead id l hl h2)).1
  mo:=e1.mo.trans I.ext.mo
  same:=I.ext.same.trans (I.ext.mo▸e1.same)}
 refine⟨kp,I.next K hj hr (p':=j+1) (by rw[if_pos he]) aXd (by rw[n1]) (fun i ri h1 h2 ⟨l,h3⟩=>?_) (fun id l BI=>?_) (fun i ri h1 h2 h3 h4 h5 l BI kS l' cG nB lB=>?_) ext' hv (I.vC.ext e1)⟩
 . have hl:∃l,G.loc (kept H0 rl i)=some l:=by
    cases hl:G.loc (kept H0 rl i) with
    |none=>have :=e1.news _ l h3 hl;have :=I.yO D K h1 h2 (k:=j) A0;omega
    |some l'=>exact⟨l',rfl⟩
   have :=I.nh i ri h1 h2 hl;exact⟨.inr this.1,this.2⟩
 . by_cases hL:vG id
   . obtain⟨i,ri,q1,q2,q3,q4,q5,q6,q7⟩:=aBl id hL;exact .inl ⟨i,ri,q1,q2,.inr q3,q4,by omega,q6,q7⟩
   refine .inr ⟨fun i ri q1 q2 q3 q4 q5=>hL ?_,Ow id hL⟩
   have hl:∃l,G.loc (kept H0 rl i)=some l:=by
    rw[q5] at BI
    cases hl:G.loc (kept H0 rl i) with
    |none=>have :=e1.news _ l BI hl;have :=I.yO D K q2 q3 (k:=j) A0;omega
    |some l'=>exact⟨l',rfl⟩
   have :=I.nh i ri q2 q3 hl;exact⟨i,ri,q2,q3,this.1,this.2,by omega,q5⟩
 have hd:dK listed i=true:=by
  rcases h4 with rfl|h4
  . omega
  exact h4
 exact Ps ⟨i,ri,h2,h3,hd,h5,by omega,rfl⟩ BI kS l' cG nB lB
end
end
section
theorem yF{P:Program}{g:bF}{mu:Bool}{ops:Array Oper}:∀(l:List Oper) (rl:List aZ),lM P g mu ops l=some rl->
 rl.length=l.length/\∀(i:Nat) (o:Oper),l[i]?=some o->∃r,rl[i]?=some r/\MT P g mu ops o=some r
 |[],rl,h=>by obtain rfl:=Aa h;exact⟨rfl,fun i o h=>by simp at h⟩
 |o::l,rl,h=>by
  unfold lM at h;split at h
  . rename_i r rs hr hrs;obtain rfl:=Aa h;obtain⟨h1,h2⟩:=yF l rs hrs;refine⟨by simp[h1],fun i o' hi=>?_⟩
    cases i with
    |zero=>simp at hi;subst hi;exact⟨r,rfl,hr⟩
    |succ i=>simpa using h2 i o' (by simpa using hi)
  cases h
theorem WR.oH{g:bF}{G:Gh}{H H':aA}{w:World}(h:WR g G H w)(hg:∀id l,G.loc id=some l->H'.get id=H.get id)(hn:H.next<=H'.next):WR g G H' w:=by
 have hl:∀{id l},G.loc id=some l->H'.live id->H.live id:=fun h1 ⟨o,h2,h3⟩=>⟨o,by rw[<-hg _ _ h1];exact h2,h3⟩
 exact {
  cells:=fun id l cs eB h1 h2=>h.cells id l cs eB h1 (by rw[<-hg _ _ h1];exact h2)
  room:=fun id l h1 h2=>h.room id l h1 (by rw[<-hg _ _ h1];exact h2)
  lD:=fun id kS l l' cG h1 h2 h3 h4=>h.lD id kS l l' cG h1 h2 (hl h1 h3) (hl h2 h4)
  jV:=fun id l h1 h2=>h.jV id l h1 (hl h1 h2)
  iG:=fun id l o h1 h2=>h.iG id l o h1 (by rw[<-hg _ _ h1];exact h2)
  lt:=fun id l h1=>Bj (h.lt id l h1) hn
  iF:=h.iF
  iW:=h.iW
  DH:=h.DH
  mo:=h.mo}
theorem Ext.oH{G G':Gh}{H H' HU:aA}{w w':World}(h:Ext G H w G' H' w')(hg:∀id l,G'.loc id=some l->HU.get id=H'.get id)(hn:H'.next<=HU.next):Ext G H w G' HU w':=by
 have hl:∀{id l},G'.loc id=some l->HU.live id->H'.live id:=fun h1 ⟨o,h2,h3⟩=>⟨o,by rw[<-hg _ _ h1];exact h2,h3⟩
 exact {h with
  lY:=fun id l h1 h2=>h.lY id l h1 (hl h1 h2)
  next:=By h.next hn
  dead:=fun id l h1 h2=>h.dead id l h1 (hl (h.loc _ _ h1) h2)}
theorem WR.drawn{g:bF}{G:Gh}{H:aA}{w:World}(h:WR g G H w)(n:Nat):WR g G H {w with drawn:=n}:=by
 have hv:∀{x y},VR G w x y->VR G {w with drawn:=n} x y:=fun hx=>hx.mono (fun _ _ h=>h) (fun _ _ h=>⟨h,rfl⟩)
 exact {
  cells:=fun id l cs eB h1 h2=>let⟨a,b,c,d,e⟩:=h.cells id l cs eB h1 h2;⟨a,b,c,d,fun j hj=>let⟨u,h3,h4⟩:=e j hj;⟨u,h3,hv h4⟩⟩
  room:=fun id l h1 h2=>h.room id l h1 h2
  lD:=h.lD
  jV:=h.jV
  iG:=fun id l o h1 h2 hk=>let⟨a,b,c⟩:=h.iG id l o h1 h2 hk;⟨a,b,c.mono rfl fun _ _=>hv⟩
  lt:=h.lt
  iF:=h.iF
  iW:=fun k cs h1=>hv (h.iW k cs h1)
  DH:=h.DH
  mo:=h.mo}
theorem Ext.drawn(G:Gh)(H:aA)(w:World)(n:Nat)(hn:w.drawn<=n):Ext G H w G H {w with drawn:=n} where
 loc:=fun _ _ h=>h
 gM:=fun _ _ h=>⟨h,rfl⟩
 size:=Ag _
 frame:=fun _ _ _=>rfl
 lY:=fun id l h hl=>.inr ⟨id,l,h,hl,rfl⟩
 oZ:=fun _ _ h=>.inl h
 next:=Ag _
 news:=fun _ _ h h'=>by rw[h] at h';cases h'
 dead:=fun _ _ _ h=>h
 mo:=rfl
 same:=AK.toB (.now (h4:=hn)) _
section
variable {P:Program} {g:bF} {mu:Bool} {ops:Array Oper} {rl:List aZ} {pj:Option Nat} {pairs:List (Nat×Nat)} {anc:Nat->Nat->Bool} {s0:List AV} {H0:aA} {Hs:Nat->aA} {ss:Nat->List AV} {vs:Nat->AV}
variable {G0:Gh} {w0:World} {dl:List Deferred} {listed:Array Bool} {p:Nat} {G:Gh} {HS:aA} {w:World} {a:Act} {sS:List AV}
theorem oX.quiet(I:oX P g ops rl pairs anc s0 H0 Hs ss vs G0 w0 dl listed p G HS w a sS)(D:dH P g rl pj pairs s0 H0 Hs ss vs)(K:pD ops rl pairs anc)
 {j:Nat} {r:aZ} (hj:Xc ops listed j) (hr:rl[j]?=some r) (he:r.op.pJ=false) (hf:r.op.fresh=true->bN (ss j) r=false) {G':Gh} {w':World} {u:Value}
 (hw:WR g G' HS w') (e:Ext G HS w G' HS w') (hv:VR G' w' (vs j) u):
 oX P g ops rl pairs anc s0 H0 Hs ss vs G0 w0 dl (listed.setIfInBounds j true) p G' HS w' (a.put r.dst u) (mT sS r.dst (vs j)):=by
 have SG:∀id l,G'.loc id=some l->G.loc id=some l:=fun id l hl=>by
  cases h:G.loc id with
  |none=>have h1:=e.news id l hl h;have h2:=hw.lt id l hl;omega
  |some l'=>rw[e.loc id l' h] at hl;exact hl
 refine I.next K hj hr (p':=p) (by simp[he]) hw I.sH (fun i r' h1 h2 h3=>?_) (fun id l hl=>?_) (fun i r' h1 h2 h3 h4 h5 l hl kS l' cG nB lB=>?_) (I.ext.trans e) hv (I.vC.ext e)
 . obtain⟨l,hl⟩:=h3;have :=I.nh i r' h1 h2 ⟨l,SG _ _ hl⟩;exact⟨.inr this.1,this.2⟩
 . rcases I.cont id l (SG _ _ hl) with ⟨i,ri,q1,q2,q3,q4⟩|h
   . exact .inl ⟨i,ri,q1,q2,.inr q3,q4⟩
   exact .inr h
 rcases h4 with rfl|h4
 . rw[hr] at h2;cases h2;rw[hf h3] at h5;cases h5
 exact I.aHz i r' h1 h2 h3 h4 h5 l (SG _ _ hl) kS l' cG (SG _ _ nB) lB
theorem oX.fresh(I:oX P g ops rl pairs anc s0 H0 Hs ss vs G0 w0 dl listed p G HS w a sS)(D:dH P g rl pj pairs s0 H0 Hs ss vs)(K:pD ops rl pairs anc)
 {j:Nat} {r:aZ} (hj:Xc ops listed j) (hr:rl[j]?=some r) (hf:r.op.fresh=true) (hwt:bN (ss j) r=true) {o:Oper} (NO:EG P g o r.op):
 ∃u w' G' HS',(execOp a.eval o).run P w=.ok (.value u) w'/\
  oX P g ops rl pairs anc s0 H0 Hs ss vs G0 w0 dl (listed.setIfInBounds j true) p G' HS' w' (a.put r.dst u) (mT sS r.dst (vs j)):=by
 have he:=nP hf;have dT:=(Be.1 hr).1;obtain⟨ob,val,f1,f2,f3⟩:=D.oG hr hf hwt
 have f1':yH (Arg.eval g sS) r.op=some (ob,val):=by rw[sY (ev':=Arg.eval g (ss j)) (fun y hy=>I.eval_eq K hj hr D y hy)];exact f1
 have fk:G.loc (kept H0 rl j)=none:=by
  cases h:G.loc (kept H0 rl j) with
  |none=>rfl
  |some l=>have :=(I.nh j r hr hf ⟨l,h⟩).1;rw[hj.not] at this;cases this
 have aUk:kept H0 rl j<HS.next:=by rw[I.sH];exact I.yO D K hr hf I.ple
 obtain⟨u,w',G',iX,M,hv⟩:=NO sS a G HS (HS.set (kept H0 rl j) ob) w ob val (kept H0 rl j) I.rel I.vC f1' fk (fun m=>by rw[aA.aC]) (Ag _) aUk;obtain⟨l0,hblk,KN,sN⟩:=M.bLa
 have hgo:∀id l,G.loc id=some l->G'.loc id=some l:=fun id l hl=>by rw[sN id (fun hh=>by rw[hh,fk] at hl;cases hl)];exact hl
 have oI:∀b q,G.gM b q->G'.gM b q/\w'.cell? ⟨b,q,none⟩=w.cell? ⟨b,q,none⟩:=fun b q hi=>by refine⟨M.bJm b q hi,fQ (M.Uw b ?_)⟩;obtain⟨v,hv⟩:=I.rel.iF b q hi;have :=rB hv;simpa using this
 have lS:∀{id},id≠kept H0 rl j->(HS.set (kept H0 rl j) ob).live id->HS.live id:=fun {id} cG ⟨x,h1,h2⟩=>⟨x,by rw[aA.aC,if_neg cG] at h1;exact h1,h2⟩;refine⟨u,w',G',HS.set (kept H0 rl j) ob,iX,?_⟩;refine I.next K hj hr (p':=p) (by simp[he]) M.rel I.sH (fun i r' h1 h2 h3=>?_) (fun id l hl=>?_) (fun i r' h1 h2 h3 h4 h5 l hl kS l' cG nB lB=>?_) (M.ext I.ext (Hz _ _)) ?_ ?_
 . obtain⟨l,hl⟩:=h3;by_cases uU:i=j
   . subst uU;rw[hr] at h1;cases h1;exact⟨.inl rfl,hwt⟩
   rw[sN _ (oB h1 hr h2 hf uU)] at hl;have :=I.nh i r' h1 h2 ⟨l,hl⟩;exact⟨.inr this.1,this.2⟩
 . by_cases hid:id=kept H0 rl j
   . subst hid;by_cases fm:p<=j
     . exact .inl ⟨j,r,hr,hf,.inl rfl,hwt,fm,rfl,by rw[f3,aA.aC,if_pos rfl,aA.aC,if_pos rfl]⟩
     refine .inr ⟨fun i ri q1 q2 q3 q4=>oB hr q2 hf q3 A0,?_⟩
     have hjp:(Hs p).get (kept H0 rl j)=(Hs (j+1)).get (kept H0 rl j):=
      D.rM (p:=j+1) (q:=p) I.ple (fun e re q1 q2 q3 q4 q5=>by
       have hd:=(I.pos e re q3 q4).2 q2
       exact D.QO j e ((K.cmp j e r re A0 hr q3 (I.im D K hj hd)).2.2.2.1 q4 (.inr hf)) r re hr q3 hwt q5 _ (.inr ⟨hf,rfl⟩)) (fun k rk q1 q2 q3 q4 q5=>oB hr q3 hf q4 A0) p A0 (Ag _)
     rw[hjp,f3,aA.aC,if_pos rfl,aA.aC,if_pos rfl]
   rw[sN id hid] at hl;have wZ:(HS.set (kept H0 rl j) ob).get id=HS.get id:=(by rw[aA.aC,if_neg hid]);rw[wZ]
   rcases I.cont id l hl with ⟨i,ri,q1,q2,q3,q4⟩|h
   . exact .inl ⟨i,ri,q1,q2,.inr q3,q4⟩
   exact .inr h
 . by_cases uU:i=j
   . subst uU;rw[KN] at hl;cases hl;rw[sN kS cG] at nB;have :=I.rel.nF nB (lS cG lB);omega
   have hki:=oB (H0:=H0) h2 hr h3 hf uU
   have hd:dK listed i=true:=by
    rcases h4 with h|h
    . exact absurd h uU
    exact h
   rw[sN _ hki] at hl;by_cases hid:kS=kept H0 rl j
   . subst hid;rw[KN] at nB;cases nB
     have wb:HS.live (kept H0 rl i):=by
      rcases I.cont _ l hl with ⟨i',ri',q1,q2,q3,q4,q5,q6,q7⟩|⟨q1,_⟩
      . have :i=i':=by
         refine Fl fun hn=>?_;exact oB h2 q1 h3 q2 hn q6
        subst this;obtain⟨ob',bMj,g1,_,g3⟩:=D.oG h2 h3 h5;refine⟨ob',?_,Vp g1⟩;rw[q7,g3,aA.aC,if_pos rfl]
      exact absurd rfl (q1 i r' h1 h2 h3 h5)
     have :=I.rel.nF hl wb;omega
   rw[sN _ hid] at nB;exact I.aHz i r' h1 h2 h3 hd h5 l hl kS l' cG nB (lS hid lB)
 . rw[f2];exact hv
 exact⟨I.vC.1,fun t ht=>(I.vC.2 t ht).mono hgo oI⟩
theorem oX.done(I:oX P g ops rl pairs anc s0 H0 Hs ss vs G0 w0 dl listed p G HS w a sS)(D:dH P g rl pj pairs s0 H0 Hs ss vs)(K:pD ops rl pairs anc)
 (fL:∀i,i<rl.length->dK listed i=true) {ds:List fY} (hd:TJ G0 w0 ds dl) {Q:AQ} (hQ:Q .normal (ss rl.length) ds (Hs rl.length)):QR g G0 H0 w0 Q .normal a w:=by
 have BJ:∀e re,p<=e->e<rl.length->rl[e]?=some re->re.op.pJ=false:=fun e re h1 h2 h3=>by
  cases Mg:re.op.pJ with
  |false=>rfl
  |true=>have :=(I.pos e re h3 Mg).1 (fL e h2);omega
 have cS:∀id l,G.loc id=some l->(Hs rl.length).get id=HS.get id:=fun id l hl=>by
  rcases I.cont id l hl with ⟨i,ri,q1,q2,q3,q4,q5,q6,q7⟩|⟨q1,q2⟩
  . have hi:=(Be.1 q1).1;rw[q7]
    exact D.rM (p:=i+1) (q:=rl.length) (Ag _) (fun e re c1 c2 c3 c4 c5=>by rw[BJ e re A0 c2 c3] at c4;cases c4)
     (fun k rk c1 c2 c3 c4 c5=>by rw[q6];exact oB q1 c3 q2 c4 A0) rl.length A0 (Ag _)
  rw[q2]
  exact D.rM (p:=p) (q:=rl.length) (Ag _) (fun e re c1 c2 c3 c4 c5=>by rw[BJ e re A0 c2 c3] at c4;cases c4)
   (fun k rk c1 c2 c3 c4 c5=>q1 k rk c1 c3 c4 c5) rl.length I.ple (Ag _)
 have BK:HS.next<=(Hs rl.length).next:=by rw[I.sH];exact D.xL rl.length I.ple (Ag _)
 have hs:sS=ss rl.length:=by
  have BI:=D.xD rl.length (Ag _);refine Gt fun t=>?_;by_cases ht:t<s0.length
  . have h1:=I.last t;rw[rH (S':=fun _=>true) rl.length (fun i hi=>by rw[fL i hi]),<-D.KF t rl.length (Ag _)] at h1;have e1:t<sS.length:=by rw[I.len];exact ht
    have e2:t<(ss rl.length).length:=(by rw[BI];exact ht);rw[Ac e1,Ac e2];simpa [getD_eq,Ac e1,Ac e2] using h1
  rw[Bt (by rw[I.len];omega),Bt (by rw[BI];omega)]
 refine⟨.normal,ss rl.length,ds,Hs rl.length,G,hQ,I.rel.oH cS BK,I.ext.oH cS BK,?_,?_,trivial⟩
 . rw[<-hs];exact I.vC
 rw[I.dfr];exact hd.ext I.ext
theorem MA{i:Nat}(hs:listed.size=ops.size):i∈Region.ready .any ops listed↔Xc ops listed i:=by
 have cS:∀k,k<ops.size->listed.getD k true=dK listed k:=fun k hk=>by unfold dK;simp[Bs,hs,hk]
 unfold Region.ready;simp only[Fk,Az,Ak,Cs];constructor
 . rintro⟨h1,h2,h3⟩;refine⟨h1,by rw[<-cS i h1];exact h2,fun o ho e he hb=>?_⟩;rw[ho] at h3;simp only[Cf,Bl] at h3
   have h4:(!Region.binds .any e||listed.getD e.on false)=true:=by rw[Array.all_eq_true_iff_forall_mem] at h3;exact h3 e he
   rw[hb] at h4;simpa [dK] using h4
 rintro⟨h1,h2,h3⟩;refine⟨h1,by rw[cS i h1];exact h2,?_⟩
 obtain⟨o,ho⟩:∃o,ops[i]?=some o:=⟨ops[i],by simp[h1]⟩
 rw[ho];simp only[Cf,Bl];rw[Array.all_eq_true_iff_forall_mem];intro e he
 cases hb:Region.binds .any e with
 |false=>rfl
 |true=>have :=h3 o ho e he hb;simpa [dK] using this
theorem Ph(hs:listed.size=ops.size)(K:pD ops rl pairs anc)(h:Region.ready .any ops listed=[]):∀i,i<ops.size->dK listed i=true:=by
 intro i
 induction i using Nat.strongRecOn with
 |_ i ih=>
  intro hi
  cases hd:dK listed i with
  |true=>rfl
  |false=>
   have :i∈Region.ready .any ops listed:=(MA hs).2 ⟨hi,hd,fun o ho e he hb=>by
    have h1:=K.aMg i o ho e he hb
    exact ih e.on h1 A0⟩
   rw[h] at this;cases this
def todo(listed:Array Bool)(n:Nat):Nat:=(List.range n).countP fun i=> !dK listed i
theorem ID{p q:Nat->Bool}:∀(l:List Nat) (j:Nat),j∈l->(∀i∈l,q i=true->p i=true)->p j=true->q j=false->l.countP q<l.countP p
 |[],j,h,_,_,_=>by cases h
 |x::l,j,h,hpq,hp,hq=>by
  have hle:l.countP q<=l.countP p:=List.countP_mono_left fun i hi=>hpq i (Aw _ hi);rw[Hd,Hd]
  rcases Am.1 h with rfl|h
  . simp only[hp,hq,if_true];simp;omega
  have :=ID l j h (fun i hi=>hpq i (Aw _ hi)) hp hq
  have h2:(if q x=true then 1 else 0)<=(if p x=true then 1 else 0):=by
   by_cases hqx:q x=true
   . simp[hqx,hpq x Bc hqx]
   simp[hqx]
  omega
theorem aFe{j n:Nat}(hj:dK listed j=false)(dT:j<n)(hs:listed.size=n):todo (listed.setIfInBounds j true) n<todo listed n:=by
 have EA:∀i,dK (listed.setIfInBounds j true) i=if i=j then true else dK listed i:=fun i=>by
  unfold dK;rw[Bs,Bs,Gc];by_cases h:j=i
  . subst h;simp[hs,dT]
  rw[if_neg h,if_neg (Ne.symm h)]
 refine ID _ j (Az.2 dT) (fun i _ h=>?_) (by simp[hj]) (by simp[EA]);rw[EA] at h;by_cases uU:i=j
 . rw[uU,hj];rfl
 rw[if_neg uU] at h;exact h
theorem Ext.pre{G G':Gh}{H H1 H':aA}{w w':World}(h:Ext G H1 w G' H' w')(hl:∀id l,G.loc id=some l->H1.live id->H.live id)(hn:H.next<=H1.next):Ext G H w G' H' w':=
 {h with
  frame:=fun b hb hf=>h.frame b hb fun id l q1 q2=>hf id l q1 (hl id l q1 q2)
  lY:=fun id l q1 q2=>(h.lY id l q1 q2).imp (fun x=>x) fun⟨a,b,c,d,e⟩=>⟨a,b,c,hl _ _ c d,e⟩
  oZ:=fun b o q=>(h.oZ b o q).imp (fun x=>x) fun q=>q.imp (fun x=>x) fun⟨a,b,c,d,e⟩=>⟨a,b,c,hl _ _ c d,e⟩
  next:=By hn h.next
  news:=fun id l q1 q2=>By hn (h.news id l q1 q2)
  dead:=fun id l q1 q2=>hl _ _ q1 (h.dead id l q1 q2)}
theorem GK{S:Nat->Bool}{t:Nat}(ht:∀(i:Nat) (q:aZ),rl[i]?=some q->q.dst≠some t):∀m,tR S rl s0 vs t m=s0.getD t aB
 |0=>rfl
 |m+1=>by
  have hw:writes rl s0 t m=false:=by
   unfold writes;split
   . rename_i q hq;have :=ht m q hq;simp[this]
   rfl
  simp only[tR,hw,Bool.and_false,Au,Ca];exact GK ht m
theorem dH.XJ(D:dH P g rl pj pairs s0 H0 Hs ss vs){t:Nat}(ht:∀(i:Nat) (q:aZ),rl[i]?=some q->q.dst≠some t){j:Nat}(hj:j<=rl.length):(ss j).getD t aB=s0.getD t aB:=by rw[D.KF t j hj,GK ht]
def aLz(P:Program)(g:bF)(rl:List aZ)(anc:Nat->Nat->Bool)(Hs:Nat->aA)(ss:Nat->List AV)(E:AV->List AV->aA->Prop)(j:Nat):Prop:=
 (∀k,k<rl.length->k<j->anc k j=true)/\
 ∃r f azs p x H1,rl[j]?=some r/\r.op=.call f azs/\bN (ss j) r=true/\lQ (f.eval g (ss j))=some p/\
  Sound P g p.1 (p.2.1++azs.map (Arg.eval g (ss j))++p.2.2) (Hs j) (.JU x) H1/\∀s',s'.length=(ss j).length->(∀t,(∀(i:Nat) (q:aZ),rl[i]?=some q->q.dst≠some t)->s'.getD t aB=(ss j).getD t aB)->((∀k,k<rl.length->j<k->anc j k=true)->s'=ss j)->E x s' H1
theorem oX.aEr(I:oX P g ops rl pairs anc s0 H0 Hs ss vs G0 w0 dl listed p G HS w a sS)(D:dH P g rl pj pairs s0 H0 Hs ss vs)(K:pD ops rl pairs anc)
 {j:Nat} (hj:Xc ops listed j) (dT:j<rl.length) (hc:∀k,k<rl.length->(k<j->anc k j=true)/\(j<k->anc j k=true)):sS=ss j:=by
 have h1:∀k,k<j->dK listed k=true:=fun k hk=>I.wK K hj ((hc k A0).1 hk)
 have h2:∀k,j<=k->k<rl.length->dK listed k=false:=fun k hk AB=>by
  by_cases he:k=j
  . rw[he];exact hj.not
  cases hd:dK listed k with
  |false=>rfl
  |true=>have :=I.closed j k hd ((hc k AB).2 A0);rw[hj.not] at this;cases this
 have BI:=D.xD j A0;refine Gt fun t=>?_;by_cases ht:t<s0.length
 . have h3:=I.last t;rw[yP (k:=j) rl.length A0 (fun i q1 q2=>by rw[h2 i q1 q2];rfl),rH (S':=fun _=>true) j (fun i hi=>by rw[h1 i hi]),<-D.KF t j A0] at h3;have e1:t<sS.length:=by rw[I.len];exact ht
   have e2:t<(ss j).length:=(by rw[BI];exact ht);rw[Ac e1,Ac e2];simpa [getD_eq,Ac e1,Ac e2] using h3
 rw[Bt (by rw[I.len];omega),Bt (by rw[BI];omega)]
theorem Yi{ro:Option Nat}{rl0:List aZ}(hc:lM P g mu ops ops.toList=some rl0)(KN:rl0.length=rl.length)(RI:∀i r,rl0[i]?=some r->(∀j,pj=some j->anc j i=false)->rl[i]?=some r)(D:dH P g rl pj pairs s0 H0 Hs ss vs)(K:pD ops rl pairs anc)(GG:∀id l,G0.loc id=some l->id<H0.next)
 {ds:List fY} (hd:TJ G0 w0 ds dl) {Q:AQ} (hQ:pj=none->Q .normal (ss rl.length) ds (Hs rl.length)) (hP:∀j,pj=some j->aLz P g rl anc Hs ss (fun x s H=>Q (.panic x) s ds H) j):
 ∀(fuel:Nat) (listed:Array Bool) (p:Nat) (G:Gh) (HS:aA) (w:World) (a:Act) (sS:List AV),todo listed rl.length<=fuel->
  oX P g ops rl pairs anc s0 H0 Hs ss vs G0 w0 dl listed p G HS w a sS->(∀k,pj=some k->dK listed k=false)->wpAnyIn (Fw ro) 0 P .any ops (QR g G0 H0 w0 Q) fuel listed a w:=by
 obtain⟨hlen,cS⟩:=yF _ _ hc;have lF:rl.length=ops.size:=by rw[<-KN];simpa using hlen
 have hnn:∀{listed:Array Bool},(∀i,i<rl.length->dK listed i=true)->(∀k,pj=some k->dK listed k=false)->pj=none:=fun {listed} h1 h2=>by
  cases fm:pj with
  |none=>rfl
  |some k=>obtain⟨_,r,_,_,_,_,_,e1,_⟩:=hP k fm;have :=h1 k (Be.1 e1).1;rw[h2 k fm] at this;cases this
 intro fuel
 induction fuel with
 |zero=>
  intro listed p G HS w a sS ht I hnp
  have fL:∀i,i<rl.length->dK listed i=true:=fun i hi=>by have h0:todo listed rl.length=0:=A0;unfold todo at h0;rw[List.countP_eq_zero] at h0;have :=h0 i (Az.2 hi);simpa using this
  refine⟨?_,I.done D K fL hd (hQ (hnn fL hnp))⟩;refine Fp.2 fun i hi=>?_;have :=(MA (by rw[I.size,lF])).1 hi;have h2:=fL i (by rw[lF];exact this.lt);rw[this.not] at h2;cases h2
 |succ fuel ih=>
  intro listed p G HS w a sS ht I hnp;have WD:listed.size=ops.size:=by rw[I.size,lF]
  refine⟨fun hn=>I.done D K (fun i hi=>Ph WD K hn i A0) hd (hQ (hnn (fun i hi=>Ph WD K hn i A0) hnp)),fun j hjr=>?_⟩;have hj:=(MA WD).1 hjr
  obtain⟨o,ho⟩:∃o,ops[j]?=some o:=⟨ops[j]'hj.lt,by simp[hj.lt]⟩
  obtain⟨r,hr',hco⟩:=cS j o (by simpa using ho)
  have hr:rl[j]?=some r:=RI j r hr' fun k hk=>by
   cases hd:anc k j with
   |false=>rfl
   |true=>have :=I.wK K hj hd;rw[hnp k hk] at this;cases this
  obtain⟨DW,tP,_⟩:=FP hco;have RG:j<rl.length:=by rw[lF];exact hj.lt
  have SQ:todo (listed.setIfInBounds j true) rl.length<=fuel:=by have :=aFe (n:=rl.length) hj.not RG I.size;omega
  have aIq:pj≠some j->∀k,pj=some k->dK (listed.setIfInBounds j true) k=false:=fun cG k hk=>by rw[Rn I K (by rw[I.size];exact RG),if_neg (fun he=>cG (by rw[hk,he]))];exact hnp k hk
  have EL:pj=some j->(∃f azs,r.op=.call f azs)/\bN (ss j) r=true:=fun h=>by obtain⟨_,r',f,azs,_,_,_,e1,e2,e3,_⟩:=hP j h;rw[hr] at e1;cases e1;exact⟨⟨f,azs,e2⟩,e3⟩
  have fw:=Qa hco I.vC;rw[I.uz K hj hr D] at fw;have fA:=(D.step j r hr).1;unfold wpOpIn;simp only[ho];rw[fw];unfold DStep at fA;by_cases RN:bN (ss j) r=true
  . rw[if_pos RN] at fA ⊢;by_cases hf:r.op.fresh=true
    . obtain⟨u,w',G',HS',iX,I'⟩:=I.fresh D K hj hr hf RN (aHk tP hf);refine⟨fun _ _=>trivial,?_⟩;rw[show o.semAt (Fw ro).round a.eval=execOp a.eval o from Oper.semAt_eq _ _ _ (yE tP fun f azs e=>by rw[e] at hf;cases hf),iX];rw[DW] at I'
      exact ih _ _ _ _ _ _ _ SQ I' (aIq fun h=>by
       obtain⟨⟨f,azs,e⟩,_⟩:=EL h;rw[e] at hf
       cases hf)
    rw[if_neg hf] at fA;have hf':r.op.fresh=false:=(by simpa using hf);split at fA
    . rename_i f azs fP;have he:r.op.pJ=true:=(by rw[fP];rfl);have hev:=I.eval_eq K hj hr D;rw[fP] at tP hev;obtain⟨c,f0,e1,e2,e3,e4⟩:=VZ tP;have hfe:f.eval g sS=f.eval g (ss j):=hev f Zab;have hae:azs.map (Arg.eval g sS)=azs.map (Arg.eval g (ss j)):=El fun y hy=>hev y (by simp[dY.args,hy]);by_cases hpn:pj=some j
      . obtain⟨hcc,r',f',lk,q,x,H1,b1,b2,b3,b4,hS,hq⟩:=hP j hpn;rw[hr] at b1;cases b1;rw[fP] at b2;cases b2;refine Uo e1 e2 e3 e4 (I.UW D K hj hr he) I.vC (by rw[hfe,hae];exact .inl ⟨q,b4,hS⟩) (fun v hv=>by cases hv) (fun v hv u w' G' lT Mg NP=>?_);cases hv;have hs:(∀k,k<rl.length->j<k->anc j k=true)->sS=ss j:=fun h=>I.aEr D K hj RG fun k hk=>⟨hcc k hk,h k hk⟩;have hq:=hq sS (by rw[I.len,D.xD j A0]) (fun t ht=>by rw[I.last t,GK ht,D.XJ ht A0]) hs
        have ex:=I.ext.trans (Mg.pre (fun id l h1 h2=>by
         rcases I.YO D K hj hr he id l h1 with ⟨_,_,_,_,_,_,_,_,_,hn⟩|⟨_,h⟩
         . obtain⟨o,ho,_⟩:=h2;rw[hn] at ho;cases ho
         obtain⟨o,ho,hv⟩:=h2;exact⟨o,h.trans ho,hv⟩) (by rw[I.sH];exact D.xL j (I.Pg K hj hr he).1 A0))
        exact⟨.panic x,sS,ds,H1,G',hq,lT,ex,I.vC.ext Mg,by rw[I.dfr];exact hd.ext ex,u,rfl,NP⟩
      rw[if_neg (by simpa using hpn)] at fA;obtain⟨q,hq,hS⟩:=fA;refine Uo e1 e2 e3 e4 (I.UW D K hj hr he) I.vC (by rw[hfe,hae];exact .inl ⟨q,hq,hS⟩) (fun v hv u w' G' lT Mg NP=>?_) (fun v hv=>by cases hv);cases hv;obtain⟨kp,I'⟩:=I.LB D K GG hj hr he lT Mg NP;rw[DW] at I';exact ih _ _ _ _ _ _ _ SQ I' (aIq hpn)
    . exact fA.elim
    . exact fA.elim
    rename_i n1 n2 n3;have cG:=aIq fun h=>by obtain⟨⟨f,azs,e⟩,_⟩:=EL h;exact n1 f azs e
    have DY:r.op.plain=true:=by cases Oy:r.op<;>first|rfl|exact absurd Oy (n1 _ _)|exact absurd Oy (n2 _)|exact absurd Oy (n3 _ _)|(rw[Oy] at fA;cases fA)
    have aZq:dE (Arg.eval g sS) (Hs j) r.op=some (vs j,Hs (j+1)):=by rw[lj (Hs j) (ev':=Arg.eval g (ss j)) (fun y hy=>I.eval_eq K hj hr D y hy)];exact fA
    by_cases he:r.op.pJ=true
    . refine Qb (YW tP DY) (yE tP n3) (I.UW D K hj hr he) I.vC aZq (fun u w' G' lT Mg NP=>?_);obtain⟨kp,I'⟩:=I.LB D K GG hj hr he lT Mg NP;rw[DW] at I';exact ih _ _ _ _ _ _ _ SQ I' cG
    have wX:r.op.pJ=false:=by simpa using he
    have hq:=LC (H1:=HS) wX hf' aZq (fun id hid=>by
     have GF:r.op.cZ (Arg.eval g (ss j))=some id:=by rw[<-RP (ev:=Arg.eval g sS) (fun y hy=>I.eval_eq K hj hr D y hy)];exact hid
     obtain⟨y,hy,hyi⟩:=Wt hid
     have sN:∃l,G.loc id=some l:=by
      cases y with
      |tmp t=>exact aBv hyi (I.vC.getD t)
      |const v=>have :=K.lits j r hr (lK hid) v hy;rw[Arg.eval,this] at hyi;cases hyi
      |iW n=>simp only[Arg.eval] at hyi;split at hyi<;>cases hyi
     obtain⟨l,hl⟩:=sN
     exact I.sx D K hj hr RN GF hl (OL fA GF))
    refine Qb (YW tP DY) (yE tP n3) I.rel I.vC hq.2 (fun u w' G' lT Mg NP=>?_);have I':=I.quiet D K hj hr wX (fun h=>by rw[hf'] at h;cases h) lT Mg NP;rw[DW] at I';exact ih _ _ _ _ _ _ _ SQ I' cG
  rw[if_neg RN] at fA ⊢;refine⟨fun _ _=>trivial,?_⟩;obtain⟨hv,hH⟩:=fA;have cG:=aIq fun h=>absurd (EL h).2 RN;have bJj:bN (ss j) r=false:=by simpa using RN
  by_cases he:r.op.pJ=true
  . have aUi:=I.UW D K hj hr he;obtain⟨kp,I'⟩:=I.LB D K GG hj hr he (G1:=G) (w1:=w) (u:=undef) (by rw[hH];exact aUi) (by rw[hH];exact Ext.refl G (Hs j) w) (by rw[hv];exact VR.nL G w);rw[DW] at I';exact ih _ _ _ _ _ _ _ SQ I' cG
  have I':=I.quiet D K hj hr (by simpa using he) (fun _=>bJj) (u:=undef) I.rel (Ext.refl G HS w) (by rw[hv];exact VR.nL G w);rw[DW] at I';exact ih _ _ _ _ _ _ _ SQ I' cG
theorem FU{ro:Option Nat}{id:Nat}{rl0:List aZ}(hm:P.follows .mixedOrders=true)(hc:lM P g mu ops ops.toList=some rl0)(KN:rl0.length=rl.length)(RI:∀i r,rl0[i]?=some r->(∀j,pj=some j->anc j i=false)->rl[i]?=some r)(D:dH P g rl pj pairs s0 H0 Hs ss vs)(K:pD ops rl pairs anc)
 (hw:WR g G0 H0 w0) (hs:SR G0 w0 s0 a) {ds:List fY} (hd:TJ G0 w0 ds a.defers) {Q:AQ} (hQ:pj=none->Q .normal (ss rl.length) ds (Hs rl.length)) (hP:∀j,pj=some j->aLz P g rl anc Hs ss (fun x s H=>Q (.panic x) s ds H) j):
 (Code.region id ops true).wpIn (Fw ro) 0 P (QR g G0 H0 w0 Q) a w0:=by
 refine wpIn_region_any hm ?_;obtain⟨hlen,cS⟩:=yF _ _ hc;have lF:rl.length=ops.size:=by rw[<-KN];simpa using hlen
 have hH:∀id,(Hs 0).get id=H0.get id:=fun id=>by rw[D.h0];rfl
 have hN:H0.next<=(Hs 0).next:=by rw[D.h0];exact Hz _ _
 have wW:∀i,dK (Array.replicate ops.size false) i=false:=fun i=>by unfold dK;rw[Bs,Array.getElem?_replicate];split<;>rfl
 have aMq:∀i r,rl[i]?=some r->∀l,G0.loc (kept H0 rl i)=some l->False:=fun i r hr l hl=>by have :=hw.lt _ _ hl;unfold kept at this;omega
 have rE:TJ G0 w0 ds a.defers:=hd;refine Yi (pairs:=pairs) (anc:=anc) (G0:=G0) (w0:=w0) (dl:=a.defers) hc KN RI D K hw.lt hd hQ hP ops.size (Array.replicate ops.size false) 0 G0 (Hs 0) {w0 with drawn:=w0.drawn+1} a s0 ?_ ?_ fun k _=>wW k
 . unfold todo;refine By List.countP_le_length ?_;simp[lF]
 exact {
  size:=by simp[lF]
  closed:=fun i j h=>by rw[wW] at h;cases h
  ple:=Bp _
  pos:=fun i r h1 h2=>by rw[wW];simp
  rel:=(hw.drawn _).oH (fun id l _=>hH id) hN
  sH:=rfl
  nh:=fun i r h1 h2 ⟨l,h3⟩=>(aMq i r h1 l h3).elim
  cont:=fun id l hl=>.inr ⟨fun i r h1 h2 h3 h4 he=>by rw[he] at hl;exact aMq i r h2 l hl,rfl⟩
  aHz:=fun i r h1 h2 h3 h4=>by rw[wW] at h4;cases h4
  ext:=(Ext.drawn G0 H0 w0 _ (Hz _ _)).oH (fun id l _=>hH id) hN
  vC:=hs.ext (Ext.drawn G0 H0 w0 _ (Hz _ _))
  last:=fun t=>by
   have :∀m,tR (dK (Array.replicate ops.size false)) rl s0 vs t m=s0.getD t aB:=fun m=>by
    induction m with
    |zero=>rfl
    |succ m ih=>simp only[tR,wW,Jx,Au,Ca,ih]
   rw[this]
  len:=rfl
  dfr:=rfl}
end
end
end Go.Av
