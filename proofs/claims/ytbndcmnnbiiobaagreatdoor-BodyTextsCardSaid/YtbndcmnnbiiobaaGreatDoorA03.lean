/-
  Part of the proof of statement 5
-/
import Derived.Test.YtbndcmnnbiiobaaGreatDoorA02
import Derived.Maps.RangeRun
import Derived.RangeFuncLeaves
import Derived.RangeFuncSeq
import Derived.OrdersIn
import Derived.Orders
set_option linter.unusedVariables false
set_option linter.unusedSimpArgs false
set_option linter.unusedSectionVars false
namespace Go.Av
open Go
def jO:Operand->Bool
 |.const _=>true
 |_=>false
def qM (P:Program) (g:bB) (op:BinOp) (t:TypeId) (x y:Operand):Option dX:=
 match bE g x,bE g y with
 |some x',some y'=>
  if op=.eql\/op=.neq then
   match P.underlying t with
   |some .bool=>some (.eqb (op== .neq) x' y')
   |some (.struct _)|some (.array _ _)=>
    match oG P 60 t with
    |some ks=>if P.eqGuardType P.depth t=false then some (.eqf (op== .neq) ks x' y') else none
    |none=>none
   |some (.pointer _)=>some (.eqn (op== .neq) .ptr (jO x||jO y) x' y')
   |some (.interface _)=>some (.eqn (op== .neq) .ifc (jO x||jO y) x' y')
   |some (.slice _)=>some (.eqn (op== .neq) .sli (jO x||jO y) x' y')
   |some (.map _ _)=>some (.eqn (op== .neq) .mp (jO x||jO y) x' y')
   |some (.func _ _ _)=>some (.eqn (op== .neq) .fn (jO x||jO y) x' y')
   |_=>some (.bin op x' y')
  else some (.bin op x' y')
 |_,_=>none
def mK (P:Program) (g:bB) (src dst:TypeId) (x:Operand):Option dX:=
 match bE g x with
 |some x'=>
  match P.underlying src,P.underlying dst with
  |some _,some (.int k)=>some (.OZ k x')
  |some .string,some (.slice e)=>if P.underlying e matches some (.int .u8) then some (.CO x') else none
  |some (.slice e),some .string=>if P.underlying e matches some (.int .u8) then some (.EL x') else none
  |_,_=>none
 |none=>none
def jK (P:Program) (g:bB) (t:TypeId) (x:Operand) (lo hi mx:Option Operand):Option dX:=
 match bE g x,nB g lo,nB g hi,nB g mx with
 |some x',some qk,some oY,some mx'=>
  match AY P t with
  |some (n,sz,_)=>some (.FD n sz x' qk oY mx')
  |none=>
   match oI P t with
   |some (_,sz)=>some (.cm sz x' qk oY mx')
   |none=>
    match P.underlying t,mx with
    |some .string,none=>some (.QQ x' qk oY)
    |_,_=>none
 |_,_,_,_=>none
def qN (P:Program) (g:bB) (c:Call):Option dX:=
 match c.args.toList,c.argTypes[0]? with
 |[x],some t=>
  match P.underlying t,bE g x with
  |some .string,some x'=>some (.lens x')
  |some (.slice _),some x'=>some (.Zi x')
  |_,_=>none
 |_,_=>none
def gT (P:Program) (g:bB) (mu:Bool) (c:Call):Option dX:=
 match c.args.toList,c.argTypes.toList with
 |[x,y],[t,t2]=>
  match bE g x,bE g y,oI P t with
  |some x',some y',some (e,sz)=>
   match P.info? e,lN P e,P.underlying t2 with
   |some _,some _,some (.int _)=>none
   |some i,some z,some _=>if 1<=i.bytes/\z.cells.size=sz then some (.append sz i.bytes mu x' y') else none
   |_,_,_=>none
  |_,_,_=>none
 |_,_=>none
def nM (P:Program) (g:bB) (mu:Bool) (c:Call):Option dX:=
 match c.callee with
 |.builtin .len=>qN P g c
 |.builtin .append=>gT P g mu c
 |.value f=>match bE g f,nX g c.args.toList with
  |some f',some azs=>some (.call f' azs)
  |_,_=>none
 |.builtin .max=>match c.args.toList with
  |[x,y]=>match bE g x,bE g y with
   |some x',some y'=>some (.Wy x' y')
   |_,_=>none
  |_=>none
 |.builtin .min=>match c.args.toList with
  |[x,y]=>match bE g x,bE g y with
   |some x',some y'=>some (.XA x' y')
   |_,_=>none
  |_=>none
 |.builtin .clear=>match c.args.toList,c.argTypes[0]? with
  |[x],some t=>match bE g x,oI P t with
   |some x',some (e,sz)=>match lN P e with
    |some z=>(jC z.cells.toList).map fun zs=>.clr sz zs x'
    |none=>none
   |_,_=>none
  |_,_=>none
 |_=>none
def kf (P:Program) (t:TypeId):Option AV:=
 match lN P t with
 |some z=>ofConst z
 |none=>none
def Oa (P:Program) (g:bB) (mu:Bool) (o:Oper):Option dX:=
 match o.op with
 |.move x|.assign x=>(bE g x).map .Ni
 |.pick c x y=>match bE g c,bE g x,bE g y with
  |some c',some x',some y'=>some (.pick c' x' y')
  |_,_,_=>none
 |.alloc t=>match lN P t with
  |some z=>(jC z.cells.toList).map .alloc
  |none=>none
 |.box _ x=>(bE g x).map .box
 |.build t parts=>match lN P t with
  |some z=>match jC z.cells.toList,P.underlying t with
   |some zs,some (.struct fs)=>match JZ P fs.toList with
    |some l=>(wH g (l[·]?) parts.toList).map (.build zs)
    |none=>none
   |some zs,some (.array _ e)=>match jV P e with
    |some sz=>(wH g (fun i=>some (i*sz,sz)) parts.toList).map (.build zs)
    |none=>none
   |_,_=>none
  |none=>none
 |.buildSlice t len parts=>match oI P t with
  |some (e,sz)=>match lN P e,JK g 0 parts.toList with
   |some _,some ys=>if len=parts.size/\len*sz<=2^24 then(if Uj mu sz ys=true then some (.jE 1 1 [.str []] (.const (.int .i64 1)) (.const (.int .i64 1))) else some (.Pg sz ys)) else none
   |_,_=>none
  |none=>none
 |.load t x=>match bE g x,fG P t,jV P t with
  |some x',some agg,some n=>some (.load agg n x')
  |_,_,_=>none
 |.store t x y=>match bE g x,bE g y,jV P t with
  |some x',some y',some n=>some (.store n x' y')
  |_,_,_=>none
 |.binOp op t x y _=>qM P g op t x y
 |.unOp op _ x=>(bE g x).map (.un op)
 |.convert src dst x=>mK P g src dst x
 |.sliceToArrayPointer t x=>match bE g x,P.underlying t with
  |some x',some (.array n _)=>some (.cj n x')
  |_,_=>none
 |.makeInterface t x=>match bE g x,P.underlying t with
  |some _,some (.interface _)=>none
  |some x',some _=>some (.Zr t x')
  |_,_=>none
 |.makeFunc fn fs cs=>match nX g fs.toList,nX g cs.toList with
  |some fs',some CY=>some (.Zq fn fs' CY)
  |_,_=>none
 |.makeMap t r=>match P.underlying t,r with
  |some (.map _ _),none=>some .AF
  |some (.map _ _),some (.const (.int _ _))=>some .AF
  |_,_=>none
 |.makeSlice t x y=>match bE g x,bE g y,oI P t with
  |some x',some y',some (e,sz)=>match P.info? e,lN P e with
   |some i,some z=>match jC z.cells.toList with
    |some zs=>if 1<=sz/\1<=i.bytes then some (.jE sz i.bytes zs x' y') else none
    |none=>none
   |_,_=>none
  |_,_,_=>none
 |.slice t x lo hi mx=>jK P g t x lo hi mx
 |.fieldAddr t x i=>match bE g x,ZG P t i with
  |some x',some (off,_,_)=>some (.ZD off x')
  |_,_=>none
 |.indexAddr t x i=>match bE g x,bE g i with
  |some x',some i'=>match AY P t with
   |some (n,sz,_)=>some (.UD (some n) sz x' i')
   |none=>match oI P t with
    |some (_,sz)=>some (.UD none sz x' i')
    |none=>none
  |_,_=>none
 |.index t x i=>match bE g x,bE g i with
  |some x',some i'=>match AY P t with
   |some (n,sz,b)=>some (.idx n sz b x' i')
   |none=>if P.underlying t matches some .string then some (.idxs x' i') else none
  |_,_=>none
 |.lookup t x i ok=>match bE g x,bE g i,P.underlying t with
  |some x',some i',some (.map kt vt)=>match JE P kt,kf P vt with
   |some k,some z=>some (.lookup k z ok x' i')
   |_,_=>none
  |_,_,_=>none
 |.mapUpdate t m i x|.insert t m i x=>match bE g m,bE g i,bE g x,P.underlying t with
  |some m',some i',some x',some (.map kt _)=>(JE P kt).map fun k=>.Pd k m' i' x'
  |_,_,_,_=>none
 |.typeAssert x _ t ok=>match bE g x,P.underlying t,kf P t with
  |some _,some (.interface _),_=>none
  |some x',some _,some z=>some (.cy t ok z x')
  |_,_,_=>none
 |.extract x i=>(bE g x).map fun x'=>.ZB x' i
 |.range t x=>match bE g x,P.underlying t with
  |some x',some (.map _ _)=>some (.wG x')
  |_,_=>none
 |.next x s=>match bE g x,s with
  |some x',false=>some (.EW x')
  |_,_=>none
 |.entry x=>(bE g x).map .zC
 |.call c=>nM P g mu c
 |.panic x=>(bE g x).map .panic
 |.defer c=>match c.callee with
  |.value f=>match bE g f,nX g c.args.toList with
   |some f',some azs=>some (.jY f' azs)
   |_,_=>none
  |_=>none
 |_=>none
def dX.plain:dX->Bool
 |.call _ _|.panic _|.jY _ _|.wG _|.EW _|.zC _=>false
 |_=>true
theorem aAk {op:BinOp} (h:op=.eql\/op=.neq):op=if(op== .neq) then .neq else .eql:=by rcases h with rfl|rfl<;>rfl
theorem Xi {P:Program} {f:Nat} {t:TypeId} {ks:List Sk} (h:oG P f t=some ks) {d:TypeDesc} (hu:P.underlying t=some d) (hd:(∃fs,d=.struct fs)\/∃n e,d=.array n e):fG P t=some true:=by
 unfold fG
 rcases hd with ⟨fs,rfl⟩|⟨n,e,rfl⟩<;>rw[hu]
theorem mi {P:Program} {g:bB} {o:Oper} {op:BinOp} {t t2:TypeId} {x y:Operand} {r:dX} (ho:o.op=.binOp op t x y t2) (h:qM P g op t x y=some r):cJ P g o r:=by
 have hl:(jO x||jO y)=true->(∃c,x=.const c)\/∃c,y=.const c:=fun hh=>by cases x<;>cases y<;>simp[jO] at hh ⊢
 have nk:∀{d:TypeDesc} {k:Nk},P.underlying t=some d->(match (some d:Option TypeDesc) with|some (.pointer _)=>some Nk.ptr|some (.interface _)=>some .ifc|some (.slice _)=>some .sli|some (.map _ _)=>some .mp|some (.func _ _ _)=>some .fn|_=>none)=some k->nkP P t=some k:=fun hu hk=>by unfold nkP;rw[hu];exact hk
 unfold qM at h;split at h
 · rename_i x' y' hx hy;split at h
   · rename_i fF
     split at h<;>rename_i hu<;>first
      |(obtain rfl:=Aa h;exact aUl ho (aAk fF) hu hx hy)
      |(obtain rfl:=Aa h;exact aUn ho (aAk fF) (nk hu rfl) hl hx hy)
      |(split at h
        · rename_i ks hks;split at h
          · rename_i hg;obtain rfl:=Aa h;exact aUm ho (aAk fF) (by omega) hks (Xi hks hu (by first|exact .inl ⟨_,rfl⟩|exact .inr ⟨_,_,rfl⟩)) hg hx hy
          cases h
        cases h)
      |(obtain rfl:=Aa h;exact aCu ho hx hy)
   obtain rfl:=Aa h;exact aCu ho hx hy
 cases h
theorem Yj {P:Program} {g:bB} {o:Oper} {src dst:TypeId} {x:Operand} {r:dX} (ho:o.op=.convert src dst x) (h:mK P g src dst x=some r):cJ P g o r:=by
 unfold mK at h;split at h
 · rename_i x' hx;split at h
   · rename_i d k hs hd;obtain rfl:=Aa h;exact aCv ho hx hs hd
   · rename_i e hs hd;split at h
     · rename_i he;obtain rfl:=Aa h;exact aDa ho hx hs hd he
     cases h
   · rename_i e hs hd;split at h
     · rename_i he;obtain rfl:=Aa h;exact aCt ho hx hs hd he
     cases h
   cases h
 cases h
theorem Vu {P:Program} {g:bB} {o:Oper} {t:TypeId} {x:Operand} {lo hi mx:Option Operand} {r:dX} (ho:o.op=.slice t x lo hi mx) (h:jK P g t x lo hi mx=some r):cJ P g o r:=by
 unfold jK at h;split at h
 · rename_i x' qk oY mx' hx AK o8 hmx;split at h
   · rename_i n sz b ht;obtain rfl:=Aa h;exact aCx ho hx AK o8 hmx ht
   split at h
   · rename_i e sz ht;obtain rfl:=Aa h;exact aIn ho hx AK o8 hmx ht
   split at h
   · rename_i ht;obtain rfl:=Aa h;exact aCy ho hx AK o8 ht
   cases h
 cases h
theorem OM {c:Call} {x:Operand} (h:c.args.toList=[x]):c.args= #[x]:=by apply Fq;simpa using h
theorem ON {c:Call} {x y:Operand} (h:c.args.toList=[x,y]):c.args= #[x,y]:=by apply Fq;simpa using h
theorem mj {P:Program} {g:bB} {o:Oper} {c:Call} {r:dX} (ho:o.op=.call c) (hc:c.callee=.builtin .len) (h:qN P g c=some r):cJ P g o r:=by
 unfold qN at h;split at h
 · rename_i x t ha MZ;split at h
   · rename_i x' ht hx;obtain rfl:=Aa h;exact aIf ho hc (OM ha) hx MZ ht
   · rename_i e x' ht hx;obtain rfl:=Aa h;exact aIe ho hc (OM ha) hx MZ ht
   cases h
 cases h
theorem Tc {P:Program} {g:bB} {mu:Bool} {o:Oper} {c:Call} {r:dX} (ho:o.op=.call c) (hc:c.callee=.builtin .append) (h:gT P g mu c=some r):cJ P g o r:=by
 unfold gT at h;split at h
 · rename_i x y t t2 ha MZ;have bEf:c.argTypes= #[t,t2]:=by apply Fq;simpa using MZ
   split at h
   · rename_i x' y' e sz hx hy ht;obtain⟨hu,jA⟩:=mH ht;split at h
     · cases h
     · rename_i i z d hd hi hz h2;split at h
       · rename_i eK;obtain rfl:=Aa h;exact rf ho hc (ON ha) hx hy bEf hu jA h2 (fun k he=>hd k he) hi eK.1 hz eK.2
       cases h
     cases h
   cases h
 cases h
theorem Ql {P:Program} {t:TypeId} {z:AV} (h:kf P t=some z):∃zv,lN P t=some zv/\ofConst zv=some z:=by
 unfold kf at h;split at h
 · rename_i zv hz;exact⟨zv,hz,h⟩
 cases h
theorem Yl {P:Program} {g:bB} {mu:Bool} {o:Oper} {r:dX} (h:Oa P g mu o=some r) (hp:r.plain=true):cJ P g o r:=by
 unfold Oa at h;split at h
 · rename_i x ho;simp only[Ag] at h;obtain⟨x',hx,rfl⟩:=h;exact jj (.inl ho) hx
 · rename_i x ho;simp only[Ag] at h;obtain⟨x',hx,rfl⟩:=h;exact jj (.inr ho) hx
 · rename_i c x y ho;split at h
   · rename_i c' x' y' hc hx hy;obtain rfl:=Aa h;exact aIl ho hc hx hy
   cases h
 · rename_i t ho;split at h
   · rename_i z hz;simp only[Ag] at h;obtain⟨zs,DL,rfl⟩:=h;exact aCs ho hz DL
   cases h
 · rename_i t x ho;simp only[Ag] at h;obtain⟨x',hx,rfl⟩:=h;exact aUj ho hx
 · rename_i t parts ho;split at h
   · rename_i z hz;split at h
     · rename_i zs fs DL hu;split at h
       · rename_i l hl;simp only[Ag] at h;obtain⟨ps,oZ,rfl⟩:=h;exact NR ho hu hz DL hl oZ
       cases h
     · rename_i zs n e DL hu;split at h
       · rename_i sz jA;simp only[Ag] at h;obtain⟨ps,oZ,rfl⟩:=h;exact Pm ho hu jA hz DL oZ
       cases h
     cases h
   cases h
 · rename_i t len parts ho;split at h
   · rename_i e sz ht;split at h
     · rename_i z ys hz Ml;split at h
       · rename_i eK;split at h
         · rename_i hr;obtain rfl:=Aa h;exact rh ho ht hz eK.1 eK.2 Ml hr
         obtain rfl:=Aa h;exact aCw ho ht hz eK.1 eK.2 Ml
       cases h
     cases h
   cases h
 · rename_i t x ho;split at h
   · rename_i x' agg n hx rQ hn;obtain rfl:=Aa h;exact aIg ho hx rQ hn
   cases h
 · rename_i t x y ho;split at h
   · rename_i x' y' n hx hy hn;obtain rfl:=Aa h;exact aCz ho hx hy hn
   cases h
 · rename_i op t x y t2 ho;exact mi ho h
 · rename_i op t x ho;simp only[Ag] at h;obtain⟨x',hx,rfl⟩:=h;exact bCy ho hx
 · rename_i src dst x ho;exact Yj ho h
 · rename_i t x ho;split at h
   · rename_i x' n e hx ht;obtain rfl:=Aa h;exact aIm ho hx ht
   cases h
 · rename_i t x ho;split at h
   · cases h
   · rename_i x' d hni hx ht;obtain rfl:=Aa h;refine aIk ho hx ?_;rw[ht]
     cases d<;>first|rfl|exact absurd rfl (hni _)
   cases h
 · rename_i fn fs cs ho;split at h
   · rename_i fs' CY hf hc;obtain rfl:=Aa h;exact aIj ho hf hc
   cases h
 · rename_i t rr ho;split at h
   · rename_i k v ht;obtain rfl:=Aa h;exact XG ho ht (.inl rfl)
   · rename_i k v j n ht;obtain rfl:=Aa h;exact XG ho ht (.inr ⟨_,_,rfl⟩)
   cases h
 · rename_i t x y ho;split at h
   · rename_i x' y' e sz hx hy ht;split at h
     · rename_i i z hi hz;split at h
       · rename_i zs DL;split at h
         · rename_i eK;obtain rfl:=Aa h;exact Zv ho hx hy ht hi hz DL eK.1 eK.2
         cases h
       cases h
     cases h
   cases h
 · rename_i t x lo hi mx ho;exact Vu ho h
 · rename_i t x i ho;split at h
   · rename_i x' off n b hx hf;obtain rfl:=Aa h;exact aIc ho hx hf
   cases h
 · rename_i t x i ho;split at h
   · rename_i x' i' hx hi;split at h
     · rename_i n sz b ht;obtain rfl:=Aa h;exact XE ho hx hi ht
     split at h
     · rename_i e sz ht;obtain rfl:=Aa h;exact Zu ho hx hi ht
     cases h
   cases h
 · rename_i t x i ho;split at h
   · rename_i x' i' hx hi;split at h
     · rename_i n sz b ht;obtain rfl:=Aa h;exact aUo ho hx hi ht
     split at h
     · rename_i HJ;obtain rfl:=Aa h;exact aId ho hx hi HJ
     cases h
   cases h
 · rename_i t x i ok ho;split at h
   · rename_i x' i' kt vt hx hi ht;split at h
     · rename_i k z hk hz;obtain rfl:=Aa h;obtain⟨zv,hz1,hz2⟩:=Ql hz;exact rn ho hx hi ht hk hz1 hz2
     cases h
   cases h
 · rename_i t m i x ho;split at h
   · rename_i m' i' x' kt vt hm hi hx ht;simp only[Ag] at h;obtain⟨k,hk,rfl⟩:=h;exact XF (.inl ho) hm hi hx ht hk
   cases h
 · rename_i t m i x ho;split at h
   · rename_i m' i' x' kt vt hm hi hx ht;simp only[Ag] at h;obtain⟨k,hk,rfl⟩:=h;exact XF (.inr ho) hm hi hx ht hk
   cases h
 · rename_i x ti t ok ho;split at h
   · cases h
   · rename_i x' d z hni hx ht hz;obtain rfl:=Aa h;obtain⟨zv,hz1,hz2⟩:=Ql hz;exact aIo ho hx ht (fun ms he=>hni ms he) hz1 hz2
   cases h
 · rename_i x i ho;simp only[Ag] at h;obtain⟨x',hx,rfl⟩:=h;exact aIb ho hx
 · rename_i t x ho;split at h
   · obtain rfl:=Aa h;cases hp
   cases h
 · rename_i x st ho;split at h
   · obtain rfl:=Aa h;cases hp
   cases h
 · rename_i x ho;simp only[Ag] at h;obtain⟨x',hx,rfl⟩:=h;cases hp
 · rename_i c ho;unfold nM at h;split at h
   · rename_i hc;exact mj ho hc h
   · rename_i hc;exact Tc ho hc h
   · rename_i f hc;split at h
     · obtain rfl:=Aa h;cases hp
     cases h
   · rename_i hc;split at h
     · rename_i x y ha;split at h
       · rename_i x' y' hx hy;obtain rfl:=Aa h;exact aIh ho hc (ON ha) hx hy
       cases h
     cases h
   · rename_i hc;split at h
     · rename_i x y ha;split at h
       · rename_i x' y' hx hy;obtain rfl:=Aa h;exact aIi ho hc (ON ha) hx hy
       cases h
     cases h
   · rename_i hc;split at h
     · rename_i x t ha MZ;split at h
       · rename_i x' e sz hx ht;obtain⟨hu,jA⟩:=mH ht;split at h
         · rename_i z hz;simp only[Ag] at h;obtain⟨zs,DL,rfl⟩:=h;exact aUk ho hc (OM ha) hx MZ hu hz DL
         cases h
       cases h
     cases h
   cases h
 · rename_i x ho;simp only[Ag] at h;obtain⟨x',hx,rfl⟩:=h;cases hp
 · rename_i c ho;split at h
   · split at h
     · obtain rfl:=Aa h;cases hp
     cases h
   cases h
 cases h
def dX.fresh:dX->Bool
 |.alloc _|.box _|.AF|.jE _ _ _ _ _|.CO _=>true
 |_=>false
theorem aGm {P:Program} {g:bB} {mu:Bool} {o:Oper} {r:dX} (h:Oa P g mu o=some r) (hp:r.fresh=true):EJ P g o r:=by
 unfold Oa at h;split at h
 case h_4=>
  rename_i t ho;split at h
  · rename_i z hz;simp only[Ag] at h;obtain⟨zs,DL,rfl⟩:=h;exact SB ho hz DL
  cases h
 case h_5=>rename_i t x ho;simp only[Ag] at h;obtain⟨x',hx,rfl⟩:=h;exact fm ho hx
 case h_7=>
  rename_i t len parts ho;split at h
  · rename_i e sz ht;split at h
    · rename_i z ys hz Ml;split at h
      · rename_i eK;split at h
        · rename_i hr;obtain rfl:=Aa h;exact On ho ht hz eK.1 eK.2 Ml hr
        obtain rfl:=Aa h;cases hp
      cases h
    cases h
  cases h
 case h_12=>
  rename_i src dst x ho;unfold mK at h;split at h
  · rename_i x' hx;split at h
    · obtain rfl:=Aa h;cases hp
    · rename_i e hs hd;split at h
      · rename_i he;obtain rfl:=Aa h;exact SC ho hx hs hd he
      cases h
    · split at h
      · obtain rfl:=Aa h;cases hp
      cases h
    cases h
  cases h
 case h_16=>
  rename_i t rr ho;split at h
  · rename_i k v ht;obtain rfl:=Aa h;exact Ll ho ht (.inl rfl)
  · rename_i k v j n ht;obtain rfl:=Aa h;exact Ll ho ht (.inr ⟨_,_,rfl⟩)
  cases h
 case h_17=>
  rename_i t x y ho;split at h
  · rename_i x' y' e sz hx hy ht;split at h
    · rename_i i z hi hz;split at h
      · rename_i zs DL;split at h
        · rename_i eK;obtain rfl:=Aa h;exact MW ho hx hy ht hi hz DL eK.1 eK.2
        cases h
      cases h
    cases h
  cases h
 all_goals exfalso
 all_goals (try unfold qM at h)
 all_goals (try unfold jK at h)
 all_goals (try unfold nM at h)
 all_goals (try unfold qN at h)
 all_goals (try unfold gT at h)
 all_goals repeat' (split at h)
 all_goals first
  |(cases h;done)
  |(obtain rfl:=Aa h;cases hp)
  |(simp only[Ag] at h;obtain⟨_,_,rfl⟩:=h;cases hp)
inductive Out where
 |ret (v:AV)
 |CD (v:AV)
def YU (G:Gh) (w:World):Out->Ending->Prop
 |.ret v,.returned u=>VR G w v u
 |.CD v,.panicked chain=>∃u,chain=[{v:=u,recovered:=false}]/\VR G w v u
 |_,_=>False
def tZ (P:Program) (f:FuncId):Prop:=∃fn,P.funcs[f]?=some fn/\fn.body.isSome=true/\(fn.name== "runtime.NumGoroutine")=false
def Sound (P:Program) (g:bB) (f:FuncId) (args:List AV) (H:aA) (out:Out) (H':aA):Prop:=
 tZ P f/\∀(G:Gh) (w:World) (vs:List Value),WR g G H w->gI G w args vs->
  Calls P f vs.toArray w fun e w'=>∃G',WR g G' H' w'/\Ext G H w G' H' w'/\YU G' w' out e
def Fw (ro:Option Nat):Fence:={Fence.wide with round:=ro}
def sK (P:Program) (g:bB) (id:Nat) (args:List AV) (H:aA) (out:Out) (H':aA):Prop:=
 ∀(G:Gh) (w:World) (vs:List Value) (l:Loc),WR g G H w->gI G w args vs->G.loc id=some l->
  YieldAt Fence.wide 0 P l.cS vs.toArray w fun e w'=>∃G',WR g G' H' w'/\Ext G H w G' H' w'/\YU G' w' out e
inductive fY where
 |call (f:FuncId) (azs:List AV)
 |mark (id:Nat)
inductive AEx where
 |normal
 |exit (id:Nat)
 |ret
 |panic (v:AV)
def bH (s:List AV) (o:bC):Bool:=
 match o.guard with
 |none=>true
 |some (d,b)=>match s.getD d aD with
  |.bool c=>c==b
  |_=>false
def mE (s:List AV) (dst:Option Nat) (v:AV):List AV:=
 match dst with
 |none=>s
 |some d=>s.set d v
def lL:AV->Option (FuncId×List AV×List AV)
 |.func (.func f) fs cs=>some (f,fs,cs)
 |_=>none
def Rb (P:Program) (g:bB) (fv:AV) (args:List AV) (H:aA) (out:Out) (H':aA):Prop:=
 (∃p,lL fv=some p/\Sound P g p.1 (p.2.1++args++p.2.2) H out H')\/(∃id,fv=.yield id/\sK P g id args H out H')
abbrev AQ:=AEx->List AV->List fY->aA->Prop
def tW (P:Program) (g:bB):List bC->List AV->List fY->aA->AQ->Prop
 |[],s,ds,H,Q=>Q .normal s ds H
 |o::r,s,ds,H,Q=>
  if bH s o then
   match o.op with
   |.call f azs=>∃out H',Rb P g (f.eval g s) (azs.map (Arg.eval g s)) H out H'/\
     match out with
     |.ret v=>tW P g r (mE s o.dst v) ds H' Q
     |.CD v=>Q (.panic v) s ds H'
   |.panic x=>∃t v,x.eval g s=.iface t v/\Q (.panic (.iface t v)) s ds H
   |.jY f azs=>∃p,lL (f.eval g s)=some p/\tW P g r (mE s o.dst aD) (.call p.1 (p.2.1++azs.map (Arg.eval g s)++p.2.2)::ds) H Q
   |.wG x=>∃m es,x.eval g s=.map m/\H.get m=some (.map es)/\∀bs c mb,bs.length=es.length->bs.Nodup->
     tW P g r (mE s o.dst (.ref H.next 0)) ds ((H.set m (.tK es bs c mb)).alloc (.iter m mb c [])) Q
   |.EW x=>∃it m mb c seen es bs,x.eval g s=.ref it 0/\H.get it=some (.iter m mb c seen)/\H.get m=some (.tK es bs c mb)/\
     ((∀b∈bs,b∈seen)->tW P g r (mE s o.dst (.gP [.bool false])) ds H Q)/\
     ∀j,j<bs.length->bs.getD j 0∉seen->tW P g r (mE s o.dst (.gP [.bool true,(es.getD j (aD,aD)).1,(es.getD j (aD,aD)).2])) ds (H.set it (.iter m mb c (seen++[bs.getD j 0]))) Q
   |.zC x=>∃it m mb c seen es bs j,x.eval g s=.ref it 0/\H.get it=some (.iter m mb c (seen++[bs.getD j 0]))/\H.get m=some (.tK es bs c mb)/\j<bs.length/\
     tW P g r (mE s o.dst (.gP [(es.getD j (aD,aD)).1,(es.getD j (aD,aD)).2])) ds H Q
   |op=>∃v H',dK (Arg.eval g s) H op=some (v,H')/\tW P g r (mE s o.dst v) ds H' Q
  else tW P g r (mE s o.dst aD) ds H Q
def TO (G:Gh) (w:World):List fY->List Deferred->Prop
 |[],[]=>True
 |.call f azs::ds,d::r=>(∃cap:List Value,d.target=.fn (.func f) cap.toArray/\gI G w azs (d.args.toList++cap))/\TO G w ds r
 |.mark id::ds,d::r=>(∃l,G.loc id=some l/\d.target=.collected l.cS)/\TO G w ds r
 |_,_=>False
theorem TO.ext {G G':Gh} {H H':aA} {w w':World} (e:Ext G H w G' H' w'):∀{ds:List fY} {l:List Deferred},TO G w ds l->TO G' w' ds l
 |[],[],_=>trivial
 |.call f azs::ds,d::r,h=>⟨let⟨cap,h1,h2⟩:=h.1;⟨cap,h1,h2.ext e⟩,TO.ext e h.2⟩
 |.mark id::ds,d::r,h=>⟨let⟨l,h1,h2⟩:=h.1;⟨l,e.loc _ _ h1,h2⟩,TO.ext e h.2⟩
 |[],_::_,h=>h.elim
 |.call _ _::_,[],h=>h.elim
 |.mark _::_,[],h=>h.elim
def ExR (G:Gh) (w:World):AEx->Exit->Prop
 |.normal,.normal=>True
 |.exit i,.exit j=>i=j
 |.ret,.ret=>True
 |.panic v,.panic chain=>∃u,chain=[{v:=u,recovered:=false}]/\VR G w v u
 |_,_=>False
def QR (g:bB) (G:Gh) (H:aA) (w:World) (Q:AQ):Exit->Act->World->Prop:=fun e a' w'=>∃ae s' fC H' G',Q ae s' fC H'/\WR g G' H' w'/\Ext G H w G' H' w'/\SR G' w' s' a'/\TO G' w' fC a'.defers/\ExR G' w' ae e
theorem QR.trans {g:bB} {G G1:Gh} {H H1:aA} {w w1:World} {Q:AQ} (e:Ext G H w G1 H1 w1) {x:Exit} {a:Act} {w':World} (h:QR g G1 H1 w1 Q x a w'):QR g G H w Q x a w':=
 let⟨ae,s',fC,H',G',q,hw,he,hs,hd,hx⟩:=h
 ⟨ae,s',fC,H',G',q,hw,e.trans he,hs,hd,hx⟩
def MN (P:Program) (g:bB) (mu:Bool) (ops:Array Oper) (o:Oper):Option bC:=
 match Oa P g mu o with
 |some r=>
  match o.guard with
  |none=>some ⟨o.dst,r,none⟩
  |some (j,b)=>match (ops[j]?).bind (·.dst) with
   |some d=>some ⟨o.dst,r,some (d,b)⟩
   |none=>none
 |none=>none
def gM (P:Program) (g:bB) (mu:Bool) (ops:Array Oper):List Oper->Option (List bC)
 |[]=>some []
 |o::r=>match MN P g mu ops o,gM P g mu ops r with
  |some x,some xs=>some (x::xs)
  |_,_=>none
theorem FR {P:Program} {g:bB} {mu:Bool} {ops:Array Oper} {o:Oper} {r:bC} (h:MN P g mu ops o=some r):r.dst=o.dst/\Oa P g mu o=some r.op/\
 ((o.guard=none/\r.guard=none)\/∃j b d,o.guard=some (j,b)/\(ops[j]?).bind (·.dst)=some d/\r.guard=some (d,b)):=by
 unfold MN at h;split at h
 · rename_i r' hr;split at h
   · rename_i hg;obtain rfl:=Aa h;exact⟨rfl,hr,.inl ⟨hg,rfl⟩⟩
   rename_i j b hg;split at h
   · rename_i d hd;obtain rfl:=Aa h;exact⟨rfl,hr,.inr ⟨j,b,d,hg,hd,rfl⟩⟩
   cases h
 cases h
theorem VR.zk {G:Gh} {w:World} {v:AV} {u:Value} (h:VR G w v u) (b:Bool):v=.bool b↔u=.bool b:=by
 constructor
 · rintro rfl;exact h.jJ
 rintro rfl;cases h;rfl
theorem DZ (a:Array Value) (d:Nat) (b:Bool):a[d]?=some (.bool b)↔a.getD d undef=.bool b:=by
 rw[Bn]
 cases h:a[d]? with
 |none=>simp[undef]
 |some v=>simp
theorem Qg {P:Program} {g:bB} {mu:Bool} {ops:Array Oper} {o:Oper} {r:bC} (h:MN P g mu ops o=some r) {G:Gh} {w:World} {s:List AV} {a:Act} (hs:SR G w s a):
 Region.wanted o (yielded ops a.tmps)=bH s r:=by
 obtain⟨_,_,hg⟩:=FR h
 rcases hg with ⟨h1,h2⟩|⟨j,b,d,h1,h2,h3⟩
 · simp[Region.wanted,bH,h1,h2]
 simp only[Region.wanted,bH,h1,h3,yielded,h2,Jy];have hv:=hs.getD d
 have key:∀c,s.getD d aD=.bool c↔a.tmps[d]?=some (.bool c):=fun c=>by rw[DZ];exact hv.zk c
 cases SP:s.getD d aD with
 |bool c=>rw[(key c).1 SP];simp
 |_=>
  have :∀c,a.tmps[d]?≠some (.bool c):=fun c hc=>by have :=(key c).2 hc;rw[SP] at this;cases this
  split
  · rename_i c hc;exact absurd hc (this c)
  rfl
theorem SR.put {G:Gh} {w:World} {s:List AV} {a:Act} (h:SR G w s a) (dst:Option Nat) {v:AV} {u:Value} (hv:VR G w v u):SR G w (mE s dst v) (a.put dst u):=by
 cases dst with
 |none=>exact h
 |some d=>
  have hl:=h.1;refine⟨by simpa [mE,Act.put] using hl,fun j hj=>?_⟩;simp only[mE,Eg] at hj;simp only[Dh] at hl;have HH:j<a.tmps.size:=by omega
  simp only[mE,Act.put];rw[gR,getD_eq,Ht,Gb];by_cases hd:d=j
  · subst hd;simp only[if_true,hj,HH,Bc];exact hv
  rw[if_neg hd,if_neg hd];have :=h.2 j hj
  rwa [gR] at this
theorem SR.ext {G G':Gh} {H H':aA} {w w':World} {s:List AV} {a:Act} (h:SR G w s a) (e:Ext G H w G' H' w'):SR G' w' s a:=gI.ext h e
theorem FP {G:Gh} {w:World} {v:AV} {u:Value} {p:FuncId×List AV×List AV} (h:lL v=some p) (hv:VR G w v u):
 ∃azs bs:List Value,u=.func (.func p.1) azs.toArray bs.toArray/\gI G w p.2.1 azs/\gI G w p.2.2 bs:=by
 cases v<;>simp only[lL] at h<;>try (cases h;done)
 rename_i fn fs cs
 cases fn<;>simp only[] at h<;>first|(cases h;done)|skip
 obtain rfl:=Aa h
 cases hv with
 |func _ _ _ azs bs ha hb hav hbv=>exact⟨azs,bs,rfl,⟨ha,hav⟩,⟨hb,hbv⟩⟩
theorem xV {P:Program} {ρ:Operand->Value} {c:Call} {t:TypeId} {f:Operand} {fid:FuncId} {azs bs:List Value} (hc:c.callee=.value f) (hf:ρ f=.func (.func fid) azs.toArray bs.toArray) (w:World):
 (resolve ρ c t).run P w=.ok {target:=.fn (.func fid) bs.toArray,args:=azs.toArray++c.args.map ρ} w:=by
 simp[resolve,hc,hf,Deferred.ofValue]
theorem nR {P:Program} {fid:FuncId} (HI:tZ P fid) (args:Array Value) (cap:Array Value) (w:World):(invoke (.fn (.func fid) cap) args).run P w=.ok (.enter fid (args++cap)) w:=by
 obtain⟨fn,h1,h2,h3⟩:=HI;have hb:¬fn.body=none:=fun hh=>by rw[hh] at h2;cases h2
 have h3':¬fn.name= "runtime.NumGoroutine" :=by simpa using h3
 simp[invoke,callFunc,program,Sem.run,h1,h3',hb]
theorem OQ {ro:Option Nat} {n:Nat} {P:Program} {f:FuncId} {args:Array Value} {w:World} {R:Ending->World->Prop} (h:Calls P f args w R):CallsIn (Fw ro) n P f args w R:=
 (callsIn_wide (n:=n)).2 h
theorem BZ {ro:Option Nat} {n:Nat}:(Fw ro).depth.isSome=true->1<=n:=fun h=>by cases h
def zp (next:Act->World->Prop) (Q:Exit->Act->World->Prop) (a:Act) (d:Option Nat):Ending->World->Prop
 |.returned v,w=>next (a.put d v) w
 |.panicked chain,w=>Q (.panic chain) a w
 |.outgrown,_=>LetsOut Q
theorem Ri {g:bB} {o:Oper} {G:Gh} {H H':aA} {w:World} {a:Act} {out:Out} {next:Act->World->Prop} {Q:Exit->Act->World->Prop}
 (hn:∀v,out=.ret v->∀u w' G',WR g G' H' w'->Ext G H w G' H' w'->VR G' w' v u->next (a.put o.dst u) w')
 (hx:∀v,out=.CD v->∀u w' G',WR g G' H' w'->Ext G H w G' H' w'->VR G' w' v u->Q (.panic [{v:=u,recovered:=false}]) a w') (e:Ending) (w':World)
 (he:∃G',WR g G' H' w'/\Ext G H w G' H' w'/\YU G' w' out e):
 zp next Q a o.dst e w':=by
 obtain⟨G',jS,yU,tI⟩:=he
 cases out with
 |ret v=>
  cases e with
  |returned u=>exact hn v rfl u w' G' jS yU tI
  |panicked _=>exact tI.elim
  |outgrown=>exact tI.elim
 |CD v=>
  cases e with
  |returned _=>exact tI.elim
  |panicked chain=>obtain⟨u,rfl,hv⟩:=tI;exact hx v rfl u w' G' jS yU hv
  |outgrown=>exact tI.elim
theorem aFc {G:Gh} {w:World} {id:Nat} {u:Value} (h:VR G w (.yield id) u):∃l,G.loc id=some l/\u=.func (.yield l.cS) #[] #[]:=by
 cases h with
 |yield _ l hl=>exact⟨l,hl,rfl⟩
theorem Uy {P:Program} {g:bB} {ro:Option Nat} {o:Oper} {c:Call} {f:Operand} {f':Arg} {as':List Arg} (ho:o.op=.call c) (hc:c.callee=.value f) (hf:bE g f=some f') (has:nX g c.args.toList=some as')
 {G:Gh} {H H':aA} {w:World} {s:List AV} {a:Act} {out:Out} (hw:WR g G H w) (hs:SR G w s a)
 (hS:Rb P g (f'.eval g s) (as'.map (Arg.eval g s)) H out H') {next:Act->World->Prop} {Q:Exit->Act->World->Prop}
 (hn:∀v,out=.ret v->∀u w' G',WR g G' H' w'->Ext G H w G' H' w'->VR G' w' v u->next (a.put o.dst u) w')
 (hx:∀v,out=.CD v->∀u w' G',WR g G' H' w'->Ext G H w G' H' w'->VR G' w' v u->Q (.panic [{v:=u,recovered:=false}]) a w'):
 o.wpIn (Fw ro) 0 P a w next Q:=by
 have IV:=uB hw hs has;have bGc:o.semAt (Fw ro).round a.eval=execOp a.eval o:=Oper.semAt_eq _ _ _ fun c' h=>by rw[ho] at h;cases h
 refine⟨fun _ _=>trivial,?_⟩;rw[bGc];have aRw:=bD hw hs hf
 rcases hS with ⟨p,hp,hS⟩|⟨id,hp,hS⟩
 · obtain⟨us,bs,hfv,h1,h2⟩:=FP hp aRw
   have iK:(execOp a.eval o).run P w=.ok (.enter p.1 (us++c.args.toList.map a.eval++bs).toArray) w:=by simp only[execOp,ho,Sem.run_bind,xV hc hfv,Result.andThen_ok,nR hS.1];congr 2;apply Fq;simp
   have ES:=hS.2 G w _ hw ((h1.append IV).append h2);rw[iK];exact⟨BZ,(OQ ES).mono fun e w' he=>by have :=Ri hn hx e w' he;cases e<;>exact this⟩
 rw[hp] at aRw;obtain⟨l,hl,hfv⟩:=aFc aRw;obtain⟨fn,tmps,assign,body,hy,hR⟩:=hS G w _ l hw IV hl
 have iK:(execOp a.eval o).run P w=.ok (.round l.cS fn tmps assign body) w:=by
  have hy':(Instr.yield l.cS (c.args.map a.eval)).run P w=.ok (.round l.cS fn tmps assign body) w:=by rw[<-hy];congr 2;apply Fq;simp
  simp[execOp,ho,resolve,hc,hfv,Deferred.ofValue,invoke,hy']
 rw[iK];exact⟨BZ,RoundIn.mono (show RoundIn (Fw ro) 0 P l.cS fn tmps assign body w _ from hR) fun e w' he=>by have :=Ri hn hx e w' he;cases e<;>exact this⟩
theorem Qk {P:Program} {g:bB} {ro:Option Nat} {o:Oper} {r:dX} (HI:cJ P g o r) (RM:∀c,o.op≠ .defer c) {G:Gh} {H H':aA} {w:World} {s:List AV} {a:Act} {v:AV} (hw:WR g G H w) (hs:SR G w s a)
 (h:dK (Arg.eval g s) H r=some (v,H')) {next:Act->World->Prop} {Q:Exit->Act->World->Prop}
 (hn:∀u w' G',WR g G' H' w'->Ext G H w G' H' w'->VR G' w' v u->next (a.put o.dst u) w'):o.wpIn (Fw ro) 0 P a w next Q:=by
 obtain⟨n,u,w',G',hr,hnv,r1,r2,r3⟩:=HI s a G H w v H' hw hs h;refine⟨fun _ _=>trivial,?_⟩;rw[show o.semAt (Fw ro).round a.eval=execOp a.eval o from Oper.semAt_eq _ _ _ RM,hr]
 rcases hnv with rfl|⟨rfl,rfl⟩
 · exact hn u w' G' r1 r2 r3
 exact hn undef w' G' r1 r2 r3
theorem yM {P:Program} {g:bB} {mu:Bool} {o:Oper} {r:dX} (h:Oa P g mu o=some r) (hr:∀f azs,r≠ .jY f azs):∀c,o.op≠ .defer c:=by
 intro c ho;unfold Oa at h;rw[ho] at h;simp only at h;split at h
 · split at h
   · obtain rfl:=Aa h;exact hr _ _ rfl
   cases h
 cases h
theorem Vv {P:Program} {g:bB} {mu:Bool} {o:Oper} {f':Arg} {as':List Arg} (h:Oa P g mu o=some (.call f' as')):
 ∃c f,o.op=.call c/\c.callee=.value f/\bE g f=some f'/\nX g c.args.toList=some as':=by
 unfold Oa at h;split at h
 case h_30=>
  rename_i c ho;unfold nM at h;split at h
  case h_3=>
   rename_i f hc;split at h
   · rename_i f2 as2 hf has;cases h;exact⟨c,f,ho,hc,hf,has⟩
   cases h
  all_goals exfalso
  all_goals (try unfold qN at h)
  all_goals (try unfold gT at h)
  all_goals repeat' (split at h)
  all_goals first
   |(cases h;done)
   |(simp only[Ag] at h;obtain⟨_,_,h⟩:=h;cases h;done)
 all_goals exfalso
 all_goals (try unfold qM at h)
 all_goals (try unfold jK at h)
 all_goals (try unfold mK at h)
 all_goals repeat' (split at h)
 all_goals first
  |(cases h;done)
  |(simp only[Ag] at h;obtain⟨_,_,h⟩:=h;cases h;done)
theorem mr {P:Program} {g:bB} {mu:Bool} {o:Oper} {x':Arg} (h:Oa P g mu o=some (.panic x')):∃x,o.op=.panic x/\bE g x=some x':=by
 unfold Oa at h;split at h
 case h_31=>rename_i x ho;simp only[Ag] at h;obtain⟨y,hy,he⟩:=h;cases he;exact⟨x,ho,hy⟩
 all_goals exfalso
 all_goals (try unfold qM at h)
 all_goals (try unfold jK at h)
 all_goals (try unfold mK at h)
 all_goals (try unfold nM at h)
 all_goals (try unfold qN at h)
 all_goals (try unfold gT at h)
 all_goals repeat' (split at h)
 all_goals first
  |(cases h;done)
  |(simp only[Ag] at h;obtain⟨_,_,h⟩:=h;cases h;done)
theorem ml {P:Program} {g:bB} {mu:Bool} {o:Oper} {f':Arg} {as':List Arg} (h:Oa P g mu o=some (.jY f' as')):
 ∃c f,o.op=.defer c/\c.callee=.value f/\bE g f=some f'/\nX g c.args.toList=some as':=by
 unfold Oa at h;split at h
 case h_32=>
  rename_i c ho;split at h
  · rename_i f hc;split at h
    · rename_i f2 as2 hf has;cases h;exact⟨c,f,ho,hc,hf,has⟩
    cases h
  cases h
 all_goals exfalso
 all_goals (try unfold qM at h)
 all_goals (try unfold jK at h)
 all_goals (try unfold mK at h)
 all_goals (try unfold nM at h)
 all_goals (try unfold qN at h)
 all_goals (try unfold gT at h)
 all_goals repeat' (split at h)
 all_goals first
  |(cases h;done)
  |(simp only[Ag] at h;obtain⟨_,_,h⟩:=h;cases h;done)
theorem KQ {P:Program} {ops:Array Oper} {ro:Option Nat} {Q Q':Exit->Act->World->Prop} (hq:∀e a w,Q e a w->Q' e a w):∀(l:List Nat) (a:Act) (w2:World),wpOpsIn (Fw ro) 0 P ops Q l a w2->wpOpsIn (Fw ro) 0 P ops Q' l a w2:=by
 intro l
 induction l with
 |nil=>exact fun a w2 hh=>hq _ _ _ hh
 |cons i l ih=>
  intro a w2 hh;rw[wpOpsIn_cons] at hh ⊢;unfold wpOpIn at hh ⊢;split
  · rename_i hi;simp only[hi] at hh;exact ih _ _ hh
  rename_i x hi;simp only[hi] at hh;split
  · rename_i RR;simp only[RR,if_true] at hh;unfold Oper.wpIn at *;refine⟨hh.1,?_⟩;have hh:=hh.2;generalize (x.semAt (Fw ro).round a.eval).run P w2=rr at *
    have eq:∀(e:Ending) (w4:World),zp (wpOpsIn (Fw ro) 0 P ops Q l) Q a x.dst e w4->zp (wpOpsIn (Fw ro) 0 P ops Q' l) Q' a x.dst e w4:=fun e w4 yT=>by
     cases e with
     |returned v=>exact ih _ _ yT
     |panicked ch=>exact hq _ _ _ yT
     |outgrown=>exact let⟨a0,w0,q⟩:=yT;⟨a0,w0,hq _ _ _ q⟩
    cases rr with
    |ok n w3=>
     cases n<;>simp only[Oper.uponIn] at hh ⊢ <;>first
      |exact ih _ _ hh
      |exact hh
      |exact⟨hh.1,CallsIn.mono hh.2 (fun e w4 h=>by have :=eq e w4 (by cases e<;>exact h);cases e<;>exact this)⟩
      |exact⟨hh.1,RoundIn.mono hh.2 (fun e w4 h=>by have :=eq e w4 (by cases e<;>exact h);cases e<;>exact this)⟩
      |exact⟨hh.1,RowsIn.mono hh.2 (fun _ _ yT=>ih _ _ yT)⟩
    |halt y w3=>cases y<;>simp only[Oper.uponIn] at hh ⊢ <;>first|exact hh|exact hq _ _ _ hh
  rename_i RR;simp only[RR] at hh;exact⟨hh.1,ih _ _ hh.2⟩
theorem mv {P:Program} {g:bB} {mu:Bool} {o:Oper} {x':Arg} (h:Oa P g mu o=some (.wG x')):∃t x k v,o.op=.range t x/\bE g x=some x'/\P.underlying t=some (.map k v):=by
 unfold Oa at h;split at h
 case h_27=>
  rename_i t x ho;split at h
  · rename_i y k v hy ht;cases h;exact⟨t,x,k,v,ho,hy,ht⟩
  cases h
 all_goals exfalso
 all_goals (try unfold qM at h)
 all_goals (try unfold jK at h)
 all_goals (try unfold mK at h)
 all_goals (try unfold nM at h)
 all_goals (try unfold qN at h)
 all_goals (try unfold gT at h)
 all_goals repeat' (split at h)
 all_goals first
  |(cases h;done)
  |(simp only[Ag] at h;obtain⟨_,_,h⟩:=h;cases h;done)
theorem zw {P:Program} {g:bB} {mu:Bool} {o:Oper} {x':Arg} (h:Oa P g mu o=some (.EW x')):∃x,o.op=.next x false/\bE g x=some x':=by
 unfold Oa at h;split at h
 case h_28=>
  rename_i x s ho;split at h
  · rename_i y hy;cases h;exact⟨x,ho,hy⟩
  cases h
 all_goals exfalso
 all_goals (try unfold qM at h)
 all_goals (try unfold jK at h)
 all_goals (try unfold mK at h)
 all_goals (try unfold nM at h)
 all_goals (try unfold qN at h)
 all_goals (try unfold gT at h)
 all_goals repeat' (split at h)
 all_goals first
  |(cases h;done)
  |(simp only[Ag] at h;obtain⟨_,_,h⟩:=h;cases h;done)
theorem mq {P:Program} {g:bB} {mu:Bool} {o:Oper} {x':Arg} (h:Oa P g mu o=some (.zC x')):∃x,o.op=.entry x/\bE g x=some x':=by
 unfold Oa at h;split at h
 case h_29=>rename_i x ho;simp only[Ag] at h;obtain⟨y,hy,he⟩:=h;cases he;exact⟨x,ho,hy⟩
 all_goals exfalso
 all_goals (try unfold qM at h)
 all_goals (try unfold jK at h)
 all_goals (try unfold mK at h)
 all_goals (try unfold nM at h)
 all_goals (try unfold qN at h)
 all_goals (try unfold gT at h)
 all_goals repeat' (split at h)
 all_goals first
  |(cases h;done)
  |(simp only[Ag] at h;obtain⟨_,_,h⟩:=h;cases h;done)
theorem Zp {G:Gh} {w:World} {id:Nat} {u:Value} (h:VR G w (.map id) u):∃l,G.loc id=some l/\u=.map (some l.cS):=by
 cases h with
 |map _ l hl=>exact⟨l,hl,rfl⟩
theorem aDt {G:Gh} {w:World} {id off:Nat} {u:Value} (h:VR G w (.ref id off) u):∃l,G.loc id=some l/\u=.pointer (some ⟨l.cS,l.base+off,none⟩):=by
 cases h with
 |ref _ _ l hl=>exact⟨l,hl,rfl⟩
theorem GX {α:Type} {a:Array α} {i:Nat} {x:α} (h:a[i]?=some x):a.setIfInBounds i x=a:=by
 apply Array.ext_getElem?;intro j;rw[Gb];split
 · rename_i AE;subst AE;rw[if_pos (Cd.1 h).1,h]
 rfl
theorem WR.fresh {g:bB} {G:Gh} {H:aA} {w:World} (hw:WR g G H w):G.loc H.next=none:=by
 cases hl:G.loc H.next with
 |none=>rfl
 |some l'=>exact absurd (hw.lt _ _ hl) (Fe _)
theorem bt {P:Program} {g:bB} {G:Gh} {H:aA} {w:World} (hw:WR g G H w) {m:Nat} {es:List (AV×AV)} {u:Value} (hg:H.get m=some (.map es)) (hu:VR G w (.map m) u)
 {t k v:TypeId} (ht:P.underlying t=some (.map k v)):∃bs c mb u' w' G',bs.length=es.length/\bs.Nodup/\(Instr.range t u).run P w=.ok u' w'/\
   WR g G' ((H.set m (.tK es bs c mb)).alloc (.iter m mb c [])) w'/\Ext G H w G' ((H.set m (.tK es bs c mb)).alloc (.iter m mb c [])) w'/\VR G' w' (.ref H.next 0) u':=by
 obtain⟨l,hl,rfl⟩:=Zp hu;obtain⟨Tp,VG,ents,clock,h1,h2,h3,h4⟩:=hw.gZ _ _ _ hl hg rfl;have hlen:(ents.toList.map (·.born)).length=es.length:=by simpa using h2
 have RM:(ents.toList.map (·.born)).Nodup:=by rw[List.Nodup,Gn];intro i j hi hj AE he;simp only[Ad,Dh] at hi hj;simp only[Co,Array.getElem_toList] at he;have :=h3.2 i j hi hj (by rw[Bn,Bn,Dx hi,Dx hj];exact he);omega
 have eQ:∀b∈ents.toList.map (·.born),b<clock:=by
  intro b hb;simp only[Bf] at hb;obtain⟨x,hx,rfl⟩:=hb;obtain⟨i,hi,rfl⟩:=Cv hx;have oY:i<ents.size:=by simpa using hi
  have :=h3.1 i oY;rw[Bn,Dx oY] at this;simpa using this
 refine⟨ents.toList.map (·.born),clock,l.cS,.pointer (some ⟨w.heap.size,0,none⟩),w.alloc (.mapIter (some l.cS) clock #[] clock),G.dS H.next ⟨w.heap.size,0,0,1⟩,hlen,RM,?_,?_⟩
 · simp[Instr.range,underlying,program,ht,getObj,newObj,Sem.run,h1,Result.andThen]
 obtain⟨q1,q2⟩:=hw.GW (o':=.tK es (ents.toList.map (·.born)) clock l.cS) (x:=.map ents clock) (w':=w) hl hg rfl rfl (GX h1).symm .now
  (fun _ xI=>⟨rfl,RM,eQ,ents,xI,rfl,hlen,h4⟩)
 have m1:=q1.DP (H':=(H.set m (.tK es (ents.toList.map (·.born)) clock l.cS)).alloc (.iter m l.cS clock [])) H.next (.iter m l.cS clock []) (.mapIter (some l.cS) clock #[] clock) rfl q1.fresh (aA.aF _ _) (Hb _) (Ew _) (w':=w.alloc (.mapIter (some l.cS) clock #[] clock)) ⟨rfl,.now⟩
  (fun hm=>⟨by show(w.heap.push _)[w.heap.size]?=_;simp,hm _ _ (.map m l hl)⟩)
 exact⟨m1.rel,m1.ext q2 (Ak _),.ref H.next 0 ⟨w.heap.size,0,0,1⟩ (by show(if H.next=H.next then some (⟨w.heap.size,0,0,1⟩:Loc) else _)=_;simp)⟩
theorem qu {P:Program} {g:bB} {G:Gh} {H:aA} {w:World} (hw:WR g G H w) {it m mb c:Nat} {seen bs:List Nat} {es:List (AV×AV)} {u:Value} (AJ:H.get it=some (.iter m mb c seen)) (hgm:H.get m=some (.tK es bs c mb))
 (hu:VR G w (.ref it 0) u) (ty:TypeId):
 ((∀b∈bs,b∈seen)/\(Instr.next u false ty).run P w=.ok (.tuple #[.bool false]) w)\/
 ∃j u' w' G',j<bs.length/\bs.getD j 0∉seen/\(Instr.next u false ty).run P w=.ok u' w'/\WR g G' (H.set it (.iter m mb c (seen++[bs.getD j 0]))) w'/\Ext G H w G' (H.set it (.iter m mb c (seen++[bs.getD j 0]))) w'/\
  VR G' w' (.gP [.bool true,(es.getD j (aD,aD)).1,(es.getD j (aD,aD)).2]) u':=by
 obtain⟨li,wo,rfl⟩:=aDt hu;obtain⟨Tp,VG,hbi,hvm⟩:=hw.gZ _ _ _ wo AJ rfl;obtain⟨lm,hlm,hmb⟩:=Zp hvm;cases hmb;obtain⟨_,_,_,RM,eQ,ents,hbm,SL,hlen,fP⟩:=hw.gZ _ _ _ hlm hgm rfl;rw[Tp];have hold:∀x∈ents.toList,x.born<c:=fun x hx=>eQ _ (by rw[<-SL];exact List.mem_map_of_mem hx)
 rcases run_next_at (P:=P) w ty li.cS lm.cS c c seen.toArray ents c hbi hbm hold (Ak _) with ⟨h0,hr⟩|⟨e,he,w1,Nd,hr⟩
 · refine .inl ⟨fun b hb=>?_,hr⟩;rw[<-SL] at hb;obtain⟨x,hx,rfl⟩:=Bf.1 hb;have WT:=Array.eq_empty_of_size_eq_zero h0;unfold leftOf at WT;rw[Array.filter_eq_empty_iff] at WT;have :=WT x (by simpa using hx);simpa using this
 right;unfold leftOf at he;simp only[Array.toList_filter,Ga,Ct,List.contains_toArray] at he;obtain⟨hem,pz⟩:=he;obtain⟨j,hj,hje⟩:=Cv hem;have hjs:j<ents.size:=by simpa using hj
 have hjb:j<bs.length:=by rw[<-SL];simpa using hj
 have hbj:bs.getD j 0=e.born:=by subst SL;simp[Ck,Bo,Ab hj,hje]
 have aRr:ents.getD j default=e:=by rw[Bn,Dx hjs];simpa using hje
 have aWq:w1.heap=w.heap:=by rcases Nd with rfl|rfl<;>rfl
 have EU:AS w w1:=by rcases Nd with rfl|rfl<;>exact .now
 obtain⟨q1,q2⟩:=hw.GW (o':=.iter m lm.cS c (seen++[bs.getD j 0])) (x:=.mapIter (some lm.cS) c (seen.toArray.push e.born) c)
  (w':=ChangeMaps.setBlock w1 li.cS (.mapIter (some lm.cS) c (seen.toArray.push e.born) c)) wo AJ rfl rfl (by show w1.heap.setIfInBounds _ _=_;rw[aWq]) ⟨EU.os,EU.output,EU.tape,EU.drawn⟩
  (fun hm xI=>⟨by rw[xI,hbj];simp,hm _ _ hvm⟩)
 obtain⟨vk,vv⟩:=fP j (by omega);rw[aRr] at vk vv;refine⟨j,_,_,G,hjb,by rw[hbj];simpa using pz,hr,q1,q2,?_⟩;have ZU:∀a u,VR G w a u->VR G (ChangeMaps.setBlock w1 li.cS (.mapIter (some lm.cS) c (seen.toArray.push e.born) c)) a u:=fun a u h=>h.ext q2;refine VR.gP _ [.bool true,e.key,e.val] rfl fun i hi=>?_
 match i,hi with
 |0,_=>exact .bool true
 |1,_=>exact ZU _ _ vk
 |2,_=>exact ZU _ _ vv
 |k+3,hi=>simp at hi;omega
theorem Yz {P:Program} {g:bB} {G:Gh} {H:aA} {w:World} (hw:WR g G H w) {it m mb c j:Nat} {seen bs:List Nat} {es:List (AV×AV)} {u:Value} (AJ:H.get it=some (.iter m mb c (seen++[bs.getD j 0])))
 (hgm:H.get m=some (.tK es bs c mb)) (hj:j<bs.length) (hu:VR G w (.ref it 0) u):
 ∃u',(Instr.entry u).run P w=.ok u' w/\VR G w (.gP [(es.getD j (aD,aD)).1,(es.getD j (aD,aD)).2]) u':=by
 obtain⟨li,wo,rfl⟩:=aDt hu;obtain⟨Tp,VG,hbi,hvm⟩:=hw.gZ _ _ _ wo AJ rfl;obtain⟨lm,hlm,hmb⟩:=Zp hvm;cases hmb;obtain⟨_,_,_,RM,eQ,ents,hbm,SL,hlen,fP⟩:=hw.gZ _ _ _ hlm hgm rfl;rw[Tp];have hje:j<ents.toList.length:=by rw[<-SL] at hj;simpa using hj
 have hjs:j<ents.size:=by simpa using hje
 have hbj:bs.getD j 0=ents.toList[j].born:=by subst SL;simp[Ck,Bo,Ab hje]
 have aRr:ents.getD j default=ents.toList[j]:=by rw[Bn,Dx hjs];simp
 have hr:=run_entry_at (P:=P) w li.cS lm.cS c seen.toArray ents c ents.toList[j] (by rw[hbi,hbj];simp) hbm (Ai hje) (by rw[SL];exact RM);obtain⟨vk,vv⟩:=fP j (by omega);rw[aRr] at vk vv;refine⟨_,hr,VR.gP _ [_,_] rfl fun i hi=>?_⟩
 match i,hi with
 |0,_=>exact vk
 |1,_=>exact vv
 |k+2,hi=>simp at hi;omega
theorem FF {P:Program} {g:bB} {mu:Bool} {ro:Option Nat} {ops:Array Oper}:∀(l:List Oper) (rl:List bC) (k:Nat),gM P g mu ops l=some rl->(∀j,(h:j<l.length)->ops[k+j]?=some l[j])->
 (ro=none\/∀r∈rl,∀f azs,r.op≠ .jY f azs)->∀(s:List AV) (ds:List fY) (G:Gh) (H:aA) (w:World) (a:Act) (Q:AQ),tW P g rl s ds H Q->WR g G H w->SR G w s a->TO G w ds a.defers->
   wpOpsIn (Fw ro) 0 P ops (QR g G H w Q) (List.range' k l.length) a w
 |[],rl,k,hc,hl,AM,s,ds,G,H,w,a,Q,h,hw,hs,hd=>by obtain rfl:=Aa hc;exact⟨.normal,s,ds,H,G,h,hw,Ext.refl G H w,hs,hd,trivial⟩
 |o::l,rl,k,hc,hl,AM,s,ds,G,H,w,a,Q,h,hw,hs,hd=>by
  unfold gM at hc;split at hc
  · rename_i r rs hr hrs;obtain rfl:=Aa hc
    have ho:ops[k]?=some o:=hl 0 (by simp)
    have oS:∀j,(h:j<l.length)->ops[k+1+j]?=some l[j]:=fun j hj=>by have :=hl (j+1) (by simpa using hj);simpa [show k+(j+1)=k+1+j by omega] using this
    obtain⟨ED,uE,_⟩:=FR hr;have ia:=Qg hr hs
    have next:∀{v:AV} {u:Value} {H1:aA} {w1:World} {G1:Gh} {pQ:List fY} {a1:Act},tW P g rs (mE s r.dst v) pQ H1 Q->WR g G1 H1 w1->Ext G H w G1 H1 w1->VR G1 w1 v u->SR G w s a1->TO G1 w1 pQ a1.defers->
     wpOpsIn (Fw ro) 0 P ops (QR g G H w Q) (List.range' (k+1) l.length) (a1.put o.dst u) w1:=by
     intro v u H1 w1 G1 pQ a1 hA Nd he hv hs1 ow;have EG:=(hs1.ext he).put r.dst hv;rw[ED] at EG hA
     have hdp:TO G1 w1 pQ (a1.put o.dst u).defers:=by cases o.dst<;>exact ow
     have :=FF l rs (k+1) hrs oS (AM.imp id fun h x hx=>h x (Aw _ hx)) _ pQ G1 H1 w1 _ Q hA Nd EG hdp;exact KQ (fun _ _ _=>QR.trans he) _ _ _ this
    simp only[Ah,List.range'_succ];rw[wpOpsIn_cons];unfold wpOpIn;simp only[ho];rw[ia];unfold tW at h;by_cases RR:bH s r=true
    · rw[if_pos RR] at h ⊢;split at h
      · rename_i f azs fF;obtain⟨out,H',hS,tI⟩:=h;rw[fF] at uE;obtain⟨c,f0,e1,e2,e3,e4⟩:=Vv uE;refine Uy e1 e2 e3 e4 hw hs hS (fun v hv u w' G' jS he KU=>?_) (fun v hv u w' G' jS he KU=>?_)
        · subst hv
          exact next tI jS he KU hs (hd.ext he)
        subst hv;exact⟨.panic v,s,ds,H',G',tI,jS,he,hs.ext he,hd.ext he,u,rfl,KU⟩
      · rename_i x fF;obtain⟨t,v,hx,hq⟩:=h;rw[fF] at uE;obtain⟨x0,e1,e2⟩:=mr uE;have vx:=bD hw hs e2;rw[hx] at vx;generalize eB:a.eval x0=u at vx
        have iK:∀q,u=.iface t q->(execOp a.eval o).run P w=.halt (.panic u) w:=fun q hq=>by subst hq;simp[execOp,e1,eB,Instr.panic,goPanic]
        have vx':=vx;refine⟨fun _ _=>trivial,?_⟩;rw[show o.semAt (Fw ro).round a.eval=execOp a.eval o from Oper.semAt_eq _ _ _ fun c' h=>by rw[e1] at h;cases h]
        cases vx with
        |iface _ _ q hqv=>rw[iK q rfl];exact⟨.panic (.iface t v),s,ds,H,G,hq,hw,Ext.refl G H w,hs,hd,_,rfl,vx'⟩
      · rename_i f azs fF;obtain⟨p,hp,hA⟩:=h;rw[fF] at uE;obtain⟨c,f0,e1,e2,e3,e4⟩:=ml uE;obtain⟨us,bs,hfv,h1,h2⟩:=FP hp (bD hw hs e3);have IV:=uB hw hs e4
        have iK:(execOp a.eval o).run P w=.ok (.defer {target:=.fn (.func p.1) bs.toArray,args:=us.toArray++c.args.map a.eval}) w:=by simp only[execOp,e1,Sem.run_bind,xV e2 hfv,Result.andThen_ok,Sem.run_pure]
        have bGa:ro=none:=AM.resolve_right fun h=>h r (by simp) _ _ fF;subst bGa;refine⟨fun _ _=>trivial,?_⟩;rw[show o.semAt (Fw none).round a.eval=execOp a.eval o from rfl,iK]
        exact next hA hw (Ext.refl G H w) (VR.nD G w) (a1:={a with defers:={target:=.fn (.func p.1) bs.toArray,args:=us.toArray++c.args.map a.eval}::a.defers}) hs
         ⟨⟨bs,rfl,by simpa using(h1.append IV).append h2⟩,hd⟩
      · rename_i x fF;obtain⟨m,es,hx,hg,hA⟩:=h;rw[fF] at uE;obtain⟨t,x0,kt,vt,e1,e2,e3⟩:=mv uE;have vx:=bD hw hs e2;rw[hx] at vx;obtain⟨bs,c,mb,u',w',G',h1,h2,hr,q1,q2,q3⟩:=bt (P:=P) hw hg vx e3;refine⟨fun _ _=>trivial,?_⟩;rw[show o.semAt (Fw ro).round a.eval=execOp a.eval o from Oper.semAt_eq _ _ _ fun c' h=>by rw[e1] at h;cases h];rw[show(execOp a.eval o).run P w=.ok (.value u') w' by simp[execOp,e1,hr]]
        exact next (hA _ _ _ h1 h2) q1 q2 q3 hs (hd.ext q2)
      · rename_i x fF;obtain⟨it,m,mb,c,seen,es,bs,hx,AJ,hgm,xC,eF⟩:=h;rw[fF] at uE;obtain⟨x0,e1,e2⟩:=zw uE;have vx:=bD hw hs e2;rw[hx] at vx;refine⟨fun _ _=>trivial,?_⟩;rw[show o.semAt (Fw ro).round a.eval=execOp a.eval o from Oper.semAt_eq _ _ _ fun c' h=>by rw[e1] at h;cases h]
        rcases qu (P:=P) hw AJ hgm vx o.type with ⟨h1,hr⟩|⟨j,u',w',G',h1,h2,hr,q1,q2,q3⟩
        · rw[show(execOp a.eval o).run P w=.ok (.value (.tuple #[.bool false])) w by simp[execOp,e1,hr]]
          exact next (xC h1) hw (Ext.refl G H w) (VR.gP [.bool false] [.bool false] rfl fun i hi=>by
           obtain rfl:i=0:=by simp at hi;exact hi
           exact .bool false) hs hd
        rw[show(execOp a.eval o).run P w=.ok (.value u') w' by simp[execOp,e1,hr]]
        exact next (eF j h1 h2) q1 q2 q3 hs (hd.ext q2)
      · rename_i x fF;obtain⟨it,m,mb,c,seen,es,bs,j,hx,AJ,hgm,hj,hA⟩:=h;rw[fF] at uE;obtain⟨x0,e1,e2⟩:=mq uE;have vx:=bD hw hs e2;rw[hx] at vx;obtain⟨u',hr,hv⟩:=Yz (P:=P) hw AJ hgm hj vx;refine⟨fun _ _=>trivial,?_⟩;rw[show o.semAt (Fw ro).round a.eval=execOp a.eval o from Oper.semAt_eq _ _ _ fun c' h=>by rw[e1] at h;cases h];rw[show(execOp a.eval o).run P w=.ok (.value u') w by simp[execOp,e1,hr]]
        exact next hA hw (Ext.refl G H w) hv hs hd
      rename_i n1 n2 n3 n4 n5 n6;obtain⟨v,H',hA,hn⟩:=h
      have nP:r.op.plain=true:=by cases PC:r.op<;>first|rfl|exact absurd PC (n1 _ _)|exact absurd PC (n2 _)|exact absurd PC (n3 _ _)|exact absurd PC (n4 _)|exact absurd PC (n5 _)|exact absurd PC (n6 _)
      refine Qk (Yl uE nP) (yM uE n3) hw hs hA (fun u w' G' jS he hv=>?_)
      exact next hn jS he hv hs (hd.ext he)
    rw[if_neg RR] at h ⊢;exact⟨fun _ _=>trivial,next h hw (Ext.refl G H w) (VR.nD G w) hs hd⟩
  cases hc
def dX.qE:dX->Bool
 |.store _ _ _|.append _ _ _ _ _|.clr _ _ _|.Pd _ _ _ _|.call _ _=>true
 |_=>false
def dX.reads:dX->Bool
 |.load _ _ _|.FD _ _ _ _ _ _|.EL _|.lookup _ _ _ _ _=>true
 |_=>false
def BQ:AV->Option Nat
 |.ref id _=>some id
 |.sl id _ _ _ _=>some id
 |.map id=>some id
 |_=>none
def dX.cY (ev:Arg->AV):dX->Option Nat
 |.load _ _ a=>BQ (ev a)
 |.FD _ _ x _ _ _=>BQ (ev x)
 |.EL x=>BQ (ev x)
 |.lookup _ _ _ x _=>BQ (ev x)
 |_=>none
def Arg.tmps:Arg->List Nat
 |.tmp t=>[t]
 |_=>[]
def dX.args:dX->List Arg
 |.Ni x|.box x|.un _ x|.OZ _ x|.CO x|.EL x|.cj _ x|.Zr _ x|.ZD _ x|.cy _ _ _ x|.ZB x _|.lens x|.Zi x|.load _ _ x|.panic x|.clr _ _ x=>[x]
 |.pick a b c=>[a,b,c]
 |.alloc _|.AF=>[]
 |.build _ ps=>ps.map (·.2.2)
 |.Pg _ xs=>xs
 |.store _ a x=>[a,x]
 |.bin _ x y|.eqb _ x y|.eqf _ _ x y|.eqn _ _ _ x y=>[x,y]
 |.Zq _ a b=>a++b
 |.jE _ _ _ l c=>[l,c]
 |.QQ x l h=>x::(l.toList++h.toList)
 |.cm _ x l h m|.FD _ _ x l h m=>x::(l.toList++(h.toList++m.toList))
 |.UD _ _ x i|.idx _ _ _ x i|.idxs x i|.Wy x i|.XA x i=>[x,i]
 |.append _ _ _ x y=>[x,y]
 |.lookup _ _ _ x i=>[x,i]
 |.Pd _ m k v=>[m,k,v]
 |.call f azs|.jY f azs=>f::azs
 |.wG x|.EW x|.zC x=>[x]
theorem iP {ev ev':Arg->AV} {x:Option Arg} (h:∀y∈x.toList,ev y=ev' y):cZ ev x=cZ ev' x:=by
 cases x with
 |none=>rfl
 |some y=>simp[cZ,h y (by simp)]
theorem MR {ev ev':Arg->AV}:∀(ps:List (Nat×Nat×Arg)) (cs:List AV),(∀y∈ps.map (·.2.2),ev y=ev' y)->IK ev cs ps=IK ev' cs ps
 |[],cs,h=>rfl
 |(o,n,x)::r,cs,h=>by
  have hx:=h x (by simp);simp only[IK,hx];split
  · exact MR r _ (fun y hy=>h y (by simp at hy ⊢;exact .inr hy))
  rfl
theorem PW {ev ev':Arg->AV} (sz:Nat):∀(xs:List Arg),(∀y∈xs,ev y=ev' y)->Lt ev sz xs=Lt ev' sz xs
 |[],h=>rfl
 |x::r,h=>by have hx:=h x (by simp);simp only[Lt,hx,PW sz r (fun y hy=>h y (by simp[hy]))]
theorem tQ {ev ev':Arg->AV} {r:dX} (h:∀y∈r.args,ev y=ev' y):yQ ev r=yQ ev' r:=by
 cases r<;>simp only[yQ]<;>first
  |rfl
  |(have h1:=h _ (Au);simp only[dX.args] at h;simp only[h1])
  |skip
 case jE sz b z l c=>have h2:=h c (by simp);rw[h2]
theorem l6 {ev ev':Arg->AV} {r:dX} (H:aA) (h:∀y∈r.args,ev y=ev' y):dK ev H r=dK ev' H r:=by
 have hm:∀l:List Arg,(∀y∈l,y∈r.args)->l.map ev=l.map ev':=fun l hl=>Ef fun y hy=>h y (hl y hy)
 cases r with
 |build z ps=>simp only[dK];rw[MR ps z h]
 |Pg sz xs=>simp only[dK];rw[PW sz xs h]
 |Zq fn a b=>simp only[dK];rw[hm a (fun y hy=>by simp[dX.args,hy]),hm b (fun y hy=>by simp[dX.args,hy])]
 |QQ x l hh=>have h1:=h x (by simp[dX.args]);have h2:cZ ev l=cZ ev' l:=iP fun y hy=>h y (by simp only[dX.args,Aq,As];exact .inr (.inl hy));have h3:cZ ev hh=cZ ev' hh:=iP fun y hy=>h y (by simp only[dX.args,Aq,As];exact .inr (.inr hy));simp only[dK,h1,h2,h3]
 |cm sz x l hh m=>have h1:=h x (by simp[dX.args]);have h2:cZ ev l=cZ ev' l:=iP fun y hy=>h y (by simp only[dX.args,Aq,As];exact .inr (.inl hy));have h3:cZ ev hh=cZ ev' hh:=iP fun y hy=>h y (by simp only[dX.args,Aq,As];exact .inr (.inr (.inl hy)));have h4:cZ ev m=cZ ev' m:=iP fun y hy=>h y (by simp only[dX.args,Aq,As];exact .inr (.inr (.inr hy)));simp only[dK,h1,h2,h3,h4]
 |FD n sz x l hh m=>have h1:=h x (by simp[dX.args]);have h2:cZ ev l=cZ ev' l:=iP fun y hy=>h y (by simp only[dX.args,Aq,As];exact .inr (.inl hy));have h3:cZ ev hh=cZ ev' hh:=iP fun y hy=>h y (by simp only[dX.args,Aq,As];exact .inr (.inr (.inl hy)));have h4:cZ ev m=cZ ev' m:=iP fun y hy=>h y (by simp only[dX.args,Aq,As];exact .inr (.inr (.inr hy)));simp only[dK,h1,h2,h3,h4]
 |alloc z=>simp only[dK,tQ (r:=.alloc z) h]
 |box x=>simp only[dK,tQ (r:=.box x) h]
 |AF=>simp only[dK,tQ (r:=.AF) h]
 |jE a b c d e=>simp only[dK,tQ (r:=.jE a b c d e) h]
 |CO x=>simp only[dK,tQ (r:=.CO x) h]
 |pick a b c=>have h1:=h a (by simp[dX.args]);have h2:=h b (by simp[dX.args]);have h3:=h c (by simp[dX.args]);simp only[dK,h1,h2,h3]
 |Pd k m i v=>have h1:=h m (by simp[dX.args]);have h2:=h i (by simp[dX.args]);have h3:=h v (by simp[dX.args]);simp only[dK,h1,h2,h3]
 |call f azs=>rfl
 |jY f azs=>rfl
 |panic x=>rfl
 |wG x=>rfl
 |EW x=>rfl
 |zC x=>rfl
 |store n a b=>have h1:=h a (by simp[dX.args]);have h2:=h b (by simp[dX.args]);simp only[dK,h1,h2]
 |bin op a b=>have h1:=h a (by simp[dX.args]);have h2:=h b (by simp[dX.args]);simp only[dK,h1,h2]
 |eqb op a b=>have h1:=h a (by simp[dX.args]);have h2:=h b (by simp[dX.args]);simp only[dK,h1,h2]
 |eqf op s a b=>have h1:=h a (by simp[dX.args]);have h2:=h b (by simp[dX.args]);simp only[dK,h1,h2]
 |eqn op k l a b=>have h1:=h a (by simp[dX.args]);have h2:=h b (by simp[dX.args]);simp only[dK,h1,h2]
 |UD n sz a b=>have h1:=h a (by simp[dX.args]);have h2:=h b (by simp[dX.args]);simp only[dK,h1,h2]
 |idx n sz g a b=>have h1:=h a (by simp[dX.args]);have h2:=h b (by simp[dX.args]);simp only[dK,h1,h2]
 |idxs a b=>have h1:=h a (by simp[dX.args]);have h2:=h b (by simp[dX.args]);simp only[dK,h1,h2]
 |append s b m x y=>have h1:=h x (by simp[dX.args]);have h2:=h y (by simp[dX.args]);simp only[dK,h1,h2]
 |lookup k z ok x y=>have h1:=h x (by simp[dX.args]);have h2:=h y (by simp[dX.args]);simp only[dK,h1,h2]
 |Ni x=>have h1:=h x (by simp[dX.args]);simp only[dK,h1]
 |Wy x y=>have h1:=h x (by simp[dX.args]);have h2:=h y (by simp[dX.args]);simp only[dK,h1,h2]
 |XA x y=>have h1:=h x (by simp[dX.args]);have h2:=h y (by simp[dX.args]);simp only[dK,h1,h2]
 |clr n z x=>have h1:=h x (by simp[dX.args]);simp only[dK,h1]
 |un o x=>have h1:=h x (by simp[dX.args]);simp only[dK,h1]
 |OZ k x=>have h1:=h x (by simp[dX.args]);simp only[dK,h1]
 |EL x=>have h1:=h x (by simp[dX.args]);simp only[dK,h1]
 |cj n x=>have h1:=h x (by simp[dX.args]);simp only[dK,h1]
 |Zr t x=>have h1:=h x (by simp[dX.args]);simp only[dK,h1]
 |ZD n x=>have h1:=h x (by simp[dX.args]);simp only[dK,h1]
 |cy t ok z x=>have h1:=h x (by simp[dX.args]);simp only[dK,h1]
 |ZB x i=>have h1:=h x (by simp[dX.args]);simp only[dK,h1]
 |lens x=>have h1:=h x (by simp[dX.args]);simp only[dK,h1]
 |Zi x=>have h1:=h x (by simp[dX.args]);simp only[dK,h1]
 |load g n x=>have h1:=h x (by simp[dX.args]);simp only[dK,h1]
theorem LN {ev:Arg->AV} {r:dX} (he:r.qE=false) (hf:r.fresh=false) {H H1:aA} {v:AV} {H':aA} (h:dK ev H r=some (v,H'))
 (hr:∀id,r.cY ev=some id->H1.get id=H.get id):H'=H/\dK ev H1 r=some (v,H1):=by
 have hca:∀{id:Nat},H1.get id=H.get id->H1.eP id=H.eP id:=fun hh=>by simp[aA.eP,hh]
 cases r<;>first
  |(cases he;done)
  |(cases hf;done)
  |skip
 case load agg n a=>
  simp only[dK] at h ⊢;simp only[dX.cY] at hr;split at h
  · rename_i id off hid;have :=hca (hr id (by rw[hid];rfl));simp only[this];split at h
    · split at h
      · split at h
        · simp only[Ac,Aj] at h ⊢;simp_all
        split at h
        · simp only[Ac,Aj] at h ⊢;simp_all
        cases h
      cases h
    cases h
  · rename_i cs hid;split at h
    · split at h
      · simp only[Ac,Aj] at h ⊢;simp_all
      split at h
      · simp only[Ac,Aj] at h ⊢;simp_all
      cases h
    cases h
  cases h
 case FD n sz x lo hi mx=>
  simp only[dK] at h ⊢;simp only[dX.cY] at hr;split at h
  · simp only[Ag,Aj] at h ⊢;obtain⟨v',h,rfl,rfl⟩:=h;refine⟨rfl,v',?_,by simp⟩;unfold tU at h ⊢;simp only at h ⊢;split at h
    · rename_i hc;rw[if_pos hc];split at h
      · rename_i id o hid;have :=hca (hr id (by rw[hid];rfl));simp only[this];exact h
      · exact h
      cases h
    cases h
  cases h
 case EL x=>
  simp only[dK] at h ⊢;simp only[dX.cY] at hr
  have Oy:dM H1 1 (ev x)=dM H 1 (ev x):=by cases hx:ev x<;>simp only[dM];rename_i id sz off len cap;have :=hca (hr id (by rw[hx];rfl));simp only[this]
  split at h
  · cases h
  rename_i pz;rw[Oy];split at h
  · simp only[Ag,Aj] at h ⊢;obtain⟨bs,h1,rfl,rfl⟩:=h;exact⟨rfl,bs,h1,by simp⟩
  cases h
 case lookup k z ok x i=>
  simp only[dK] at h ⊢;simp only[dX.cY] at hr;split at h
  · rename_i hk;rw[if_pos hk];split at h
    · simp only[Ac,Aj] at h ⊢;simp_all
    · rename_i id hid;have :=hr id (by rw[hid];rfl);simp only[this];split at h
      · split at h
        · simp only[Ac,Aj] at h ⊢;simp_all
        · simp only[Ac,Aj] at h ⊢;simp_all
        cases h
      cases h
    cases h
  cases h
 case Wy x y=>
  simp only[dK] at h ⊢;split at h
  · rename_i h1 h2;simp only[Ac,Aj] at h;obtain⟨rfl,rfl⟩:=h;exact⟨rfl,rfl⟩
  cases h
 case XA x y=>
  simp only[dK] at h ⊢;split at h
  · rename_i h1 h2;simp only[Ac,Aj] at h;obtain⟨rfl,rfl⟩:=h;exact⟨rfl,rfl⟩
  cases h
 all_goals
  simp only[dK] at h ⊢
  repeat' (split at h)
  all_goals first
   |(cases h;done)
   |(simp only[Ac,Aj] at h
     obtain⟨rfl,rfl⟩:=h
     exact⟨rfl,by simp_all⟩)
   |(simp only[Ag,Aj] at h
     obtain⟨q,h1,rfl,rfl⟩:=h
     exact⟨rfl,by simp_all⟩)
section
def CQ (r:bC):List Nat:=r.op.args.flatMap Arg.tmps++(match r.guard with|some (d,_)=>[d]|none=>[])
def eY (rl:List bC) (i:Nat):Nat:=(rl.take i).countP (·.op.fresh)
def DStep (P:Program) (g:bB) (pn:Bool) (id:Nat) (r:bC) (s:List AV) (H:aA) (v:AV) (H':aA):Prop:=
 if bH s r then
  if r.op.fresh then ∃ob val,yQ (Arg.eval g s) r.op=some (ob,val)/\v=val id/\H'=H.set id ob
  else match r.op with
   |.call f azs=>if pn=true then v=aD/\H'=H else ∃p,lL (f.eval g s)=some p/\Sound P g p.1 (p.2.1++azs.map (Arg.eval g s)++p.2.2) H (.ret v) H'
   |.panic _|.jY _ _=>False
   |op=>dK (Arg.eval g s) H op=some (v,H')
 else v=aD/\H'=H
structure cV (P:Program) (g:bB) (rl:List bC) (pj:Option Nat) (pairs:List (Nat×Nat)) (s0:List AV) (H0:aA) (Hs:Nat->aA) (ss:Nat->List AV) (vs:Nat->AV):Prop where
 s0:ss 0=s0
 h0:Hs 0={H0 with next:=H0.next+rl.countP (·.op.fresh)}
 free:∀k,k<rl.countP (·.op.fresh)->H0.get (H0.next+k)=none
 step:∀i r,rl[i]?=some r->DStep P g (pj==some i) (H0.next+eY rl i) r (ss i) (Hs i) (vs i) (Hs (i+1))/\ss (i+1)=mE (ss i) r.dst (vs i)
 mono:∀i r,rl[i]?=some r->r.op.qE=true->(Hs i).next<=(Hs (i+1)).next
 GZ:∀i e,(i,e)∈pairs->∀ri re,rl[i]?=some ri->rl[e]?=some re->bH (ss i) ri=true->bH (ss e) re=true->
  ∀id,(ri.op.cY (Arg.eval g (ss i))=some id\/(ri.op.fresh=true/\id=H0.next+eY rl i))->(Hs e).get id=(Hs (e+1)).get id
structure tX (ops:Array Oper) (rl:List bC) (pairs:List (Nat×Nat)) (anc:Nat->Nat->Bool):Prop where
 aWa:∀j o,ops[j]?=some o->∀e∈o.after,Region.binds .any e=true->e.on<j
 wit:∀i j,anc i j=true->∃o,ops[j]?=some o/\∃e∈o.after,Region.binds .any e=true/\(e.on=i\/anc i e.on=true)
 cmp:∀i j ri rj,i<j->rl[i]?=some ri->rl[j]?=some rj->anc i j=false->
  (ri.op.qE=true->rj.op.qE=false)/\(∀d,ri.dst=some d->d∉CQ rj/\rj.dst≠some d)/\(∀d,rj.dst=some d->d∉CQ ri)/\
  (rj.op.qE=true->(ri.op.reads=true\/ri.op.fresh=true)->(i,j)∈pairs)/\(ri.op.qE=true->rj.op.reads=true->(j,i)∈pairs)
 early:∀i j ri rj,i<j->rl[i]?=some ri->rl[j]?=some rj->ri.op.qE=true->rj.op.fresh=true->(j,i)∈pairs
 lits:∀(i:Nat) (r:bC),rl[i]?=some r->r.op.reads=true->∀v,Arg.const v∈r.op.args->BQ v=none
theorem nI {r:dX} (h:r.fresh=true):r.qE=false:=by cases r<;>first|rfl|cases h
theorem lG {r:dX} {ev:Arg->AV} {id:Nat} (h:r.cY ev=some id):r.reads=true:=by cases r<;>first|rfl|cases h
theorem OK {ev:Arg->AV} {r:dX} {H:aA} {x:AV×aA} {id:Nat} (h:dK ev H r=some x) (hr:r.cY ev=some id):H.get id≠none:=by
 intro hn;have hc:H.eP id=none:=by simp[aA.eP,hn]
 cases r<;>simp only[dX.cY] at hr<;>try (cases hr;done)
 · rename_i agg n a;simp only[dK] at h
   cases ha:ev a<;>rw[ha] at hr<;>simp only[BQ] at hr<;>try (cases hr;done)
   all_goals (obtain rfl:=Aa hr;simp[ha,hc] at h)
 · rename_i x;simp only[dK] at h
   cases ha:ev x<;>rw[ha] at hr<;>simp only[BQ] at hr<;>try (cases hr;done)
   all_goals (obtain rfl:=Aa hr;simp[ha,dM,hc] at h)
 · rename_i n sz x lo hi mx;simp only[dK] at h;split at h
   · unfold tU at h
     cases ha:ev x<;>rw[ha] at hr<;>simp only[BQ] at hr<;>try (cases hr;done)
     all_goals (obtain rfl:=Aa hr;simp[ha,hc] at h)
   cases h
 rename_i k z ok x i;simp only[dK] at h;split at h
 · cases ha:ev x<;>rw[ha] at hr<;>simp only[BQ] at hr<;>try (cases hr;done)
   all_goals (obtain rfl:=Aa hr;simp[ha,hn] at h)
 cases h
section
variable {P:Program} {g:bB} {rl:List bC} {pj:Option Nat} {pairs:List (Nat×Nat)} {s0:List AV} {H0:aA} {Hs:Nat->aA} {ss:Nat->List AV} {vs:Nat->AV}
abbrev kept (H0:aA) (rl:List bC) (i:Nat):Nat:=H0.next+eY rl i
theorem BB {α:Type} (p:α->Bool):∀(l:List α) (i:Nat) (x:α),l[i]?=some x->p x=true->(l.take i).countP p<l.countP p
 |[],i,x,h,_=>by simp at h
 |y::l,0,x,h,hp=>by simp at h;subst h;simp[Gz,hp]
 |y::l,i+1,x,h,hp=>by have :=BB p l i x (by simpa using h) hp;simp only[Dn,Gz];omega
theorem wW {α:Type} (p:α->Bool):∀(l:List α) (i j:Nat) (x:α),l[i]?=some x->p x=true->i<j->(l.take i).countP p<(l.take j).countP p
 |[],i,j,x,h,_,_=>by simp at h
 |y::l,0,j+1,x,h,hp,_=>by simp at h;subst h;simp[Gz,hp]
 |y::l,i+1,j+1,x,h,hp,AE=>by have :=wW p l i j x (by simpa using h) hp (by omega);simp only[Dn,Gz];omega
theorem nQ {i j:Nat} {ri rj:bC} (hi:rl[i]?=some ri) (hj:rl[j]?=some rj) (fi:ri.op.fresh=true) (fj:rj.op.fresh=true) (bN:i≠j):kept H0 rl i≠kept H0 rl j:=by
 have key:∀{i j:Nat} {ri:bC},rl[i]?=some ri->ri.op.fresh=true->i<j->eY rl i<eY rl j:=fun h f AE=>wW (fun r:bC=>r.op.fresh) rl _ _ _ h f AE
 unfold kept
 rcases Nat.lt_or_gt_of_ne bN with h|h
 · have :=key hi fi h;omega
 have :=key hj fj h;omega
theorem ij {i:Nat} {ri:bC} (hi:rl[i]?=some ri) (fi:ri.op.fresh=true):eY rl i<rl.countP (·.op.fresh):=
 BB (fun r:bC=>r.op.fresh) rl i ri hi fi
theorem cV.oB (D:cV P g rl pj pairs s0 H0 Hs ss vs) {i:Nat} {r:bC} (hi:rl[i]?=some r) (hf:r.op.fresh=true) (hw:bH (ss i) r=true):
 ∃ob val,yQ (Arg.eval g (ss i)) r.op=some (ob,val)/\vs i=val (kept H0 rl i)/\Hs (i+1)=(Hs i).set (kept H0 rl i) ob:=by
 have :=(D.step i r hi).1;unfold DStep at this;rw[if_pos hw,if_pos hf] at this;exact this
theorem cV.GR (D:cV P g rl pj pairs s0 H0 Hs ss vs) {i:Nat} {r:bC} (hi:rl[i]?=some r) (hf:r.op.fresh=false) (he:r.op.qE=false):Hs (i+1)=Hs i:=by
 have :=(D.step i r hi).1;unfold DStep at this;split at this
 · rw[if_neg (by simp[hf])] at this;split at this
   · rename_i fF;rw[fF] at he;cases he
   · exact this.elim
   · exact this.elim
   exact(LN (H1:=Hs i) he hf this (fun id _=>rfl)).1
 exact this.2
theorem cV.wM (D:cV P g rl pj pairs s0 H0 Hs ss vs) {i:Nat} {r:bC} (hi:rl[i]?=some r) (hw:bH (ss i) r=false):Hs (i+1)=Hs i/\vs i=aD:=by have :=(D.step i r hi).1;unfold DStep at this;rw[if_neg (by simp[hw])] at this;exact⟨this.2,this.1⟩
theorem cV.CA {ops:Array Oper} {anc:Nat->Nat->Bool} (D:cV P g rl pj pairs s0 H0 Hs ss vs) (K:tX ops rl pairs anc) {i:Nat} {r:bC} (hi:rl[i]?=some r) (hf:r.op.fresh=true) (hw:bH (ss i) r=true):
 ∀k,k<=i->(Hs k).get (kept H0 rl i)=none:=by
 intro k
 induction k with
 |zero=>intro _;rw[D.h0];exact D.free _ (ij hi hf)
 |succ k ih=>
  intro hk;have ihk:=ih (by omega);have eQ:=(Be.1 hi).1
  obtain⟨rk,Qo⟩:∃rk,rl[k]?=some rk:=⟨rl[k]'(by omega),Ab (by omega)⟩
  by_cases hwk:bH (ss k) rk=true
  · by_cases YE:rk.op.qE=true
    · rw[<-D.GZ i k (K.early k i rk r (by omega) Qo hi YE hf) r rk hi Qo hw hwk _ (.inr ⟨hf,rfl⟩)];exact ihk
    by_cases wg:rk.op.fresh=true
    · obtain⟨ob,val,_,_,h3⟩:=D.oB Qo wg hwk;rw[h3,aA.aC,if_neg (nQ hi Qo hf wg (by omega))];exact ihk
    rw[D.GR Qo (by simpa using wg) (by simpa using YE)];exact ihk
  rw[(D.wM Qo (by simpa using hwk)).1];exact ihk
theorem cV.sD (D:cV P g rl pj pairs s0 H0 Hs ss vs) {id:Nat} {p q:Nat} (hq:q<=rl.length)
 (aRs:∀e r,p<=e->e<q->rl[e]?=some r->r.op.qE=true->bH (ss e) r=true->(Hs e).get id=(Hs (e+1)).get id)
 (DI:∀i r,p<=i->i<q->rl[i]?=some r->r.op.fresh=true->bH (ss i) r=true->id≠kept H0 rl i):
 ∀k,p<=k->k<=q->(Hs k).get id=(Hs p).get id:=by
 intro k
 induction k with
 |zero=>intro h1 _;obtain rfl:p=0:=(by omega);rfl
 |succ k ih=>
  intro h1 h2;by_cases hp:p=k+1
  · rw[hp]
  rw[<-ih (by omega) (by omega)]
  obtain⟨rk,Qo⟩:∃rk,rl[k]?=some rk:=⟨rl[k]'(by omega),Ab (by omega)⟩
  by_cases hwk:bH (ss k) rk=true
  · by_cases YE:rk.op.qE=true
    · exact(aRs k rk (by omega) (by omega) Qo YE hwk).symm
    by_cases wg:rk.op.fresh=true
    · obtain⟨ob,val,_,_,h3⟩:=D.oB Qo wg hwk;rw[h3,aA.aC,if_neg (DI k rk (by omega) (by omega) Qo wg hwk)]
    rw[D.GR Qo (by simpa using wg) (by simpa using YE)]
  rw[(D.wM Qo (by simpa using hwk)).1]
theorem cV.TB (D:cV P g rl pj pairs s0 H0 Hs ss vs) {p q:Nat} (hq:q<=rl.length) (aRs:∀e r,p<=e->e<q->rl[e]?=some r->r.op.qE=false):
 ∀k,p<=k->k<=q->(Hs k).next=(Hs p).next:=by
 intro k
 induction k with
 |zero=>intro h1 _;obtain rfl:p=0:=(by omega);rfl
 |succ k ih=>
  intro h1 h2;by_cases hp:p=k+1
  · rw[hp]
  rw[<-ih (by omega) (by omega)]
  obtain⟨rk,Qo⟩:∃rk,rl[k]?=some rk:=⟨rl[k]'(by omega),Ab (by omega)⟩
  have YE:=aRs k rk (by omega) (by omega) Qo;by_cases hwk:bH (ss k) rk=true
  · by_cases wg:rk.op.fresh=true
    · obtain⟨ob,val,_,_,h3⟩:=D.oB Qo wg hwk;rw[h3];rfl
    rw[D.GR Qo (by simpa using wg) YE]
  rw[(D.wM Qo (by simpa using hwk)).1]
theorem cV.xR (D:cV P g rl pj pairs s0 H0 Hs ss vs) {p:Nat}:∀k,p<=k->k<=rl.length->(Hs p).next<=(Hs k).next:=by
 intro k
 induction k with
 |zero=>intro h1 _;obtain rfl:p=0:=(by omega);exact Ak _
 |succ k ih=>
  intro h1 h2;by_cases hp:p=k+1
  · rw[hp];exact Ak _
  refine Br (ih (by omega) (by omega)) ?_
  obtain⟨rk,Qo⟩:∃rk,rl[k]?=some rk:=⟨rl[k]'(by omega),Ab (by omega)⟩
  by_cases YE:rk.op.qE=true
  · exact D.mono k rk Qo YE
  have :=D.TB (p:=k) (q:=k+1) h2 (fun e r h3 h4 h5=>by
   obtain rfl:e=k:=by omega
   rw[Qo] at h5;cases h5
   simpa using YE) (k+1) (by omega) (Ak _)
  omega
def writes (rl:List bC) (s0:List AV) (t i:Nat):Bool:=
 match rl[i]? with
 |some r=>r.dst==some t&&decide (t<s0.length)
 |none=>false
def xL (S:Nat->Bool) (rl:List bC) (s0:List AV) (vs:Nat->AV) (t:Nat):Nat->AV
 |0=>s0.getD t aD
 |i+1=>if(S i&&writes rl s0 t i)=true then vs i else xL S rl s0 vs t i
theorem SH (s:List AV) (dst:Option Nat) (v:AV) (t:Nat):(mE s dst v).getD t aD=if dst=some t/\t<s.length then v else s.getD t aD:=by
 cases dst with
 |none=>simp[mE]
 |some d=>
  simp only[mE,Ac];rw[getD_eq,getD_eq,Ht];by_cases hd:d=t
  · subst hd;by_cases hl:d<s.length
    · simp[hl]
    simp[hl]
  simp[hd]
theorem Mr (s:List AV) (dst:Option Nat) (v:AV):(mE s dst v).length=s.length:=by cases dst<;>simp[mE]
theorem cV.Lq (D:cV P g rl pj pairs s0 H0 Hs ss vs):∀j,j<=rl.length->(ss j).length=s0.length:=by
 intro j
 induction j with
 |zero=>intro _;rw[D.s0]
 |succ j ih=>
  intro hj
  obtain⟨r,hr⟩:∃r,rl[j]?=some r:=⟨rl[j]'(by omega),Ab (by omega)⟩
  rw[(D.step j r hr).2,Mr,ih (by omega)]
theorem cV.QV (D:cV P g rl pj pairs s0 H0 Hs ss vs) (t:Nat):∀j,j<=rl.length->(ss j).getD t aD=xL (fun _=>true) rl s0 vs t j:=by
 intro j
 induction j with
 |zero=>intro _;rw[D.s0];rfl
 |succ j ih=>
  intro hj
  obtain⟨r,hr⟩:∃r,rl[j]?=some r:=⟨rl[j]'(by omega),Ab (by omega)⟩
  rw[(D.step j r hr).2,SH,D.Lq j (by omega),ih (by omega)];simp only[xL,writes,hr,Cq,Am,Dc,Bh]
end
end
section
def dI (listed:Array Bool) (i:Nat):Bool:=listed.getD i false
structure oW (P:Program) (g:bB) (ops:Array Oper) (rl:List bC) (pairs:List (Nat×Nat)) (anc:Nat->Nat->Bool) (s0:List AV) (H0:aA) (Hs:Nat->aA) (ss:Nat->List AV) (vs:Nat->AV)
 (G0:Gh) (w0:World) (dl:List Deferred) (listed:Array Bool) (p:Nat) (G:Gh) (HS:aA) (w:World) (a:Act) (sS:List AV):Prop where
 size:listed.size=rl.length
 closed:∀i j,dI listed j=true->anc i j=true->dI listed i=true
 ple:p<=rl.length
 pos:∀i r,rl[i]?=some r->r.op.qE=true->(dI listed i=true↔i<p)
 rel:WR g G HS w
 vB:HS.next=(Hs p).next
 nh:∀i r,rl[i]?=some r->r.op.fresh=true->(∃l,G.loc (kept H0 rl i)=some l)->dI listed i=true/\bH (ss i) r=true
 cont:∀id l,G.loc id=some l->
  (∃i r,rl[i]?=some r/\r.op.fresh=true/\dI listed i=true/\bH (ss i) r=true/\p<=i/\id=kept H0 rl i/\HS.get id=(Hs (i+1)).get id)\/
  ((∀i r,p<=i->rl[i]?=some r->r.op.fresh=true->bH (ss i) r=true->id≠kept H0 rl i)/\HS.get id=(Hs p).get id)
 aGx:∀i r,p<=i->rl[i]?=some r->r.op.fresh=true->dI listed i=true->bH (ss i) r=true->∀l,G.loc (kept H0 rl i)=some l->
  ∀jU l',jU≠kept H0 rl i->G.loc jU=some l'->HS.live jU->l'.cS≠l.cS
 ext:Ext G0 H0 w0 G HS w
 vP:SR G w sS a
 last:∀t,sS.getD t aD=xL (dI listed) rl s0 vs t rl.length
 len:sS.length=s0.length
 dfr:a.defers=dl
section
variable {P:Program} {g:bB} {ops:Array Oper} {rl:List bC} {pj:Option Nat} {pairs:List (Nat×Nat)} {anc:Nat->Nat->Bool} {s0:List AV} {H0:aA} {Hs:Nat->aA} {ss:Nat->List AV} {vs:Nat->AV}
variable {G0:Gh} {w0:World} {dl:List Deferred} {listed:Array Bool} {p:Nat} {G:Gh} {HS:aA} {w:World} {a:Act} {sS:List AV}
theorem rV {S S':Nat->Bool} {t:Nat}:∀m,(∀i,i<m->(S i&&writes rl s0 t i)=(S' i&&writes rl s0 t i))->xL S rl s0 vs t m=xL S' rl s0 vs t m
 |0,_=>rfl
 |m+1,h=>by simp only[xL];rw[h m (by omega),rV m (fun i hi=>h i (by omega))]
theorem yY {S:Nat->Bool} {t k:Nat}:∀m,k<=m->(∀i,k<=i->i<m->(S i&&writes rl s0 t i)=false)->xL S rl s0 vs t m=xL S rl s0 vs t k
 |0,hk,_=>by obtain rfl:k=0:=(by omega);rfl
 |m+1,hk,h=>by
  by_cases he:k=m+1
  · rw[he]
  simp only[xL];rw[h m (by omega) (by omega)];simp only[Bj,Cm];exact yY m (by omega) (fun i h1 h2=>h i h1 (by omega))
theorem CS {t i:Nat} (h:writes rl s0 t i=true):∃r,rl[i]?=some r/\r.dst=some t/\t<s0.length:=by
 unfold writes at h;split at h
 · rename_i r hr;simp only[Am,Dc,Bh] at h;exact⟨r,hr,h.1,h.2⟩
 cases h
structure Xz (ops:Array Oper) (listed:Array Bool) (j:Nat):Prop where
 lt:j<ops.size
 not:dI listed j=false
 bDz:∀o,ops[j]?=some o->∀e∈o.after,Region.binds .any e=true->dI listed e.on=true
variable (I:oW P g ops rl pairs anc s0 H0 Hs ss vs G0 w0 dl listed p G HS w a sS) (D:cV P g rl pj pairs s0 H0 Hs ss vs) (K:tX ops rl pairs anc)
include I K
theorem oW.AX {j:Nat} (hj:Xz ops listed j) {i:Nat} (h:anc i j=true):dI listed i=true:=by
 obtain⟨o,ho,e,he,hb,hc⟩:=K.wit i j h;have hd:=hj.bDz o ho e he hb
 rcases hc with rfl|hc
 · exact hd
 exact I.closed _ _ hd hc
theorem oW.bDs {j:Nat} {r:bC} (hj:Xz ops listed j) (hr:rl[j]?=some r) {t:Nat} (ht:t∈CQ r) (D:cV P g rl pj pairs s0 H0 Hs ss vs):sS.getD t aD=(ss j).getD t aD:=by
 have eQ:=(Be.1 hr).1;rw[I.last t,D.QV t j (by omega)];rw[yY (k:=j) rl.length (by omega) (fun i h1 h2=>?_)]
 · refine rV j (fun i hi=>?_);by_cases hw:writes rl s0 t i=true
   · obtain⟨ri,gu,hd,_⟩:=CS hw
     have :anc i j=true:=by
      cases hc:anc i j with
      |true=>rfl
      |false=>exact absurd ht ((K.cmp i j ri r hi gu hr hc).2.1 t hd).1
     rw[I.AX K hj this]
   simp[hw]
 cases hs:dI listed i with
 |false=>rfl
 |true=>
  cases hw:writes rl s0 t i with
  |false=>rfl
  |true=>
   obtain⟨ri,gu,hd,_⟩:=CS hw;have bN:i≠j:=fun he=>by rw[he,hj.not] at hs;cases hs
   have :anc j i=true:=by
    cases hc:anc j i with
    |true=>rfl
    |false=>exact absurd ht ((K.cmp j i r ri (by omega) hr gu hc).2.2.1 t hd)
   have :=I.closed j i hs this;rw[hj.not] at this;cases this
theorem oW.eval_eq {j:Nat} {r:bC} (hj:Xz ops listed j) (hr:rl[j]?=some r) (D:cV P g rl pj pairs s0 H0 Hs ss vs):∀y∈r.op.args,Arg.eval g sS y=Arg.eval g (ss j) y:=by
 intro y hy
 cases y with
 |tmp t=>
  have :t∈CQ r:=by unfold CQ;refine As.2 (.inl (En.2 ⟨_,hy,?_⟩));simp[Arg.tmps]
  exact I.bDs K hj hr this D
 |const v=>rfl
 |iF n=>rfl
theorem oW.vo {j:Nat} {r:bC} (hj:Xz ops listed j) (hr:rl[j]?=some r) (D:cV P g rl pj pairs s0 H0 Hs ss vs):bH sS r=bH (ss j) r:=by
 unfold bH;split
 · rfl
 rename_i d b hg;rw[I.bDs K hj hr (t:=d) (by unfold CQ;rw[hg];simp) D]
theorem Rn {listed:Array Bool} {j:Nat} (hj:j<listed.size) (i:Nat):dI (listed.setIfInBounds j true) i=if i=j then true else dI listed i:=by
 unfold dI;rw[Bn,Bn,Gb];by_cases h:j=i
 · subst h;simp[hj]
 rw[if_neg h,if_neg (Ne.symm h)]
theorem oW.Ph {j:Nat} {r:bC} (hj:Xz ops listed j) (hr:rl[j]?=some r) (he:r.op.qE=true):p<=j/\∀e re,p<=e->e<j->rl[e]?=some re->re.op.qE=false:=by
 have gm:p<=j:=by refine Jd fun eQ=>?_;have :=(I.pos j r hr he).2 eQ;rw[hj.not] at this;cases this
 refine⟨gm,fun e re h1 h2 wu=>?_⟩
 cases Md:re.op.qE with
 |false=>rfl
 |true=>
  have :anc e j=true:=by
   cases hc:anc e j with
   |true=>rfl
   |false=>have :=(K.cmp e j re r h2 wu hr hc).1 Md;rw[he] at this;cases this
  have :=(I.pos e re wu Md).1 (I.AX K hj this);omega
theorem oW.next {j:Nat} {r:bC} (hj:Xz ops listed j) (hr:rl[j]?=some r) {p':Nat} {G':Gh} {HS':aA} {w':World} {u:Value} (hp':p'=if r.op.qE=true then j+1 else p)
 (aUx:WR g G' HS' w') (bIy:HS'.next=(Hs p').next)
 (aVx:∀i r',rl[i]?=some r'->r'.op.fresh=true->(∃l,G'.loc (kept H0 rl i)=some l)->(i=j\/dI listed i=true)/\bH (ss i) r'=true)
 (aVu:∀id l,G'.loc id=some l->
   (∃i r,rl[i]?=some r/\r.op.fresh=true/\(i=j\/dI listed i=true)/\bH (ss i) r=true/\p'<=i/\id=kept H0 rl i/\HS'.get id=(Hs (i+1)).get id)\/
   ((∀i r,p'<=i->rl[i]?=some r->r.op.fresh=true->bH (ss i) r=true->id≠kept H0 rl i)/\HS'.get id=(Hs p').get id))
 (aWb:∀i r,p'<=i->rl[i]?=some r->r.op.fresh=true->(i=j\/dI listed i=true)->bH (ss i) r=true->∀l,G'.loc (kept H0 rl i)=some l->
   ∀jU l',jU≠kept H0 rl i->G'.loc jU=some l'->HS'.live jU->l'.cS≠l.cS)
 (ext':Ext G0 H0 w0 G' HS' w') (hv:VR G' w' (vs j) u) (EG:SR G' w' sS a):
 oW P g ops rl pairs anc s0 H0 Hs ss vs G0 w0 dl (listed.setIfInBounds j true) p' G' HS' w' (a.put r.dst u) (mE sS r.dst (vs j)):=by
 have eQ:=(Be.1 hr).1
 have rU:∀i,dI (listed.setIfInBounds j true) i=if i=j then true else dI listed i:=Rn I K (by rw[I.size];exact eQ)
 have SO:∀i,(i=j\/dI listed i=true)↔dI (listed.setIfInBounds j true) i=true:=fun i=>by rw[rU];by_cases hi:i=j<;>simp[hi]
 refine⟨by simp[I.size],fun i k h1 h2=>?_,?_,fun i ri gu hei=>?_,aUx,bIy,fun i r' h1 h2 h3=>?_,fun id l hl=>?_,fun i r' h1 h2 h3 h4 h5=>?_,ext',EG.put r.dst hv,fun t=>?_,?_,?_⟩
 · rw[<-SO] at h1 ⊢
   rcases h1 with rfl|h1
   · exact .inr (I.AX K hj h2)
   exact .inr (I.closed i k h1 h2)
 · rw[hp'];split
   · omega
   exact I.ple
 · rw[<-SO];by_cases he:r.op.qE=true
   · rw[hp',if_pos he];obtain⟨h1,h2⟩:=I.Ph K hj hr he;constructor
     · rintro(rfl|h)
       · omega
       have :=(I.pos i ri gu hei).1 h;omega
     intro h;by_cases hi:i=j
     · exact .inl hi
     refine .inr ((I.pos i ri gu hei).2 (Nat.lt_of_not_le fun hle=>?_));have :=h2 i ri hle (by omega) gu;rw[hei] at this;cases this
   rw[hp',if_neg he];rw[<-I.pos i ri gu hei];constructor
   · rintro(rfl|h)
     · rw[hr] at gu;cases gu;exact absurd hei he
     exact h
   exact .inr
 · have :=aVx i r' h1 h2 h3;exact⟨(SO i).1 this.1,this.2⟩
 · rcases aVu id l hl with ⟨i,ri,c1,c2,c3,c4⟩|h
   · exact .inl ⟨i,ri,c1,c2,(SO i).1 c3,c4⟩
   exact .inr h
 · exact aWb i r' h1 h2 h3 ((SO i).2 h4) h5
 · rw[SH,I.len,I.last t];by_cases hw:r.dst=some t/\t<s0.length
   · rw[if_pos hw];have hwr:writes rl s0 t j=true:=(by simp[writes,hr,hw]);rw[yY (k:=j+1) rl.length (by omega) (fun i h1 h2=>?_)]
     · simp only[xL,rU j,if_true,hwr,Ds]
     rw[rU,if_neg (by omega)]
     cases hs:dI listed i with
     |false=>rfl
     |true=>
      cases hwi:writes rl s0 t i with
      |false=>rfl
      |true=>
       obtain⟨ri,gu,hd,_⟩:=CS hwi
       have :anc j i=true:=by
        cases hc:anc j i with
        |true=>rfl
        |false=>exact absurd hd ((K.cmp j i r ri (by omega) hr gu hc).2.1 t hw.1).2
       have :=I.closed j i hs this;rw[hj.not] at this;cases this
   rw[if_neg hw];refine rV rl.length (fun i hi=>?_);rw[rU];by_cases AE:i=j
   · subst AE
     have :writes rl s0 t i=false:=by simp only[writes,hr];simpa using hw
     rw[this];simp
   rw[if_neg AE]
 · rw[Mr,I.len]
 cases r.dst<;>exact I.dfr
end
end
section
theorem wJ {r:dX} (h:r.reads=true):r.qE=false:=by cases r<;>first|rfl|cases h
theorem AG {r:dX} (h:r.reads=true):r.fresh=false:=by cases r<;>first|rfl|cases h
theorem aBp {G:Gh} {w:World} {v:AV} {u:Value} {id:Nat} (h:BQ v=some id) (hv:VR G w v u):∃l,G.loc id=some l:=by
 cases hv<;>simp only[BQ] at h<;>first
  |(cases h;done)
  |(obtain rfl:=Aa h;exact⟨_,by assumption⟩)
theorem XT {ev:Arg->AV} {r:dX} {id:Nat} (h:r.cY ev=some id):∃y∈r.args,BQ (ev y)=some id:=by
 cases r<;>simp only[dX.cY] at h<;>first
  |(cases h;done)
  |exact⟨_,by simp[dX.args],h⟩
theorem RT {ev ev':Arg->AV} {r:dX} (h:∀y∈r.args,ev y=ev' y):r.cY ev=r.cY ev':=by
 cases r<;>simp only[dX.cY]<;>first
  |rfl
  |rw[h _ (by simp[dX.args])]
theorem WM {ev:Arg->AV} {r:dX} {ob:dY} {val:Nat->AV} (h:yQ ev r=some (ob,val)):ob.live=true:=by
 cases r<;>simp only[yQ] at h<;>first
  |(cases h;done)
  |(obtain⟨rfl,rfl⟩:=Prod.mk.inj (Aa h);rfl)
  |(repeat' (split at h)
    all_goals first
     |(cases h;done)
     |(obtain⟨rfl,rfl⟩:=Prod.mk.inj (Aa h);rfl))
section
variable {P:Program} {g:bB} {ops:Array Oper} {rl:List bC} {pj:Option Nat} {pairs:List (Nat×Nat)} {anc:Nat->Nat->Bool} {s0:List AV} {H0:aA} {Hs:Nat->aA} {ss:Nat->List AV} {vs:Nat->AV}
variable {G0:Gh} {w0:World} {dl:List Deferred} {listed:Array Bool} {p:Nat} {G:Gh} {HS:aA} {w:World} {a:Act} {sS:List AV}
variable (I:oW P g ops rl pairs anc s0 H0 Hs ss vs G0 w0 dl listed p G HS w a sS) (D:cV P g rl pj pairs s0 H0 Hs ss vs) (K:tX ops rl pairs anc)
include I K D
theorem oW.je {j e:Nat} (hj:Xz ops listed j) (he:dI listed e=true):anc j e=false:=by
 cases hc:anc j e with
 |false=>rfl
 |true=>have :=I.closed j e he hc;rw[hj.not] at this;cases this
theorem oW.XD {j e:Nat} (hj:Xz ops listed j) (he:dI listed e=false):anc e j=false:=by
 cases hc:anc e j with
 |false=>rfl
 |true=>have :=I.AX K hj hc;rw[he] at this;cases this
theorem oW.aEx {e:Nat} {re:bC} (wu:rl[e]?=some re) (Md:re.op.qE=true) (h:p<=e):dI listed e=false:=by
 cases hs:dI listed e with
 |false=>rfl
 |true=>have :=(I.pos e re wu Md).1 hs;omega
theorem oW.tt {j:Nat} {r:bC} (hj:Xz ops listed j) (hr:rl[j]?=some r) (hw:bH (ss j) r=true) {id:Nat} (hid:r.op.cY (Arg.eval g (ss j))=some id) {l:Loc} (hl:G.loc id=some l)
 (aBo:(Hs j).get id≠none):HS.get id=(Hs j).get id:=by
 have hrd:=lG hid;have eQ:=(Be.1 hr).1
 rcases I.cont id l hl with ⟨i,ri,h1,h2,h3,h4,h5,rfl,h7⟩|⟨h1,h2⟩
 · have bN:i≠j:=fun he=>by rw[he,hj.not] at h3;cases h3
   by_cases AE:i<j
   · rw[h7];refine(D.sD (p:=i+1) (q:=j) (by omega) (fun e re q1 q2 q3 q4 q5=>?_) (fun k rk q1 q2 q3 q4 q5=>nQ h1 q3 h2 q4 (by omega)) j (by omega) (Ak _)).symm;have RM:=I.aEx D K q3 q4 (by omega);exact D.GZ j e ((K.cmp e j re r q2 q3 hr (I.XD D K hj RM)).2.2.2.2 q4 hrd) r re hr q3 hw q5 _ (.inl hid)
   exact absurd (D.CA K h1 h2 h4 j (by omega)) aBo
 rw[h2];by_cases gm:p<=j
 · refine(D.sD (p:=p) (q:=j) (by omega) (fun e re q1 q2 q3 q4 q5=>?_) (fun k rk q1 q2 q3 q4 q5=>h1 k rk q1 q3 q4 q5) j gm (Ak _)).symm;have RM:=I.aEx D K q3 q4 q1;exact D.GZ j e ((K.cmp e j re r q2 q3 hr (I.XD D K hj RM)).2.2.2.2 q4 hrd) r re hr q3 hw q5 _ (.inl hid)
 refine D.sD (p:=j) (q:=p) I.ple (fun e re q1 q2 q3 q4 q5=>?_) (fun k rk q1 q2 q3 q4 q5 he=>?_) p (by omega) (Ak _)
 · have bN:e≠j:=fun he=>by
    subst he;rw[hr] at q3;cases q3;rw[wJ hrd] at q4;cases q4
   have hd:=(I.pos e re q3 q4).2 q2;exact D.GZ j e ((K.cmp j e r re (by omega) hr q3 (I.je D K hj hd)).2.2.2.1 q4 (.inl hrd)) r re hr q3 hw q5 _ (.inl hid)
 rw[he] at aBo;exact aBo (D.CA K q3 q4 q5 j q1)
theorem oW.yX {i:Nat} {ri:bC} (hi:rl[i]?=some ri) (hf:ri.op.fresh=true) {k:Nat} (hk:k<=rl.length):kept H0 rl i<(Hs k).next:=by have h1:=D.xR (p:=0) k (Bb _) hk;have h2:=ij (rl:=rl) hi hf;rw[D.h0] at h1;unfold kept;simp only at h1;omega
theorem oW.Ye {j:Nat} {r:bC} (hj:Xz ops listed j) (hr:rl[j]?=some r) (he:r.op.qE=true):∀id l,G.loc id=some l->
 (∃i ri,rl[i]?=some ri/\ri.op.fresh=true/\dI listed i=true/\bH (ss i) ri=true/\j<i/\id=kept H0 rl i/\HS.get id=(Hs (i+1)).get id/\(Hs j).get id=none)\/
 ((∀i ri,j<=i->rl[i]?=some ri->ri.op.fresh=true->bH (ss i) ri=true->id≠kept H0 rl i)/\HS.get id=(Hs j).get id):=by
 intro id l hl;have eQ:=(Be.1 hr).1;obtain⟨gm,vJ⟩:=I.Ph K hj hr he
 have noE:∀{q:Nat},p<=q->∀e re,q<=e->e<j->rl[e]?=some re->re.op.qE=true->bH (ss e) re=true->(Hs e).get id=(Hs (e+1)).get id:=fun hq e re q1 q2 q3 q4 q5=>by have :=vJ e re (by omega) q2 q3;rw[q4] at this;cases this
 rcases I.cont id l hl with ⟨i,ri,h1,h2,h3,h4,h5,h6,h7⟩|⟨h1,h2⟩
 · have bN:i≠j:=fun hh=>by rw[hh,hj.not] at h3;cases h3
   by_cases AE:i<j
   · refine .inr ⟨fun k rk q1 q2 q3 q4=>?_,?_⟩
     · rw[h6];exact nQ h1 q2 h2 q3 (by omega)
     rw[h7];exact(D.sD (p:=i+1) (q:=j) (by omega) (noE (by omega)) (fun k rk q1 q2 q3 q4 q5=>by rw[h6];exact nQ h1 q3 h2 q4 (by omega)) j (by omega) (Ak _)).symm
   exact .inl ⟨i,ri,h1,h2,h3,h4,by omega,h6,h7,by rw[h6];exact D.CA K h1 h2 h4 j (by omega)⟩
 refine .inr ⟨fun k rk q1 q2 q3 q4=>h1 k rk (by omega) q2 q3 q4,?_⟩;rw[h2];exact(D.sD (p:=p) (q:=j) (by omega) (noE (Ak _)) (fun k rk q1 q2 q3 q4 q5=>h1 k rk q1 q3 q4 q5) j gm (Ak _)).symm
theorem oW.Uh {j:Nat} {r:bC} (hj:Xz ops listed j) (hr:rl[j]?=some r) (he:r.op.qE=true):WR g G (Hs j) w:=by
 have hA:=I.Ye D K hj hr he;have eQ:=(Be.1 hr).1;obtain⟨gm,vJ⟩:=I.Ph K hj hr he
 have cG:∀{id l o},G.loc id=some l->(Hs j).get id=some o->HS.get id=some o:=fun hl ho=>by
  rcases hA _ _ hl with ⟨_,_,_,_,_,_,_,_,_,hn⟩|⟨_,h⟩
  · rw[hn] at ho;cases ho
  rw[h];exact ho
 have qG:∀{id l},G.loc id=some l->(Hs j).live id->HS.live id:=fun hl ⟨o,ho,hv⟩=>⟨o,cG hl ho,hv⟩
 exact {
  cells:=fun id l cs opn h1 h2=>I.rel.cells id l cs opn h1 (cG h1 h2)
  room:=fun id l h1 h2=>I.rel.room id l h1 (h2.imp (fun⟨cs,opn,h⟩=>⟨cs,opn,cG h1 h⟩) (fun h=>cG h1 h))
  kT:=fun id jU l l' bN h1 h2 h3 h4=>I.rel.kT id jU l l' bN h1 h2 (qG h1 h3) (qG h2 h4)
  jM:=fun id l h1 h2=>I.rel.jM id l h1 (qG h1 h2)
  gZ:=fun id l o h1 h2=>I.rel.gZ id l o h1 (cG h1 h2)
  lt:=fun id l h1=>by
   have :=I.rel.lt id l h1;rw[I.vB] at this
   rwa [D.TB (p:=p) (q:=j) (by omega) vJ j gm (Ak _)]
  gN:=I.rel.gN
  iF:=I.rel.iF
  BL:=I.rel.BL
  mo:=I.rel.mo}
theorem oW.o7 (j:Nat) (H:aA):∀m,m<=rl.length->∃Hm:aA,Hm.next=H.next/\
 (∀i ri,i<m->rl[i]?=some ri->ri.op.fresh=true->dI listed i=true->bH (ss i) ri=true->j<i->Hm.get (kept H0 rl i)=(Hs (i+1)).get (kept H0 rl i))/\
 (∀id,(∀i ri,i<m->rl[i]?=some ri->ri.op.fresh=true->dI listed i=true->bH (ss i) ri=true->j<i->id≠kept H0 rl i)->Hm.get id=H.get id):=by
 intro m
 induction m with
 |zero=>exact fun _=>⟨H,rfl,fun i ri h=>absurd h (Ax i),fun id _=>rfl⟩
 |succ m ih=>
  intro hm;obtain⟨Hm,h1,h2,h3⟩:=ih (by omega)
  obtain⟨rm,hrm⟩:∃r,rl[m]?=some r:=⟨rl[m]'(by omega),Ab (by omega)⟩
  by_cases hc:rm.op.fresh=true/\dI listed m=true/\bH (ss m) rm=true/\j<m
  · obtain⟨c1,c2,c3,c4⟩:=hc;obtain⟨ob,val,_,_,e3⟩:=D.oB hrm c1 c3;have Tv:(Hs (m+1)).get (kept H0 rl m)=some ob:=by rw[e3,aA.aC,if_pos rfl]
    refine⟨Hm.set (kept H0 rl m) ob,h1,fun i ri q1 q2 q3 q4 q5 q6=>?_,fun id hid=>?_⟩
    · rw[aA.aC];by_cases him:i=m
      · subst him;rw[if_pos rfl,Tv]
      rw[if_neg (nQ q2 hrm q3 c1 him)];exact h2 i ri (by omega) q2 q3 q4 q5 q6
    rw[aA.aC,if_neg (hid m rm (by omega) hrm c1 c2 c3 c4)];exact h3 id (fun i ri q1=>hid i ri (by omega))
  refine⟨Hm,h1,fun i ri q1 q2 q3 q4 q5 q6=>?_,fun id hid=>h3 id (fun i ri q1=>hid i ri (by omega))⟩;by_cases him:i=m
  · subst him;rw[hrm] at q2;cases q2;exact absurd ⟨q3,q4,q5,q6⟩ hc
  exact h2 i ri (by omega) q2 q3 q4 q5 q6
theorem oW.LM (BO:∀id l,G0.loc id=some l->id<H0.next) {j:Nat} {r:bC} (hj:Xz ops listed j) (hr:rl[j]?=some r) (he:r.op.qE=true) {G1:Gh} {w1:World} {u:Value}
 (RU:WR g G1 (Hs (j+1)) w1) (e1:Ext G (Hs j) w G1 (Hs (j+1)) w1) (hv:VR G1 w1 (vs j) u):
 ∃kx,oW P g ops rl pairs anc s0 H0 Hs ss vs G0 w0 dl (listed.setIfInBounds j true) (j+1) G1 kx w1 (a.put r.dst u) (mE sS r.dst (vs j)):=by
 have hA:=I.Ye D K hj hr he;have eQ:=(Be.1 hr).1;obtain⟨gm,vJ⟩:=I.Ph K hj hr he;obtain⟨kx,n1,n2,n3⟩:=I.o7 D K j (Hs (j+1)) rl.length (Ak _)
 let vT:Nat->Prop:=fun id=>∃i ri,rl[i]?=some ri/\ri.op.fresh=true/\dI listed i=true/\bH (ss i) ri=true/\j<i/\id=kept H0 rl i
 have aBg:∀id,vT id->∃i ri,rl[i]?=some ri/\ri.op.fresh=true/\dI listed i=true/\bH (ss i) ri=true/\j<i/\id=kept H0 rl i/\kx.get id=(Hs (i+1)).get id:=fun id ⟨i,ri,q1,q2,q3,q4,q5,q6⟩=>⟨i,ri,q1,q2,q3,q4,q5,q6,by rw[q6];exact n2 i ri (Be.1 q1).1 q1 q2 q3 q4 q5⟩
 have PB:∀id,¬vT id->kx.get id=(Hs (j+1)).get id:=fun id hn=>n3 id (fun i ri q0 q1 q2 q3 q4 q5 he=>hn ⟨i,ri,q1,q2,q3,q4,q5,he⟩)
 have BV:∀{id l},vT id->G1.loc id=some l->G.loc id=some l:=fun {id l} ⟨i,ri,q1,q2,q3,q4,q5,q6⟩ xE=>by
  cases hl:G.loc id with
  |none=>have :=e1.news id l xE hl;have h2:=I.yX D K q1 q2 (k:=j) (by omega);rw[q6] at this;omega
  |some l'=>rw[e1.loc id l' hl] at xE;exact xE
 have JG:∀{id l},vT id->G.loc id=some l->kx.get id=HS.get id/\(Hs j).get id=none:=fun {id l} hL hl=>by
  obtain⟨i,ri,q1,q2,q3,q4,q5,q6,q7⟩:=aBg id hL
  rcases hA id l hl with ⟨i',ri',p1,p2,p3,p4,p5,p6,p7,p8⟩|⟨h1,_⟩
  · have :i=i':=by
     refine Fs fun bN=>?_;exact nQ q1 p1 q2 p2 bN (q6.symm.trans p6)
    subst this;exact⟨q7.trans p7.symm,p8⟩
  exact absurd q6 (h1 i ri (by omega) q1 q2 q4)
 have JL:∀{eJ l0},G.loc eJ=some l0->(Hs j).live eJ->HS.live eJ/\¬vT eJ:=fun {eJ l0} NN ⟨o,ho,hv⟩=>by
  rcases hA eJ l0 NN with ⟨_,_,_,_,_,_,_,_,_,hn⟩|⟨h1,h2⟩
  · rw[hn] at ho;cases ho
  refine⟨⟨o,by rw[h2];exact ho,hv⟩,fun hL=>?_⟩;have :=(JG hL NN).2;rw[this] at ho;cases ho
 have Ws:∀{id l},vT id->G.loc id=some l->∀jU l',jU≠id->G.loc jU=some l'->HS.live jU->l'.cS≠l.cS:=fun {id l} ⟨i,ri,q1,q2,q3,q4,q5,q6⟩ hl jU l' bN oS lP=>by rw[q6] at hl bN;exact I.aGx i ri (by omega) q1 q2 q3 q4 l hl jU l' bN oS lP
 have xM:∀{id l},vT id->G.loc id=some l->HS.live id:=fun {id l} hL hl=>by obtain⟨i,ri,q1,q2,q3,q4,q5,q6,q7⟩:=aBg id hL;obtain⟨ob,val,f1,_,f3⟩:=D.oB q1 q2 q4;refine⟨ob,?_,WM f1⟩;rw[<-(JG hL hl).1,q7,q6,f3,aA.aC,if_pos rfl]
 have OP:∀{id l},vT id->G.loc id=some l->∀eJ l0,G.loc eJ=some l0->(Hs j).live eJ->l0.cS≠l.cS:=fun hL hl eJ l0 NN Qq=>by obtain⟨h1,h2⟩:=JL NN Qq;exact Ws hL hl eJ l0 (fun he=>h2 (he▸hL)) NN h1
 have aQs:∀{id l},vT id->G.loc id=some l->∀jU l',G1.loc jU=some l'->(Hs (j+1)).live jU->l'.cS≠l.cS:=fun hL hl jU l' oS lP=>by
  have hb:=I.rel.mR hl (xM hL hl)
  rcases e1.lO jU l' oS lP with h|⟨eJ,l0,h1,h2,h3⟩
  · omega
  rw[<-h3];exact OP hL hl eJ l0 h1 h2
 have IY:∀{id l},vT id->G.loc id=some l->w1.heap[l.cS]?=w.heap[l.cS]?:=fun hL hl=>e1.frame _ (I.rel.mR hl (xM hL hl)) (fun eJ l0 h1 h2=>OP hL hl eJ l0 h1 h2)
 have DN:∀{id},kx.live id->vT id\/(¬vT id/\(Hs (j+1)).live id):=fun {id} ⟨o,ho,hv⟩=>by
  by_cases hL:vT id
  · exact .inl hL
  exact .inr ⟨hL,o,by rw[<-PB id hL];exact ho,hv⟩
 have Pu:∀{id l},vT id->G1.loc id=some l->∀jU l',jU≠id->G1.loc jU=some l'->kx.live jU->l'.cS≠l.cS:=fun {id l} hL xE jU l' bN oS lP=>by
  have hl:=BV hL xE
  rcases DN lP with hL'|⟨_,lP⟩
  · exact Ws hL hl jU l' bN (BV hL' oS) (xM hL' (BV hL' oS))
  exact aQs hL hl jU l' oS lP
 have hm:∀{x y},VR G w x y->VR G1 w1 x y:=fun hx=>hx.mono e1.loc e1.gJ
 have aUx:WR g G1 kx w1:={
  cells:=fun id l cs opn h1 h2=>by
   by_cases hL:vT id
   · have hl:=BV hL h1;obtain⟨a1,a2,a3,a4,a5⟩:=I.rel.cells id l cs opn hl (by rw[<-(JG hL hl).1];exact h2);refine⟨a1,a2,a3,a4,fun k hk=>?_⟩;obtain⟨x,hx,hvx⟩:=a5 k hk;exact⟨x,by rw[fE (IY hL hl)];exact hx,hm hvx⟩
   exact RU.cells id l cs opn h1 (by rw[<-PB id hL];exact h2)
  room:=fun id l h1 h2=>by
   by_cases hL:vT id
   · have hl:=BV hL h1;obtain⟨c,el,fz,a1,a2,a3⟩:=I.rel.room id l hl (by rw[<-(JG hL hl).1];exact h2);exact⟨c,el,fz,by rw[IY hL hl];exact a1,a2,fun k hk=>by rw[lE (IY hL hl)];exact a3 k hk⟩
   exact RU.room id l h1 (by rw[<-PB id hL];exact h2)
  kT:=fun id jU l l' bN h1 h2 sR nJ=>by
   by_cases hL:vT id
   · exact .inl (Ne.symm (Pu hL h1 jU l' (Ne.symm bN) h2 nJ))
   by_cases hL':vT jU
   · exact .inl (Pu hL' h2 id l bN h1 sR)
   rcases DN sR with h|⟨_,sR⟩
   · exact absurd h hL
   rcases DN nJ with h|⟨_,nJ⟩
   · exact absurd h hL'
   exact RU.kT id jU l l' bN h1 h2 sR nJ
  jM:=fun id l h1 sR k hk hi=>by
   rcases DN sR with hL|⟨_,sR⟩
   · have hl:=BV hL h1
     rcases e1.pA _ _ hi with h|h|⟨eJ,l0,q1,q2,q3⟩
     · exact I.rel.jM id l hl (xM hL hl) k hk h
     · have :=I.rel.mR hl (xM hL hl);omega
     exact OP hL hl eJ l0 q1 q2 q3
   exact RU.jM id l h1 sR k hk hi
  gZ:=fun id l o h1 h2 hk=>by
   by_cases hL:vT id
   · have hl:=BV hL h1;obtain⟨a1,a2,a3⟩:=I.rel.gZ id l o hl (by rw[<-(JG hL hl).1];exact h2) hk;exact⟨a1,a2,a3.mono (IY hL hl) fun _ _=>hm⟩
   exact RU.gZ id l o h1 (by rw[<-PB id hL];exact h2) hk
  lt:=fun id l h1=>by rw[n1];exact RU.lt id l h1
  gN:=RU.gN
  iF:=RU.iF
  BL:=RU.BL
  mo:=RU.mo}
 have ext':Ext G0 H0 w0 G1 kx w1:={
  loc:=fun id l h=>e1.loc _ _ (I.ext.loc _ _ h)
  gJ:=fun b o hi=>⟨(e1.gJ _ _ (I.ext.gJ _ _ hi).1).1,((e1.gJ _ _ (I.ext.gJ _ _ hi).1).2).trans (I.ext.gJ _ _ hi).2⟩
  size:=Br I.ext.size e1.size
  frame:=fun b hb hn=>by
   rw[e1.frame b (Cf hb I.ext.size) (fun id l h1 h2=>?_),I.ext.frame b hb hn]
   rcases I.ext.lO id l h1 (JL h1 h2).1 with h|⟨eJ,l0,q1,q2,q3⟩
   · omega
   rw[<-q3];exact hn eJ l0 q1 q2
  lO:=fun id l h1 h2=>by
   have VN:∀{id l},G.loc id=some l->HS.live id->w0.heap.size<=l.cS\/∃eJ l0,G0.loc eJ=some l0/\H0.live eJ/\l0.cS=l.cS:=fun h1 h2=>I.ext.lO _ _ h1 h2
   rcases DN h2 with hL|⟨_,h2⟩
   · have hl:=BV hL h1;exact VN hl (xM hL hl)
   rcases e1.lO id l h1 h2 with h|⟨eJ,l0,q1,q2,q3⟩
   · exact .inl (Br I.ext.size h)
   rw[<-q3];exact VN q1 (JL q1 q2).1
  pA:=fun b o hi=>by
   rcases e1.pA b o hi with h|h|⟨eJ,l0,q1,q2,q3⟩
   · exact I.ext.pA b o h
   · exact .inr (.inl (Br I.ext.size h))
   rcases I.ext.lO eJ l0 q1 (JL q1 q2).1 with h|⟨id1,l1,p1,p2,p3⟩
   · exact .inr (.inl (by omega))
   exact .inr (.inr ⟨id1,l1,p1,p2,p3.trans q3⟩)
  next:=by have h1:=I.ext.next;rw[I.vB] at h1;rw[n1];exact Br h1 (D.xR (p:=p) (j+1) (by omega) (by omega))
  news:=fun id l h1 h2=>by
   cases hl:G.loc id with
   |none=>have :=e1.news id l h1 hl;have h3:=I.ext.next;rw[I.vB] at h3;exact Br (Br h3 (D.xR (p:=p) j gm (by omega))) this
   |some l'=>exact I.ext.news id l' hl h2
  dead:=fun id l h1 h2=>by
   have hl:=I.ext.loc id l h1
   have hnl:¬vT id:=fun⟨i,ri,q1,q2,q3,q4,q5,q6⟩=>by have :=BO id l h1;rw[q6] at this;unfold kept at this;omega
   rcases DN h2 with h|⟨_,h2⟩
   · exact absurd h hnl
   exact I.ext.dead id l h1 (JL hl (e1.dead id l hl h2)).1
  mo:=e1.mo.trans I.ext.mo
  same:=I.ext.same.trans (I.ext.mo▸e1.same)}
 refine⟨kx,I.next K hj hr (p':=j+1) (by rw[if_pos he]) aUx (by rw[n1]) (fun i ri h1 h2 ⟨l,h3⟩=>?_) (fun id l xE=>?_) (fun i ri h1 h2 h3 h4 h5 l xE jU l' bN oS lP=>?_) ext' hv (I.vP.ext e1)⟩
 · have hl:∃l,G.loc (kept H0 rl i)=some l:=by
    cases hl:G.loc (kept H0 rl i) with
    |none=>have :=e1.news _ l h3 hl;have :=I.yX D K h1 h2 (k:=j) (by omega);omega
    |some l'=>exact⟨l',rfl⟩
   have :=I.nh i ri h1 h2 hl;exact⟨.inr this.1,this.2⟩
 · by_cases hL:vT id
   · obtain⟨i,ri,q1,q2,q3,q4,q5,q6,q7⟩:=aBg id hL;exact .inl ⟨i,ri,q1,q2,.inr q3,q4,by omega,q6,q7⟩
   refine .inr ⟨fun i ri q1 q2 q3 q4 q5=>hL ?_,PB id hL⟩
   have hl:∃l,G.loc (kept H0 rl i)=some l:=by
    rw[q5] at xE
    cases hl:G.loc (kept H0 rl i) with
    |none=>have :=e1.news _ l xE hl;have :=I.yX D K q2 q3 (k:=j) (by omega);omega
    |some l'=>exact⟨l',rfl⟩
   have :=I.nh i ri q2 q3 hl;exact⟨i,ri,q2,q3,this.1,this.2,by omega,q5⟩
 have hd:dI listed i=true:=by
  rcases h4 with rfl|h4
  · omega
  exact h4
 exact Pu ⟨i,ri,h2,h3,hd,h5,by omega,rfl⟩ xE jU l' bN oS lP
end
end
section
theorem yN {P:Program} {g:bB} {mu:Bool} {ops:Array Oper}:∀(l:List Oper) (rl:List bC),gM P g mu ops l=some rl->
 rl.length=l.length/\∀(i:Nat) (o:Oper),l[i]?=some o->∃r,rl[i]?=some r/\MN P g mu ops o=some r
 |[],rl,h=>by obtain rfl:=Aa h;exact⟨rfl,fun i o h=>by simp at h⟩
 |o::l,rl,h=>by
  unfold gM at h;split at h
  · rename_i r rs hr hrs;obtain rfl:=Aa h;obtain⟨h1,h2⟩:=yN l rs hrs;refine⟨by simp[h1],fun i o' hi=>?_⟩
    cases i with
    |zero=>simp at hi;subst hi;exact⟨r,rfl,hr⟩
    |succ i=>simpa using h2 i o' (by simpa using hi)
  cases h
theorem WR.oC {g:bB} {G:Gh} {H H':aA} {w:World} (h:WR g G H w) (hg:∀id l,G.loc id=some l->H'.get id=H.get id) (hn:H.next<=H'.next):WR g G H' w:=by
 have hl:∀{id l},G.loc id=some l->H'.live id->H.live id:=fun h1 ⟨o,h2,h3⟩=>⟨o,by rw[<-hg _ _ h1];exact h2,h3⟩
 exact {
  cells:=fun id l cs opn h1 h2=>h.cells id l cs opn h1 (by rw[<-hg _ _ h1];exact h2)
  room:=fun id l h1 h2=>h.room id l h1 (by rw[<-hg _ _ h1];exact h2)
  kT:=fun id jU l l' bN h1 h2 h3 h4=>h.kT id jU l l' bN h1 h2 (hl h1 h3) (hl h2 h4)
  jM:=fun id l h1 h2=>h.jM id l h1 (hl h1 h2)
  gZ:=fun id l o h1 h2=>h.gZ id l o h1 (by rw[<-hg _ _ h1];exact h2)
  lt:=fun id l h1=>Cf (h.lt id l h1) hn
  gN:=h.gN
  iF:=h.iF
  BL:=h.BL
  mo:=h.mo}
theorem Ext.oC {G G':Gh} {H H' HU:aA} {w w':World} (h:Ext G H w G' H' w') (hg:∀id l,G'.loc id=some l->HU.get id=H'.get id) (hn:H'.next<=HU.next):Ext G H w G' HU w':=by
 have hl:∀{id l},G'.loc id=some l->HU.live id->H'.live id:=fun h1 ⟨o,h2,h3⟩=>⟨o,by rw[<-hg _ _ h1];exact h2,h3⟩
 exact {h with
  lO:=fun id l h1 h2=>h.lO id l h1 (hl h1 h2)
  next:=Br h.next hn
  dead:=fun id l h1 h2=>h.dead id l h1 (hl (h.loc _ _ h1) h2)}
theorem WR.drawn {g:bB} {G:Gh} {H:aA} {w:World} (h:WR g G H w) (n:Nat):WR g G H {w with drawn:=n}:=by
 have hv:∀{x y},VR G w x y->VR G {w with drawn:=n} x y:=fun hx=>hx.mono (fun _ _ h=>h) (fun _ _ h=>⟨h,rfl⟩)
 exact {
  cells:=fun id l cs opn h1 h2=>let⟨a,b,c,d,e⟩:=h.cells id l cs opn h1 h2;⟨a,b,c,d,fun j hj=>let⟨u,h3,h4⟩:=e j hj;⟨u,h3,hv h4⟩⟩
  room:=fun id l h1 h2=>h.room id l h1 h2
  kT:=h.kT
  jM:=h.jM
  gZ:=fun id l o h1 h2 hk=>let⟨a,b,c⟩:=h.gZ id l o h1 h2 hk;⟨a,b,c.mono rfl fun _ _=>hv⟩
  lt:=h.lt
  gN:=h.gN
  iF:=fun k cs h1=>hv (h.iF k cs h1)
  BL:=h.BL
  mo:=h.mo}
theorem Ext.drawn (G:Gh) (H:aA) (w:World) (n:Nat) (hn:w.drawn<=n):Ext G H w G H {w with drawn:=n} where
 loc:=fun _ _ h=>h
 gJ:=fun _ _ h=>⟨h,rfl⟩
 size:=Ak _
 frame:=fun _ _ _=>rfl
 lO:=fun id l h hl=>.inr ⟨id,l,h,hl,rfl⟩
 pA:=fun _ _ h=>.inl h
 next:=Ak _
 news:=fun _ _ h h'=>by rw[h] at h';cases h'
 dead:=fun _ _ _ h=>h
 mo:=rfl
 same:=AS.toB (.now (h4:=hn)) _
section
variable {P:Program} {g:bB} {mu:Bool} {ops:Array Oper} {rl:List bC} {pj:Option Nat} {pairs:List (Nat×Nat)} {anc:Nat->Nat->Bool} {s0:List AV} {H0:aA} {Hs:Nat->aA} {ss:Nat->List AV} {vs:Nat->AV}
variable {G0:Gh} {w0:World} {dl:List Deferred} {listed:Array Bool} {p:Nat} {G:Gh} {HS:aA} {w:World} {a:Act} {sS:List AV}
theorem oW.quiet (I:oW P g ops rl pairs anc s0 H0 Hs ss vs G0 w0 dl listed p G HS w a sS) (D:cV P g rl pj pairs s0 H0 Hs ss vs) (K:tX ops rl pairs anc)
 {j:Nat} {r:bC} (hj:Xz ops listed j) (hr:rl[j]?=some r) (he:r.op.qE=false) (hf:r.op.fresh=true->bH (ss j) r=false) {G':Gh} {w':World} {u:Value}
 (hw:WR g G' HS w') (e:Ext G HS w G' HS w') (hv:VR G' w' (vs j) u):
 oW P g ops rl pairs anc s0 H0 Hs ss vs G0 w0 dl (listed.setIfInBounds j true) p G' HS w' (a.put r.dst u) (mE sS r.dst (vs j)):=by
 have SK:∀id l,G'.loc id=some l->G.loc id=some l:=fun id l hl=>by
  cases h:G.loc id with
  |none=>have h1:=e.news id l hl h;have h2:=hw.lt id l hl;omega
  |some l'=>rw[e.loc id l' h] at hl;exact hl
 refine I.next K hj hr (p':=p) (by simp[he]) hw I.vB (fun i r' h1 h2 h3=>?_) (fun id l hl=>?_) (fun i r' h1 h2 h3 h4 h5 l hl jU l' bN oS lP=>?_) (I.ext.trans e) hv (I.vP.ext e)
 · obtain⟨l,hl⟩:=h3;have :=I.nh i r' h1 h2 ⟨l,SK _ _ hl⟩;exact⟨.inr this.1,this.2⟩
 · rcases I.cont id l (SK _ _ hl) with ⟨i,ri,q1,q2,q3,q4⟩|h
   · exact .inl ⟨i,ri,q1,q2,.inr q3,q4⟩
   exact .inr h
 rcases h4 with rfl|h4
 · rw[hr] at h2;cases h2;rw[hf h3] at h5;cases h5
 exact I.aGx i r' h1 h2 h3 h4 h5 l (SK _ _ hl) jU l' bN (SK _ _ oS) lP
theorem oW.fresh (I:oW P g ops rl pairs anc s0 H0 Hs ss vs G0 w0 dl listed p G HS w a sS) (D:cV P g rl pj pairs s0 H0 Hs ss vs) (K:tX ops rl pairs anc)
 {j:Nat} {r:bC} (hj:Xz ops listed j) (hr:rl[j]?=some r) (hf:r.op.fresh=true) (hwt:bH (ss j) r=true) {o:Oper} (HI:EJ P g o r.op):
 ∃u w' G' HS',(execOp a.eval o).run P w=.ok (.value u) w'/\
  oW P g ops rl pairs anc s0 H0 Hs ss vs G0 w0 dl (listed.setIfInBounds j true) p G' HS' w' (a.put r.dst u) (mE sS r.dst (vs j)):=by
 have he:=nI hf;have eQ:=(Be.1 hr).1;obtain⟨ob,val,f1,f2,f3⟩:=D.oB hr hf hwt
 have f1':yQ (Arg.eval g sS) r.op=some (ob,val):=by rw[tQ (ev':=Arg.eval g (ss j)) (fun y hy=>I.eval_eq K hj hr D y hy)];exact f1
 have gl:G.loc (kept H0 rl j)=none:=by
  cases h:G.loc (kept H0 rl j) with
  |none=>rfl
  |some l=>have :=(I.nh j r hr hf ⟨l,h⟩).1;rw[hj.not] at this;cases this
 have aSm:kept H0 rl j<HS.next:=by rw[I.vB];exact I.yX D K hr hf I.ple
 obtain⟨u,w',G',iK,M,hv⟩:=HI sS a G HS (HS.set (kept H0 rl j) ob) w ob val (kept H0 rl j) I.rel I.vP f1' gl (fun m=>by rw[aA.aC]) (Ak _) aSm;obtain⟨l0,hblk,NN,rT⟩:=M.bIw
 have hgo:∀id l,G.loc id=some l->G'.loc id=some l:=fun id l hl=>by rw[rT id (fun hh=>by rw[hh,gl] at hl;cases hl)];exact hl
 have oD:∀b q,G.gJ b q->G'.gJ b q/\w'.cell? ⟨b,q,none⟩=w.cell? ⟨b,q,none⟩:=fun b q hi=>by refine⟨M.bGp b q hi,fE (M.VN b ?_)⟩;obtain⟨v,hv⟩:=I.rel.gN b q hi;have :=pJ hv;simpa using this
 have lM:∀{id},id≠kept H0 rl j->(HS.set (kept H0 rl j) ob).live id->HS.live id:=fun {id} bN ⟨x,h1,h2⟩=>⟨x,by rw[aA.aC,if_neg bN] at h1;exact h1,h2⟩;refine⟨u,w',G',HS.set (kept H0 rl j) ob,iK,?_⟩;refine I.next K hj hr (p':=p) (by simp[he]) M.rel I.vB (fun i r' h1 h2 h3=>?_) (fun id l hl=>?_) (fun i r' h1 h2 h3 h4 h5 l hl jU l' bN oS lP=>?_) (M.ext I.ext (Ig _ _)) ?_ ?_
 · obtain⟨l,hl⟩:=h3;by_cases AE:i=j
   · subst AE;rw[hr] at h1;cases h1;exact⟨.inl rfl,hwt⟩
   rw[rT _ (nQ h1 hr h2 hf AE)] at hl;have :=I.nh i r' h1 h2 ⟨l,hl⟩;exact⟨.inr this.1,this.2⟩
 · by_cases hid:id=kept H0 rl j
   · subst hid;by_cases gm:p<=j
     · exact .inl ⟨j,r,hr,hf,.inl rfl,hwt,gm,rfl,by rw[f3,aA.aC,if_pos rfl,aA.aC,if_pos rfl]⟩
     refine .inr ⟨fun i ri q1 q2 q3 q4=>nQ hr q2 hf q3 (by omega),?_⟩
     have hjp:(Hs p).get (kept H0 rl j)=(Hs (j+1)).get (kept H0 rl j):=
      D.sD (p:=j+1) (q:=p) I.ple (fun e re q1 q2 q3 q4 q5=>by
       have hd:=(I.pos e re q3 q4).2 q2
       exact D.GZ j e ((K.cmp j e r re (by omega) hr q3 (I.je D K hj hd)).2.2.2.1 q4 (.inr hf)) r re hr q3 hwt q5 _ (.inr ⟨hf,rfl⟩)) (fun k rk q1 q2 q3 q4 q5=>nQ hr q3 hf q4 (by omega)) p (by omega) (Ak _)
     rw[hjp,f3,aA.aC,if_pos rfl,aA.aC,if_pos rfl]
   rw[rT id hid] at hl;have EU:(HS.set (kept H0 rl j) ob).get id=HS.get id:=(by rw[aA.aC,if_neg hid]);rw[EU]
   rcases I.cont id l hl with ⟨i,ri,q1,q2,q3,q4⟩|h
   · exact .inl ⟨i,ri,q1,q2,.inr q3,q4⟩
   exact .inr h
 · by_cases AE:i=j
   · subst AE;rw[NN] at hl;cases hl;rw[rT jU bN] at oS;have :=I.rel.mR oS (lM bN lP);omega
   have ZS:=nQ (H0:=H0) h2 hr h3 hf AE
   have hd:dI listed i=true:=by
    rcases h4 with h|h
    · exact absurd h AE
    exact h
   rw[rT _ ZS] at hl;by_cases hid:jU=kept H0 rl j
   · subst hid;rw[NN] at oS;cases oS
     have wo:HS.live (kept H0 rl i):=by
      rcases I.cont _ l hl with ⟨i',ri',q1,q2,q3,q4,q5,q6,q7⟩|⟨q1,_⟩
      · have :i=i':=by
         refine Fs fun hn=>?_;exact nQ h2 q1 h3 q2 hn q6
        subst this;obtain⟨ob',bKg,g1,_,g3⟩:=D.oB h2 h3 h5;refine⟨ob',?_,WM g1⟩;rw[q7,g3,aA.aC,if_pos rfl]
      exact absurd rfl (q1 i r' h1 h2 h3 h5)
     have :=I.rel.mR hl wo;omega
   rw[rT _ hid] at oS;exact I.aGx i r' h1 h2 h3 hd h5 l hl jU l' bN oS (lM hid lP)
 · rw[f2];exact hv
 exact⟨I.vP.1,fun t ht=>(I.vP.2 t ht).mono hgo oD⟩
theorem oW.done (I:oW P g ops rl pairs anc s0 H0 Hs ss vs G0 w0 dl listed p G HS w a sS) (D:cV P g rl pj pairs s0 H0 Hs ss vs) (K:tX ops rl pairs anc)
 (dB:∀i,i<rl.length->dI listed i=true) {ds:List fY} (hd:TO G0 w0 ds dl) {Q:AQ} (hQ:Q .normal (ss rl.length) ds (Hs rl.length)):QR g G0 H0 w0 Q .normal a w:=by
 have vJ:∀e re,p<=e->e<rl.length->rl[e]?=some re->re.op.qE=false:=fun e re h1 h2 h3=>by
  cases Md:re.op.qE with
  |false=>rfl
  |true=>have :=(I.pos e re h3 Md).1 (dB e h2);omega
 have cG:∀id l,G.loc id=some l->(Hs rl.length).get id=HS.get id:=fun id l hl=>by
  rcases I.cont id l hl with ⟨i,ri,q1,q2,q3,q4,q5,q6,q7⟩|⟨q1,q2⟩
  · have hi:=(Be.1 q1).1;rw[q7]
    exact D.sD (p:=i+1) (q:=rl.length) (Ak _) (fun e re c1 c2 c3 c4 c5=>by rw[vJ e re (by omega) c2 c3] at c4;cases c4)
     (fun k rk c1 c2 c3 c4 c5=>by rw[q6];exact nQ q1 c3 q2 c4 (by omega)) rl.length (by omega) (Ak _)
  rw[q2]
  exact D.sD (p:=p) (q:=rl.length) (Ak _) (fun e re c1 c2 c3 c4 c5=>by rw[vJ e re (by omega) c2 c3] at c4;cases c4)
   (fun k rk c1 c2 c3 c4 c5=>q1 k rk c1 c3 c4 c5) rl.length I.ple (Ak _)
 have xG:HS.next<=(Hs rl.length).next:=by rw[I.vB];exact D.xR rl.length I.ple (Ak _)
 have hs:sS=ss rl.length:=by
  have xE:=D.Lq rl.length (Ak _);refine Gu fun t=>?_;by_cases ht:t<s0.length
  · have h1:=I.last t;rw[rV (S':=fun _=>true) rl.length (fun i hi=>by rw[dB i hi]),<-D.QV t rl.length (Ak _)] at h1;have e1:t<sS.length:=by rw[I.len];exact ht
    have e2:t<(ss rl.length).length:=(by rw[xE];exact ht);rw[Ab e1,Ab e2];simpa [getD_eq,Ab e1,Ab e2] using h1
  rw[Bw (by rw[I.len];omega),Bw (by rw[xE];omega)]
 refine⟨.normal,ss rl.length,ds,Hs rl.length,G,hQ,I.rel.oC cG xG,I.ext.oC cG xG,?_,?_,trivial⟩
 · rw[<-hs];exact I.vP
 rw[I.dfr];exact hd.ext I.ext
theorem Ly {i:Nat} (hs:listed.size=ops.size):i∈Region.ready .any ops listed↔Xz ops listed i:=by
 have cG:∀k,k<ops.size->listed.getD k true=dI listed k:=fun k hk=>by unfold dI;simp[Bn,hs,hk]
 unfold Region.ready;simp only[Ga,Bi,Am,Ct];constructor
 · rintro⟨h1,h2,h3⟩;refine⟨h1,by rw[<-cG i h1];exact h2,fun o ho e he hb=>?_⟩;rw[ho] at h3;simp only[Bt,Bc] at h3
   have h4:(!Region.binds .any e||listed.getD e.on false)=true:=by rw[Array.all_eq_true_iff_forall_mem] at h3;exact h3 e he
   rw[hb] at h4;simpa [dI] using h4
 rintro⟨h1,h2,h3⟩;refine⟨h1,by rw[cG i h1];exact h2,?_⟩
 obtain⟨o,ho⟩:∃o,ops[i]?=some o:=⟨ops[i],by simp[h1]⟩
 rw[ho];simp only[Bt,Bc];rw[Array.all_eq_true_iff_forall_mem];intro e he
 cases hb:Region.binds .any e with
 |false=>rfl
 |true=>have :=h3 o ho e he hb;simpa [dI] using this
theorem Pk (hs:listed.size=ops.size) (K:tX ops rl pairs anc) (h:Region.ready .any ops listed=[]):∀i,i<ops.size->dI listed i=true:=by
 intro i
 induction i using Nat.strongRecOn with
 |_ i ih=>
  intro hi
  cases hd:dI listed i with
  |true=>rfl
  |false=>
   have :i∈Region.ready .any ops listed:=(Ly hs).2 ⟨hi,hd,fun o ho e he hb=>by
    have h1:=K.aWa i o ho e he hb
    exact ih e.on h1 (by omega)⟩
   rw[h] at this;cases this
def todo (listed:Array Bool) (n:Nat):Nat:=(List.range n).countP fun i=> !dI listed i
theorem IF {p q:Nat->Bool}:∀(l:List Nat) (j:Nat),j∈l->(∀i∈l,q i=true->p i=true)->p j=true->q j=false->l.countP q<l.countP p
 |[],j,h,_,_,_=>by cases h
 |x::l,j,h,hpq,hp,hq=>by
  have hle:l.countP q<=l.countP p:=List.countP_mono_left fun i hi=>hpq i (Aw _ hi);rw[Gz,Gz]
  rcases Aq.1 h with rfl|h
  · simp only[hp,hq,if_true];simp;omega
  have :=IF l j h (fun i hi=>hpq i (Aw _ hi)) hp hq
  have h2:(if q x=true then 1 else 0)<=(if p x=true then 1 else 0):=by
   by_cases hqx:q x=true
   · simp[hqx,hpq x Au hqx]
   simp[hqx]
  omega
theorem aEv {j n:Nat} (hj:dI listed j=false) (eQ:j<n) (hs:listed.size=n):todo (listed.setIfInBounds j true) n<todo listed n:=by
 have rU:∀i,dI (listed.setIfInBounds j true) i=if i=j then true else dI listed i:=fun i=>by
  unfold dI;rw[Bn,Bn,Gb];by_cases h:j=i
  · subst h;simp[hs,eQ]
  rw[if_neg h,if_neg (Ne.symm h)]
 refine IF _ j (Bi.2 eQ) (fun i _ h=>?_) (by simp[hj]) (by simp[rU]);rw[rU] at h;by_cases AE:i=j
 · rw[AE,hj];rfl
 rw[if_neg AE] at h;exact h
theorem Ext.pre {G G':Gh} {H H1 H':aA} {w w':World} (h:Ext G H1 w G' H' w') (hl:∀id l,G.loc id=some l->H1.live id->H.live id) (hn:H.next<=H1.next):Ext G H w G' H' w':=
 {h with
  frame:=fun b hb hf=>h.frame b hb fun id l q1 q2=>hf id l q1 (hl id l q1 q2)
  lO:=fun id l q1 q2=>(h.lO id l q1 q2).imp (fun x=>x) fun⟨a,b,c,d,e⟩=>⟨a,b,c,hl _ _ c d,e⟩
  pA:=fun b o q=>(h.pA b o q).imp (fun x=>x) fun q=>q.imp (fun x=>x) fun⟨a,b,c,d,e⟩=>⟨a,b,c,hl _ _ c d,e⟩
  next:=Br hn h.next
  news:=fun id l q1 q2=>Br hn (h.news id l q1 q2)
  dead:=fun id l q1 q2=>hl _ _ q1 (h.dead id l q1 q2)}
def aKm (P:Program) (g:bB) (rl:List bC) (anc:Nat->Nat->Bool) (Hs:Nat->aA) (ss:Nat->List AV) (E:AV->List AV->aA->Prop) (j:Nat):Prop:=
 (∀k,k<rl.length->(k<j->anc k j=true)/\(j<k->anc j k=true))/\
 ∃r f azs p x H1,rl[j]?=some r/\r.op=.call f azs/\bH (ss j) r=true/\lL (f.eval g (ss j))=some p/\
  Sound P g p.1 (p.2.1++azs.map (Arg.eval g (ss j))++p.2.2) (Hs j) (.CD x) H1/\E x (ss j) H1
theorem oW.aEh (I:oW P g ops rl pairs anc s0 H0 Hs ss vs G0 w0 dl listed p G HS w a sS) (D:cV P g rl pj pairs s0 H0 Hs ss vs) (K:tX ops rl pairs anc)
 {j:Nat} (hj:Xz ops listed j) (eQ:j<rl.length) (hc:∀k,k<rl.length->(k<j->anc k j=true)/\(j<k->anc j k=true)):sS=ss j:=by
 have h1:∀k,k<j->dI listed k=true:=fun k hk=>I.AX K hj ((hc k (by omega)).1 hk)
 have h2:∀k,j<=k->k<rl.length->dI listed k=false:=fun k hk yG=>by
  by_cases he:k=j
  · rw[he];exact hj.not
  cases hd:dI listed k with
  |false=>rfl
  |true=>have :=I.closed j k hd ((hc k yG).2 (by omega));rw[hj.not] at this;cases this
 have xE:=D.Lq j (by omega);refine Gu fun t=>?_;by_cases ht:t<s0.length
 · have h3:=I.last t;rw[yY (k:=j) rl.length (by omega) (fun i q1 q2=>by rw[h2 i q1 q2];rfl),rV (S':=fun _=>true) j (fun i hi=>by rw[h1 i hi]),<-D.QV t j (by omega)] at h3;have e1:t<sS.length:=by rw[I.len];exact ht
   have e2:t<(ss j).length:=(by rw[xE];exact ht);rw[Ab e1,Ab e2];simpa [getD_eq,Ab e1,Ab e2] using h3
 rw[Bw (by rw[I.len];omega),Bw (by rw[xE];omega)]
theorem Yx {ro:Option Nat} (hc:gM P g mu ops ops.toList=some rl) (D:cV P g rl pj pairs s0 H0 Hs ss vs) (K:tX ops rl pairs anc) (BO:∀id l,G0.loc id=some l->id<H0.next)
 {ds:List fY} (hd:TO G0 w0 ds dl) {Q:AQ} (hQ:pj=none->Q .normal (ss rl.length) ds (Hs rl.length)) (hP:∀j,pj=some j->aKm P g rl anc Hs ss (fun x s H=>Q (.panic x) s ds H) j):
 ∀(fuel:Nat) (listed:Array Bool) (p:Nat) (G:Gh) (HS:aA) (w:World) (a:Act) (sS:List AV),todo listed rl.length<=fuel->
  oW P g ops rl pairs anc s0 H0 Hs ss vs G0 w0 dl listed p G HS w a sS->(∀k,pj=some k->dI listed k=false)->wpAnyIn (Fw ro) 0 P .any ops (QR g G0 H0 w0 Q) fuel listed a w:=by
 obtain⟨hlen,cG⟩:=yN _ _ hc;have jA:rl.length=ops.size:=by simpa using hlen
 have hnn:∀{listed:Array Bool},(∀i,i<rl.length->dI listed i=true)->(∀k,pj=some k->dI listed k=false)->pj=none:=fun {listed} h1 h2=>by
  cases gm:pj with
  |none=>rfl
  |some k=>obtain⟨_,r,_,_,_,_,_,e1,_⟩:=hP k gm;have :=h1 k (Be.1 e1).1;rw[h2 k gm] at this;cases this
 intro fuel
 induction fuel with
 |zero=>
  intro listed p G HS w a sS ht I hnp
  have dB:∀i,i<rl.length->dI listed i=true:=fun i hi=>by have h0:todo listed rl.length=0:=(by omega);unfold todo at h0;rw[List.countP_eq_zero] at h0;have :=h0 i (Bi.2 hi);simpa using this
  refine⟨?_,I.done D K dB hd (hQ (hnn dB hnp))⟩;refine Fu.2 fun i hi=>?_;have :=(Ly (by rw[I.size,jA])).1 hi;have h2:=dB i (by rw[jA];exact this.lt);rw[this.not] at h2;cases h2
 |succ fuel ih=>
  intro listed p G HS w a sS ht I hnp;have Wg:listed.size=ops.size:=by rw[I.size,jA]
  refine⟨fun hn=>I.done D K (fun i hi=>Pk Wg K hn i (by omega)) hd (hQ (hnn (fun i hi=>Pk Wg K hn i (by omega)) hnp)),fun j hjr=>?_⟩;have hj:=(Ly Wg).1 hjr
  obtain⟨o,ho⟩:∃o,ops[j]?=some o:=⟨ops[j]'hj.lt,by simp[hj.lt]⟩
  obtain⟨r,hr,hco⟩:=cG j o (by simpa using ho);obtain⟨ED,uE,_⟩:=FR hco;have Mh:j<rl.length:=by rw[jA];exact hj.lt
  have SQ:todo (listed.setIfInBounds j true) rl.length<=fuel:=by have :=aEv (n:=rl.length) hj.not Mh I.size;omega
  have aHi:pj≠some j->∀k,pj=some k->dI (listed.setIfInBounds j true) k=false:=fun bN k hk=>by rw[Rn I K (by rw[I.size];exact Mh),if_neg (fun he=>bN (by rw[hk,he]))];exact hnp k hk
  have ES:pj=some j->(∃f azs,r.op=.call f azs)/\bH (ss j) r=true:=fun h=>by obtain⟨_,r',f,azs,_,_,_,e1,e2,e3,_⟩:=hP j h;rw[hr] at e1;cases e1;exact⟨⟨f,azs,e2⟩,e3⟩
  have ia:=Qg hco I.vP;rw[I.vo K hj hr D] at ia;have eF:=(D.step j r hr).1;unfold wpOpIn;simp only[ho];rw[ia];unfold DStep at eF;by_cases RR:bH (ss j) r=true
  · rw[if_pos RR] at eF ⊢;by_cases hf:r.op.fresh=true
    · obtain⟨u,w',G',HS',iK,I'⟩:=I.fresh D K hj hr hf RR (aGm uE hf);refine⟨fun _ _=>trivial,?_⟩;rw[show o.semAt (Fw ro).round a.eval=execOp a.eval o from Oper.semAt_eq _ _ _ (yM uE fun f azs e=>by rw[e] at hf;cases hf),iK];rw[ED] at I'
      exact ih _ _ _ _ _ _ _ SQ I' (aHi fun h=>by
       obtain⟨⟨f,azs,e⟩,_⟩:=ES h;rw[e] at hf
       cases hf)
    rw[if_neg hf] at eF;have hf':r.op.fresh=false:=(by simpa using hf);split at eF
    · rename_i f azs fF;have he:r.op.qE=true:=(by rw[fF];rfl);have hev:=I.eval_eq K hj hr D;rw[fF] at uE hev;obtain⟨c,f0,e1,e2,e3,e4⟩:=Vv uE;have hfe:f.eval g sS=f.eval g (ss j):=hev f (by simp[dX.args]);have hae:azs.map (Arg.eval g sS)=azs.map (Arg.eval g (ss j)):=Ef fun y hy=>hev y (by simp[dX.args,hy]);by_cases ZZ:pj=some j
      · obtain⟨wc,r',f',as',q,x,H1,b1,b2,b3,b4,hS,hq⟩:=hP j ZZ;rw[hr] at b1;cases b1;rw[fF] at b2;cases b2;refine Uy e1 e2 e3 e4 (I.Uh D K hj hr he) I.vP (by rw[hfe,hae];exact .inl ⟨q,b4,hS⟩) (fun v hv=>by cases hv) (fun v hv u w' G' jS Md KU=>?_);cases hv;have hs:=I.aEh D K hj Mh wc
        have ex:=I.ext.trans (Md.pre (fun id l h1 h2=>by
         rcases I.Ye D K hj hr he id l h1 with ⟨_,_,_,_,_,_,_,_,_,hn⟩|⟨_,h⟩
         · obtain⟨o,ho,_⟩:=h2;rw[hn] at ho;cases ho
         obtain⟨o,ho,hv⟩:=h2;exact⟨o,h.trans ho,hv⟩) (by rw[I.vB];exact D.xR j (I.Ph K hj hr he).1 (by omega)))
        exact⟨.panic x,ss j,ds,H1,G',hq,jS,ex,hs▸I.vP.ext Md,by rw[I.dfr];exact hd.ext ex,u,rfl,KU⟩
      rw[if_neg (by simpa using ZZ)] at eF;obtain⟨q,hq,hS⟩:=eF;refine Uy e1 e2 e3 e4 (I.Uh D K hj hr he) I.vP (by rw[hfe,hae];exact .inl ⟨q,hq,hS⟩) (fun v hv u w' G' jS Md KU=>?_) (fun v hv=>by cases hv);cases hv;obtain⟨kx,I'⟩:=I.LM D K BO hj hr he jS Md KU;rw[ED] at I';exact ih _ _ _ _ _ _ _ SQ I' (aHi ZZ)
    · exact eF.elim
    · exact eF.elim
    rename_i n1 n2 n3;have bN:=aHi fun h=>by obtain⟨⟨f,azs,e⟩,_⟩:=ES h;exact n1 f azs e
    have nP:r.op.plain=true:=by cases PC:r.op<;>first|rfl|exact absurd PC (n1 _ _)|exact absurd PC (n2 _)|exact absurd PC (n3 _ _)|(rw[PC] at eF;cases eF)
    have aXi:dK (Arg.eval g sS) (Hs j) r.op=some (vs j,Hs (j+1)):=by rw[l6 (Hs j) (ev':=Arg.eval g (ss j)) (fun y hy=>I.eval_eq K hj hr D y hy)];exact eF
    by_cases he:r.op.qE=true
    · refine Qk (Yl uE nP) (yM uE n3) (I.Uh D K hj hr he) I.vP aXi (fun u w' G' jS Md KU=>?_);obtain⟨kx,I'⟩:=I.LM D K BO hj hr he jS Md KU;rw[ED] at I';exact ih _ _ _ _ _ _ _ SQ I' bN
    have yT:r.op.qE=false:=by simpa using he
    have hq:=LN (H1:=HS) yT hf' aXi (fun id hid=>by
     have GD:r.op.cY (Arg.eval g (ss j))=some id:=by rw[<-RT (ev:=Arg.eval g sS) (fun y hy=>I.eval_eq K hj hr D y hy)];exact hid
     obtain⟨y,hy,hyi⟩:=XT hid
     have rT:∃l,G.loc id=some l:=by
      cases y with
      |tmp t=>exact aBp hyi (I.vP.getD t)
      |const v=>have :=K.lits j r hr (lG hid) v hy;rw[Arg.eval,this] at hyi;cases hyi
      |iF n=>simp only[Arg.eval] at hyi;split at hyi<;>cases hyi
     obtain⟨l,hl⟩:=rT
     exact I.tt D K hj hr RR GD hl (OK eF GD))
    refine Qk (Yl uE nP) (yM uE n3) I.rel I.vP hq.2 (fun u w' G' jS Md KU=>?_);have I':=I.quiet D K hj hr yT (fun h=>by rw[hf'] at h;cases h) jS Md KU;rw[ED] at I';exact ih _ _ _ _ _ _ _ SQ I' bN
  rw[if_neg RR] at eF ⊢;refine⟨fun _ _=>trivial,?_⟩;obtain⟨hv,hH⟩:=eF;have bN:=aHi fun h=>absurd (ES h).2 RR;have bGm:bH (ss j) r=false:=by simpa using RR
  by_cases he:r.op.qE=true
  · have aSj:=I.Uh D K hj hr he;obtain⟨kx,I'⟩:=I.LM D K BO hj hr he (G1:=G) (w1:=w) (u:=undef) (by rw[hH];exact aSj) (by rw[hH];exact Ext.refl G (Hs j) w) (by rw[hv];exact VR.nD G w);rw[ED] at I';exact ih _ _ _ _ _ _ _ SQ I' bN
  have I':=I.quiet D K hj hr (by simpa using he) (fun _=>bGm) (u:=undef) I.rel (Ext.refl G HS w) (by rw[hv];exact VR.nD G w);rw[ED] at I';exact ih _ _ _ _ _ _ _ SQ I' bN
theorem Of {ro:Option Nat} {id:Nat} (hm:P.follows .mixedOrders=true) (hc:gM P g mu ops ops.toList=some rl) (D:cV P g rl pj pairs s0 H0 Hs ss vs) (K:tX ops rl pairs anc)
 (hw:WR g G0 H0 w0) (hs:SR G0 w0 s0 a) {ds:List fY} (hd:TO G0 w0 ds a.defers) {Q:AQ} (hQ:pj=none->Q .normal (ss rl.length) ds (Hs rl.length)) (hP:∀j,pj=some j->aKm P g rl anc Hs ss (fun x s H=>Q (.panic x) s ds H) j):
 (Code.region id ops true).wpIn (Fw ro) 0 P (QR g G0 H0 w0 Q) a w0:=by
 refine wpIn_region_any hm ?_;obtain⟨hlen,cG⟩:=yN _ _ hc;have jA:rl.length=ops.size:=by simpa using hlen
 have hH:∀id,(Hs 0).get id=H0.get id:=fun id=>by rw[D.h0];rfl
 have hN:H0.next<=(Hs 0).next:=by rw[D.h0];exact Ig _ _
 have xC:∀i,dI (Array.replicate ops.size false) i=false:=fun i=>by unfold dI;rw[Bn,Array.getElem?_replicate];split<;>rfl
 have aLe:∀i r,rl[i]?=some r->∀l,G0.loc (kept H0 rl i)=some l->False:=fun i r hr l hl=>by have :=hw.lt _ _ hl;unfold kept at this;omega
 have rR:TO G0 w0 ds a.defers:=hd;refine Yx (pairs:=pairs) (anc:=anc) (G0:=G0) (w0:=w0) (dl:=a.defers) hc D K hw.lt hd hQ hP ops.size (Array.replicate ops.size false) 0 G0 (Hs 0) {w0 with drawn:=w0.drawn+1} a s0 ?_ ?_ fun k _=>xC k
 · unfold todo;refine Br List.countP_le_length ?_;simp[jA]
 exact {
  size:=by simp[jA]
  closed:=fun i j h=>by rw[xC] at h;cases h
  ple:=Bb _
  pos:=fun i r h1 h2=>by rw[xC];simp
  rel:=(hw.drawn _).oC (fun id l _=>hH id) hN
  vB:=rfl
  nh:=fun i r h1 h2 ⟨l,h3⟩=>(aLe i r h1 l h3).elim
  cont:=fun id l hl=>.inr ⟨fun i r h1 h2 h3 h4 he=>by rw[he] at hl;exact aLe i r h2 l hl,rfl⟩
  aGx:=fun i r h1 h2 h3 h4=>by rw[xC] at h4;cases h4
  ext:=(Ext.drawn G0 H0 w0 _ (Ig _ _)).oC (fun id l _=>hH id) hN
  vP:=hs.ext (Ext.drawn G0 H0 w0 _ (Ig _ _))
  last:=fun t=>by
   have :∀m,xL (dI (Array.replicate ops.size false)) rl s0 vs t m=s0.getD t aD:=fun m=>by
    induction m with
    |zero=>rfl
    |succ m ih=>simp only[xL,xC,Jt,Bj,Cm,ih]
   rw[this]
  len:=rfl
  dfr:=rfl}
end
end
end Go.Av
