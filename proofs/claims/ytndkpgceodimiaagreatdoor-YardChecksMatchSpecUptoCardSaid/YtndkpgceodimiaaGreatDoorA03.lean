/-
  Part of the proof of statement 10
-/
import Derived.Test.YtndkpgceodimiaaGreatDoorA02
import Derived.Maps.RangeRun
import Derived.RangeFuncLeaves
import Derived.RangeFuncSeq
import Derived.OrdersIn
import Derived.Orders
set_option linter.unusedVariables false
set_option linter.unusedSimpArgs false
set_option linter.unusedSectionVars false
namespace Go.Av
open Go
def jZ:Operand->Bool
 |.const _=>true
 |_=>false
def qB (P:Program) (g:bB) (op:BinOp) (t:TypeId) (x y:Operand):Option eC:=
 match bJ g x,bJ g y with
 |some x',some y'=>
  if op=.eql\/op=.neq then
   match P.underlying t with
   |some .bool=>some (.eqb (op== .neq) x' y')
   |some (.struct _)|some (.array _ _)=>
    match oE P 60 t with
    |some ks=>if P.eqGuardType P.depth t=false then some (.eqf (op== .neq) ks x' y') else none
    |none=>none
   |some (.pointer _)=>some (.u9 (op== .neq) .ptr (jZ x||jZ y) x' y')
   |some (.interface _)=>some (.u9 (op== .neq) .ifc (jZ x||jZ y) x' y')
   |some (.slice _)=>some (.u9 (op== .neq) .sli (jZ x||jZ y) x' y')
   |some (.map _ _)=>some (.u9 (op== .neq) .mp (jZ x||jZ y) x' y')
   |some (.func _ _ _)=>some (.u9 (op== .neq) .fn (jZ x||jZ y) x' y')
   |_=>some (.bin op x' y')
  else some (.bin op x' y')
 |_,_=>none
def mK (P:Program) (g:bB) (src dst:TypeId) (x:Operand):Option eC:=
 match bJ g x with
 |some x'=>
  match P.underlying src,P.underlying dst with
  |some _,some (.int k)=>some (.NX k x')
  |some .string,some (.slice e)=>if P.underlying e matches some (.int .u8) then some (.BK x') else none
  |some (.slice e),some .string=>if P.underlying e matches some (.int .u8) then some (.DB x') else none
  |_,_=>none
 |none=>none
def jW (P:Program) (g:bB) (t:TypeId) (x:Operand) (lo hi mx:Option Operand):Option eC:=
 match bJ g x,mV g lo,mV g hi,mV g mx with
 |some x',some kq,some gR,some mx'=>
  match zX P t with
  |some (n,sz,_)=>some (.DU n sz x' kq gR mx')
  |none=>
   match mZ P t with
   |some (_,sz)=>some (.Yy sz x' kq gR mx')
   |none=>
    match P.underlying t,mx with
    |some .string,none=>some (.PM x' kq gR)
    |_,_=>none
 |_,_,_,_=>none
def qC (P:Program) (g:bB) (c:Call):Option eC:=
 match c.args.toList,c.argTypes[0]? with
 |[x],some t=>
  match P.underlying t,bJ g x with
  |some .string,some x'=>some (.lens x')
  |some (.slice _),some x'=>some (.OQ x')
  |_,_=>none
 |_,_=>none
def iB (P:Program) (g:bB) (mu:Bool) (c:Call):Option eC:=
 match c.args.toList,c.argTypes.toList with
 |[x,y],[t,t2]=>
  match bJ g x,bJ g y,mZ P t with
  |some x',some y',some (e,sz)=>
   match P.info? e,lL P e,P.underlying t2 with
   |some _,some _,some (.int _)=>none
   |some i,some z,some _=>if 1<=i.bytes/\z.cells.size=sz then some (.append sz i.bytes mu x' y') else none
   |_,_,_=>none
  |_,_,_=>none
 |_,_=>none
def nK (P:Program) (g:bB) (mu:Bool) (c:Call):Option eC:=
 match c.callee with
 |.builtin .len=>qC P g c
 |.builtin .append=>iB P g mu c
 |.builtin .copy=>match c.args.toList,c.argTypes[0]? with
  |[x,y],some t=>match bJ g x,bJ g y,mZ P t with
   |some x',some y',some (_,sz)=>some (.copy sz x' y')
   |_,_,_=>none
  |_,_=>none
 |.value f=>match bJ g f,nV g c.args.toList with
  |some f',some azs=>some (.call f' azs)
  |_,_=>none
 |.builtin .max=>match c.args.toList with
  |[x,y]=>match bJ g x,bJ g y with
   |some x',some y'=>some (.Vc x' y')
   |_,_=>none
  |_=>none
 |.builtin .min=>match c.args.toList with
  |[x,y]=>match bJ g x,bJ g y with
   |some x',some y'=>some (.Ve x' y')
   |_,_=>none
  |_=>none
 |.builtin .clear=>match c.args.toList,c.argTypes[0]? with
  |[x],some t=>match bJ g x,mZ P t with
   |some x',some (e,sz)=>match lL P e with
    |some z=>(jO z.cells.toList).map fun zs=>.clr sz zs x'
    |none=>none
   |_,_=>none
  |_,_=>none
 |_=>none
def eo (P:Program) (t:TypeId):Option AV:=
 match lL P t with
 |some z=>ofConst z
 |none=>none
def NY (P:Program) (g:bB) (mu:Bool) (o:Oper):Option eC:=
 match o.op with
 |.move x|.assign x=>(bJ g x).map .TM
 |.pick c x y=>match bJ g c,bJ g x,bJ g y with
  |some c',some x',some y'=>some (.pick c' x' y')
  |_,_,_=>none
 |.alloc t=>match lL P t with
  |some z=>(jO z.cells.toList).map .alloc
  |none=>none
 |.box _ x=>(bJ g x).map .box
 |.build t parts=>match lL P t with
  |some z=>match jO z.cells.toList,P.underlying t with
   |some zs,some (.struct fs)=>match JI P fs.toList with
    |some l=>(vR g (l[·]?) parts.toList).map (.build zs)
    |none=>none
   |some zs,some (.array _ e)=>match kD P e with
    |some sz=>(vR g (fun i=>some (i*sz,sz)) parts.toList).map (.build zs)
    |none=>none
   |_,_=>none
  |none=>none
 |.buildSlice t len parts=>match mZ P t with
  |some (e,sz)=>match lL P e,IU g 0 parts.toList with
   |some _,some ys=>if len=parts.size/\len*sz<=2^24 then(if Tc mu sz ys=true then some (.jD 1 1 [.str []] (.const (.int .i64 1)) (.const (.int .i64 1))) else some (.Ob sz ys)) else none
   |_,_=>none
  |none=>none
 |.load t x=>match bJ g x,fT P t,kD P t with
  |some x',some agg,some n=>some (.load agg n x')
  |_,_,_=>none
 |.store t x y=>match bJ g x,bJ g y,kD P t with
  |some x',some y',some n=>some (.store n x' y')
  |_,_,_=>none
 |.nilCheck x=>(bJ g x).map .Re
 |.binOp op t x y _=>qB P g op t x y
 |.unOp op _ x=>(bJ g x).map (.un op)
 |.convert src dst x=>mK P g src dst x
 |.sliceToArrayPointer t x=>match bJ g x,P.underlying t with
  |some x',some (.array n _)=>some (.Yw n x')
  |_,_=>none
 |.makeInterface t x=>match bJ g x,P.underlying t with
  |some _,some (.interface _)=>none
  |some x',some _=>some (.YO t x')
  |_,_=>none
 |.makeFunc fn fs cs=>match nV g fs.toList,nV g cs.toList with
  |some fs',some MJ=>some (.YN fn fs' MJ)
  |_,_=>none
 |.makeMap t r=>match P.underlying t,r with
  |some (.map _ _),none=>some .yU
  |some (.map _ _),some (.const (.int _ _))=>some .yU
  |_,_=>none
 |.makeSlice t x y=>match bJ g x,bJ g y,mZ P t with
  |some x',some y',some (e,sz)=>match P.info? e,lL P e with
   |some i,some z=>match jO z.cells.toList with
    |some zs=>if 1<=sz/\1<=i.bytes then some (.jD sz i.bytes zs x' y') else none
    |none=>none
   |_,_=>none
  |_,_,_=>none
 |.slice t x lo hi mx=>jW P g t x lo hi mx
 |.fieldAddr t x i=>match bJ g x,Xh P t i with
  |some x',some (off,_,_)=>some (.Xf off x')
  |_,_=>none
 |.indexAddr t x i=>match bJ g x,bJ g i with
  |some x',some i'=>match zX P t with
   |some (n,sz,_)=>some (.TG (some n) sz x' i')
   |none=>match mZ P t with
    |some (_,sz)=>some (.TG none sz x' i')
    |none=>none
  |_,_=>none
 |.index t x i=>match bJ g x,bJ g i with
  |some x',some i'=>match zX P t with
   |some (n,sz,b)=>some (.idx n sz b x' i')
   |none=>if P.underlying t matches some .string then some (.idxs x' i') else none
  |_,_=>none
 |.lookup t x i ok=>match bJ g x,bJ g i,P.underlying t with
  |some x',some i',some (.map kt vt)=>match IM P kt,eo P vt with
   |some k,some z=>some (.lookup k z ok x' i')
   |_,_=>none
  |_,_,_=>none
 |.mapUpdate t m i x|.insert t m i x=>match bJ g m,bJ g i,bJ g x,P.underlying t with
  |some m',some i',some x',some (.map kt _)=>(IM P kt).map fun k=>.OY k m' i' x'
  |_,_,_,_=>none
 |.typeAssert x _ t ok=>match bJ g x,P.underlying t,eo P t with
  |some _,some (.interface _),_=>none
  |some x',some _,some z=>some (.ZF t ok z x')
  |_,_,_=>none
 |.extract x i=>(bJ g x).map fun x'=>.Xe x' i
 |.range t x=>match bJ g x,P.underlying t with
  |some x',some (.map _ _)=>some (.vQ x')
  |_,_=>none
 |.next x s=>match bJ g x,s with
  |some x',false=>some (.DN x')
  |_,_=>none
 |.entry x=>(bJ g x).map .yB
 |.call c=>nK P g mu c
 |.panic x=>(bJ g x).map .panic
 |.defer c=>match c.callee with
  |.value f=>match bJ g f,nV g c.args.toList with
   |some f',some azs=>some (.lC f' azs)
   |_,_=>none
  |_=>none
 |_=>none
def eC.plain:eC->Bool
 |.call _ _|.panic _|.lC _ _|.vQ _|.DN _|.yB _=>false
 |_=>true
theorem vd {op:BinOp} (h:op=.eql\/op=.neq):op=if(op== .neq) then .neq else .eql:=by rcases h with rfl|rfl<;>rfl
theorem WN {P:Program} {f:Nat} {t:TypeId} {ks:List Sk} (h:oE P f t=some ks) {d:TypeDesc} (hu:P.underlying t=some d) (hd:(∃fs,d=.struct fs)\/∃n e,d=.array n e):fT P t=some true:=by
 unfold fT
 rcases hd with ⟨fs,rfl⟩|⟨n,e,rfl⟩<;>rw[hu]
theorem im {P:Program} {g:bB} {o:Oper} {op:BinOp} {t t2:TypeId} {x y:Operand} {r:eC} (ho:o.op=.binOp op t x y t2) (h:qB P g op t x y=some r):cP P g o r:=by
 have hl:(jZ x||jZ y)=true->(∃c,x=.const c)\/∃c,y=.const c:=fun hh=>by cases x<;>cases y<;>simp[jZ] at hh ⊢
 have nk:∀{d:TypeDesc} {k:Nk},P.underlying t=some d->(match (some d:Option TypeDesc) with|some (.pointer _)=>some Nk.ptr|some (.interface _)=>some .ifc|some (.slice _)=>some .sli|some (.map _ _)=>some .mp|some (.func _ _ _)=>some .fn|_=>none)=some k->nkP P t=some k:=fun hu hk=>by unfold nkP;rw[hu];exact hk
 unfold qB at h;split at h
 · rename_i x' y' hx hy;split at h
   · rename_i fP
     split at h<;>rename_i hu<;>first
      |(obtain rfl:=Aa h;exact aSg ho (vd fP) hu hx hy)
      |(obtain rfl:=Aa h;exact aSi ho (vd fP) (nk hu rfl) hl hx hy)
      |(split at h
        · rename_i ks hks;split at h
          · rename_i hg;obtain rfl:=Aa h;exact aSh ho (vd fP) (by omega) hks (WN hks hu (by first|exact .inl ⟨_,rfl⟩|exact .inr ⟨_,_,rfl⟩)) hg hx hy
          cases h
        cases h)
      |(obtain rfl:=Aa h;exact zt ho hx hy)
   obtain rfl:=Aa h;exact zt ho hx hy
 cases h
theorem XP {P:Program} {g:bB} {o:Oper} {src dst:TypeId} {x:Operand} {r:eC} (ho:o.op=.convert src dst x) (h:mK P g src dst x=some r):cP P g o r:=by
 unfold mK at h;split at h
 · rename_i x' hx;split at h
   · rename_i d k hs hd;obtain rfl:=Aa h;exact zu ho hx hs hd
   · rename_i e hs hd;split at h
     · rename_i he;obtain rfl:=Aa h;exact aAa ho hx hs hd he
     cases h
   · rename_i e hs hd;split at h
     · rename_i he;obtain rfl:=Aa h;exact zq ho hx hs hd he
     cases h
   cases h
 cases h
theorem Ub {P:Program} {g:bB} {o:Oper} {t:TypeId} {x:Operand} {lo hi mx:Option Operand} {r:eC} (ho:o.op=.slice t x lo hi mx) (h:jW P g t x lo hi mx=some r):cP P g o r:=by
 unfold jW at h;split at h
 · rename_i x' kq gR mx' hx RM kb ql;split at h
   · rename_i n sz b ht;obtain rfl:=Aa h;exact zx ho hx RM kb ql ht
   split at h
   · rename_i e sz ht;obtain rfl:=Aa h;exact aGj ho hx RM kb ql ht
   split at h
   · rename_i ht;obtain rfl:=Aa h;exact zy ho hx RM kb ht
   cases h
 cases h
theorem NM {c:Call} {x:Operand} (h:c.args.toList=[x]):c.args= #[x]:=by apply Fm;simpa using h
theorem GS {c:Call} {x y:Operand} (h:c.args.toList=[x,y]):c.args= #[x,y]:=by apply Fm;simpa using h
theorem iq {P:Program} {g:bB} {o:Oper} {c:Call} {r:eC} (ho:o.op=.call c) (hc:c.callee=.builtin .len) (h:qC P g c=some r):cP P g o r:=by
 unfold qC at h;split at h
 · rename_i x t ha QC;split at h
   · rename_i x' ht hx;obtain rfl:=Aa h;exact aGb ho hc (NM ha) hx QC ht
   · rename_i e x' ht hx;obtain rfl:=Aa h;exact aGa ho hc (NM ha) hx QC ht
   cases h
 cases h
theorem Se {P:Program} {g:bB} {mu:Bool} {o:Oper} {c:Call} {r:eC} (ho:o.op=.call c) (hc:c.callee=.builtin .append) (h:iB P g mu c=some r):cP P g o r:=by
 unfold iB at h;split at h
 · rename_i x y t t2 ha QC;have bCn:c.argTypes= #[t,t2]:=by apply Fm;simpa using QC
   split at h
   · rename_i x' y' e sz hx hy ht;obtain⟨hu,lE⟩:=kH ht;split at h
     · cases h
     · rename_i i z d hd hi hz h2;split at h
       · rename_i eN;obtain rfl:=Aa h;exact k9 ho hc (GS ha) hx hy bCn hu lE h2 (fun k he=>hd k he) hi eN.1 hz eN.2
       cases h
     cases h
   cases h
 cases h
theorem PZ {P:Program} {t:TypeId} {z:AV} (h:eo P t=some z):∃zv,lL P t=some zv/\ofConst zv=some z:=by
 unfold eo at h;split at h
 · rename_i zv hz;exact⟨zv,hz,h⟩
 cases h
theorem nlC {P:Program} {g:bB} {o:Oper} {x:Operand} {x':Arg} (ho:o.op=.nilCheck x) (hx:bJ g x=some x'):cP P g o (.Re x'):=by
 intro s a G H w v H' hw hs h;have vx:=bH hw hs hx
 have key:∀{va:AV} {u:Value},VR G w va u->(∃id off,va=.ref id off)\/(∃cs,va=.pl cs)\/(∃f p q,va=.func (.func f) p q)\/(∃t y,va=.iface t y)->a.eval x=u->(execOp a.eval o).run P w=.ok (.value u) w:=by
  intro va u hv pW he
  rcases pW with ⟨id,off,rfl⟩|⟨cs,rfl⟩|⟨f,p,q,rfl⟩|⟨t,y,rfl⟩<;>cases hv<;>simp[execOp,ho,he]
 simp only[cX] at h
 split at h<;>first
  |(cases h;done)
  |(rename_i lH
    simp only[Option.some.injEq,Prod.mk.injEq] at h;obtain⟨rfl,rfl⟩:=h;rw[lH] at vx
    exact cP.pure' hw (key vx (by simp) rfl) vx)
theorem XR {P:Program} {g:bB} {mu:Bool} {o:Oper} {r:eC} (h:NY P g mu o=some r) (hp:r.plain=true):cP P g o r:=by
 unfold NY at h;split at h
 · rename_i x ho;simp only[Ag] at h;obtain⟨x',hx,rfl⟩:=h;exact cu (.inl ho) hx
 · rename_i x ho;simp only[Ag] at h;obtain⟨x',hx,rfl⟩:=h;exact cu (.inr ho) hx
 · rename_i c x y ho;split at h
   · rename_i c' x' y' hc hx hy;obtain rfl:=Aa h;exact aGh ho hc hx hy
   cases h
 · rename_i t ho;split at h
   · rename_i z hz;simp only[Ag] at h;obtain⟨zs,CC,rfl⟩:=h;exact zp ho hz CC
   cases h
 · rename_i t x ho;simp only[Ag] at h;obtain⟨x',hx,rfl⟩:=h;exact aSe ho hx
 · rename_i t parts ho;split at h
   · rename_i z hz;split at h
     · rename_i zs fs CC hu;split at h
       · rename_i l hl;simp only[Ag] at h;obtain⟨ps,GC,rfl⟩:=h;exact MX ho hu hz CC hl GC
       cases h
     · rename_i zs n e CC hu;split at h
       · rename_i sz lE;simp only[Ag] at h;obtain⟨ps,GC,rfl⟩:=h;exact Oe ho hu lE hz CC GC
       cases h
     cases h
   cases h
 · rename_i t len parts ho;split at h
   · rename_i e sz ht;split at h
     · rename_i z ys hz Mo;split at h
       · rename_i eN;split at h
         · rename_i hr;obtain rfl:=Aa h;exact lg ho ht hz eN.1 eN.2 Mo hr
         obtain rfl:=Aa h;exact zw ho ht hz eN.1 eN.2 Mo
       cases h
     cases h
   cases h
 · rename_i t x ho;split at h
   · rename_i x' agg n hx rD hn;obtain rfl:=Aa h;exact aGc ho hx rD hn
   cases h
 · rename_i t x y ho;split at h
   · rename_i x' y' n hx hy hn;obtain rfl:=Aa h;exact z8 ho hx hy hn
   cases h
 · rename_i x ho;simp only[Ag] at h;obtain⟨x',hx,rfl⟩:=h;exact nlC ho hx
 · rename_i op t x y t2 ho;exact im ho h
 · rename_i op t x ho;simp only[Ag] at h;obtain⟨x',hx,rfl⟩:=h;exact bBk ho hx
 · rename_i src dst x ho;exact XP ho h
 · rename_i t x ho;split at h
   · rename_i x' n e hx ht;obtain rfl:=Aa h;exact aGi ho hx ht
   cases h
 · rename_i t x ho;split at h
   · cases h
   · rename_i x' d hni hx ht;obtain rfl:=Aa h;refine aGg ho hx ?_;rw[ht]
     cases d<;>first|rfl|exact absurd rfl (hni _)
   cases h
 · rename_i fn fs cs ho;split at h
   · rename_i fs' MJ hf hc;obtain rfl:=Aa h;exact aGf ho hf hc
   cases h
 · rename_i t rr ho;split at h
   · rename_i k v ht;obtain rfl:=Aa h;exact Vl ho ht (.inl rfl)
   · rename_i k v j n ht;obtain rfl:=Aa h;exact Vl ho ht (.inr ⟨_,_,rfl⟩)
   cases h
 · rename_i t x y ho;split at h
   · rename_i x' y' e sz hx hy ht;split at h
     · rename_i i z hi hz;split at h
       · rename_i zs CC;split at h
         · rename_i eN;obtain rfl:=Aa h;exact YT ho hx hy ht hi hz CC eN.1 eN.2
         cases h
       cases h
     cases h
   cases h
 · rename_i t x lo hi mx ho;exact Ub ho h
 · rename_i t x i ho;split at h
   · rename_i x' off n b hx hf;obtain rfl:=Aa h;exact aFy ho hx hf
   cases h
 · rename_i t x i ho;split at h
   · rename_i x' i' hx hi;split at h
     · rename_i n sz b ht;obtain rfl:=Aa h;exact Vj ho hx hi ht
     split at h
     · rename_i e sz ht;obtain rfl:=Aa h;exact YS ho hx hi ht
     cases h
   cases h
 · rename_i t x i ho;split at h
   · rename_i x' i' hx hi;split at h
     · rename_i n sz b ht;obtain rfl:=Aa h;exact aSj ho hx hi ht
     split at h
     · rename_i iE;obtain rfl:=Aa h;exact aFz ho hx hi iE
     cases h
   cases h
 · rename_i t x i ok ho;split at h
   · rename_i x' i' kt vt hx hi ht;split at h
     · rename_i k z hk hz;obtain rfl:=Aa h;obtain⟨zv,yh,hz2⟩:=PZ hz;exact lh ho hx hi ht hk yh hz2
     cases h
   cases h
 · rename_i t m i x ho;split at h
   · rename_i m' i' x' kt vt hm hi hx ht;simp only[Ag] at h;obtain⟨k,hk,rfl⟩:=h;exact Vk (.inl ho) hm hi hx ht hk
   cases h
 · rename_i t m i x ho;split at h
   · rename_i m' i' x' kt vt hm hi hx ht;simp only[Ag] at h;obtain⟨k,hk,rfl⟩:=h;exact Vk (.inr ho) hm hi hx ht hk
   cases h
 · rename_i x ti t ok ho;split at h
   · cases h
   · rename_i x' d z hni hx ht hz;obtain rfl:=Aa h;obtain⟨zv,yh,hz2⟩:=PZ hz;exact aGk ho hx ht (fun ms he=>hni ms he) yh hz2
   cases h
 · rename_i x i ho;simp only[Ag] at h;obtain⟨x',hx,rfl⟩:=h;exact aFx ho hx
 · rename_i t x ho;split at h
   · obtain rfl:=Aa h;cases hp
   cases h
 · rename_i x st ho;split at h
   · obtain rfl:=Aa h;cases hp
   cases h
 · rename_i x ho;simp only[Ag] at h;obtain⟨x',hx,rfl⟩:=h;cases hp
 · rename_i c ho;unfold nK at h;split at h
   · rename_i hc;exact iq ho hc h
   · rename_i hc;exact Se ho hc h
   · rename_i hc;split at h
     · rename_i x y t ha QC;split at h
       · rename_i x' y' e sz hx hy ht;obtain rfl:=Aa h;obtain⟨hu,lE⟩:=kH ht;exact aFw ho hc (GS ha) hx hy QC hu lE
       cases h
     cases h
   · rename_i f hc;split at h
     · obtain rfl:=Aa h;cases hp
     cases h
   · rename_i hc;split at h
     · rename_i x y ha;split at h
       · rename_i x' y' hx hy;obtain rfl:=Aa h;exact aGd ho hc (GS ha) hx hy
       cases h
     cases h
   · rename_i hc;split at h
     · rename_i x y ha;split at h
       · rename_i x' y' hx hy;obtain rfl:=Aa h;exact aGe ho hc (GS ha) hx hy
       cases h
     cases h
   · rename_i hc;split at h
     · rename_i x t ha QC;split at h
       · rename_i x' e sz hx ht;obtain⟨hu,lE⟩:=kH ht;split at h
         · rename_i z hz;simp only[Ag] at h;obtain⟨zs,CC,rfl⟩:=h;exact aSf ho hc (NM ha) hx QC hu hz CC
         cases h
       cases h
     cases h
   cases h
 · rename_i x ho;simp only[Ag] at h;obtain⟨x',hx,rfl⟩:=h;cases hp
 · rename_i c ho;split at h
   · split at h
     · obtain rfl:=Aa h;cases hp
     cases h
   cases h
 cases h
def eC.fresh:eC->Bool
 |.alloc _|.box _|.yU|.jD _ _ _ _ _|.BK _=>true
 |_=>false
theorem aDy {P:Program} {g:bB} {mu:Bool} {o:Oper} {r:eC} (h:NY P g mu o=some r) (hp:r.fresh=true):CY P g o r:=by
 unfold NY at h;split at h
 case h_4=>
  rename_i t ho;split at h
  · rename_i z hz;simp only[Ag] at h;obtain⟨zs,CC,rfl⟩:=h;exact RB ho hz CC
  cases h
 case h_5=>rename_i t x ho;simp only[Ag] at h;obtain⟨x',hx,rfl⟩:=h;exact Zl ho hx
 case h_7=>
  rename_i t len parts ho;split at h
  · rename_i e sz ht;split at h
    · rename_i z ys hz Mo;split at h
      · rename_i eN;split at h
        · rename_i hr;obtain rfl:=Aa h;exact Nl ho ht hz eN.1 eN.2 Mo hr
        obtain rfl:=Aa h;cases hp
      cases h
    cases h
  cases h
 case h_13=>
  rename_i src dst x ho;unfold mK at h;split at h
  · rename_i x' hx;split at h
    · obtain rfl:=Aa h;cases hp
    · rename_i e hs hd;split at h
      · rename_i he;obtain rfl:=Aa h;exact RC ho hx hs hd he
      cases h
    · split at h
      · obtain rfl:=Aa h;cases hp
      cases h
    cases h
  cases h
 case h_17=>
  rename_i t rr ho;split at h
  · rename_i k v ht;obtain rfl:=Aa h;exact Kj ho ht (.inl rfl)
  · rename_i k v j n ht;obtain rfl:=Aa h;exact Kj ho ht (.inr ⟨_,_,rfl⟩)
  cases h
 case h_18=>
  rename_i t x y ho;split at h
  · rename_i x' y' e sz hx hy ht;split at h
    · rename_i i z hi hz;split at h
      · rename_i zs CC;split at h
        · rename_i eN;obtain rfl:=Aa h;exact Lh ho hx hy ht hi hz CC eN.1 eN.2
        cases h
      cases h
    cases h
  cases h
 all_goals exfalso
 all_goals (try unfold qB at h)
 all_goals (try unfold jW at h)
 all_goals (try unfold nK at h)
 all_goals (try unfold qC at h)
 all_goals (try unfold iB at h)
 all_goals repeat' (split at h)
 all_goals first
  |(cases h;done)
  |(obtain rfl:=Aa h;cases hp)
  |(simp only[Ag] at h;obtain⟨_,_,rfl⟩:=h;cases hp)
inductive Out where
 |ret (v:AV)
 |KC (v:AV)
def XD (G:Gh) (w:World):Out->Ending->Prop
 |.ret v,.returned u=>VR G w v u
 |.KC v,.panicked chain=>∃u,chain=[{v:=u,recovered:=false}]/\VR G w v u
 |_,_=>False
def MG (P:Program) (f:FuncId):Prop:=∃fn,P.funcs[f]?=some fn/\fn.body.isSome=true/\(fn.name== "runtime.NumGoroutine")=false
def Sound (P:Program) (g:bB) (f:FuncId) (args:List AV) (H:aA) (out:Out) (H':aA):Prop:=
 MG P f/\∀(G:Gh) (w:World) (vs:List Value),WR g G H w->iF G w args vs->
  Calls P f vs.toArray w fun e w'=>∃G',WR g G' H' w'/\Ext G H w G' H' w'/\XD G' w' out e
def Fw (ro:Option Nat):Fence:={Fence.wide with round:=ro}
def rR (P:Program) (g:bB) (id:Nat) (args:List AV) (H:aA) (out:Out) (H':aA):Prop:=
 ∀(G:Gh) (w:World) (vs:List Value) (l:Loc),WR g G H w->iF G w args vs->G.loc id=some l->
  YieldAt Fence.wide 0 P l.cY vs.toArray w fun e w'=>∃G',WR g G' H' w'/\Ext G H w G' H' w'/\XD G' w' out e
inductive gH where
 |call (f:FuncId) (azs:List AV)
 |mark (id:Nat)
inductive AEx where
 |normal
 |exit (id:Nat)
 |ret
 |panic (v:AV)
def bP (s:List AV) (o:bD):Bool:=
 match o.guard with
 |none=>true
 |some (d,b)=>match s.getD d aD with
  |.bool c=>c==b
  |_=>false
def mX (s:List AV) (dst:Option Nat) (v:AV):List AV:=
 match dst with
 |none=>s
 |some d=>s.set d v
def mJ:AV->Option (FuncId×List AV×List AV)
 |.func (.func f) fs cs=>some (f,fs,cs)
 |_=>none
def QX (P:Program) (g:bB) (fv:AV) (args:List AV) (H:aA) (out:Out) (H':aA):Prop:=
 (∃p,mJ fv=some p/\Sound P g p.1 (p.2.1++args++p.2.2) H out H')\/(∃id,fv=.yield id/\rR P g id args H out H')
abbrev AQ:=AEx->List AV->List gH->aA->Prop
def uN (P:Program) (g:bB):List bD->List AV->List gH->aA->AQ->Prop
 |[],s,ds,H,Q=>Q .normal s ds H
 |o::r,s,ds,H,Q=>
  if bP s o then
   match o.op with
   |.call f azs=>∃out H',QX P g (f.eval g s) (azs.map (Arg.eval g s)) H out H'/\
     match out with
     |.ret v=>uN P g r (mX s o.dst v) ds H' Q
     |.KC v=>Q (.panic v) s ds H'
   |.panic x=>∃t v,x.eval g s=.iface t v/\Q (.panic (.iface t v)) s ds H
   |.lC f azs=>∃p,mJ (f.eval g s)=some p/\uN P g r (mX s o.dst aD) (.call p.1 (p.2.1++azs.map (Arg.eval g s)++p.2.2)::ds) H Q
   |.vQ x=>∃m es,x.eval g s=.map m/\H.get m=some (.map es)/\∀bs c mb,bs.length=es.length->bs.Nodup->
     uN P g r (mX s o.dst (.ref H.next 0)) ds ((H.set m (.sT es bs c mb)).alloc (.iter m mb c [])) Q
   |.DN x=>∃it m mb c seen es bs,x.eval g s=.ref it 0/\H.get it=some (.iter m mb c seen)/\H.get m=some (.sT es bs c mb)/\
     ((∀b∈bs,b∈seen)->uN P g r (mX s o.dst (.jR [.bool false])) ds H Q)/\
     ∀j,j<bs.length->bs.getD j 0∉seen->uN P g r (mX s o.dst (.jR [.bool true,(es.getD j (aD,aD)).1,(es.getD j (aD,aD)).2])) ds (H.set it (.iter m mb c (seen++[bs.getD j 0]))) Q
   |.yB x=>∃it m mb c seen es bs j,x.eval g s=.ref it 0/\H.get it=some (.iter m mb c (seen++[bs.getD j 0]))/\H.get m=some (.sT es bs c mb)/\j<bs.length/\
     uN P g r (mX s o.dst (.jR [(es.getD j (aD,aD)).1,(es.getD j (aD,aD)).2])) ds H Q
   |op=>∃v H',cX (Arg.eval g s) H op=some (v,H')/\uN P g r (mX s o.dst v) ds H' Q
  else uN P g r (mX s o.dst aD) ds H Q
def SM (G:Gh) (w:World):List gH->List Deferred->Prop
 |[],[]=>True
 |.call f azs::ds,d::r=>(∃cap:List Value,d.target=.fn (.func f) cap.toArray/\iF G w azs (d.args.toList++cap))/\SM G w ds r
 |.mark id::ds,d::r=>(∃l,G.loc id=some l/\d.target=.collected l.cY)/\SM G w ds r
 |_,_=>False
theorem SM.ext {G G':Gh} {H H':aA} {w w':World} (e:Ext G H w G' H' w'):∀{ds:List gH} {l:List Deferred},SM G w ds l->SM G' w' ds l
 |[],[],_=>trivial
 |.call f azs::ds,d::r,h=>⟨let⟨cap,h1,h2⟩:=h.1;⟨cap,h1,h2.ext e⟩,SM.ext e h.2⟩
 |.mark id::ds,d::r,h=>⟨let⟨l,h1,h2⟩:=h.1;⟨l,e.loc _ _ h1,h2⟩,SM.ext e h.2⟩
 |[],_::_,h=>h.elim
 |.call _ _::_,[],h=>h.elim
 |.mark _::_,[],h=>h.elim
def ExR (G:Gh) (w:World):AEx->Exit->Prop
 |.normal,.normal=>True
 |.exit i,.exit j=>i=j
 |.ret,.ret=>True
 |.panic v,.panic chain=>∃u,chain=[{v:=u,recovered:=false}]/\VR G w v u
 |_,_=>False
def QR (g:bB) (G:Gh) (H:aA) (w:World) (Q:AQ):Exit->Act->World->Prop:=fun e a' w'=>∃ae s' fO H' G',Q ae s' fO H'/\WR g G' H' w'/\Ext G H w G' H' w'/\SR G' w' s' a'/\SM G' w' fO a'.defers/\ExR G' w' ae e
theorem QR.trans {g:bB} {G G1:Gh} {H H1:aA} {w w1:World} {Q:AQ} (e:Ext G H w G1 H1 w1) {x:Exit} {a:Act} {w':World} (h:QR g G1 H1 w1 Q x a w'):QR g G H w Q x a w':=
 let⟨ae,s',fO,H',G',q,hw,he,hs,hd,hx⟩:=h
 ⟨ae,s',fO,H',G',q,hw,e.trans he,hs,hd,hx⟩
def LY (P:Program) (g:bB) (mu:Bool) (ops:Array Oper) (o:Oper):Option bD:=
 match NY P g mu o with
 |some r=>
  match o.guard with
  |none=>some ⟨o.dst,r,none⟩
  |some (j,b)=>match (ops[j]?).bind (·.dst) with
   |some d=>some ⟨o.dst,r,some (d,b)⟩
   |none=>none
 |none=>none
def lY (P:Program) (g:bB) (mu:Bool) (ops:Array Oper):List Oper->Option (List bD)
 |[]=>some []
 |o::r=>match LY P g mu ops o,lY P g mu ops r with
  |some x,some xs=>some (x::xs)
  |_,_=>none
theorem EN {P:Program} {g:bB} {mu:Bool} {ops:Array Oper} {o:Oper} {r:bD} (h:LY P g mu ops o=some r):r.dst=o.dst/\NY P g mu o=some r.op/\
 ((o.guard=none/\r.guard=none)\/∃j b d,o.guard=some (j,b)/\(ops[j]?).bind (·.dst)=some d/\r.guard=some (d,b)):=by
 unfold LY at h;split at h
 · rename_i r' hr;split at h
   · rename_i hg;obtain rfl:=Aa h;exact⟨rfl,hr,.inl ⟨hg,rfl⟩⟩
   rename_i j b hg;split at h
   · rename_i d hd;obtain rfl:=Aa h;exact⟨rfl,hr,.inr ⟨j,b,d,hg,hd,rfl⟩⟩
   cases h
 cases h
theorem VR.tw {G:Gh} {w:World} {v:AV} {u:Value} (h:VR G w v u) (b:Bool):v=.bool b↔u=.bool b:=by
 constructor
 · rintro rfl;exact h.jU
 rintro rfl;cases h;rfl
theorem CO (a:Array Value) (d:Nat) (b:Bool):a[d]?=some (.bool b)↔a.getD d undef=.bool b:=by
 rw[Bo]
 cases h:a[d]? with
 |none=>simp[undef]
 |some v=>simp
theorem PX {P:Program} {g:bB} {mu:Bool} {ops:Array Oper} {o:Oper} {r:bD} (h:LY P g mu ops o=some r) {G:Gh} {w:World} {s:List AV} {a:Act} (hs:SR G w s a):
 Region.wanted o (yielded ops a.tmps)=bP s r:=by
 obtain⟨_,_,hg⟩:=EN h
 rcases hg with ⟨h1,h2⟩|⟨j,b,d,h1,h2,h3⟩
 · simp[Region.wanted,bP,h1,h2]
 simp only[Region.wanted,bP,h1,h3,yielded,h2,Option.bind_some];have hv:=hs.getD d
 have key:∀c,s.getD d aD=.bool c↔a.tmps[d]?=some (.bool c):=fun c=>by rw[CO];exact hv.tw c
 cases RO:s.getD d aD with
 |bool c=>rw[(key c).1 RO];simp
 |_=>
  have :∀c,a.tmps[d]?≠some (.bool c):=fun c hc=>by have :=(key c).2 hc;rw[RO] at this;cases this
  split
  · rename_i c hc;exact absurd hc (this c)
  rfl
theorem SR.put {G:Gh} {w:World} {s:List AV} {a:Act} (h:SR G w s a) (dst:Option Nat) {v:AV} {u:Value} (hv:VR G w v u):SR G w (mX s dst v) (a.put dst u):=by
 cases dst with
 |none=>exact h
 |some d=>
  have hl:=h.1;refine⟨by simpa [mX,Act.put] using hl,fun j hj=>?_⟩;simp only[mX,Jt] at hj;simp only[Cx] at hl;have GA:j<a.tmps.size:=by omega
  simp only[mX,Act.put];rw[hU,getD_eq,Gy,Fl];by_cases hd:d=j
  · subst hd;simp only[if_true,hj,GA,Bi];exact hv
  rw[if_neg hd,if_neg hd];have :=h.2 j hj
  rwa [hU] at this
theorem SR.ext {G G':Gh} {H H':aA} {w w':World} {s:List AV} {a:Act} (h:SR G w s a) (e:Ext G H w G' H' w'):SR G' w' s a:=iF.ext h e
theorem EK {G:Gh} {w:World} {v:AV} {u:Value} {p:FuncId×List AV×List AV} (h:mJ v=some p) (hv:VR G w v u):
 ∃azs bs:List Value,u=.func (.func p.1) azs.toArray bs.toArray/\iF G w p.2.1 azs/\iF G w p.2.2 bs:=by
 cases v<;>simp only[mJ] at h<;>try (cases h;done)
 rename_i fn fs cs
 cases fn<;>simp only[] at h<;>first|(cases h;done)|skip
 obtain rfl:=Aa h
 cases hv with
 |func _ _ _ azs bs ha hb hav hbv=>exact⟨azs,bs,rfl,⟨ha,hav⟩,⟨hb,hbv⟩⟩
theorem xE {P:Program} {ρ:Operand->Value} {c:Call} {t:TypeId} {f:Operand} {pS:FuncId} {azs bs:List Value} (hc:c.callee=.value f) (hf:ρ f=.func (.func pS) azs.toArray bs.toArray) (w:World):
 (resolve ρ c t).run P w=.ok {target:=.fn (.func pS) bs.toArray,args:=azs.toArray++c.args.map ρ} w:=by
 simp[resolve,hc,hf,Deferred.ofValue]
theorem nO {P:Program} {pS:FuncId} (pG:MG P pS) (args:Array Value) (cap:Array Value) (w:World):(invoke (.fn (.func pS) cap) args).run P w=.ok (.enter pS (args++cap)) w:=by
 obtain⟨fn,h1,h2,h3⟩:=pG;have hb:¬fn.body=none:=fun hh=>by rw[hh] at h2;cases h2
 have h3':¬fn.name= "runtime.NumGoroutine" :=by simpa using h3
 simp[invoke,callFunc,program,Sem.run,h1,h3',hb]
theorem NQ {ro:Option Nat} {n:Nat} {P:Program} {f:FuncId} {args:Array Value} {w:World} {R:Ending->World->Prop} (h:Calls P f args w R):CallsIn (Fw ro) n P f args w R:=
 (callsIn_wide (n:=n)).2 h
theorem AZ {ro:Option Nat} {n:Nat}:(Fw ro).depth.isSome=true->1<=n:=fun h=>by cases h
def ud (next:Act->World->Prop) (Q:Exit->Act->World->Prop) (a:Act) (d:Option Nat):Ending->World->Prop
 |.returned v,w=>next (a.put d v) w
 |.panicked chain,w=>Q (.panic chain) a w
 |.outgrown,_=>LetsOut Q
theorem Qg {g:bB} {o:Oper} {G:Gh} {H H':aA} {w:World} {a:Act} {out:Out} {next:Act->World->Prop} {Q:Exit->Act->World->Prop}
 (hn:∀v,out=.ret v->∀u w' G',WR g G' H' w'->Ext G H w G' H' w'->VR G' w' v u->next (a.put o.dst u) w')
 (hx:∀v,out=.KC v->∀u w' G',WR g G' H' w'->Ext G H w G' H' w'->VR G' w' v u->Q (.panic [{v:=u,recovered:=false}]) a w') (e:Ending) (w':World)
 (he:∃G',WR g G' H' w'/\Ext G H w G' H' w'/\XD G' w' out e):
 ud next Q a o.dst e w':=by
 obtain⟨G',lM,xV,qK⟩:=he
 cases out with
 |ret v=>
  cases e with
  |returned u=>exact hn v rfl u w' G' lM xV qK
  |panicked _=>exact qK.elim
  |outgrown=>exact qK.elim
 |KC v=>
  cases e with
  |returned _=>exact qK.elim
  |panicked chain=>obtain⟨u,rfl,hv⟩:=qK;exact hx v rfl u w' G' lM xV hv
  |outgrown=>exact qK.elim
theorem aCi {G:Gh} {w:World} {id:Nat} {u:Value} (h:VR G w (.yield id) u):∃l,G.loc id=some l/\u=.func (.yield l.cY) #[] #[]:=by
 cases h with
 |yield _ l hl=>exact⟨l,hl,rfl⟩
theorem Ts {P:Program} {g:bB} {ro:Option Nat} {o:Oper} {c:Call} {f:Operand} {f':Arg} {as':List Arg} (ho:o.op=.call c) (hc:c.callee=.value f) (hf:bJ g f=some f') (has:nV g c.args.toList=some as')
 {G:Gh} {H H':aA} {w:World} {s:List AV} {a:Act} {out:Out} (hw:WR g G H w) (hs:SR G w s a)
 (hS:QX P g (f'.eval g s) (as'.map (Arg.eval g s)) H out H') {next:Act->World->Prop} {Q:Exit->Act->World->Prop}
 (hn:∀v,out=.ret v->∀u w' G',WR g G' H' w'->Ext G H w G' H' w'->VR G' w' v u->next (a.put o.dst u) w')
 (hx:∀v,out=.KC v->∀u w' G',WR g G' H' w'->Ext G H w G' H' w'->VR G' w' v u->Q (.panic [{v:=u,recovered:=false}]) a w'):
 o.wpIn (Fw ro) 0 P a w next Q:=by
 have Ns:=tK hw hs has;have bEi:o.semAt (Fw ro).round a.eval=execOp a.eval o:=Oper.semAt_eq _ _ _ fun c' h=>by rw[ho] at h;cases h
 refine⟨fun _ _=>trivial,?_⟩;rw[bEi];have aQv:=bH hw hs hf
 rcases hS with ⟨p,hp,hS⟩|⟨id,hp,hS⟩
 · obtain⟨us,bs,hfv,h1,h2⟩:=EK hp aQv
   have jB:(execOp a.eval o).run P w=.ok (.enter p.1 (us++c.args.toList.map a.eval++bs).toArray) w:=by simp only[execOp,ho,Sem.run_bind,xE hc hfv,Result.andThen_ok,nO hS.1];congr 2;apply Fm;simp
   have DI:=hS.2 G w _ hw ((h1.append Ns).append h2);rw[jB];exact⟨AZ,(NQ DI).mono fun e w' he=>by have :=Qg hn hx e w' he;cases e<;>exact this⟩
 rw[hp] at aQv;obtain⟨l,hl,hfv⟩:=aCi aQv;obtain⟨fn,tmps,assign,body,hy,hR⟩:=hS G w _ l hw Ns hl
 have jB:(execOp a.eval o).run P w=.ok (.round l.cY fn tmps assign body) w:=by
  have hy':(Instr.yield l.cY (c.args.map a.eval)).run P w=.ok (.round l.cY fn tmps assign body) w:=by rw[<-hy];congr 2;apply Fm;simp
  simp[execOp,ho,resolve,hc,hfv,Deferred.ofValue,invoke,hy']
 rw[jB];exact⟨AZ,RoundIn.mono (show RoundIn (Fw ro) 0 P l.cY fn tmps assign body w _ from hR) fun e w' he=>by have :=Qg hn hx e w' he;cases e<;>exact this⟩
theorem PY {P:Program} {g:bB} {ro:Option Nat} {o:Oper} {r:eC} (pG:cP P g o r) (QE:∀c,o.op≠ .defer c) {G:Gh} {H H':aA} {w:World} {s:List AV} {a:Act} {v:AV} (hw:WR g G H w) (hs:SR G w s a)
 (h:cX (Arg.eval g s) H r=some (v,H')) {next:Act->World->Prop} {Q:Exit->Act->World->Prop}
 (hn:∀u w' G',WR g G' H' w'->Ext G H w G' H' w'->VR G' w' v u->next (a.put o.dst u) w'):o.wpIn (Fw ro) 0 P a w next Q:=by
 obtain⟨n,u,w',G',hr,hnv,r1,r2,r3⟩:=pG s a G H w v H' hw hs h;refine⟨fun _ _=>trivial,?_⟩;rw[show o.semAt (Fw ro).round a.eval=execOp a.eval o from Oper.semAt_eq _ _ _ QE,hr]
 rcases hnv with rfl|⟨rfl,rfl⟩
 · exact hn u w' G' r1 r2 r3
 exact hn undef w' G' r1 r2 r3
theorem xQ {P:Program} {g:bB} {mu:Bool} {o:Oper} {r:eC} (h:NY P g mu o=some r) (hr:∀f azs,r≠ .lC f azs):∀c,o.op≠ .defer c:=by
 intro c ho;unfold NY at h;rw[ho] at h;simp only at h;split at h
 · split at h
   · obtain rfl:=Aa h;exact hr _ _ rfl
   cases h
 cases h
theorem Uc {P:Program} {g:bB} {mu:Bool} {o:Oper} {f':Arg} {as':List Arg} (h:NY P g mu o=some (.call f' as')):
 ∃c f,o.op=.call c/\c.callee=.value f/\bJ g f=some f'/\nV g c.args.toList=some as':=by
 unfold NY at h;split at h
 case h_31=>
  rename_i c ho;unfold nK at h;split at h
  case h_4=>
   rename_i f hc;split at h
   · rename_i f2 as2 hf has;cases h;exact⟨c,f,ho,hc,hf,has⟩
   cases h
  all_goals exfalso
  all_goals (try unfold qC at h)
  all_goals (try unfold iB at h)
  all_goals repeat' (split at h)
  all_goals first
   |(cases h;done)
   |(simp only[Ag] at h;obtain⟨_,_,h⟩:=h;cases h;done)
 all_goals exfalso
 all_goals (try unfold qB at h)
 all_goals (try unfold jW at h)
 all_goals (try unfold mK at h)
 all_goals repeat' (split at h)
 all_goals first
  |(cases h;done)
  |(simp only[Ag] at h;obtain⟨_,_,h⟩:=h;cases h;done)
theorem ja {P:Program} {g:bB} {mu:Bool} {o:Oper} {x':Arg} (h:NY P g mu o=some (.panic x')):∃x,o.op=.panic x/\bJ g x=some x':=by
 unfold NY at h;split at h
 case h_32=>rename_i x ho;simp only[Ag] at h;obtain⟨y,hy,he⟩:=h;cases he;exact⟨x,ho,hy⟩
 all_goals exfalso
 all_goals (try unfold qB at h)
 all_goals (try unfold jW at h)
 all_goals (try unfold mK at h)
 all_goals (try unfold nK at h)
 all_goals (try unfold qC at h)
 all_goals (try unfold iB at h)
 all_goals repeat' (split at h)
 all_goals first
  |(cases h;done)
  |(simp only[Ag] at h;obtain⟨_,_,h⟩:=h;cases h;done)
theorem iu {P:Program} {g:bB} {mu:Bool} {o:Oper} {f':Arg} {as':List Arg} (h:NY P g mu o=some (.lC f' as')):
 ∃c f,o.op=.defer c/\c.callee=.value f/\bJ g f=some f'/\nV g c.args.toList=some as':=by
 unfold NY at h;split at h
 case h_33=>
  rename_i c ho;split at h
  · rename_i f hc;split at h
    · rename_i f2 as2 hf has;cases h;exact⟨c,f,ho,hc,hf,has⟩
    cases h
  cases h
 all_goals exfalso
 all_goals (try unfold qB at h)
 all_goals (try unfold jW at h)
 all_goals (try unfold mK at h)
 all_goals (try unfold nK at h)
 all_goals (try unfold qC at h)
 all_goals (try unfold iB at h)
 all_goals repeat' (split at h)
 all_goals first
  |(cases h;done)
  |(simp only[Ag] at h;obtain⟨_,_,h⟩:=h;cases h;done)
theorem Tq {P:Program} {ops:Array Oper} {ro:Option Nat} {Q Q':Exit->Act->World->Prop} (hq:∀e a w,Q e a w->Q' e a w):∀(l:List Nat) (a:Act) (w2:World),wpOpsIn (Fw ro) 0 P ops Q l a w2->wpOpsIn (Fw ro) 0 P ops Q' l a w2:=by
 intro l
 induction l with
 |nil=>exact fun a w2 hh=>hq _ _ _ hh
 |cons i l ih=>
  intro a w2 hh;rw[wpOpsIn_cons] at hh ⊢;unfold wpOpIn at hh ⊢;split
  · rename_i hi;simp only[hi] at hh;exact ih _ _ hh
  rename_i x hi;simp only[hi] at hh;split
  · rename_i QK;simp only[QK,if_true] at hh;unfold Oper.wpIn at *;refine⟨hh.1,?_⟩;have hh:=hh.2;generalize (x.semAt (Fw ro).round a.eval).run P w2=rr at *
    have eq:∀(e:Ending) (w4:World),ud (wpOpsIn (Fw ro) 0 P ops Q l) Q a x.dst e w4->ud (wpOpsIn (Fw ro) 0 P ops Q' l) Q' a x.dst e w4:=fun e w4 xU=>by
     cases e with
     |returned v=>exact ih _ _ xU
     |panicked ch=>exact hq _ _ _ xU
     |outgrown=>exact let⟨a0,w0,q⟩:=xU;⟨a0,w0,hq _ _ _ q⟩
    cases rr with
    |ok n w3=>
     cases n<;>simp only[Oper.uponIn] at hh ⊢ <;>first
      |exact ih _ _ hh
      |exact hh
      |exact⟨hh.1,CallsIn.mono hh.2 (fun e w4 h=>by have :=eq e w4 (by cases e<;>exact h);cases e<;>exact this)⟩
      |exact⟨hh.1,RoundIn.mono hh.2 (fun e w4 h=>by have :=eq e w4 (by cases e<;>exact h);cases e<;>exact this)⟩
      |exact⟨hh.1,RowsIn.mono hh.2 (fun _ _ xU=>ih _ _ xU)⟩
    |halt y w3=>cases y<;>simp only[Oper.uponIn] at hh ⊢ <;>first|exact hh|exact hq _ _ _ hh
  rename_i QK;simp only[QK] at hh;exact⟨hh.1,ih _ _ hh.2⟩
theorem jb {P:Program} {g:bB} {mu:Bool} {o:Oper} {x':Arg} (h:NY P g mu o=some (.vQ x')):∃t x k v,o.op=.range t x/\bJ g x=some x'/\P.underlying t=some (.map k v):=by
 unfold NY at h;split at h
 case h_28=>
  rename_i t x ho;split at h
  · rename_i y k v hy ht;cases h;exact⟨t,x,k,v,ho,hy,ht⟩
  cases h
 all_goals exfalso
 all_goals (try unfold qB at h)
 all_goals (try unfold jW at h)
 all_goals (try unfold mK at h)
 all_goals (try unfold nK at h)
 all_goals (try unfold qC at h)
 all_goals (try unfold iB at h)
 all_goals repeat' (split at h)
 all_goals first
  |(cases h;done)
  |(simp only[Ag] at h;obtain⟨_,_,h⟩:=h;cases h;done)
theorem uh {P:Program} {g:bB} {mu:Bool} {o:Oper} {x':Arg} (h:NY P g mu o=some (.DN x')):∃x,o.op=.next x false/\bJ g x=some x':=by
 unfold NY at h;split at h
 case h_29=>
  rename_i x s ho;split at h
  · rename_i y hy;cases h;exact⟨x,ho,hy⟩
  cases h
 all_goals exfalso
 all_goals (try unfold qB at h)
 all_goals (try unfold jW at h)
 all_goals (try unfold mK at h)
 all_goals (try unfold nK at h)
 all_goals (try unfold qC at h)
 all_goals (try unfold iB at h)
 all_goals repeat' (split at h)
 all_goals first
  |(cases h;done)
  |(simp only[Ag] at h;obtain⟨_,_,h⟩:=h;cases h;done)
theorem iy {P:Program} {g:bB} {mu:Bool} {o:Oper} {x':Arg} (h:NY P g mu o=some (.yB x')):∃x,o.op=.entry x/\bJ g x=some x':=by
 unfold NY at h;split at h
 case h_30=>rename_i x ho;simp only[Ag] at h;obtain⟨y,hy,he⟩:=h;cases he;exact⟨x,ho,hy⟩
 all_goals exfalso
 all_goals (try unfold qB at h)
 all_goals (try unfold jW at h)
 all_goals (try unfold mK at h)
 all_goals (try unfold nK at h)
 all_goals (try unfold qC at h)
 all_goals (try unfold iB at h)
 all_goals repeat' (split at h)
 all_goals first
  |(cases h;done)
  |(simp only[Ag] at h;obtain⟨_,_,h⟩:=h;cases h;done)
theorem YM {G:Gh} {w:World} {id:Nat} {u:Value} (h:VR G w (.map id) u):∃l,G.loc id=some l/\u=.map (some l.cY):=by
 cases h with
 |map _ l hl=>exact⟨l,hl,rfl⟩
theorem aAq {G:Gh} {w:World} {id off:Nat} {u:Value} (h:VR G w (.ref id off) u):∃l,G.loc id=some l/\u=.pointer (some ⟨l.cY,l.base+off,none⟩):=by
 cases h with
 |ref _ _ l hl=>exact⟨l,hl,rfl⟩
theorem FV {α:Type} {a:Array α} {i:Nat} {x:α} (h:a[i]?=some x):a.setIfInBounds i x=a:=by
 apply Array.ext_getElem?;intro j;rw[Fl];split
 · rename_i yS;subst yS;rw[if_pos (Ck.1 h).1,h]
 rfl
theorem WR.fresh {g:bB} {G:Gh} {H:aA} {w:World} (hw:WR g G H w):G.loc H.next=none:=by
 cases hl:G.loc H.next with
 |none=>rfl
 |some l'=>exact absurd (hw.lt _ _ hl) (Ff _)
theorem Yl {P:Program} {g:bB} {G:Gh} {H:aA} {w:World} (hw:WR g G H w) {m:Nat} {es:List (AV×AV)} {u:Value} (hg:H.get m=some (.map es)) (hu:VR G w (.map m) u)
 {t k v:TypeId} (ht:P.underlying t=some (.map k v)):∃bs c mb u' w' G',bs.length=es.length/\bs.Nodup/\(Instr.range t u).run P w=.ok u' w'/\
   WR g G' ((H.set m (.sT es bs c mb)).alloc (.iter m mb c [])) w'/\Ext G H w G' ((H.set m (.sT es bs c mb)).alloc (.iter m mb c [])) w'/\VR G' w' (.ref H.next 0) u':=by
 obtain⟨l,hl,rfl⟩:=YM hu;obtain⟨VD,Tw,ents,clock,h1,h2,h3,h4⟩:=hw.iM _ _ _ hl hg rfl;have hlen:(ents.toList.map (·.born)).length=es.length:=by simpa using h2
 have QE:(ents.toList.map (·.born)).Nodup:=by rw[List.Nodup,Gc];intro i j hi hj yS he;simp only[Ai,Cx] at hi hj;simp only[Ch,Array.getElem_toList] at he;have :=h3.2 i j hi hj (by rw[Bo,Bo,Dv hi,Dv hj];exact he);omega
 have eZ:∀b∈ents.toList.map (·.born),b<clock:=by
  intro b hb;simp only[Bf] at hb;obtain⟨x,hx,rfl⟩:=hb;obtain⟨i,hi,rfl⟩:=Dm hx;have gR:i<ents.size:=by simpa using hi
  have :=h3.1 i gR;rw[Bo,Dv gR] at this;simpa using this
 refine⟨ents.toList.map (·.born),clock,l.cY,.pointer (some ⟨w.heap.size,0,none⟩),w.alloc (.mapIter (some l.cY) clock #[] clock),G.dZ H.next ⟨w.heap.size,0,0,1⟩,hlen,QE,?_,?_⟩
 · simp[Instr.range,underlying,program,ht,getObj,newObj,Sem.run,h1,Result.andThen]
 obtain⟨q1,q2⟩:=hw.FU (o':=.sT es (ents.toList.map (·.born)) clock l.cY) (x:=.map ents clock) (w':=w) hl hg rfl rfl (FV h1).symm .now
  (fun _ wQ=>⟨rfl,QE,eZ,ents,wQ,rfl,hlen,h4⟩)
 have m1:=q1.CG (H':=(H.set m (.sT es (ents.toList.map (·.born)) clock l.cY)).alloc (.iter m l.cY clock [])) H.next (.iter m l.cY clock []) (.mapIter (some l.cY) clock #[] clock) rfl q1.fresh (aA.aJ _ _) (Gq _) (Ez _) (w':=w.alloc (.mapIter (some l.cY) clock #[] clock)) ⟨rfl,.now⟩
  (fun hm=>⟨by show(w.heap.push _)[w.heap.size]?=_;simp,hm _ _ (.map m l hl)⟩)
 exact⟨m1.rel,m1.ext q2 (Ak _),.ref H.next 0 ⟨w.heap.size,0,0,1⟩ (by show(if H.next=H.next then some (⟨w.heap.size,0,0,1⟩:Loc) else _)=_;simp)⟩
theorem kx {P:Program} {g:bB} {G:Gh} {H:aA} {w:World} (hw:WR g G H w) {it m mb c:Nat} {seen bs:List Nat} {es:List (AV×AV)} {u:Value} (MM:H.get it=some (.iter m mb c seen)) (hgm:H.get m=some (.sT es bs c mb))
 (hu:VR G w (.ref it 0) u) (ty:TypeId):
 ((∀b∈bs,b∈seen)/\(Instr.next u false ty).run P w=.ok (.tuple #[.bool false]) w)\/
 ∃j u' w' G',j<bs.length/\bs.getD j 0∉seen/\(Instr.next u false ty).run P w=.ok u' w'/\WR g G' (H.set it (.iter m mb c (seen++[bs.getD j 0]))) w'/\Ext G H w G' (H.set it (.iter m mb c (seen++[bs.getD j 0]))) w'/\
  VR G' w' (.jR [.bool true,(es.getD j (aD,aD)).1,(es.getD j (aD,aD)).2]) u':=by
 obtain⟨li,qk,rfl⟩:=aAq hu;obtain⟨VD,Tw,hbi,hvm⟩:=hw.iM _ _ _ qk MM rfl;obtain⟨lm,hlm,hmb⟩:=YM hvm;cases hmb;obtain⟨_,_,_,QE,eZ,ents,wu,Zs,hlen,lH⟩:=hw.iM _ _ _ hlm hgm rfl;rw[VD];have hold:∀x∈ents.toList,x.born<c:=fun x hx=>eZ _ (by rw[<-Zs];exact List.mem_map_of_mem hx)
 rcases run_next_at (P:=P) w ty li.cY lm.cY c c seen.toArray ents c hbi wu hold (Ak _) with ⟨h0,hr⟩|⟨e,he,w1,Pg,hr⟩
 · refine .inl ⟨fun b hb=>?_,hr⟩;rw[<-Zs] at hb;obtain⟨x,hx,rfl⟩:=Bf.1 hb;have Nq:=Array.eq_empty_of_size_eq_zero h0;unfold leftOf at Nq;rw[Array.filter_eq_empty_iff] at Nq;have :=Nq x (by simpa using hx);simpa using this
 right;unfold leftOf at he;simp only[Array.toList_filter,Fk,Cp,List.contains_toArray] at he;obtain⟨hem,hns⟩:=he;obtain⟨j,hj,hje⟩:=Dm hem;have hjs:j<ents.size:=by simpa using hj
 have hjb:j<bs.length:=by rw[<-Zs];simpa using hj
 have hbj:bs.getD j 0=e.born:=by subst Zs;simp[Bw,Cz,Ab hj,hje]
 have aQq:ents.getD j default=e:=by rw[Bo,Dv hjs];simpa using hje
 have aUd:w1.heap=w.heap:=by rcases Pg with rfl|rfl<;>rfl
 have DL:zN w w1:=by rcases Pg with rfl|rfl<;>exact .now
 obtain⟨q1,q2⟩:=hw.FU (o':=.iter m lm.cY c (seen++[bs.getD j 0])) (x:=.mapIter (some lm.cY) c (seen.toArray.push e.born) c)
  (w':=ChangeMaps.setBlock w1 li.cY (.mapIter (some lm.cY) c (seen.toArray.push e.born) c)) qk MM rfl rfl (by show w1.heap.setIfInBounds _ _=_;rw[aUd]) ⟨DL.os,DL.output,DL.tape,DL.drawn⟩
  (fun hm wQ=>⟨by rw[wQ,hbj];simp,hm _ _ hvm⟩)
 obtain⟨vk,vv⟩:=lH j (by omega);rw[aQq] at vk vv;refine⟨j,_,_,G,hjb,by rw[hbj];simpa using hns,hr,q1,q2,?_⟩;have Xv:∀a u,VR G w a u->VR G (ChangeMaps.setBlock w1 li.cY (.mapIter (some lm.cY) c (seen.toArray.push e.born) c)) a u:=fun a u h=>h.ext q2;refine VR.jR _ [.bool true,e.key,e.val] rfl fun i hi=>?_
 match i,hi with
 |0,_=>exact .bool true
 |1,_=>exact Xv _ _ vk
 |2,_=>exact Xv _ _ vv
 |k+3,hi=>simp at hi;omega
theorem Xc {P:Program} {g:bB} {G:Gh} {H:aA} {w:World} (hw:WR g G H w) {it m mb c j:Nat} {seen bs:List Nat} {es:List (AV×AV)} {u:Value} (MM:H.get it=some (.iter m mb c (seen++[bs.getD j 0])))
 (hgm:H.get m=some (.sT es bs c mb)) (hj:j<bs.length) (hu:VR G w (.ref it 0) u):
 ∃u',(Instr.entry u).run P w=.ok u' w/\VR G w (.jR [(es.getD j (aD,aD)).1,(es.getD j (aD,aD)).2]) u':=by
 obtain⟨li,qk,rfl⟩:=aAq hu;obtain⟨VD,Tw,hbi,hvm⟩:=hw.iM _ _ _ qk MM rfl;obtain⟨lm,hlm,hmb⟩:=YM hvm;cases hmb;obtain⟨_,_,_,QE,eZ,ents,wu,Zs,hlen,lH⟩:=hw.iM _ _ _ hlm hgm rfl;rw[VD];have hje:j<ents.toList.length:=by rw[<-Zs] at hj;simpa using hj
 have hjs:j<ents.size:=by simpa using hje
 have hbj:bs.getD j 0=ents.toList[j].born:=by subst Zs;simp[Bw,Cz,Ab hje]
 have aQq:ents.getD j default=ents.toList[j]:=by rw[Bo,Dv hjs];simp
 have hr:=run_entry_at (P:=P) w li.cY lm.cY c seen.toArray ents c ents.toList[j] (by rw[hbi,hbj];simp) wu (Ac hje) (by rw[Zs];exact QE);obtain⟨vk,vv⟩:=lH j (by omega);rw[aQq] at vk vv;refine⟨_,hr,VR.jR _ [_,_] rfl fun i hi=>?_⟩
 match i,hi with
 |0,_=>exact vk
 |1,_=>exact vv
 |k+2,hi=>simp at hi;omega
theorem NC {P:Program} {g:bB} {mu:Bool} {ro:Option Nat} {ops:Array Oper}:∀(l:List Oper) (rl:List bD) (k:Nat),lY P g mu ops l=some rl->(∀j,(h:j<l.length)->ops[k+j]?=some l[j])->
 (ro=none\/∀r∈rl,∀f azs,r.op≠ .lC f azs)->∀(s:List AV) (ds:List gH) (G:Gh) (H:aA) (w:World) (a:Act) (Q:AQ),uN P g rl s ds H Q->WR g G H w->SR G w s a->SM G w ds a.defers->
   wpOpsIn (Fw ro) 0 P ops (QR g G H w Q) (List.range' k l.length) a w
 |[],rl,k,hc,hl,DK,s,ds,G,H,w,a,Q,h,hw,hs,hd=>by obtain rfl:=Aa hc;exact⟨.normal,s,ds,H,G,h,hw,Ext.refl G H w,hs,hd,trivial⟩
 |o::l,rl,k,hc,hl,DK,s,ds,G,H,w,a,Q,h,hw,hs,hd=>by
  unfold lY at hc;split at hc
  · rename_i r rs hr hrs;obtain rfl:=Aa hc
    have ho:ops[k]?=some o:=hl 0 (by simp)
    have oU:∀j,(h:j<l.length)->ops[k+1+j]?=some l[j]:=fun j hj=>by have :=hl (j+1) (by simpa using hj);simpa [show k+(j+1)=k+1+j by omega] using this
    obtain⟨CS,tT,_⟩:=EN hr;have au:=PX hr hs
    have next:∀{v:AV} {u:Value} {H1:aA} {w1:World} {G1:Gh} {pA:List gH} {a1:Act},uN P g rs (mX s r.dst v) pA H1 Q->WR g G1 H1 w1->Ext G H w G1 H1 w1->VR G1 w1 v u->SR G w s a1->SM G1 w1 pA a1.defers->
     wpOpsIn (Fw ro) 0 P ops (QR g G H w Q) (List.range' (k+1) l.length) (a1.put o.dst u) w1:=by
     intro v u H1 w1 G1 pA a1 hA Pg he hv hs1 Xq;have FE:=(hs1.ext he).put r.dst hv;rw[CS] at FE hA
     have hdp:SM G1 w1 pA (a1.put o.dst u).defers:=by cases o.dst<;>exact Xq
     have :=NC l rs (k+1) hrs oU (DK.imp id fun h x hx=>h x (Ay _ hx)) _ pA G1 H1 w1 _ Q hA Pg FE hdp;exact Tq (fun _ _ _=>QR.trans he) _ _ _ this
    simp only[Aq,List.range'_succ];rw[wpOpsIn_cons];unfold wpOpIn;simp only[ho];rw[au];unfold uN at h;by_cases QK:bP s r=true
    · rw[if_pos QK] at h ⊢;split at h
      · rename_i f azs fP;obtain⟨out,H',hS,qK⟩:=h;rw[fP] at tT;obtain⟨c,f0,e1,e2,e3,e4⟩:=Uc tT;refine Ts e1 e2 e3 e4 hw hs hS (fun v hv u w' G' lM he MS=>?_) (fun v hv u w' G' lM he MS=>?_)
        · subst hv
          exact next qK lM he MS hs (hd.ext he)
        subst hv;exact⟨.panic v,s,ds,H',G',qK,lM,he,hs.ext he,hd.ext he,u,rfl,MS⟩
      · rename_i x fP;obtain⟨t,v,hx,hq⟩:=h;rw[fP] at tT;obtain⟨x0,e1,e2⟩:=ja tT;have vx:=bH hw hs e2;rw[hx] at vx;generalize eG:a.eval x0=u at vx
        have jB:∀q,u=.iface t q->(execOp a.eval o).run P w=.halt (.panic u) w:=fun q hq=>by subst hq;simp[execOp,e1,eG,Instr.panic,goPanic]
        have vx':=vx;refine⟨fun _ _=>trivial,?_⟩;rw[show o.semAt (Fw ro).round a.eval=execOp a.eval o from Oper.semAt_eq _ _ _ fun c' h=>by rw[e1] at h;cases h]
        cases vx with
        |iface _ _ q hqv=>rw[jB q rfl];exact⟨.panic (.iface t v),s,ds,H,G,hq,hw,Ext.refl G H w,hs,hd,_,rfl,vx'⟩
      · rename_i f azs fP;obtain⟨p,hp,hA⟩:=h;rw[fP] at tT;obtain⟨c,f0,e1,e2,e3,e4⟩:=iu tT;obtain⟨us,bs,hfv,h1,h2⟩:=EK hp (bH hw hs e3);have Ns:=tK hw hs e4
        have jB:(execOp a.eval o).run P w=.ok (.defer {target:=.fn (.func p.1) bs.toArray,args:=us.toArray++c.args.map a.eval}) w:=by simp only[execOp,e1,Sem.run_bind,xE e2 hfv,Result.andThen_ok,Sem.run_pure]
        have bEh:ro=none:=DK.resolve_right fun h=>h r (by simp) _ _ fP;subst bEh;refine⟨fun _ _=>trivial,?_⟩;rw[show o.semAt (Fw none).round a.eval=execOp a.eval o from rfl,jB]
        exact next hA hw (Ext.refl G H w) (VR.oH G w) (a1:={a with defers:={target:=.fn (.func p.1) bs.toArray,args:=us.toArray++c.args.map a.eval}::a.defers}) hs
         ⟨⟨bs,rfl,by simpa using(h1.append Ns).append h2⟩,hd⟩
      · rename_i x fP;obtain⟨m,es,hx,hg,hA⟩:=h;rw[fP] at tT;obtain⟨t,x0,kt,vt,e1,e2,e3⟩:=jb tT;have vx:=bH hw hs e2;rw[hx] at vx;obtain⟨bs,c,mb,u',w',G',h1,h2,hr,q1,q2,q3⟩:=Yl (P:=P) hw hg vx e3;refine⟨fun _ _=>trivial,?_⟩;rw[show o.semAt (Fw ro).round a.eval=execOp a.eval o from Oper.semAt_eq _ _ _ fun c' h=>by rw[e1] at h;cases h];rw[show(execOp a.eval o).run P w=.ok (.value u') w' by simp[execOp,e1,hr]]
        exact next (hA _ _ _ h1 h2) q1 q2 q3 hs (hd.ext q2)
      · rename_i x fP;obtain⟨it,m,mb,c,seen,es,bs,hx,MM,hgm,wM,fL⟩:=h;rw[fP] at tT;obtain⟨x0,e1,e2⟩:=uh tT;have vx:=bH hw hs e2;rw[hx] at vx;refine⟨fun _ _=>trivial,?_⟩;rw[show o.semAt (Fw ro).round a.eval=execOp a.eval o from Oper.semAt_eq _ _ _ fun c' h=>by rw[e1] at h;cases h]
        rcases kx (P:=P) hw MM hgm vx o.type with ⟨h1,hr⟩|⟨j,u',w',G',h1,h2,hr,q1,q2,q3⟩
        · rw[show(execOp a.eval o).run P w=.ok (.value (.tuple #[.bool false])) w by simp[execOp,e1,hr]]
          exact next (wM h1) hw (Ext.refl G H w) (VR.jR [.bool false] [.bool false] rfl fun i hi=>by
           obtain rfl:i=0:=by simp at hi;exact hi
           exact .bool false) hs hd
        rw[show(execOp a.eval o).run P w=.ok (.value u') w' by simp[execOp,e1,hr]]
        exact next (fL j h1 h2) q1 q2 q3 hs (hd.ext q2)
      · rename_i x fP;obtain⟨it,m,mb,c,seen,es,bs,j,hx,MM,hgm,hj,hA⟩:=h;rw[fP] at tT;obtain⟨x0,e1,e2⟩:=iy tT;have vx:=bH hw hs e2;rw[hx] at vx;obtain⟨u',hr,hv⟩:=Xc (P:=P) hw MM hgm hj vx;refine⟨fun _ _=>trivial,?_⟩;rw[show o.semAt (Fw ro).round a.eval=execOp a.eval o from Oper.semAt_eq _ _ _ fun c' h=>by rw[e1] at h;cases h];rw[show(execOp a.eval o).run P w=.ok (.value u') w by simp[execOp,e1,hr]]
        exact next hA hw (Ext.refl G H w) hv hs hd
      rename_i n1 n2 n3 n4 n5 n6;obtain⟨v,H',hA,hn⟩:=h
      have qQ:r.op.plain=true:=by cases OD:r.op<;>first|rfl|exact absurd OD (n1 _ _)|exact absurd OD (n2 _)|exact absurd OD (n3 _ _)|exact absurd OD (n4 _)|exact absurd OD (n5 _)|exact absurd OD (n6 _)
      refine PY (XR tT qQ) (xQ tT n3) hw hs hA (fun u w' G' lM he hv=>?_)
      exact next hn lM he hv hs (hd.ext he)
    rw[if_neg QK] at h ⊢;exact⟨fun _ _=>trivial,next h hw (Ext.refl G H w) (VR.oH G w) hs hd⟩
  cases hc
def eC.pR:eC->Bool
 |.store _ _ _|.append _ _ _ _ _|.copy _ _ _|.clr _ _ _|.OY _ _ _ _|.call _ _=>true
 |_=>false
def eC.reads:eC->Bool
 |.load _ _ _|.DU _ _ _ _ _ _|.DB _|.lookup _ _ _ _ _=>true
 |_=>false
def AO:AV->Option Nat
 |.ref id _=>some id
 |.sl id _ _ _ _=>some id
 |.map id=>some id
 |_=>none
def eC.dG (ev:Arg->AV):eC->Option Nat
 |.load _ _ a=>AO (ev a)
 |.DU _ _ x _ _ _=>AO (ev x)
 |.DB x=>AO (ev x)
 |.lookup _ _ _ x _=>AO (ev x)
 |_=>none
def Arg.tmps:Arg->List Nat
 |.tmp t=>[t]
 |_=>[]
def eC.args:eC->List Arg
 |.TM x|.box x|.Re x|.un _ x|.NX _ x|.BK x|.DB x|.Yw _ x|.YO _ x|.Xf _ x|.ZF _ _ _ x|.Xe x _|.lens x|.OQ x|.load _ _ x|.panic x|.clr _ _ x=>[x]
 |.pick a b c=>[a,b,c]
 |.alloc _|.yU=>[]
 |.build _ ps=>ps.map (·.2.2)
 |.Ob _ xs=>xs
 |.store _ a x=>[a,x]
 |.bin _ x y|.eqb _ x y|.eqf _ _ x y|.u9 _ _ _ x y=>[x,y]
 |.YN _ a b=>a++b
 |.jD _ _ _ l c=>[l,c]
 |.PM x l h=>x::(l.toList++h.toList)
 |.Yy _ x l h m|.DU _ _ x l h m=>x::(l.toList++(h.toList++m.toList))
 |.TG _ _ x i|.idx _ _ _ x i|.idxs x i|.Vc x i|.Ve x i=>[x,i]
 |.append _ _ _ x y|.copy _ x y=>[x,y]
 |.lookup _ _ _ x i=>[x,i]
 |.OY _ m k v=>[m,k,v]
 |.call f azs|.lC f azs=>f::azs
 |.vQ x|.DN x|.yB x=>[x]
theorem jE {ev ev':Arg->AV} {x:Option Arg} (h:∀y∈x.toList,ev y=ev' y):dQ ev x=dQ ev' x:=by
 cases x with
 |none=>rfl
 |some y=>simp[dQ,h y (by simp)]
theorem Le {ev ev':Arg->AV}:∀(ps:List (Nat×Nat×Arg)) (cs:List AV),(∀y∈ps.map (·.2.2),ev y=ev' y)->HJ ev cs ps=HJ ev' cs ps
 |[],cs,h=>rfl
 |(o,n,x)::r,cs,h=>by
  have hx:=h x (by simp);simp only[HJ,hx];split
  · exact Le r _ (fun y hy=>h y (by simp at hy ⊢;exact .inr hy))
  rfl
theorem OR {ev ev':Arg->AV} (sz:Nat):∀(xs:List Arg),(∀y∈xs,ev y=ev' y)->Ky ev sz xs=Ky ev' sz xs
 |[],h=>rfl
 |x::r,h=>by have hx:=h x (by simp);simp only[Ky,hx,OR sz r (fun y hy=>h y (by simp[hy]))]
theorem tE {ev ev':Arg->AV} {r:eC} (h:∀y∈r.args,ev y=ev' y):xK ev r=xK ev' r:=by
 cases r<;>simp only[xK]<;>first
  |rfl
  |(have h1:=h _ (Ax);simp only[eC.args] at h;simp only[h1])
  |skip
 case jD sz b z l c=>have h2:=h c (by simp);rw[h2]
theorem gw {ev ev':Arg->AV} {r:eC} (H:aA) (h:∀y∈r.args,ev y=ev' y):cX ev H r=cX ev' H r:=by
 have hm:∀l:List Arg,(∀y∈l,y∈r.args)->l.map ev=l.map ev':=fun l hl=>Ej fun y hy=>h y (hl y hy)
 cases r with
 |build z ps=>simp only[cX];rw[Le ps z h]
 |Ob sz xs=>simp only[cX];rw[OR sz xs h]
 |YN fn a b=>simp only[cX];rw[hm a (fun y hy=>by simp[eC.args,hy]),hm b (fun y hy=>by simp[eC.args,hy])]
 |PM x l hh=>have h1:=h x (by simp[eC.args]);have h2:dQ ev l=dQ ev' l:=jE fun y hy=>h y (by simp only[eC.args,Ap,An];exact .inr (.inl hy));have h3:dQ ev hh=dQ ev' hh:=jE fun y hy=>h y (by simp only[eC.args,Ap,An];exact .inr (.inr hy));simp only[cX,h1,h2,h3]
 |Yy sz x l hh m=>have h1:=h x (by simp[eC.args]);have h2:dQ ev l=dQ ev' l:=jE fun y hy=>h y (by simp only[eC.args,Ap,An];exact .inr (.inl hy));have h3:dQ ev hh=dQ ev' hh:=jE fun y hy=>h y (by simp only[eC.args,Ap,An];exact .inr (.inr (.inl hy)));have h4:dQ ev m=dQ ev' m:=jE fun y hy=>h y (by simp only[eC.args,Ap,An];exact .inr (.inr (.inr hy)));simp only[cX,h1,h2,h3,h4]
 |DU n sz x l hh m=>have h1:=h x (by simp[eC.args]);have h2:dQ ev l=dQ ev' l:=jE fun y hy=>h y (by simp only[eC.args,Ap,An];exact .inr (.inl hy));have h3:dQ ev hh=dQ ev' hh:=jE fun y hy=>h y (by simp only[eC.args,Ap,An];exact .inr (.inr (.inl hy)));have h4:dQ ev m=dQ ev' m:=jE fun y hy=>h y (by simp only[eC.args,Ap,An];exact .inr (.inr (.inr hy)));simp only[cX,h1,h2,h3,h4]
 |alloc z=>simp only[cX,tE (r:=.alloc z) h]
 |box x=>simp only[cX,tE (r:=.box x) h]
 |yU=>simp only[cX,tE (r:=.yU) h]
 |jD a b c d e=>simp only[cX,tE (r:=.jD a b c d e) h]
 |BK x=>simp only[cX,tE (r:=.BK x) h]
 |pick a b c=>have h1:=h a (by simp[eC.args]);have h2:=h b (by simp[eC.args]);have h3:=h c (by simp[eC.args]);simp only[cX,h1,h2,h3]
 |OY k m i v=>have h1:=h m (by simp[eC.args]);have h2:=h i (by simp[eC.args]);have h3:=h v (by simp[eC.args]);simp only[cX,h1,h2,h3]
 |call f azs=>rfl
 |lC f azs=>rfl
 |panic x=>rfl
 |vQ x=>rfl
 |DN x=>rfl
 |yB x=>rfl
 |store n a b=>have h1:=h a (by simp[eC.args]);have h2:=h b (by simp[eC.args]);simp only[cX,h1,h2]
 |bin op a b=>have h1:=h a (by simp[eC.args]);have h2:=h b (by simp[eC.args]);simp only[cX,h1,h2]
 |eqb op a b=>have h1:=h a (by simp[eC.args]);have h2:=h b (by simp[eC.args]);simp only[cX,h1,h2]
 |eqf op s a b=>have h1:=h a (by simp[eC.args]);have h2:=h b (by simp[eC.args]);simp only[cX,h1,h2]
 |u9 op k l a b=>have h1:=h a (by simp[eC.args]);have h2:=h b (by simp[eC.args]);simp only[cX,h1,h2]
 |TG n sz a b=>have h1:=h a (by simp[eC.args]);have h2:=h b (by simp[eC.args]);simp only[cX,h1,h2]
 |idx n sz g a b=>have h1:=h a (by simp[eC.args]);have h2:=h b (by simp[eC.args]);simp only[cX,h1,h2]
 |idxs a b=>have h1:=h a (by simp[eC.args]);have h2:=h b (by simp[eC.args]);simp only[cX,h1,h2]
 |append s b m x y=>have h1:=h x (by simp[eC.args]);have h2:=h y (by simp[eC.args]);simp only[cX,h1,h2]
 |copy s x y=>have h1:=h x (by simp[eC.args]);have h2:=h y (by simp[eC.args]);simp only[cX,h1,h2]
 |lookup k z ok x y=>have h1:=h x (by simp[eC.args]);have h2:=h y (by simp[eC.args]);simp only[cX,h1,h2]
 |TM x=>have h1:=h x (by simp[eC.args]);simp only[cX,h1]
 |Vc x y=>have h1:=h x (by simp[eC.args]);have h2:=h y (by simp[eC.args]);simp only[cX,h1,h2]
 |Ve x y=>have h1:=h x (by simp[eC.args]);have h2:=h y (by simp[eC.args]);simp only[cX,h1,h2]
 |clr n z x=>have h1:=h x (by simp[eC.args]);simp only[cX,h1]
 |Re x=>have h1:=h x (by simp[eC.args]);simp only[cX,h1]
 |un o x=>have h1:=h x (by simp[eC.args]);simp only[cX,h1]
 |NX k x=>have h1:=h x (by simp[eC.args]);simp only[cX,h1]
 |DB x=>have h1:=h x (by simp[eC.args]);simp only[cX,h1]
 |Yw n x=>have h1:=h x (by simp[eC.args]);simp only[cX,h1]
 |YO t x=>have h1:=h x (by simp[eC.args]);simp only[cX,h1]
 |Xf n x=>have h1:=h x (by simp[eC.args]);simp only[cX,h1]
 |ZF t ok z x=>have h1:=h x (by simp[eC.args]);simp only[cX,h1]
 |Xe x i=>have h1:=h x (by simp[eC.args]);simp only[cX,h1]
 |lens x=>have h1:=h x (by simp[eC.args]);simp only[cX,h1]
 |OQ x=>have h1:=h x (by simp[eC.args]);simp only[cX,h1]
 |load g n x=>have h1:=h x (by simp[eC.args]);simp only[cX,h1]
theorem KQ {ev:Arg->AV} {r:eC} (he:r.pR=false) (hf:r.fresh=false) {H H1:aA} {v:AV} {H':aA} (h:cX ev H r=some (v,H'))
 (hr:∀id,r.dG ev=some id->H1.get id=H.get id):H'=H/\cX ev H1 r=some (v,H1):=by
 have hca:∀{id:Nat},H1.get id=H.get id->H1.eW id=H.eW id:=fun hh=>by simp[aA.eW,hh]
 cases r<;>first
  |(cases he;done)
  |(cases hf;done)
  |skip
 case load agg n a=>
  simp only[cX] at h ⊢;simp only[eC.dG] at hr;split at h
  · rename_i id off cZ;have :=hca (hr id (by rw[cZ];rfl));simp only[this];split at h
    · split at h
      · split at h
        · simp only[Ad,Ah] at h ⊢;simp_all
        split at h
        · simp only[Ad,Ah] at h ⊢;simp_all
        cases h
      cases h
    cases h
  · rename_i cs cZ;split at h
    · split at h
      · simp only[Ad,Ah] at h ⊢;simp_all
      split at h
      · simp only[Ad,Ah] at h ⊢;simp_all
      cases h
    cases h
  cases h
 case DU n sz x lo hi mx=>
  simp only[cX] at h ⊢;simp only[eC.dG] at hr;split at h
  · simp only[Ag,Ah] at h ⊢;obtain⟨v',h,rfl,rfl⟩:=h;refine⟨rfl,v',?_,by simp⟩;unfold mO at h ⊢;simp only at h ⊢;split at h
    · rename_i hc;rw[if_pos hc];split at h
      · rename_i id o cZ;have :=hca (hr id (by rw[cZ];rfl));simp only[this];exact h
      · exact h
      cases h
    cases h
  cases h
 case DB x=>
  simp only[cX] at h ⊢;simp only[eC.dG] at hr
  have Sw:cQ H1 1 (ev x)=cQ H 1 (ev x):=by cases hx:ev x<;>simp only[cQ];rename_i id sz off len cap;have :=hca (hr id (by rw[hx];rfl));simp only[this]
  split at h
  · cases h
  rename_i hns;rw[Sw];split at h
  · simp only[Ag,Ah] at h ⊢;obtain⟨bs,h1,rfl,rfl⟩:=h;exact⟨rfl,bs,h1,by simp⟩
  cases h
 case lookup k z ok x i=>
  simp only[cX] at h ⊢;simp only[eC.dG] at hr;split at h
  · rename_i hk;rw[if_pos hk];split at h
    · simp only[Ad,Ah] at h ⊢;simp_all
    · rename_i id cZ;have :=hr id (by rw[cZ];rfl);simp only[this];split at h
      · split at h
        · simp only[Ad,Ah] at h ⊢;simp_all
        · simp only[Ad,Ah] at h ⊢;simp_all
        cases h
      cases h
    cases h
  cases h
 case Vc x y=>
  simp only[cX] at h ⊢;split at h
  · rename_i h1 h2;simp only[Ad,Ah] at h;obtain⟨rfl,rfl⟩:=h;exact⟨rfl,rfl⟩
  cases h
 case Ve x y=>
  simp only[cX] at h ⊢;split at h
  · rename_i h1 h2;simp only[Ad,Ah] at h;obtain⟨rfl,rfl⟩:=h;exact⟨rfl,rfl⟩
  cases h
 all_goals
  simp only[cX] at h ⊢
  repeat' (split at h)
  all_goals first
   |(cases h;done)
   |(simp only[Ad,Ah] at h
     obtain⟨rfl,rfl⟩:=h
     exact⟨rfl,by simp_all⟩)
   |(simp only[Ag,Ah] at h
     obtain⟨q,h1,rfl,rfl⟩:=h
     exact⟨rfl,by simp_all⟩)
section
def BL (r:bD):List Nat:=r.op.args.flatMap Arg.tmps++(match r.guard with|some (d,_)=>[d]|none=>[])
def gO (rl:List bD) (i:Nat):Nat:=(rl.take i).countP (·.op.fresh)
def DStep (P:Program) (g:bB) (pn:Bool) (id:Nat) (r:bD) (s:List AV) (H:aA) (v:AV) (H':aA):Prop:=
 if bP s r then
  if r.op.fresh then ∃ob val,xK (Arg.eval g s) r.op=some (ob,val)/\v=val id/\H'=H.set id ob
  else match r.op with
   |.call f azs=>if pn=true then v=aD/\H'=H else ∃p,mJ (f.eval g s)=some p/\Sound P g p.1 (p.2.1++azs.map (Arg.eval g s)++p.2.2) H (.ret v) H'
   |.panic _|.lC _ _=>False
   |op=>cX (Arg.eval g s) H op=some (v,H')
 else v=aD/\H'=H
structure dS (P:Program) (g:bB) (rl:List bD) (pj:Option Nat) (pairs:List (Nat×Nat)) (s0:List AV) (H0:aA) (Hs:Nat->aA) (ss:Nat->List AV) (vs:Nat->AV):Prop where
 s0:ss 0=s0
 h0:Hs 0={H0 with next:=H0.next+rl.countP (·.op.fresh)}
 free:∀k,k<rl.countP (·.op.fresh)->H0.get (H0.next+k)=none
 step:∀i r,rl[i]?=some r->DStep P g (pj==some i) (H0.next+gO rl i) r (ss i) (Hs i) (vs i) (Hs (i+1))/\ss (i+1)=mX (ss i) r.dst (vs i)
 mono:∀i r,rl[i]?=some r->r.op.pR=true->(Hs i).next<=(Hs (i+1)).next
 PO:∀i e,(i,e)∈pairs->∀ri re,rl[i]?=some ri->rl[e]?=some re->bP (ss i) ri=true->bP (ss e) re=true->
  ∀id,(ri.op.dG (Arg.eval g (ss i))=some id\/(ri.op.fresh=true/\id=H0.next+gO rl i))->(Hs e).get id=(Hs (e+1)).get id
structure tI (ops:Array Oper) (rl:List bD) (pairs:List (Nat×Nat)) (anc:Nat->Nat->Bool):Prop where
 aTn:∀j o,ops[j]?=some o->∀e∈o.after,Region.binds .any e=true->e.on<j
 wit:∀i j,anc i j=true->∃o,ops[j]?=some o/\∃e∈o.after,Region.binds .any e=true/\(e.on=i\/anc i e.on=true)
 cmp:∀i j ri rj,i<j->rl[i]?=some ri->rl[j]?=some rj->anc i j=false->
  (ri.op.pR=true->rj.op.pR=false)/\(∀d,ri.dst=some d->d∉BL rj/\rj.dst≠some d)/\(∀d,rj.dst=some d->d∉BL ri)/\
  (rj.op.pR=true->(ri.op.reads=true\/ri.op.fresh=true)->(i,j)∈pairs)/\(ri.op.pR=true->rj.op.reads=true->(j,i)∈pairs)
 early:∀i j ri rj,i<j->rl[i]?=some ri->rl[j]?=some rj->ri.op.pR=true->rj.op.fresh=true->(j,i)∈pairs
 lits:∀(i:Nat) (r:bD),rl[i]?=some r->r.op.reads=true->∀v,Arg.const v∈r.op.args->AO v=none
theorem nH {r:eC} (h:r.fresh=true):r.pR=false:=by cases r<;>first|rfl|cases h
theorem kZ {r:eC} {ev:Arg->AV} {id:Nat} (h:r.dG ev=some id):r.reads=true:=by cases r<;>first|rfl|cases h
theorem NK {ev:Arg->AV} {r:eC} {H:aA} {x:AV×aA} {id:Nat} (h:cX ev H r=some x) (hr:r.dG ev=some id):H.get id≠none:=by
 intro hn;have hc:H.eW id=none:=by simp[aA.eW,hn]
 cases r<;>simp only[eC.dG] at hr<;>try (cases hr;done)
 · rename_i agg n a;simp only[cX] at h
   cases ha:ev a<;>rw[ha] at hr<;>simp only[AO] at hr<;>try (cases hr;done)
   all_goals (obtain rfl:=Aa hr;simp[ha,hc] at h)
 · rename_i x;simp only[cX] at h
   cases ha:ev x<;>rw[ha] at hr<;>simp only[AO] at hr<;>try (cases hr;done)
   all_goals (obtain rfl:=Aa hr;simp[ha,cQ,hc] at h)
 · rename_i n sz x lo hi mx;simp only[cX] at h;split at h
   · unfold mO at h
     cases ha:ev x<;>rw[ha] at hr<;>simp only[AO] at hr<;>try (cases hr;done)
     all_goals (obtain rfl:=Aa hr;simp[ha,hc] at h)
   cases h
 rename_i k z ok x i;simp only[cX] at h;split at h
 · cases ha:ev x<;>rw[ha] at hr<;>simp only[AO] at hr<;>try (cases hr;done)
   all_goals (obtain rfl:=Aa hr;simp[ha,hn] at h)
 cases h
section
variable {P:Program} {g:bB} {rl:List bD} {pj:Option Nat} {pairs:List (Nat×Nat)} {s0:List AV} {H0:aA} {Hs:Nat->aA} {ss:Nat->List AV} {vs:Nat->AV}
abbrev kept (H0:aA) (rl:List bD) (i:Nat):Nat:=H0.next+gO rl i
theorem AB {α:Type} (p:α->Bool):∀(l:List α) (i:Nat) (x:α),l[i]?=some x->p x=true->(l.take i).countP p<l.countP p
 |[],i,x,h,_=>by simp at h
 |y::l,0,x,h,hp=>by simp at h;subst h;simp[Gl,hp]
 |y::l,i+1,x,h,hp=>by have :=AB p l i x (by simpa using h) hp;simp only[Dl,Gl];omega
theorem wG {α:Type} (p:α->Bool):∀(l:List α) (i j:Nat) (x:α),l[i]?=some x->p x=true->i<j->(l.take i).countP p<(l.take j).countP p
 |[],i,j,x,h,_,_=>by simp at h
 |y::l,0,j+1,x,h,hp,_=>by simp at h;subst h;simp[Gl,hp]
 |y::l,i+1,j+1,x,h,hp,yS=>by have :=wG p l i j x (by simpa using h) hp (by omega);simp only[Dl,Gl];omega
theorem nN {i j:Nat} {ri rj:bD} (hi:rl[i]?=some ri) (hj:rl[j]?=some rj) (fi:ri.op.fresh=true) (fj:rj.op.fresh=true) (cK:i≠j):kept H0 rl i≠kept H0 rl j:=by
 have key:∀{i j:Nat} {ri:bD},rl[i]?=some ri->ri.op.fresh=true->i<j->gO rl i<gO rl j:=fun h f yS=>wG (fun r:bD=>r.op.fresh) rl _ _ _ h f yS
 unfold kept
 rcases Nat.lt_or_gt_of_ne cK with h|h
 · have :=key hi fi h;omega
 have :=key hj fj h;omega
theorem bj {i:Nat} {ri:bD} (hi:rl[i]?=some ri) (fi:ri.op.fresh=true):gO rl i<rl.countP (·.op.fresh):=
 AB (fun r:bD=>r.op.fresh) rl i ri hi fi
theorem dS.nZ (D:dS P g rl pj pairs s0 H0 Hs ss vs) {i:Nat} {r:bD} (hi:rl[i]?=some r) (hf:r.op.fresh=true) (hw:bP (ss i) r=true):
 ∃ob val,xK (Arg.eval g (ss i)) r.op=some (ob,val)/\vs i=val (kept H0 rl i)/\Hs (i+1)=(Hs i).set (kept H0 rl i) ob:=by
 have :=(D.step i r hi).1;unfold DStep at this;rw[if_pos hw,if_pos hf] at this;exact this
theorem dS.FL (D:dS P g rl pj pairs s0 H0 Hs ss vs) {i:Nat} {r:bD} (hi:rl[i]?=some r) (hf:r.op.fresh=false) (he:r.op.pR=false):Hs (i+1)=Hs i:=by
 have :=(D.step i r hi).1;unfold DStep at this;split at this
 · rw[if_neg (by simp[hf])] at this;split at this
   · rename_i fP;rw[fP] at he;cases he
   · exact this.elim
   · exact this.elim
   exact(KQ (H1:=Hs i) he hf this (fun id _=>rfl)).1
 exact this.2
theorem dS.vX (D:dS P g rl pj pairs s0 H0 Hs ss vs) {i:Nat} {r:bD} (hi:rl[i]?=some r) (hw:bP (ss i) r=false):Hs (i+1)=Hs i/\vs i=aD:=by have :=(D.step i r hi).1;unfold DStep at this;rw[if_neg (by simp[hw])] at this;exact⟨this.2,this.1⟩
theorem dS.BA {ops:Array Oper} {anc:Nat->Nat->Bool} (D:dS P g rl pj pairs s0 H0 Hs ss vs) (K:tI ops rl pairs anc) {i:Nat} {r:bD} (hi:rl[i]?=some r) (hf:r.op.fresh=true) (hw:bP (ss i) r=true):
 ∀k,k<=i->(Hs k).get (kept H0 rl i)=none:=by
 intro k
 induction k with
 |zero=>intro _;rw[D.h0];exact D.free _ (bj hi hf)
 |succ k ih=>
  intro hk;have ihk:=ih (by omega);have eZ:=(Bl.1 hi).1
  obtain⟨rk,RN⟩:∃rk,rl[k]?=some rk:=⟨rl[k]'(by omega),Ab (by omega)⟩
  by_cases yd:bP (ss k) rk=true
  · by_cases Wi:rk.op.pR=true
    · rw[<-D.PO i k (K.early k i rk r (by omega) RN hi Wi hf) r rk hi RN hw yd _ (.inr ⟨hf,rfl⟩)];exact ihk
    by_cases qg:rk.op.fresh=true
    · obtain⟨ob,val,_,_,h3⟩:=D.nZ RN qg yd;rw[h3,aA.aC,if_neg (nN hi RN hf qg (by omega))];exact ihk
    rw[D.FL RN (by simpa using qg) (by simpa using Wi)];exact ihk
  rw[(D.vX RN (by simpa using yd)).1];exact ihk
theorem dS.rM (D:dS P g rl pj pairs s0 H0 Hs ss vs) {id:Nat} {p q:Nat} (hq:q<=rl.length)
 (aQr:∀e r,p<=e->e<q->rl[e]?=some r->r.op.pR=true->bP (ss e) r=true->(Hs e).get id=(Hs (e+1)).get id)
 (JX:∀i r,p<=i->i<q->rl[i]?=some r->r.op.fresh=true->bP (ss i) r=true->id≠kept H0 rl i):
 ∀k,p<=k->k<=q->(Hs k).get id=(Hs p).get id:=by
 intro k
 induction k with
 |zero=>intro h1 _;obtain rfl:p=0:=(by omega);rfl
 |succ k ih=>
  intro h1 h2;by_cases hp:p=k+1
  · rw[hp]
  rw[<-ih (by omega) (by omega)]
  obtain⟨rk,RN⟩:∃rk,rl[k]?=some rk:=⟨rl[k]'(by omega),Ab (by omega)⟩
  by_cases yd:bP (ss k) rk=true
  · by_cases Wi:rk.op.pR=true
    · exact(aQr k rk (by omega) (by omega) RN Wi yd).symm
    by_cases qg:rk.op.fresh=true
    · obtain⟨ob,val,_,_,h3⟩:=D.nZ RN qg yd;rw[h3,aA.aC,if_neg (JX k rk (by omega) (by omega) RN qg yd)]
    rw[D.FL RN (by simpa using qg) (by simpa using Wi)]
  rw[(D.vX RN (by simpa using yd)).1]
theorem dS.Ru (D:dS P g rl pj pairs s0 H0 Hs ss vs) {p q:Nat} (hq:q<=rl.length) (aQr:∀e r,p<=e->e<q->rl[e]?=some r->r.op.pR=false):
 ∀k,p<=k->k<=q->(Hs k).next=(Hs p).next:=by
 intro k
 induction k with
 |zero=>intro h1 _;obtain rfl:p=0:=(by omega);rfl
 |succ k ih=>
  intro h1 h2;by_cases hp:p=k+1
  · rw[hp]
  rw[<-ih (by omega) (by omega)]
  obtain⟨rk,RN⟩:∃rk,rl[k]?=some rk:=⟨rl[k]'(by omega),Ab (by omega)⟩
  have Wi:=aQr k rk (by omega) (by omega) RN;by_cases yd:bP (ss k) rk=true
  · by_cases qg:rk.op.fresh=true
    · obtain⟨ob,val,_,_,h3⟩:=D.nZ RN qg yd;rw[h3];rfl
    rw[D.FL RN (by simpa using qg) Wi]
  rw[(D.vX RN (by simpa using yd)).1]
theorem dS.wY (D:dS P g rl pj pairs s0 H0 Hs ss vs) {p:Nat}:∀k,p<=k->k<=rl.length->(Hs p).next<=(Hs k).next:=by
 intro k
 induction k with
 |zero=>intro h1 _;obtain rfl:p=0:=(by omega);exact Ak _
 |succ k ih=>
  intro h1 h2;by_cases hp:p=k+1
  · rw[hp];exact Ak _
  refine Cb (ih (by omega) (by omega)) ?_
  obtain⟨rk,RN⟩:∃rk,rl[k]?=some rk:=⟨rl[k]'(by omega),Ab (by omega)⟩
  by_cases Wi:rk.op.pR=true
  · exact D.mono k rk RN Wi
  have :=D.Ru (p:=k) (q:=k+1) h2 (fun e r h3 h4 h5=>by
   obtain rfl:e=k:=by omega
   rw[RN] at h5;cases h5
   simpa using Wi) (k+1) (by omega) (Ak _)
  omega
def writes (rl:List bD) (s0:List AV) (t i:Nat):Bool:=
 match rl[i]? with
 |some r=>r.dst==some t&&decide (t<s0.length)
 |none=>false
def wT (S:Nat->Bool) (rl:List bD) (s0:List AV) (vs:Nat->AV) (t:Nat):Nat->AV
 |0=>s0.getD t aD
 |i+1=>if(S i&&writes rl s0 t i)=true then vs i else wT S rl s0 vs t i
theorem RH (s:List AV) (dst:Option Nat) (v:AV) (t:Nat):(mX s dst v).getD t aD=if dst=some t/\t<s.length then v else s.getD t aD:=by
 cases dst with
 |none=>simp[mX]
 |some d=>
  simp only[mX,Ad];rw[getD_eq,getD_eq,Gy];by_cases hd:d=t
  · subst hd;by_cases hl:d<s.length
    · simp[hl]
    simp[hl]
  simp[hd]
theorem Lr (s:List AV) (dst:Option Nat) (v:AV):(mX s dst v).length=s.length:=by cases dst<;>simp[mX]
theorem dS.Kw (D:dS P g rl pj pairs s0 H0 Hs ss vs):∀j,j<=rl.length->(ss j).length=s0.length:=by
 intro j
 induction j with
 |zero=>intro _;rw[D.s0]
 |succ j ih=>
  intro hj
  obtain⟨r,hr⟩:∃r,rl[j]?=some r:=⟨rl[j]'(by omega),Ab (by omega)⟩
  rw[(D.step j r hr).2,Lr,ih (by omega)]
theorem dS.PN (D:dS P g rl pj pairs s0 H0 Hs ss vs) (t:Nat):∀j,j<=rl.length->(ss j).getD t aD=wT (fun _=>true) rl s0 vs t j:=by
 intro j
 induction j with
 |zero=>intro _;rw[D.s0];rfl
 |succ j ih=>
  intro hj
  obtain⟨r,hr⟩:∃r,rl[j]?=some r:=⟨rl[j]'(by omega),Ab (by omega)⟩
  rw[(D.step j r hr).2,RH,D.Kw j (by omega),ih (by omega)];simp only[wT,writes,hr,Cr,Am,Da,Bg]
end
end
section
def dI (listed:Array Bool) (i:Nat):Bool:=listed.getD i false
structure oS (P:Program) (g:bB) (ops:Array Oper) (rl:List bD) (pairs:List (Nat×Nat)) (anc:Nat->Nat->Bool) (s0:List AV) (H0:aA) (Hs:Nat->aA) (ss:Nat->List AV) (vs:Nat->AV)
 (G0:Gh) (w0:World) (dl:List Deferred) (listed:Array Bool) (p:Nat) (G:Gh) (HS:aA) (w:World) (a:Act) (sS:List AV):Prop where
 size:listed.size=rl.length
 closed:∀i j,dI listed j=true->anc i j=true->dI listed i=true
 ple:p<=rl.length
 pos:∀i r,rl[i]?=some r->r.op.pR=true->(dI listed i=true↔i<p)
 rel:WR g G HS w
 uR:HS.next=(Hs p).next
 jg:∀i r,rl[i]?=some r->r.op.fresh=true->(∃l,G.loc (kept H0 rl i)=some l)->dI listed i=true/\bP (ss i) r=true
 cont:∀id l,G.loc id=some l->
  (∃i r,rl[i]?=some r/\r.op.fresh=true/\dI listed i=true/\bP (ss i) r=true/\p<=i/\id=kept H0 rl i/\HS.get id=(Hs (i+1)).get id)\/
  ((∀i r,p<=i->rl[i]?=some r->r.op.fresh=true->bP (ss i) r=true->id≠kept H0 rl i)/\HS.get id=(Hs p).get id)
 aEk:∀i r,p<=i->rl[i]?=some r->r.op.fresh=true->dI listed i=true->bP (ss i) r=true->∀l,G.loc (kept H0 rl i)=some l->
  ∀kG l',kG≠kept H0 rl i->G.loc kG=some l'->HS.live kG->l'.cY≠l.cY
 ext:Ext G0 H0 w0 G HS w
 vD:SR G w sS a
 last:∀t,sS.getD t aD=wT (dI listed) rl s0 vs t rl.length
 len:sS.length=s0.length
 dfr:a.defers=dl
section
variable {P:Program} {g:bB} {ops:Array Oper} {rl:List bD} {pj:Option Nat} {pairs:List (Nat×Nat)} {anc:Nat->Nat->Bool} {s0:List AV} {H0:aA} {Hs:Nat->aA} {ss:Nat->List AV} {vs:Nat->AV}
variable {G0:Gh} {w0:World} {dl:List Deferred} {listed:Array Bool} {p:Nat} {G:Gh} {HS:aA} {w:World} {a:Act} {sS:List AV}
theorem rG {S S':Nat->Bool} {t:Nat}:∀m,(∀i,i<m->(S i&&writes rl s0 t i)=(S' i&&writes rl s0 t i))->wT S rl s0 vs t m=wT S' rl s0 vs t m
 |0,_=>rfl
 |m+1,h=>by simp only[wT];rw[h m (by omega),rG m (fun i hi=>h i (by omega))]
theorem yA {S:Nat->Bool} {t k:Nat}:∀m,k<=m->(∀i,k<=i->i<m->(S i&&writes rl s0 t i)=false)->wT S rl s0 vs t m=wT S rl s0 vs t k
 |0,hk,_=>by obtain rfl:k=0:=(by omega);rfl
 |m+1,hk,h=>by
  by_cases he:k=m+1
  · rw[he]
  simp only[wT];rw[h m (by omega) (by omega)];simp only[Be,Cm];exact yA m (by omega) (fun i h1 h2=>h i h1 (by omega))
theorem BO {t i:Nat} (h:writes rl s0 t i=true):∃r,rl[i]?=some r/\r.dst=some t/\t<s0.length:=by
 unfold writes at h;split at h
 · rename_i r hr;simp only[Am,Da,Bg] at h;exact⟨r,hr,h.1,h.2⟩
 cases h
structure Wd (ops:Array Oper) (listed:Array Bool) (j:Nat):Prop where
 lt:j<ops.size
 not:dI listed j=false
 bCj:∀o,ops[j]?=some o->∀e∈o.after,Region.binds .any e=true->dI listed e.on=true
variable (I:oS P g ops rl pairs anc s0 H0 Hs ss vs G0 w0 dl listed p G HS w a sS) (D:dS P g rl pj pairs s0 H0 Hs ss vs) (K:tI ops rl pairs anc)
include I K
theorem oS.zQ {j:Nat} (hj:Wd ops listed j) {i:Nat} (h:anc i j=true):dI listed i=true:=by
 obtain⟨o,ho,e,he,hb,hc⟩:=K.wit i j h;have hd:=hj.bCj o ho e he hb
 rcases hc with rfl|hc
 · exact hd
 exact I.closed _ _ hd hc
theorem oS.bCc {j:Nat} {r:bD} (hj:Wd ops listed j) (hr:rl[j]?=some r) {t:Nat} (ht:t∈BL r) (D:dS P g rl pj pairs s0 H0 Hs ss vs):sS.getD t aD=(ss j).getD t aD:=by
 have eZ:=(Bl.1 hr).1;rw[I.last t,D.PN t j (by omega)];rw[yA (k:=j) rl.length (by omega) (fun i h1 h2=>?_)]
 · refine rG j (fun i hi=>?_);by_cases hw:writes rl s0 t i=true
   · obtain⟨ri,qp,hd,_⟩:=BO hw
     have :anc i j=true:=by
      cases hc:anc i j with
      |true=>rfl
      |false=>exact absurd ht ((K.cmp i j ri r hi qp hr hc).2.1 t hd).1
     rw[I.zQ K hj this]
   simp[hw]
 cases hs:dI listed i with
 |false=>rfl
 |true=>
  cases hw:writes rl s0 t i with
  |false=>rfl
  |true=>
   obtain⟨ri,qp,hd,_⟩:=BO hw;have cK:i≠j:=fun he=>by rw[he,hj.not] at hs;cases hs
   have :anc j i=true:=by
    cases hc:anc j i with
    |true=>rfl
    |false=>exact absurd ht ((K.cmp j i r ri (by omega) hr qp hc).2.2.1 t hd)
   have :=I.closed j i hs this;rw[hj.not] at this;cases this
theorem oS.eval_eq {j:Nat} {r:bD} (hj:Wd ops listed j) (hr:rl[j]?=some r) (D:dS P g rl pj pairs s0 H0 Hs ss vs):∀y∈r.op.args,Arg.eval g sS y=Arg.eval g (ss j) y:=by
 intro y hy
 cases y with
 |tmp t=>
  have :t∈BL r:=by unfold BL;refine An.2 (.inl (Fa.2 ⟨_,hy,?_⟩));simp[Arg.tmps]
  exact I.bCc K hj hr this D
 |const v=>rfl
 |jA n=>rfl
theorem oS.ph {j:Nat} {r:bD} (hj:Wd ops listed j) (hr:rl[j]?=some r) (D:dS P g rl pj pairs s0 H0 Hs ss vs):bP sS r=bP (ss j) r:=by
 unfold bP;split
 · rfl
 rename_i d b hg;rw[I.bCc K hj hr (t:=d) (by unfold BL;rw[hg];simp) D]
theorem Ql {listed:Array Bool} {j:Nat} (hj:j<listed.size) (i:Nat):dI (listed.setIfInBounds j true) i=if i=j then true else dI listed i:=by
 unfold dI;rw[Bo,Bo,Fl];by_cases h:j=i
 · subst h;simp[hj]
 rw[if_neg h,if_neg (Ne.symm h)]
theorem oS.Oc {j:Nat} {r:bD} (hj:Wd ops listed j) (hr:rl[j]?=some r) (he:r.op.pR=true):p<=j/\∀e re,p<=e->e<j->rl[e]?=some re->re.op.pR=false:=by
 have QF:p<=j:=by refine Io fun eZ=>?_;have :=(I.pos j r hr he).2 eZ;rw[hj.not] at this;cases this
 refine⟨QF,fun e re h1 h2 hre=>?_⟩
 cases JW:re.op.pR with
 |false=>rfl
 |true=>
  have :anc e j=true:=by
   cases hc:anc e j with
   |true=>rfl
   |false=>have :=(K.cmp e j re r h2 hre hr hc).1 JW;rw[he] at this;cases this
  have :=(I.pos e re hre JW).1 (I.zQ K hj this);omega
theorem oS.next {j:Nat} {r:bD} (hj:Wd ops listed j) (hr:rl[j]?=some r) {p':Nat} {G':Gh} {HS':aA} {w':World} {u:Value} (hp':p'=if r.op.pR=true then j+1 else p)
 (aSr:WR g G' HS' w') (bHd:HS'.next=(Hs p').next)
 (aTl:∀i r',rl[i]?=some r'->r'.op.fresh=true->(∃l,G'.loc (kept H0 rl i)=some l)->(i=j\/dI listed i=true)/\bP (ss i) r'=true)
 (aTi:∀id l,G'.loc id=some l->
   (∃i r,rl[i]?=some r/\r.op.fresh=true/\(i=j\/dI listed i=true)/\bP (ss i) r=true/\p'<=i/\id=kept H0 rl i/\HS'.get id=(Hs (i+1)).get id)\/
   ((∀i r,p'<=i->rl[i]?=some r->r.op.fresh=true->bP (ss i) r=true->id≠kept H0 rl i)/\HS'.get id=(Hs p').get id))
 (aTo:∀i r,p'<=i->rl[i]?=some r->r.op.fresh=true->(i=j\/dI listed i=true)->bP (ss i) r=true->∀l,G'.loc (kept H0 rl i)=some l->
   ∀kG l',kG≠kept H0 rl i->G'.loc kG=some l'->HS'.live kG->l'.cY≠l.cY)
 (ext':Ext G0 H0 w0 G' HS' w') (hv:VR G' w' (vs j) u) (FE:SR G' w' sS a):
 oS P g ops rl pairs anc s0 H0 Hs ss vs G0 w0 dl (listed.setIfInBounds j true) p' G' HS' w' (a.put r.dst u) (mX sS r.dst (vs j)):=by
 have eZ:=(Bl.1 hr).1
 have MP:∀i,dI (listed.setIfInBounds j true) i=if i=j then true else dI listed i:=Ql I K (by rw[I.size];exact eZ)
 have Ty:∀i,(i=j\/dI listed i=true)↔dI (listed.setIfInBounds j true) i=true:=fun i=>by rw[MP];by_cases hi:i=j<;>simp[hi]
 refine⟨by simp[I.size],fun i k h1 h2=>?_,?_,fun i ri qp hei=>?_,aSr,bHd,fun i r' h1 h2 h3=>?_,fun id l hl=>?_,fun i r' h1 h2 h3 h4 h5=>?_,ext',FE.put r.dst hv,fun t=>?_,?_,?_⟩
 · rw[<-Ty] at h1 ⊢
   rcases h1 with rfl|h1
   · exact .inr (I.zQ K hj h2)
   exact .inr (I.closed i k h1 h2)
 · rw[hp'];split
   · omega
   exact I.ple
 · rw[<-Ty];by_cases he:r.op.pR=true
   · rw[hp',if_pos he];obtain⟨h1,h2⟩:=I.Oc K hj hr he;constructor
     · rintro(rfl|h)
       · omega
       have :=(I.pos i ri qp hei).1 h;omega
     intro h;by_cases hi:i=j
     · exact .inl hi
     refine .inr ((I.pos i ri qp hei).2 (Nat.lt_of_not_le fun hle=>?_));have :=h2 i ri hle (by omega) qp;rw[hei] at this;cases this
   rw[hp',if_neg he];rw[<-I.pos i ri qp hei];constructor
   · rintro(rfl|h)
     · rw[hr] at qp;cases qp;exact absurd hei he
     exact h
   exact .inr
 · have :=aTl i r' h1 h2 h3;exact⟨(Ty i).1 this.1,this.2⟩
 · rcases aTi id l hl with ⟨i,ri,c1,c2,c3,c4⟩|h
   · exact .inl ⟨i,ri,c1,c2,(Ty i).1 c3,c4⟩
   exact .inr h
 · exact aTo i r' h1 h2 h3 ((Ty i).2 h4) h5
 · rw[RH,I.len,I.last t];by_cases hw:r.dst=some t/\t<s0.length
   · rw[if_pos hw];have hwr:writes rl s0 t j=true:=(by simp[writes,hr,hw]);rw[yA (k:=j+1) rl.length (by omega) (fun i h1 h2=>?_)]
     · simp only[wT,MP j,if_true,hwr,Df]
     rw[MP,if_neg (by omega)]
     cases hs:dI listed i with
     |false=>rfl
     |true=>
      cases hwi:writes rl s0 t i with
      |false=>rfl
      |true=>
       obtain⟨ri,qp,hd,_⟩:=BO hwi
       have :anc j i=true:=by
        cases hc:anc j i with
        |true=>rfl
        |false=>exact absurd hd ((K.cmp j i r ri (by omega) hr qp hc).2.1 t hw.1).2
       have :=I.closed j i hs this;rw[hj.not] at this;cases this
   rw[if_neg hw];refine rG rl.length (fun i hi=>?_);rw[MP];by_cases yS:i=j
   · subst yS
     have :writes rl s0 t i=false:=by simp only[writes,hr];simpa using hw
     rw[this];simp
   rw[if_neg yS]
 · rw[Lr,I.len]
 cases r.dst<;>exact I.dfr
end
end
section
theorem vT {r:eC} (h:r.reads=true):r.pR=false:=by cases r<;>first|rfl|cases h
theorem yV {r:eC} (h:r.reads=true):r.fresh=false:=by cases r<;>first|rfl|cases h
theorem yi {G:Gh} {w:World} {v:AV} {u:Value} {id:Nat} (h:AO v=some id) (hv:VR G w v u):∃l,G.loc id=some l:=by
 cases hv<;>simp only[AO] at h<;>first
  |(cases h;done)
  |(obtain rfl:=Aa h;exact⟨_,by assumption⟩)
theorem Vw {ev:Arg->AV} {r:eC} {id:Nat} (h:r.dG ev=some id):∃y∈r.args,AO (ev y)=some id:=by
 cases r<;>simp only[eC.dG] at h<;>first
  |(cases h;done)
  |exact⟨_,by simp[eC.args],h⟩
theorem QN {ev ev':Arg->AV} {r:eC} (h:∀y∈r.args,ev y=ev' y):r.dG ev=r.dG ev':=by
 cases r<;>simp only[eC.dG]<;>first
  |rfl
  |rw[h _ (by simp[eC.args])]
theorem Uw {ev:Arg->AV} {r:eC} {ob:fE} {val:Nat->AV} (h:xK ev r=some (ob,val)):ob.live=true:=by
 cases r<;>simp only[xK] at h<;>first
  |(cases h;done)
  |(obtain⟨rfl,rfl⟩:=Prod.mk.inj (Aa h);rfl)
  |(repeat' (split at h)
    all_goals first
     |(cases h;done)
     |(obtain⟨rfl,rfl⟩:=Prod.mk.inj (Aa h);rfl))
section
variable {P:Program} {g:bB} {ops:Array Oper} {rl:List bD} {pj:Option Nat} {pairs:List (Nat×Nat)} {anc:Nat->Nat->Bool} {s0:List AV} {H0:aA} {Hs:Nat->aA} {ss:Nat->List AV} {vs:Nat->AV}
variable {G0:Gh} {w0:World} {dl:List Deferred} {listed:Array Bool} {p:Nat} {G:Gh} {HS:aA} {w:World} {a:Act} {sS:List AV}
variable (I:oS P g ops rl pairs anc s0 H0 Hs ss vs G0 w0 dl listed p G HS w a sS) (D:dS P g rl pj pairs s0 H0 Hs ss vs) (K:tI ops rl pairs anc)
include I K D
theorem oS.cg {j e:Nat} (hj:Wd ops listed j) (he:dI listed e=true):anc j e=false:=by
 cases hc:anc j e with
 |false=>rfl
 |true=>have :=I.closed j e he hc;rw[hj.not] at this;cases this
theorem oS.Vi {j e:Nat} (hj:Wd ops listed j) (he:dI listed e=false):anc e j=false:=by
 cases hc:anc e j with
 |false=>rfl
 |true=>have :=I.zQ K hj hc;rw[he] at this;cases this
theorem oS.aCd {e:Nat} {re:bD} (hre:rl[e]?=some re) (JW:re.op.pR=true) (h:p<=e):dI listed e=false:=by
 cases hs:dI listed e with
 |false=>rfl
 |true=>have :=(I.pos e re hre JW).1 hs;omega
theorem oS.mr {j:Nat} {r:bD} (hj:Wd ops listed j) (hr:rl[j]?=some r) (hw:bP (ss j) r=true) {id:Nat} (cZ:r.op.dG (Arg.eval g (ss j))=some id) {l:Loc} (hl:G.loc id=some l)
 (x7:(Hs j).get id≠none):HS.get id=(Hs j).get id:=by
 have hrd:=kZ cZ;have eZ:=(Bl.1 hr).1
 rcases I.cont id l hl with ⟨i,ri,h1,h2,h3,h4,h5,rfl,h7⟩|⟨h1,h2⟩
 · have cK:i≠j:=fun he=>by rw[he,hj.not] at h3;cases h3
   by_cases yS:i<j
   · rw[h7];refine(D.rM (p:=i+1) (q:=j) (by omega) (fun e re q1 q2 q3 q4 q5=>?_) (fun k rk q1 q2 q3 q4 q5=>nN h1 q3 h2 q4 (by omega)) j (by omega) (Ak _)).symm;have QE:=I.aCd D K q3 q4 (by omega);exact D.PO j e ((K.cmp e j re r q2 q3 hr (I.Vi D K hj QE)).2.2.2.2 q4 hrd) r re hr q3 hw q5 _ (.inl cZ)
   exact absurd (D.BA K h1 h2 h4 j (by omega)) x7
 rw[h2];by_cases QF:p<=j
 · refine(D.rM (p:=p) (q:=j) (by omega) (fun e re q1 q2 q3 q4 q5=>?_) (fun k rk q1 q2 q3 q4 q5=>h1 k rk q1 q3 q4 q5) j QF (Ak _)).symm;have QE:=I.aCd D K q3 q4 q1;exact D.PO j e ((K.cmp e j re r q2 q3 hr (I.Vi D K hj QE)).2.2.2.2 q4 hrd) r re hr q3 hw q5 _ (.inl cZ)
 refine D.rM (p:=j) (q:=p) I.ple (fun e re q1 q2 q3 q4 q5=>?_) (fun k rk q1 q2 q3 q4 q5 he=>?_) p (by omega) (Ak _)
 · have cK:e≠j:=fun he=>by
    subst he;rw[hr] at q3;cases q3;rw[vT hrd] at q4;cases q4
   have hd:=(I.pos e re q3 q4).2 q2;exact D.PO j e ((K.cmp j e r re (by omega) hr q3 (I.cg D K hj hd)).2.2.2.1 q4 (.inl hrd)) r re hr q3 hw q5 _ (.inl cZ)
 rw[he] at x7;exact x7 (D.BA K q3 q4 q5 j q1)
theorem oS.xZ {i:Nat} {ri:bD} (hi:rl[i]?=some ri) (hf:ri.op.fresh=true) {k:Nat} (hk:k<=rl.length):kept H0 rl i<(Hs k).next:=by have h1:=D.wY (p:=0) k (Az _) hk;have h2:=bj (rl:=rl) hi hf;rw[D.h0] at h1;unfold kept;simp only at h1;omega
theorem oS.XJ {j:Nat} {r:bD} (hj:Wd ops listed j) (hr:rl[j]?=some r) (he:r.op.pR=true):∀id l,G.loc id=some l->
 (∃i ri,rl[i]?=some ri/\ri.op.fresh=true/\dI listed i=true/\bP (ss i) ri=true/\j<i/\id=kept H0 rl i/\HS.get id=(Hs (i+1)).get id/\(Hs j).get id=none)\/
 ((∀i ri,j<=i->rl[i]?=some ri->ri.op.fresh=true->bP (ss i) ri=true->id≠kept H0 rl i)/\HS.get id=(Hs j).get id):=by
 intro id l hl;have eZ:=(Bl.1 hr).1;obtain⟨QF,eM⟩:=I.Oc K hj hr he
 have noE:∀{q:Nat},p<=q->∀e re,q<=e->e<j->rl[e]?=some re->re.op.pR=true->bP (ss e) re=true->(Hs e).get id=(Hs (e+1)).get id:=fun hq e re q1 q2 q3 q4 q5=>by have :=eM e re (by omega) q2 q3;rw[q4] at this;cases this
 rcases I.cont id l hl with ⟨i,ri,h1,h2,h3,h4,h5,h6,h7⟩|⟨h1,h2⟩
 · have cK:i≠j:=fun hh=>by rw[hh,hj.not] at h3;cases h3
   by_cases yS:i<j
   · refine .inr ⟨fun k rk q1 q2 q3 q4=>?_,?_⟩
     · rw[h6];exact nN h1 q2 h2 q3 (by omega)
     rw[h7];exact(D.rM (p:=i+1) (q:=j) (by omega) (noE (by omega)) (fun k rk q1 q2 q3 q4 q5=>by rw[h6];exact nN h1 q3 h2 q4 (by omega)) j (by omega) (Ak _)).symm
   exact .inl ⟨i,ri,h1,h2,h3,h4,by omega,h6,h7,by rw[h6];exact D.BA K h1 h2 h4 j (by omega)⟩
 refine .inr ⟨fun k rk q1 q2 q3 q4=>h1 k rk (by omega) q2 q3 q4,?_⟩;rw[h2];exact(D.rM (p:=p) (q:=j) (by omega) (noE (Ak _)) (fun k rk q1 q2 q3 q4 q5=>h1 k rk q1 q3 q4 q5) j QF (Ak _)).symm
theorem oS.Tb {j:Nat} {r:bD} (hj:Wd ops listed j) (hr:rl[j]?=some r) (he:r.op.pR=true):WR g G (Hs j) w:=by
 have hA:=I.XJ D K hj hr he;have eZ:=(Bl.1 hr).1;obtain⟨QF,eM⟩:=I.Oc K hj hr he
 have cT:∀{id l o},G.loc id=some l->(Hs j).get id=some o->HS.get id=some o:=fun hl ho=>by
  rcases hA _ _ hl with ⟨_,_,_,_,_,_,_,_,_,hn⟩|⟨_,h⟩
  · rw[hn] at ho;cases ho
  rw[h];exact ho
 have pT:∀{id l},G.loc id=some l->(Hs j).live id->HS.live id:=fun hl ⟨o,ho,hv⟩=>⟨o,cT hl ho,hv⟩
 exact {
  cells:=fun id l cs eI h1 h2=>I.rel.cells id l cs eI h1 (cT h1 h2)
  room:=fun id l h1 h2=>I.rel.room id l h1 (h2.imp (fun⟨cs,eI,h⟩=>⟨cs,eI,cT h1 h⟩) (fun h=>cT h1 h))
  kT:=fun id kG l l' cK h1 h2 h3 h4=>I.rel.kT id kG l l' cK h1 h2 (pT h1 h3) (pT h2 h4)
  jY:=fun id l h1 h2=>I.rel.jY id l h1 (pT h1 h2)
  iM:=fun id l o h1 h2=>I.rel.iM id l o h1 (cT h1 h2)
  lt:=fun id l h1=>by
   have :=I.rel.lt id l h1;rw[I.uR] at this
   rwa [D.Ru (p:=p) (q:=j) (by omega) eM j QF (Ak _)]
  iR:=I.rel.iR
  jA:=I.rel.jA
  CA:=I.rel.CA
  mo:=I.rel.mo}
theorem oS.ka (j:Nat) (H:aA):∀m,m<=rl.length->∃Hm:aA,Hm.next=H.next/\
 (∀i ri,i<m->rl[i]?=some ri->ri.op.fresh=true->dI listed i=true->bP (ss i) ri=true->j<i->Hm.get (kept H0 rl i)=(Hs (i+1)).get (kept H0 rl i))/\
 (∀id,(∀i ri,i<m->rl[i]?=some ri->ri.op.fresh=true->dI listed i=true->bP (ss i) ri=true->j<i->id≠kept H0 rl i)->Hm.get id=H.get id):=by
 intro m
 induction m with
 |zero=>exact fun _=>⟨H,rfl,fun i ri h=>absurd h (As i),fun id _=>rfl⟩
 |succ m ih=>
  intro hm;obtain⟨Hm,h1,h2,h3⟩:=ih (by omega)
  obtain⟨rm,hrm⟩:∃r,rl[m]?=some r:=⟨rl[m]'(by omega),Ab (by omega)⟩
  by_cases hc:rm.op.fresh=true/\dI listed m=true/\bP (ss m) rm=true/\j<m
  · obtain⟨c1,c2,c3,c4⟩:=hc;obtain⟨ob,val,_,_,e3⟩:=D.nZ hrm c1 c3;have Sy:(Hs (m+1)).get (kept H0 rl m)=some ob:=by rw[e3,aA.aC,if_pos rfl]
    refine⟨Hm.set (kept H0 rl m) ob,h1,fun i ri q1 q2 q3 q4 q5 q6=>?_,fun id cZ=>?_⟩
    · rw[aA.aC];by_cases him:i=m
      · subst him;rw[if_pos rfl,Sy]
      rw[if_neg (nN q2 hrm q3 c1 him)];exact h2 i ri (by omega) q2 q3 q4 q5 q6
    rw[aA.aC,if_neg (cZ m rm (by omega) hrm c1 c2 c3 c4)];exact h3 id (fun i ri q1=>cZ i ri (by omega))
  refine⟨Hm,h1,fun i ri q1 q2 q3 q4 q5 q6=>?_,fun id cZ=>h3 id (fun i ri q1=>cZ i ri (by omega))⟩;by_cases him:i=m
  · subst him;rw[hrm] at q2;cases q2;exact absurd ⟨q3,q4,q5,q6⟩ hc
  exact h2 i ri (by omega) q2 q3 q4 q5 q6
theorem oS.KP (FA:∀id l,G0.loc id=some l->id<H0.next) {j:Nat} {r:bD} (hj:Wd ops listed j) (hr:rl[j]?=some r) (he:r.op.pR=true) {G1:Gh} {w1:World} {u:Value}
 (QO:WR g G1 (Hs (j+1)) w1) (e1:Ext G (Hs j) w G1 (Hs (j+1)) w1) (hv:VR G1 w1 (vs j) u):
 ∃fw,oS P g ops rl pairs anc s0 H0 Hs ss vs G0 w0 dl (listed.setIfInBounds j true) (j+1) G1 fw w1 (a.put r.dst u) (mX sS r.dst (vs j)):=by
 have hA:=I.XJ D K hj hr he;have eZ:=(Bl.1 hr).1;obtain⟨QF,eM⟩:=I.Oc K hj hr he;obtain⟨fw,n1,n2,n3⟩:=I.ka D K j (Hs (j+1)) rl.length (Ak _)
 let vI:Nat->Prop:=fun id=>∃i ri,rl[i]?=some ri/\ri.op.fresh=true/\dI listed i=true/\bP (ss i) ri=true/\j<i/\id=kept H0 rl i
 have xp:∀id,vI id->∃i ri,rl[i]?=some ri/\ri.op.fresh=true/\dI listed i=true/\bP (ss i) ri=true/\j<i/\id=kept H0 rl i/\fw.get id=(Hs (i+1)).get id:=fun id ⟨i,ri,q1,q2,q3,q4,q5,q6⟩=>⟨i,ri,q1,q2,q3,q4,q5,q6,by rw[q6];exact n2 i ri (Bl.1 q1).1 q1 q2 q3 q4 q5⟩
 have OB:∀id,¬vI id->fw.get id=(Hs (j+1)).get id:=fun id hn=>n3 id (fun i ri q0 q1 q2 q3 q4 q5 he=>hn ⟨i,ri,q1,q2,q3,q4,q5,he⟩)
 have AW:∀{id l},vI id->G1.loc id=some l->G.loc id=some l:=fun {id l} ⟨i,ri,q1,q2,q3,q4,q5,q6⟩ zC=>by
  cases hl:G.loc id with
  |none=>have :=e1.news id l zC hl;have h2:=I.xZ D K q1 q2 (k:=j) (by omega);rw[q6] at this;omega
  |some l'=>rw[e1.loc id l' hl] at zC;exact zC
 have IP:∀{id l},vI id->G.loc id=some l->fw.get id=HS.get id/\(Hs j).get id=none:=fun {id l} hL hl=>by
  obtain⟨i,ri,q1,q2,q3,q4,q5,q6,q7⟩:=xp id hL
  rcases hA id l hl with ⟨i',ri',p1,p2,p3,p4,p5,p6,p7,p8⟩|⟨h1,_⟩
  · have :i=i':=by
     refine Ey fun cK=>?_;exact nN q1 p1 q2 p2 cK (q6.symm.trans p6)
    subst this;exact⟨q7.trans p7.symm,p8⟩
  exact absurd q6 (h1 i ri (by omega) q1 q2 q4)
 have IV:∀{eS l0},G.loc eS=some l0->(Hs j).live eS->HS.live eS/\¬vI eS:=fun {eS l0} OA ⟨o,ho,hv⟩=>by
  rcases hA eS l0 OA with ⟨_,_,_,_,_,_,_,_,_,hn⟩|⟨h1,h2⟩
  · rw[hn] at ho;cases ho
  refine⟨⟨o,by rw[h2];exact ho,hv⟩,fun hL=>?_⟩;have :=(IP hL OA).2;rw[this] at ho;cases ho
 have VZ:∀{id l},vI id->G.loc id=some l->∀kG l',kG≠id->G.loc kG=some l'->HS.live kG->l'.cY≠l.cY:=fun {id l} ⟨i,ri,q1,q2,q3,q4,q5,q6⟩ hl kG l' cK oU mS=>by rw[q6] at hl cK;exact I.aEk i ri (by omega) q1 q2 q3 q4 l hl kG l' cK oU mS
 have wU:∀{id l},vI id->G.loc id=some l->HS.live id:=fun {id l} hL hl=>by obtain⟨i,ri,q1,q2,q3,q4,q5,q6,q7⟩:=xp id hL;obtain⟨ob,val,f1,_,f3⟩:=D.nZ q1 q2 q4;refine⟨ob,?_,Uw f1⟩;rw[<-(IP hL hl).1,q7,q6,f3,aA.aC,if_pos rfl]
 have NP:∀{id l},vI id->G.loc id=some l->∀eS l0,G.loc eS=some l0->(Hs j).live eS->l0.cY≠l.cY:=fun hL hl eS l0 OA Pf=>by obtain⟨h1,h2⟩:=IV OA Pf;exact VZ hL hl eS l0 (fun he=>h2 (he▸hL)) OA h1
 have aPx:∀{id l},vI id->G.loc id=some l->∀kG l',G1.loc kG=some l'->(Hs (j+1)).live kG->l'.cY≠l.cY:=fun hL hl kG l' oU mS=>by
  have hb:=I.rel.mP hl (wU hL hl)
  rcases e1.lR kG l' oU mS with h|⟨eS,l0,h1,h2,h3⟩
  · omega
  rw[<-h3];exact NP hL hl eS l0 h1 h2
 have IC:∀{id l},vI id->G.loc id=some l->w1.heap[l.cY]?=w.heap[l.cY]?:=fun hL hl=>e1.frame _ (I.rel.mP hl (wU hL hl)) (fun eS l0 h1 h2=>NP hL hl eS l0 h1 h2)
 have CE:∀{id},fw.live id->vI id\/(¬vI id/\(Hs (j+1)).live id):=fun {id} ⟨o,ho,hv⟩=>by
  by_cases hL:vI id
  · exact .inl hL
  exact .inr ⟨hL,o,by rw[<-OB id hL];exact ho,hv⟩
 have Ol:∀{id l},vI id->G1.loc id=some l->∀kG l',kG≠id->G1.loc kG=some l'->fw.live kG->l'.cY≠l.cY:=fun {id l} hL zC kG l' cK oU mS=>by
  have hl:=AW hL zC
  rcases CE mS with hL'|⟨_,mS⟩
  · exact VZ hL hl kG l' cK (AW hL' oU) (wU hL' (AW hL' oU))
  exact aPx hL hl kG l' oU mS
 have hm:∀{x y},VR G w x y->VR G1 w1 x y:=fun hx=>hx.mono e1.loc e1.gV
 have aSr:WR g G1 fw w1:={
  cells:=fun id l cs eI h1 h2=>by
   by_cases hL:vI id
   · have hl:=AW hL h1;obtain⟨a1,a2,a3,a4,a5⟩:=I.rel.cells id l cs eI hl (by rw[<-(IP hL hl).1];exact h2);refine⟨a1,a2,a3,a4,fun k hk=>?_⟩;obtain⟨x,hx,hvx⟩:=a5 k hk;exact⟨x,by rw[gI (IC hL hl)];exact hx,hm hvx⟩
   exact QO.cells id l cs eI h1 (by rw[<-OB id hL];exact h2)
  room:=fun id l h1 h2=>by
   by_cases hL:vI id
   · have hl:=AW hL h1;obtain⟨c,el,fz,a1,a2,a3⟩:=I.rel.room id l hl (by rw[<-(IP hL hl).1];exact h2);exact⟨c,el,fz,by rw[IC hL hl];exact a1,a2,fun k hk=>by rw[kY (IC hL hl)];exact a3 k hk⟩
   exact QO.room id l h1 (by rw[<-OB id hL];exact h2)
  kT:=fun id kG l l' cK h1 h2 sQ pU=>by
   by_cases hL:vI id
   · exact .inl (Ne.symm (Ol hL h1 kG l' (Ne.symm cK) h2 pU))
   by_cases hL':vI kG
   · exact .inl (Ol hL' h2 id l cK h1 sQ)
   rcases CE sQ with h|⟨_,sQ⟩
   · exact absurd h hL
   rcases CE pU with h|⟨_,pU⟩
   · exact absurd h hL'
   exact QO.kT id kG l l' cK h1 h2 sQ pU
  jY:=fun id l h1 sQ k hk hi=>by
   rcases CE sQ with hL|⟨_,sQ⟩
   · have hl:=AW hL h1
     rcases e1.pH _ _ hi with h|h|⟨eS,l0,q1,q2,q3⟩
     · exact I.rel.jY id l hl (wU hL hl) k hk h
     · have :=I.rel.mP hl (wU hL hl);omega
     exact NP hL hl eS l0 q1 q2 q3
   exact QO.jY id l h1 sQ k hk hi
  iM:=fun id l o h1 h2 hk=>by
   by_cases hL:vI id
   · have hl:=AW hL h1;obtain⟨a1,a2,a3⟩:=I.rel.iM id l o hl (by rw[<-(IP hL hl).1];exact h2) hk;exact⟨a1,a2,a3.mono (IC hL hl) fun _ _=>hm⟩
   exact QO.iM id l o h1 (by rw[<-OB id hL];exact h2) hk
  lt:=fun id l h1=>by rw[n1];exact QO.lt id l h1
  iR:=QO.iR
  jA:=QO.jA
  CA:=QO.CA
  mo:=QO.mo}
 have ext':Ext G0 H0 w0 G1 fw w1:={
  loc:=fun id l h=>e1.loc _ _ (I.ext.loc _ _ h)
  gV:=fun b o hi=>⟨(e1.gV _ _ (I.ext.gV _ _ hi).1).1,((e1.gV _ _ (I.ext.gV _ _ hi).1).2).trans (I.ext.gV _ _ hi).2⟩
  size:=Cb I.ext.size e1.size
  frame:=fun b hb hn=>by
   rw[e1.frame b (Ca hb I.ext.size) (fun id l h1 h2=>?_),I.ext.frame b hb hn]
   rcases I.ext.lR id l h1 (IV h1 h2).1 with h|⟨eS,l0,q1,q2,q3⟩
   · omega
   rw[<-q3];exact hn eS l0 q1 q2
  lR:=fun id l h1 h2=>by
   have UB:∀{id l},G.loc id=some l->HS.live id->w0.heap.size<=l.cY\/∃eS l0,G0.loc eS=some l0/\H0.live eS/\l0.cY=l.cY:=fun h1 h2=>I.ext.lR _ _ h1 h2
   rcases CE h2 with hL|⟨_,h2⟩
   · have hl:=AW hL h1;exact UB hl (wU hL hl)
   rcases e1.lR id l h1 h2 with h|⟨eS,l0,q1,q2,q3⟩
   · exact .inl (Cb I.ext.size h)
   rw[<-q3];exact UB q1 (IV q1 q2).1
  pH:=fun b o hi=>by
   rcases e1.pH b o hi with h|h|⟨eS,l0,q1,q2,q3⟩
   · exact I.ext.pH b o h
   · exact .inr (.inl (Cb I.ext.size h))
   rcases I.ext.lR eS l0 q1 (IV q1 q2).1 with h|⟨id1,l1,p1,p2,p3⟩
   · exact .inr (.inl (by omega))
   exact .inr (.inr ⟨id1,l1,p1,p2,p3.trans q3⟩)
  next:=by have h1:=I.ext.next;rw[I.uR] at h1;rw[n1];exact Cb h1 (D.wY (p:=p) (j+1) (by omega) (by omega))
  news:=fun id l h1 h2=>by
   cases hl:G.loc id with
   |none=>have :=e1.news id l h1 hl;have h3:=I.ext.next;rw[I.uR] at h3;exact Cb (Cb h3 (D.wY (p:=p) j QF (by omega))) this
   |some l'=>exact I.ext.news id l' hl h2
  dead:=fun id l h1 h2=>by
   have hl:=I.ext.loc id l h1
   have hnl:¬vI id:=fun⟨i,ri,q1,q2,q3,q4,q5,q6⟩=>by have :=FA id l h1;rw[q6] at this;unfold kept at this;omega
   rcases CE h2 with h|⟨_,h2⟩
   · exact absurd h hnl
   exact I.ext.dead id l h1 (IV hl (e1.dead id l hl h2)).1
  mo:=e1.mo.trans I.ext.mo
  same:=I.ext.same.trans (I.ext.mo▸e1.same)}
 refine⟨fw,I.next K hj hr (p':=j+1) (by rw[if_pos he]) aSr (by rw[n1]) (fun i ri h1 h2 ⟨l,h3⟩=>?_) (fun id l zC=>?_) (fun i ri h1 h2 h3 h4 h5 l zC kG l' cK oU mS=>?_) ext' hv (I.vD.ext e1)⟩
 · have hl:∃l,G.loc (kept H0 rl i)=some l:=by
    cases hl:G.loc (kept H0 rl i) with
    |none=>have :=e1.news _ l h3 hl;have :=I.xZ D K h1 h2 (k:=j) (by omega);omega
    |some l'=>exact⟨l',rfl⟩
   have :=I.jg i ri h1 h2 hl;exact⟨.inr this.1,this.2⟩
 · by_cases hL:vI id
   · obtain⟨i,ri,q1,q2,q3,q4,q5,q6,q7⟩:=xp id hL;exact .inl ⟨i,ri,q1,q2,.inr q3,q4,by omega,q6,q7⟩
   refine .inr ⟨fun i ri q1 q2 q3 q4 q5=>hL ?_,OB id hL⟩
   have hl:∃l,G.loc (kept H0 rl i)=some l:=by
    rw[q5] at zC
    cases hl:G.loc (kept H0 rl i) with
    |none=>have :=e1.news _ l zC hl;have :=I.xZ D K q2 q3 (k:=j) (by omega);omega
    |some l'=>exact⟨l',rfl⟩
   have :=I.jg i ri q2 q3 hl;exact⟨i,ri,q2,q3,this.1,this.2,by omega,q5⟩
 have hd:dI listed i=true:=by
  rcases h4 with rfl|h4
  · omega
  exact h4
 exact Ol ⟨i,ri,h2,h3,hd,h5,by omega,rfl⟩ zC kG l' cK oU mS
end
end
section
theorem xR {P:Program} {g:bB} {mu:Bool} {ops:Array Oper}:∀(l:List Oper) (rl:List bD),lY P g mu ops l=some rl->
 rl.length=l.length/\∀(i:Nat) (o:Oper),l[i]?=some o->∃r,rl[i]?=some r/\LY P g mu ops o=some r
 |[],rl,h=>by obtain rfl:=Aa h;exact⟨rfl,fun i o h=>by simp at h⟩
 |o::l,rl,h=>by
  unfold lY at h;split at h
  · rename_i r rs hr hrs;obtain rfl:=Aa h;obtain⟨h1,h2⟩:=xR l rs hrs;refine⟨by simp[h1],fun i o' hi=>?_⟩
    cases i with
    |zero=>simp at hi;subst hi;exact⟨r,rfl,hr⟩
    |succ i=>simpa using h2 i o' (by simpa using hi)
  cases h
theorem WR.oB {g:bB} {G:Gh} {H H':aA} {w:World} (h:WR g G H w) (hg:∀id l,G.loc id=some l->H'.get id=H.get id) (hn:H.next<=H'.next):WR g G H' w:=by
 have hl:∀{id l},G.loc id=some l->H'.live id->H.live id:=fun h1 ⟨o,h2,h3⟩=>⟨o,by rw[<-hg _ _ h1];exact h2,h3⟩
 exact {
  cells:=fun id l cs eI h1 h2=>h.cells id l cs eI h1 (by rw[<-hg _ _ h1];exact h2)
  room:=fun id l h1 h2=>h.room id l h1 (by rw[<-hg _ _ h1];exact h2)
  kT:=fun id kG l l' cK h1 h2 h3 h4=>h.kT id kG l l' cK h1 h2 (hl h1 h3) (hl h2 h4)
  jY:=fun id l h1 h2=>h.jY id l h1 (hl h1 h2)
  iM:=fun id l o h1 h2=>h.iM id l o h1 (by rw[<-hg _ _ h1];exact h2)
  lt:=fun id l h1=>Ca (h.lt id l h1) hn
  iR:=h.iR
  jA:=h.jA
  CA:=h.CA
  mo:=h.mo}
theorem Ext.oB {G G':Gh} {H H' GM:aA} {w w':World} (h:Ext G H w G' H' w') (hg:∀id l,G'.loc id=some l->GM.get id=H'.get id) (hn:H'.next<=GM.next):Ext G H w G' GM w':=by
 have hl:∀{id l},G'.loc id=some l->GM.live id->H'.live id:=fun h1 ⟨o,h2,h3⟩=>⟨o,by rw[<-hg _ _ h1];exact h2,h3⟩
 exact {h with
  lR:=fun id l h1 h2=>h.lR id l h1 (hl h1 h2)
  next:=Cb h.next hn
  dead:=fun id l h1 h2=>h.dead id l h1 (hl (h.loc _ _ h1) h2)}
theorem WR.drawn {g:bB} {G:Gh} {H:aA} {w:World} (h:WR g G H w) (n:Nat):WR g G H {w with drawn:=n}:=by
 have hv:∀{x y},VR G w x y->VR G {w with drawn:=n} x y:=fun hx=>hx.mono (fun _ _ h=>h) (fun _ _ h=>⟨h,rfl⟩)
 exact {
  cells:=fun id l cs eI h1 h2=>let⟨a,b,c,d,e⟩:=h.cells id l cs eI h1 h2;⟨a,b,c,d,fun j hj=>let⟨u,h3,h4⟩:=e j hj;⟨u,h3,hv h4⟩⟩
  room:=fun id l h1 h2=>h.room id l h1 h2
  kT:=h.kT
  jY:=h.jY
  iM:=fun id l o h1 h2 hk=>let⟨a,b,c⟩:=h.iM id l o h1 h2 hk;⟨a,b,c.mono rfl fun _ _=>hv⟩
  lt:=h.lt
  iR:=h.iR
  jA:=fun k cs h1=>hv (h.jA k cs h1)
  CA:=h.CA
  mo:=h.mo}
theorem Ext.drawn (G:Gh) (H:aA) (w:World) (n:Nat) (hn:w.drawn<=n):Ext G H w G H {w with drawn:=n} where
 loc:=fun _ _ h=>h
 gV:=fun _ _ h=>⟨h,rfl⟩
 size:=Ak _
 frame:=fun _ _ _=>rfl
 lR:=fun id l h hl=>.inr ⟨id,l,h,hl,rfl⟩
 pH:=fun _ _ h=>.inl h
 next:=Ak _
 news:=fun _ _ h h'=>by rw[h] at h';cases h'
 dead:=fun _ _ _ h=>h
 mo:=rfl
 same:=zN.toB (.now (h4:=hn)) _
section
variable {P:Program} {g:bB} {mu:Bool} {ops:Array Oper} {rl:List bD} {pj:Option Nat} {pairs:List (Nat×Nat)} {anc:Nat->Nat->Bool} {s0:List AV} {H0:aA} {Hs:Nat->aA} {ss:Nat->List AV} {vs:Nat->AV}
variable {G0:Gh} {w0:World} {dl:List Deferred} {listed:Array Bool} {p:Nat} {G:Gh} {HS:aA} {w:World} {a:Act} {sS:List AV}
theorem oS.quiet (I:oS P g ops rl pairs anc s0 H0 Hs ss vs G0 w0 dl listed p G HS w a sS) (D:dS P g rl pj pairs s0 H0 Hs ss vs) (K:tI ops rl pairs anc)
 {j:Nat} {r:bD} (hj:Wd ops listed j) (hr:rl[j]?=some r) (he:r.op.pR=false) (hf:r.op.fresh=true->bP (ss j) r=false) {G':Gh} {w':World} {u:Value}
 (hw:WR g G' HS w') (e:Ext G HS w G' HS w') (hv:VR G' w' (vs j) u):
 oS P g ops rl pairs anc s0 H0 Hs ss vs G0 w0 dl (listed.setIfInBounds j true) p G' HS w' (a.put r.dst u) (mX sS r.dst (vs j)):=by
 have RJ:∀id l,G'.loc id=some l->G.loc id=some l:=fun id l hl=>by
  cases h:G.loc id with
  |none=>have h1:=e.news id l hl h;have h2:=hw.lt id l hl;omega
  |some l'=>rw[e.loc id l' h] at hl;exact hl
 refine I.next K hj hr (p':=p) (by simp[he]) hw I.uR (fun i r' h1 h2 h3=>?_) (fun id l hl=>?_) (fun i r' h1 h2 h3 h4 h5 l hl kG l' cK oU mS=>?_) (I.ext.trans e) hv (I.vD.ext e)
 · obtain⟨l,hl⟩:=h3;have :=I.jg i r' h1 h2 ⟨l,RJ _ _ hl⟩;exact⟨.inr this.1,this.2⟩
 · rcases I.cont id l (RJ _ _ hl) with ⟨i,ri,q1,q2,q3,q4⟩|h
   · exact .inl ⟨i,ri,q1,q2,.inr q3,q4⟩
   exact .inr h
 rcases h4 with rfl|h4
 · rw[hr] at h2;cases h2;rw[hf h3] at h5;cases h5
 exact I.aEk i r' h1 h2 h3 h4 h5 l (RJ _ _ hl) kG l' cK (RJ _ _ oU) mS
theorem oS.fresh (I:oS P g ops rl pairs anc s0 H0 Hs ss vs G0 w0 dl listed p G HS w a sS) (D:dS P g rl pj pairs s0 H0 Hs ss vs) (K:tI ops rl pairs anc)
 {j:Nat} {r:bD} (hj:Wd ops listed j) (hr:rl[j]?=some r) (hf:r.op.fresh=true) (hwt:bP (ss j) r=true) {o:Oper} (pG:CY P g o r.op):
 ∃u w' G' HS',(execOp a.eval o).run P w=.ok (.value u) w'/\
  oS P g ops rl pairs anc s0 H0 Hs ss vs G0 w0 dl (listed.setIfInBounds j true) p G' HS' w' (a.put r.dst u) (mX sS r.dst (vs j)):=by
 have he:=nH hf;have eZ:=(Bl.1 hr).1;obtain⟨ob,val,f1,f2,f3⟩:=D.nZ hr hf hwt
 have f1':xK (Arg.eval g sS) r.op=some (ob,val):=by rw[tE (ev':=Arg.eval g (ss j)) (fun y hy=>I.eval_eq K hj hr D y hy)];exact f1
 have ao:G.loc (kept H0 rl j)=none:=by
  cases h:G.loc (kept H0 rl j) with
  |none=>rfl
  |some l=>have :=(I.jg j r hr hf ⟨l,h⟩).1;rw[hj.not] at this;cases this
 have aRj:kept H0 rl j<HS.next:=by rw[I.uR];exact I.xZ D K hr hf I.ple
 obtain⟨u,w',G',jB,M,hv⟩:=pG sS a G HS (HS.set (kept H0 rl j) ob) w ob val (kept H0 rl j) I.rel I.vD f1' ao (fun m=>by rw[aA.aC]) (Ak _) aRj;obtain⟨l0,hblk,OA,sP⟩:=M.bHc
 have hgo:∀id l,G.loc id=some l->G'.loc id=some l:=fun id l hl=>by rw[sP id (fun hh=>by rw[hh,ao] at hl;cases hl)];exact hl
 have pF:∀b q,G.gV b q->G'.gV b q/\w'.cell? ⟨b,q,none⟩=w.cell? ⟨b,q,none⟩:=fun b q hi=>by refine⟨M.bEr b q hi,gI (M.UB b ?_)⟩;obtain⟨v,hv⟩:=I.rel.iR b q hi;have :=wF hv;simpa using this
 have lG:∀{id},id≠kept H0 rl j->(HS.set (kept H0 rl j) ob).live id->HS.live id:=fun {id} cK ⟨x,h1,h2⟩=>⟨x,by rw[aA.aC,if_neg cK] at h1;exact h1,h2⟩;refine⟨u,w',G',HS.set (kept H0 rl j) ob,jB,?_⟩;refine I.next K hj hr (p':=p) (by simp[he]) M.rel I.uR (fun i r' h1 h2 h3=>?_) (fun id l hl=>?_) (fun i r' h1 h2 h3 h4 h5 l hl kG l' cK oU mS=>?_) (M.ext I.ext (Hh _ _)) ?_ ?_
 · obtain⟨l,hl⟩:=h3;by_cases yS:i=j
   · subst yS;rw[hr] at h1;cases h1;exact⟨.inl rfl,hwt⟩
   rw[sP _ (nN h1 hr h2 hf yS)] at hl;have :=I.jg i r' h1 h2 ⟨l,hl⟩;exact⟨.inr this.1,this.2⟩
 · by_cases cZ:id=kept H0 rl j
   · subst cZ;by_cases QF:p<=j
     · exact .inl ⟨j,r,hr,hf,.inl rfl,hwt,QF,rfl,by rw[f3,aA.aC,if_pos rfl,aA.aC,if_pos rfl]⟩
     refine .inr ⟨fun i ri q1 q2 q3 q4=>nN hr q2 hf q3 (by omega),?_⟩
     have hjp:(Hs p).get (kept H0 rl j)=(Hs (j+1)).get (kept H0 rl j):=
      D.rM (p:=j+1) (q:=p) I.ple (fun e re q1 q2 q3 q4 q5=>by
       have hd:=(I.pos e re q3 q4).2 q2
       exact D.PO j e ((K.cmp j e r re (by omega) hr q3 (I.cg D K hj hd)).2.2.2.1 q4 (.inr hf)) r re hr q3 hwt q5 _ (.inr ⟨hf,rfl⟩)) (fun k rk q1 q2 q3 q4 q5=>nN hr q3 hf q4 (by omega)) p (by omega) (Ak _)
     rw[hjp,f3,aA.aC,if_pos rfl,aA.aC,if_pos rfl]
   rw[sP id cZ] at hl;have DL:(HS.set (kept H0 rl j) ob).get id=HS.get id:=(by rw[aA.aC,if_neg cZ]);rw[DL]
   rcases I.cont id l hl with ⟨i,ri,q1,q2,q3,q4⟩|h
   · exact .inl ⟨i,ri,q1,q2,.inr q3,q4⟩
   exact .inr h
 · by_cases yS:i=j
   · subst yS;rw[OA] at hl;cases hl;rw[sP kG cK] at oU;have :=I.rel.mP oU (lG cK mS);omega
   have Xt:=nN (H0:=H0) h2 hr h3 hf yS
   have hd:dI listed i=true:=by
    rcases h4 with h|h
    · exact absurd h yS
    exact h
   rw[sP _ Xt] at hl;by_cases cZ:kG=kept H0 rl j
   · subst cZ;rw[OA] at oU;cases oU
     have qk:HS.live (kept H0 rl i):=by
      rcases I.cont _ l hl with ⟨i',ri',q1,q2,q3,q4,q5,q6,q7⟩|⟨q1,_⟩
      · have :i=i':=by
         refine Ey fun hn=>?_;exact nN h2 q1 h3 q2 hn q6
        subst this;obtain⟨ob',bIi,g1,_,g3⟩:=D.nZ h2 h3 h5;refine⟨ob',?_,Uw g1⟩;rw[q7,g3,aA.aC,if_pos rfl]
      exact absurd rfl (q1 i r' h1 h2 h3 h5)
     have :=I.rel.mP hl qk;omega
   rw[sP _ cZ] at oU;exact I.aEk i r' h1 h2 h3 hd h5 l hl kG l' cK oU (lG cZ mS)
 · rw[f2];exact hv
 exact⟨I.vD.1,fun t ht=>(I.vD.2 t ht).mono hgo pF⟩
theorem oS.done (I:oS P g ops rl pairs anc s0 H0 Hs ss vs G0 w0 dl listed p G HS w a sS) (D:dS P g rl pj pairs s0 H0 Hs ss vs) (K:tI ops rl pairs anc)
 (bM:∀i,i<rl.length->dI listed i=true) {ds:List gH} (hd:SM G0 w0 ds dl) {Q:AQ} (hQ:Q .normal (ss rl.length) ds (Hs rl.length)):QR g G0 H0 w0 Q .normal a w:=by
 have eM:∀e re,p<=e->e<rl.length->rl[e]?=some re->re.op.pR=false:=fun e re h1 h2 h3=>by
  cases JW:re.op.pR with
  |false=>rfl
  |true=>have :=(I.pos e re h3 JW).1 (bM e h2);omega
 have cT:∀id l,G.loc id=some l->(Hs rl.length).get id=HS.get id:=fun id l hl=>by
  rcases I.cont id l hl with ⟨i,ri,q1,q2,q3,q4,q5,q6,q7⟩|⟨q1,q2⟩
  · have hi:=(Bl.1 q1).1;rw[q7]
    exact D.rM (p:=i+1) (q:=rl.length) (Ak _) (fun e re c1 c2 c3 c4 c5=>by rw[eM e re (by omega) c2 c3] at c4;cases c4)
     (fun k rk c1 c2 c3 c4 c5=>by rw[q6];exact nN q1 c3 q2 c4 (by omega)) rl.length (by omega) (Ak _)
  rw[q2]
  exact D.rM (p:=p) (q:=rl.length) (Ak _) (fun e re c1 c2 c3 c4 c5=>by rw[eM e re (by omega) c2 c3] at c4;cases c4)
   (fun k rk c1 c2 c3 c4 c5=>q1 k rk c1 c3 c4 c5) rl.length I.ple (Ak _)
 have AM:HS.next<=(Hs rl.length).next:=by rw[I.uR];exact D.wY rl.length I.ple (Ak _)
 have hs:sS=ss rl.length:=by
  have zC:=D.Kw rl.length (Ak _);refine Fh fun t=>?_;by_cases ht:t<s0.length
  · have h1:=I.last t;rw[rG (S':=fun _=>true) rl.length (fun i hi=>by rw[bM i hi]),<-D.PN t rl.length (Ak _)] at h1;have e1:t<sS.length:=by rw[I.len];exact ht
    have e2:t<(ss rl.length).length:=(by rw[zC];exact ht);rw[Ab e1,Ab e2];simpa [getD_eq,Ab e1,Ab e2] using h1
  rw[Bs (by rw[I.len];omega),Bs (by rw[zC];omega)]
 refine⟨.normal,ss rl.length,ds,Hs rl.length,G,hQ,I.rel.oB cT AM,I.ext.oB cT AM,?_,?_,trivial⟩
 · rw[<-hs];exact I.vD
 rw[I.dfr];exact hd.ext I.ext
theorem LI {i:Nat} (hs:listed.size=ops.size):i∈Region.ready .any ops listed↔Wd ops listed i:=by
 have cT:∀k,k<ops.size->listed.getD k true=dI listed k:=fun k hk=>by unfold dI;simp[Bo,hs,hk]
 unfold Region.ready;simp only[Fk,Ba,Am,Cp];constructor
 · rintro⟨h1,h2,h3⟩;refine⟨h1,by rw[<-cT i h1];exact h2,fun o ho e he hb=>?_⟩;rw[ho] at h3;simp only[Bz,Bi] at h3
   have h4:(!Region.binds .any e||listed.getD e.on false)=true:=by rw[Array.all_eq_true_iff_forall_mem] at h3;exact h3 e he
   rw[hb] at h4;simpa [dI] using h4
 rintro⟨h1,h2,h3⟩;refine⟨h1,by rw[cT i h1];exact h2,?_⟩
 obtain⟨o,ho⟩:∃o,ops[i]?=some o:=⟨ops[i],by simp[h1]⟩
 rw[ho];simp only[Bz,Bi];rw[Array.all_eq_true_iff_forall_mem];intro e he
 cases hb:Region.binds .any e with
 |false=>rfl
 |true=>have :=h3 o ho e he hb;simpa [dI] using this
theorem Od (hs:listed.size=ops.size) (K:tI ops rl pairs anc) (h:Region.ready .any ops listed=[]):∀i,i<ops.size->dI listed i=true:=by
 intro i
 induction i using Nat.strongRecOn with
 |_ i ih=>
  intro hi
  cases hd:dI listed i with
  |true=>rfl
  |false=>
   have :i∈Region.ready .any ops listed:=(LI hs).2 ⟨hi,hd,fun o ho e he hb=>by
    have h1:=K.aTn i o ho e he hb
    exact ih e.on h1 (by omega)⟩
   rw[h] at this;cases this
def todo (listed:Array Bool) (n:Nat):Nat:=(List.range n).countP fun i=> !dI listed i
theorem HD {p q:Nat->Bool}:∀(l:List Nat) (j:Nat),j∈l->(∀i∈l,q i=true->p i=true)->p j=true->q j=false->l.countP q<l.countP p
 |[],j,h,_,_,_=>by cases h
 |x::l,j,h,hpq,hp,hq=>by
  have hle:l.countP q<=l.countP p:=List.countP_mono_left fun i hi=>hpq i (Ay _ hi);rw[Gl,Gl]
  rcases Ap.1 h with rfl|h
  · simp only[hp,hq,if_true];simp;omega
  have :=HD l j h (fun i hi=>hpq i (Ay _ hi)) hp hq
  have h2:(if q x=true then 1 else 0)<=(if p x=true then 1 else 0):=by
   by_cases hqx:q x=true
   · simp[hqx,hpq x Ax hqx]
   simp[hqx]
  omega
theorem aCa {j n:Nat} (hj:dI listed j=false) (eZ:j<n) (hs:listed.size=n):todo (listed.setIfInBounds j true) n<todo listed n:=by
 have MP:∀i,dI (listed.setIfInBounds j true) i=if i=j then true else dI listed i:=fun i=>by
  unfold dI;rw[Bo,Bo,Fl];by_cases h:j=i
  · subst h;simp[hs,eZ]
  rw[if_neg h,if_neg (Ne.symm h)]
 refine HD _ j (Ba.2 eZ) (fun i _ h=>?_) (by simp[hj]) (by simp[MP]);rw[MP] at h;by_cases yS:i=j
 · rw[yS,hj];rfl
 rw[if_neg yS] at h;exact h
theorem Ext.pre {G G':Gh} {H H1 H':aA} {w w':World} (h:Ext G H1 w G' H' w') (hl:∀id l,G.loc id=some l->H1.live id->H.live id) (hn:H.next<=H1.next):Ext G H w G' H' w':=
 {h with
  frame:=fun b hb hf=>h.frame b hb fun id l q1 q2=>hf id l q1 (hl id l q1 q2)
  lR:=fun id l q1 q2=>(h.lR id l q1 q2).imp (fun x=>x) fun⟨a,b,c,d,e⟩=>⟨a,b,c,hl _ _ c d,e⟩
  pH:=fun b o q=>(h.pH b o q).imp (fun x=>x) fun q=>q.imp (fun x=>x) fun⟨a,b,c,d,e⟩=>⟨a,b,c,hl _ _ c d,e⟩
  next:=Cb hn h.next
  news:=fun id l q1 q2=>Cb hn (h.news id l q1 q2)
  dead:=fun id l q1 q2=>hl _ _ q1 (h.dead id l q1 q2)}
def aId (P:Program) (g:bB) (rl:List bD) (anc:Nat->Nat->Bool) (Hs:Nat->aA) (ss:Nat->List AV) (E:AV->List AV->aA->Prop) (j:Nat):Prop:=
 (∀k,k<rl.length->(k<j->anc k j=true)/\(j<k->anc j k=true))/\
 ∃r f azs p x H1,rl[j]?=some r/\r.op=.call f azs/\bP (ss j) r=true/\mJ (f.eval g (ss j))=some p/\
  Sound P g p.1 (p.2.1++azs.map (Arg.eval g (ss j))++p.2.2) (Hs j) (.KC x) H1/\E x (ss j) H1
theorem oS.aBp (I:oS P g ops rl pairs anc s0 H0 Hs ss vs G0 w0 dl listed p G HS w a sS) (D:dS P g rl pj pairs s0 H0 Hs ss vs) (K:tI ops rl pairs anc)
 {j:Nat} (hj:Wd ops listed j) (eZ:j<rl.length) (hc:∀k,k<rl.length->(k<j->anc k j=true)/\(j<k->anc j k=true)):sS=ss j:=by
 have h1:∀k,k<j->dI listed k=true:=fun k hk=>I.zQ K hj ((hc k (by omega)).1 hk)
 have h2:∀k,j<=k->k<rl.length->dI listed k=false:=fun k hk xW=>by
  by_cases he:k=j
  · rw[he];exact hj.not
  cases hd:dI listed k with
  |false=>rfl
  |true=>have :=I.closed j k hd ((hc k xW).2 (by omega));rw[hj.not] at this;cases this
 have zC:=D.Kw j (by omega);refine Fh fun t=>?_;by_cases ht:t<s0.length
 · have h3:=I.last t;rw[yA (k:=j) rl.length (by omega) (fun i q1 q2=>by rw[h2 i q1 q2];rfl),rG (S':=fun _=>true) j (fun i hi=>by rw[h1 i hi]),<-D.PN t j (by omega)] at h3;have e1:t<sS.length:=by rw[I.len];exact ht
   have e2:t<(ss j).length:=(by rw[zC];exact ht);rw[Ab e1,Ab e2];simpa [getD_eq,Ab e1,Ab e2] using h3
 rw[Bs (by rw[I.len];omega),Bs (by rw[zC];omega)]
theorem Xa {ro:Option Nat} (hc:lY P g mu ops ops.toList=some rl) (D:dS P g rl pj pairs s0 H0 Hs ss vs) (K:tI ops rl pairs anc) (FA:∀id l,G0.loc id=some l->id<H0.next)
 {ds:List gH} (hd:SM G0 w0 ds dl) {Q:AQ} (hQ:pj=none->Q .normal (ss rl.length) ds (Hs rl.length)) (hP:∀j,pj=some j->aId P g rl anc Hs ss (fun x s H=>Q (.panic x) s ds H) j):
 ∀(fuel:Nat) (listed:Array Bool) (p:Nat) (G:Gh) (HS:aA) (w:World) (a:Act) (sS:List AV),todo listed rl.length<=fuel->
  oS P g ops rl pairs anc s0 H0 Hs ss vs G0 w0 dl listed p G HS w a sS->(∀k,pj=some k->dI listed k=false)->wpAnyIn (Fw ro) 0 P .any ops (QR g G0 H0 w0 Q) fuel listed a w:=by
 obtain⟨hlen,cT⟩:=xR _ _ hc;have lE:rl.length=ops.size:=by simpa using hlen
 have hnn:∀{listed:Array Bool},(∀i,i<rl.length->dI listed i=true)->(∀k,pj=some k->dI listed k=false)->pj=none:=fun {listed} h1 h2=>by
  cases QF:pj with
  |none=>rfl
  |some k=>obtain⟨_,r,_,_,_,_,_,e1,_⟩:=hP k QF;have :=h1 k (Bl.1 e1).1;rw[h2 k QF] at this;cases this
 intro fuel
 induction fuel with
 |zero=>
  intro listed p G HS w a sS ht I hnp
  have bM:∀i,i<rl.length->dI listed i=true:=fun i hi=>by have h0:todo listed rl.length=0:=(by omega);unfold todo at h0;rw[List.countP_eq_zero] at h0;have :=h0 i (Ba.2 hi);simpa using this
  refine⟨?_,I.done D K bM hd (hQ (hnn bM hnp))⟩;refine Fb.2 fun i hi=>?_;have :=(LI (by rw[I.size,lE])).1 hi;have h2:=bM i (by rw[lE];exact this.lt);rw[this.not] at h2;cases h2
 |succ fuel ih=>
  intro listed p G HS w a sS ht I hnp;have VN:listed.size=ops.size:=by rw[I.size,lE]
  refine⟨fun hn=>I.done D K (fun i hi=>Od VN K hn i (by omega)) hd (hQ (hnn (fun i hi=>Od VN K hn i (by omega)) hnp)),fun j hjr=>?_⟩;have hj:=(LI VN).1 hjr
  obtain⟨o,ho⟩:∃o,ops[j]?=some o:=⟨ops[j]'hj.lt,by simp[hj.lt]⟩
  obtain⟨r,hr,hco⟩:=cT j o (by simpa using ho);obtain⟨CS,tT,_⟩:=EN hco;have Mk:j<rl.length:=by rw[lE];exact hj.lt
  have RQ:todo (listed.setIfInBounds j true) rl.length<=fuel:=by have :=aCa (n:=rl.length) hj.not Mk I.size;omega
  have aEw:pj≠some j->∀k,pj=some k->dI (listed.setIfInBounds j true) k=false:=fun cK k hk=>by rw[Ql I K (by rw[I.size];exact Mk),if_neg (fun he=>cK (by rw[hk,he]))];exact hnp k hk
  have DI:pj=some j->(∃f azs,r.op=.call f azs)/\bP (ss j) r=true:=fun h=>by obtain⟨_,r',f,azs,_,_,_,e1,e2,e3,_⟩:=hP j h;rw[hr] at e1;cases e1;exact⟨⟨f,azs,e2⟩,e3⟩
  have au:=PX hco I.vD;rw[I.ph K hj hr D] at au;have fL:=(D.step j r hr).1;unfold wpOpIn;simp only[ho];rw[au];unfold DStep at fL;by_cases QK:bP (ss j) r=true
  · rw[if_pos QK] at fL ⊢;by_cases hf:r.op.fresh=true
    · obtain⟨u,w',G',HS',jB,I'⟩:=I.fresh D K hj hr hf QK (aDy tT hf);refine⟨fun _ _=>trivial,?_⟩;rw[show o.semAt (Fw ro).round a.eval=execOp a.eval o from Oper.semAt_eq _ _ _ (xQ tT fun f azs e=>by rw[e] at hf;cases hf),jB];rw[CS] at I'
      exact ih _ _ _ _ _ _ _ RQ I' (aEw fun h=>by
       obtain⟨⟨f,azs,e⟩,_⟩:=DI h;rw[e] at hf
       cases hf)
    rw[if_neg hf] at fL;have Zw:r.op.fresh=false:=(by simpa using hf);split at fL
    · rename_i f azs fP;have he:r.op.pR=true:=(by rw[fP];rfl);have hev:=I.eval_eq K hj hr D;rw[fP] at tT hev;obtain⟨c,f0,e1,e2,e3,e4⟩:=Uc tT;have VG:f.eval g sS=f.eval g (ss j):=hev f (by simp[eC.args]);have hae:azs.map (Arg.eval g sS)=azs.map (Arg.eval g (ss j)):=Ej fun y hy=>hev y (by simp[eC.args,hy]);by_cases hpn:pj=some j
      · obtain⟨hcc,r',f',as',q,x,H1,b1,b2,b3,b4,hS,hq⟩:=hP j hpn;rw[hr] at b1;cases b1;rw[fP] at b2;cases b2;refine Ts e1 e2 e3 e4 (I.Tb D K hj hr he) I.vD (by rw[VG,hae];exact .inl ⟨q,b4,hS⟩) (fun v hv=>by cases hv) (fun v hv u w' G' lM JW MS=>?_);cases hv;have hs:=I.aBp D K hj Mk hcc
        have ex:=I.ext.trans (JW.pre (fun id l h1 h2=>by
         rcases I.XJ D K hj hr he id l h1 with ⟨_,_,_,_,_,_,_,_,_,hn⟩|⟨_,h⟩
         · obtain⟨o,ho,_⟩:=h2;rw[hn] at ho;cases ho
         obtain⟨o,ho,hv⟩:=h2;exact⟨o,h.trans ho,hv⟩) (by rw[I.uR];exact D.wY j (I.Oc K hj hr he).1 (by omega)))
        exact⟨.panic x,ss j,ds,H1,G',hq,lM,ex,hs▸I.vD.ext JW,by rw[I.dfr];exact hd.ext ex,u,rfl,MS⟩
      rw[if_neg (by simpa using hpn)] at fL;obtain⟨q,hq,hS⟩:=fL;refine Ts e1 e2 e3 e4 (I.Tb D K hj hr he) I.vD (by rw[VG,hae];exact .inl ⟨q,hq,hS⟩) (fun v hv u w' G' lM JW MS=>?_) (fun v hv=>by cases hv);cases hv;obtain⟨fw,I'⟩:=I.KP D K FA hj hr he lM JW MS;rw[CS] at I';exact ih _ _ _ _ _ _ _ RQ I' (aEw hpn)
    · exact fL.elim
    · exact fL.elim
    rename_i n1 n2 n3;have cK:=aEw fun h=>by obtain⟨⟨f,azs,e⟩,_⟩:=DI h;exact n1 f azs e
    have qQ:r.op.plain=true:=by cases OD:r.op<;>first|rfl|exact absurd OD (n1 _ _)|exact absurd OD (n2 _)|exact absurd OD (n3 _ _)|(rw[OD] at fL;cases fL)
    have aUv:cX (Arg.eval g sS) (Hs j) r.op=some (vs j,Hs (j+1)):=by rw[gw (Hs j) (ev':=Arg.eval g (ss j)) (fun y hy=>I.eval_eq K hj hr D y hy)];exact fL
    by_cases he:r.op.pR=true
    · refine PY (XR tT qQ) (xQ tT n3) (I.Tb D K hj hr he) I.vD aUv (fun u w' G' lM JW MS=>?_);obtain⟨fw,I'⟩:=I.KP D K FA hj hr he lM JW MS;rw[CS] at I';exact ih _ _ _ _ _ _ _ RQ I' cK
    have xU:r.op.pR=false:=by simpa using he
    have hq:=KQ (H1:=HS) xU Zw aUv (fun id cZ=>by
     have EZ:r.op.dG (Arg.eval g (ss j))=some id:=by rw[<-QN (ev:=Arg.eval g sS) (fun y hy=>I.eval_eq K hj hr D y hy)];exact cZ
     obtain⟨y,hy,hyi⟩:=Vw cZ
     have sP:∃l,G.loc id=some l:=by
      cases y with
      |tmp t=>exact yi hyi (I.vD.getD t)
      |const v=>have :=K.lits j r hr (kZ cZ) v hy;rw[Arg.eval,this] at hyi;cases hyi
      |jA n=>simp only[Arg.eval] at hyi;split at hyi<;>cases hyi
     obtain⟨l,hl⟩:=sP
     exact I.mr D K hj hr QK EZ hl (NK fL EZ))
    refine PY (XR tT qQ) (xQ tT n3) I.rel I.vD hq.2 (fun u w' G' lM JW MS=>?_);have I':=I.quiet D K hj hr xU (fun h=>by rw[Zw] at h;cases h) lM JW MS;rw[CS] at I';exact ih _ _ _ _ _ _ _ RQ I' cK
  rw[if_neg QK] at fL ⊢;refine⟨fun _ _=>trivial,?_⟩;obtain⟨hv,hH⟩:=fL;have cK:=aEw fun h=>absurd (DI h).2 QK;have bEo:bP (ss j) r=false:=by simpa using QK
  by_cases he:r.op.pR=true
  · have aRg:=I.Tb D K hj hr he;obtain⟨fw,I'⟩:=I.KP D K FA hj hr he (G1:=G) (w1:=w) (u:=undef) (by rw[hH];exact aRg) (by rw[hH];exact Ext.refl G (Hs j) w) (by rw[hv];exact VR.oH G w);rw[CS] at I';exact ih _ _ _ _ _ _ _ RQ I' cK
  have I':=I.quiet D K hj hr (by simpa using he) (fun _=>bEo) (u:=undef) I.rel (Ext.refl G HS w) (by rw[hv];exact VR.oH G w);rw[CS] at I';exact ih _ _ _ _ _ _ _ RQ I' cK
theorem Nd {ro:Option Nat} {id:Nat} (hm:P.follows .mixedOrders=true) (hc:lY P g mu ops ops.toList=some rl) (D:dS P g rl pj pairs s0 H0 Hs ss vs) (K:tI ops rl pairs anc)
 (hw:WR g G0 H0 w0) (hs:SR G0 w0 s0 a) {ds:List gH} (hd:SM G0 w0 ds a.defers) {Q:AQ} (hQ:pj=none->Q .normal (ss rl.length) ds (Hs rl.length)) (hP:∀j,pj=some j->aId P g rl anc Hs ss (fun x s H=>Q (.panic x) s ds H) j):
 (Code.region id ops true).wpIn (Fw ro) 0 P (QR g G0 H0 w0 Q) a w0:=by
 refine wpIn_region_any hm ?_;obtain⟨hlen,cT⟩:=xR _ _ hc;have lE:rl.length=ops.size:=by simpa using hlen
 have hH:∀id,(Hs 0).get id=H0.get id:=fun id=>by rw[D.h0];rfl
 have hN:H0.next<=(Hs 0).next:=by rw[D.h0];exact Hh _ _
 have wM:∀i,dI (Array.replicate ops.size false) i=false:=fun i=>by unfold dI;rw[Bo,Array.getElem?_replicate];split<;>rfl
 have aIt:∀i r,rl[i]?=some r->∀l,G0.loc (kept H0 rl i)=some l->False:=fun i r hr l hl=>by have :=hw.lt _ _ hl;unfold kept at this;omega
 have rV:SM G0 w0 ds a.defers:=hd;refine Xa (pairs:=pairs) (anc:=anc) (G0:=G0) (w0:=w0) (dl:=a.defers) hc D K hw.lt hd hQ hP ops.size (Array.replicate ops.size false) 0 G0 (Hs 0) {w0 with drawn:=w0.drawn+1} a s0 ?_ ?_ fun k _=>wM k
 · unfold todo;refine Cb List.countP_le_length ?_;simp[lE]
 exact {
  size:=by simp[lE]
  closed:=fun i j h=>by rw[wM] at h;cases h
  ple:=Az _
  pos:=fun i r h1 h2=>by rw[wM];simp
  rel:=(hw.drawn _).oB (fun id l _=>hH id) hN
  uR:=rfl
  jg:=fun i r h1 h2 ⟨l,h3⟩=>(aIt i r h1 l h3).elim
  cont:=fun id l hl=>.inr ⟨fun i r h1 h2 h3 h4 he=>by rw[he] at hl;exact aIt i r h2 l hl,rfl⟩
  aEk:=fun i r h1 h2 h3 h4=>by rw[wM] at h4;cases h4
  ext:=(Ext.drawn G0 H0 w0 _ (Hh _ _)).oB (fun id l _=>hH id) hN
  vD:=hs.ext (Ext.drawn G0 H0 w0 _ (Hh _ _))
  last:=fun t=>by
   have :∀m,wT (dI (Array.replicate ops.size false)) rl s0 vs t m=s0.getD t aD:=fun m=>by
    induction m with
    |zero=>rfl
    |succ m ih=>simp only[wT,wM,Ke,Be,Cm,ih]
   rw[this]
  len:=rfl
  dfr:=rfl}
end
end
end Go.Av
