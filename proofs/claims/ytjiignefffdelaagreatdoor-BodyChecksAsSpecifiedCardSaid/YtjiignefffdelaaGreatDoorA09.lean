/-
  Parts of the proof of statement 4: AvCop
-/
import Derived.Test.YtjiignefffdelaaGreatDoorA08
set_option linter.unusedVariables false
set_option linter.unusedSimpArgs false
namespace Go.Av
open Go
def isConstO:Operand→Bool
 |.const _=>true
 |_=>false
def copBin (P:Program) (g:Genv) (op:BinOp) (t:TypeId) (x y:Operand):Option ROp:=
 match argOf g x,argOf g y with
 |some x',some y'=>
  if op=.eql∨op=.neq then
   match P.underlying t with
   |some .bool=>some (.eqb (op== .neq) x' y')
   |some (.struct _)|some (.array _ _)=>
    match shapeP P 60 t with
    |some ks=>if P.eqGuardType P.depth t=false then some (.eqf (op== .neq) ks x' y') else none
    |none=>none
   |some (.pointer _)=>some (.eqn (op== .neq) .ptr (isConstO x||isConstO y) x' y')
   |some (.interface _)=>some (.eqn (op== .neq) .ifc (isConstO x||isConstO y) x' y')
   |some (.slice _)=>some (.eqn (op== .neq) .sli (isConstO x||isConstO y) x' y')
   |some (.map _ _)=>some (.eqn (op== .neq) .mp (isConstO x||isConstO y) x' y')
   |some (.func _ _ _)=>some (.eqn (op== .neq) .fn (isConstO x||isConstO y) x' y')
   |_=>some (.bin op x' y')
  else some (.bin op x' y')
 |_,_=>none
def copConv (P:Program) (g:Genv) (src dst:TypeId) (x:Operand):Option ROp:=
 match argOf g x with
 |some x'=>
  match P.underlying src,P.underlying dst with
  |some _,some (.int k)=>some (.convi k x')
  |some .string,some (.slice e)=>if P.underlying e matches some (.int .u8) then some (.str2b x') else none
  |some (.slice e),some .string=>if P.underlying e matches some (.int .u8) then some (.b2str x') else none
  |_,_=>none
 |none=>none
def copSlice (P:Program) (g:Genv) (t:TypeId) (x:Operand) (lo hi mx:Option Operand):Option ROp:=
 match argOf g x,optArg g lo,optArg g hi,optArg g mx with
 |some x',some lo',some hi',some mx'=>
  match arrayP P t with
  |some (n,sz,_)=>some (.slarr n sz x' lo' hi' mx')
  |none=>
   match sliceP P t with
   |some (_,sz)=>some (.slsl sz x' lo' hi' mx')
   |none=>
    match P.underlying t,mx with
    |some .string,none=>some (.slstr x' lo' hi')
    |_,_=>none
 |_,_,_,_=>none
def copLen (P:Program) (g:Genv) (c:Call):Option ROp:=
 match c.args.toList,c.argTypes[0]? with
 |[x],some t=>
  match P.underlying t,argOf g x with
  |some .string,some x'=>some (.lens x')
  |some (.slice _),some x'=>some (.lenl x')
  |_,_=>none
 |_,_=>none
def copAppend (P:Program) (g:Genv) (mu:Bool) (c:Call):Option ROp:=
 match c.args.toList,c.argTypes.toList with
 |[x,y],[t,t2]=>
  match argOf g x,argOf g y,sliceP P t with
  |some x',some y',some (e,sz)=>
   match P.info? e,zeroP P e,P.underlying t2 with
   |some _,some _,some (.int _)=>none
   |some i,some z,some _=>if 1≤i.bytes∧z.cells.size=sz then some (.append sz i.bytes mu x' y') else none
   |_,_,_=>none
  |_,_,_=>none
 |_,_=>none
def copCall (P:Program) (g:Genv) (mu:Bool) (c:Call):Option ROp:=
 match c.callee with
 |.builtin .len=>copLen P g c
 |.builtin .append=>copAppend P g mu c
 |.value f=>match argOf g f,argsOf g c.args.toList with
  |some f',some azs=>some (.call f' azs)
  |_,_=>none
 |.builtin .max=>match c.args.toList with
  |[x,y]=>match argOf g x,argOf g y with
   |some x',some y'=>some (.maxi x' y')
   |_,_=>none
  |_=>none
 |.builtin .min=>match c.args.toList with
  |[x,y]=>match argOf g x,argOf g y with
   |some x',some y'=>some (.mini x' y')
   |_,_=>none
  |_=>none
 |.builtin .clear=>match c.args.toList,c.argTypes[0]? with
  |[x],some t=>match argOf g x,sliceP P t with
   |some x',some (e,sz)=>match zeroP P e with
    |some z=>(constsL z.cells.toList).map fun zs=>.clr sz zs x'
    |none=>none
   |_,_=>none
  |_,_=>none
 |_=>none
def zeroC (P:Program) (t:TypeId):Option AV:=
 match zeroP P t with
 |some z=>ofConst z
 |none=>none
def cop (P:Program) (g:Genv) (mu:Bool) (o:Oper):Option ROp:=
 match o.op with
 |.move x|.assign x=>(argOf g x).map .mov
 |.pick c x y=>match argOf g c,argOf g x,argOf g y with
  |some c',some x',some y'=>some (.pick c' x' y')
  |_,_,_=>none
 |.alloc t=>match zeroP P t with
  |some z=>(constsL z.cells.toList).map .alloc
  |none=>none
 |.box _ x=>(argOf g x).map .box
 |.build t parts=>match zeroP P t with
  |some z=>match constsL z.cells.toList,P.underlying t with
   |some zs,some (.struct fs)=>match placesP P fs.toList with
    |some l=>(partsP g (l[·]?) parts.toList).map (.build zs)
    |none=>none
   |some zs,some (.array _ e)=>match sizeP P e with
    |some sz=>(partsP g (fun i=>some (i*sz,sz)) parts.toList).map (.build zs)
    |none=>none
   |_,_=>none
  |none=>none
 |.buildSlice t len parts=>match sliceP P t with
  |some (e,sz)=>match zeroP P e,litP g 0 parts.toList with
   |some _,some ys=>if len=parts.size∧len*sz≤2^24 then some (.mklit sz ys) else none
   |_,_=>none
  |none=>none
 |.load t x=>match argOf g x,isAggP P t,sizeP P t with
  |some x',some agg,some n=>some (.load agg n x')
  |_,_,_=>none
 |.store t x y=>match argOf g x,argOf g y,sizeP P t with
  |some x',some y',some n=>some (.store n x' y')
  |_,_,_=>none
 |.binOp op t x y _=>copBin P g op t x y
 |.unOp op _ x=>(argOf g x).map (.un op)
 |.convert src dst x=>copConv P g src dst x
 |.sliceToArrayPointer t x=>match argOf g x,P.underlying t with
  |some x',some (.array n _)=>some (.s2ap n x')
  |_,_=>none
 |.makeInterface t x=>match argOf g x,P.underlying t with
  |some _,some (.interface _)=>none
  |some x',some _=>some (.mkif t x')
  |_,_=>none
 |.makeFunc fn fs cs=>match argsOf g fs.toList,argsOf g cs.toList with
  |some fs',some cs'=>some (.mkfn fn fs' cs')
  |_,_=>none
 |.makeMap t r=>match P.underlying t,r with
  |some (.map _ _),none=>some .mkmap
  |some (.map _ _),some (.const (.int _ _))=>some .mkmap
  |_,_=>none
 |.makeSlice t x y=>match argOf g x,argOf g y,sliceP P t with
  |some x',some y',some (e,sz)=>match P.info? e,zeroP P e with
   |some i,some z=>match constsL z.cells.toList with
    |some zs=>if 1≤sz∧1≤i.bytes then some (.mkslice sz i.bytes zs x' y') else none
    |none=>none
   |_,_=>none
  |_,_,_=>none
 |.slice t x lo hi mx=>copSlice P g t x lo hi mx
 |.fieldAddr t x i=>match argOf g x,fieldP P t i with
  |some x',some (off,_,_)=>some (.fadr off x')
  |_,_=>none
 |.indexAddr t x i=>match argOf g x,argOf g i with
  |some x',some i'=>match arrayP P t with
   |some (n,sz,_)=>some (.iadr (some n) sz x' i')
   |none=>match sliceP P t with
    |some (_,sz)=>some (.iadr none sz x' i')
    |none=>none
  |_,_=>none
 |.index t x i=>match argOf g x,argOf g i with
  |some x',some i'=>match arrayP P t with
   |some (n,sz,b)=>some (.idx n sz b x' i')
   |none=>if P.underlying t matches some .string then some (.idxs x' i') else none
  |_,_=>none
 |.lookup t x i ok=>match argOf g x,argOf g i,P.underlying t with
  |some x',some i',some (.map kt vt)=>match keyP P kt,zeroC P vt with
   |some k,some z=>some (.lookup k z ok x' i')
   |_,_=>none
  |_,_,_=>none
 |.mapUpdate t m i x|.insert t m i x=>match argOf g m,argOf g i,argOf g x,P.underlying t with
  |some m',some i',some x',some (.map kt _)=>(keyP P kt).map fun k=>.mapup k m' i' x'
  |_,_,_,_=>none
 |.typeAssert x _ t ok=>match argOf g x,P.underlying t,zeroC P t with
  |some _,some (.interface _),_=>none
  |some x',some _,some z=>some (.tass t ok z x')
  |_,_,_=>none
 |.extract x i=>(argOf g x).map fun x'=>.extr x' i
 |.range t x=>match argOf g x,P.underlying t with
  |some x',some (.map _ _)=>some (.mrange x')
  |_,_=>none
 |.next x s=>match argOf g x,s with
  |some x',false=>some (.mnext x')
  |_,_=>none
 |.entry x=>(argOf g x).map .mentry
 |.call c=>copCall P g mu c
 |.panic x=>(argOf g x).map .panic
 |.defer c=>match c.callee with
  |.value f=>match argOf g f,argsOf g c.args.toList with
   |some f',some azs=>some (.deferc f' azs)
   |_,_=>none
  |_=>none
 |_=>none
def ROp.plain:ROp→Bool
 |.call _ _|.panic _|.deferc _ _|.mrange _|.mnext _|.mentry _=>false
 |_=>true
theorem aNq {op:BinOp} (h:op=.eql∨op=.neq):op=if(op== .neq) then .neq else .eql:=by
 rcases h with rfl|rfl<;>rfl
theorem aDo {P:Program} {f:Nat} {t:TypeId} {ks:List Sk} (h:shapeP P f t=some ks) {d:TypeDesc} (hu:P.underlying t=some d) (hd:(∃fs,d=.struct fs)∨∃n e,d=.array n e):isAggP P t=some true:=by
 unfold isAggP
 rcases hd with ⟨fs,rfl⟩|⟨n,e,rfl⟩<;>rw[hu]
theorem aKb {P:Program} {g:Genv} {o:Oper} {op:BinOp} {t t2:TypeId} {x y:Operand} {r:ROp} (ho:o.op=.binOp op t x y t2) (h:copBin P g op t x y=some r):OpOK P g o r:=by
 have hl:(isConstO x||isConstO y)=true→(∃c,x=.const c)∨∃c,y=.const c:=fun hh=>by
  cases x<;>cases y<;>simp[isConstO] at hh ⊢
 have nk:∀{d:TypeDesc} {k:Nk},P.underlying t=some d→(match (some d:Option TypeDesc) with|some (.pointer _)=>some Nk.ptr|some (.interface _)=>some .ifc|some (.slice _)=>some .sli|some (.map _ _)=>some .mp|some (.func _ _ _)=>some .fn|_=>none)=some k→nkP P t=some k:=fun hu hk=>by
  unfold nkP;rw[hu];exact hk
 unfold copBin at h;split at h
 · rename_i x' y' hx hy
   split at h
   · rename_i hop
     split at h<;>rename_i hu<;>first
      |(obtain rfl:=Option.some.inj h;exact aWs ho (aNq hop) hu hx hy)
      |(obtain rfl:=Option.some.inj h;exact aWu ho (aNq hop) (nk hu rfl) hl hx hy)
      |(split at h
        · rename_i ks hks
          split at h
          · rename_i hg
            obtain rfl:=Option.some.inj h;exact aWt ho (aNq hop) (by omega) hks (aDo hks hu (by first|exact .inl ⟨_,rfl⟩|exact .inr ⟨_,_,rfl⟩)) hg hx hy
          · cases h
        · cases h)
      |(obtain rfl:=Option.some.inj h;exact aOr ho hx hy)
   · obtain rfl:=Option.some.inj h
     exact aOr ho hx hy
 · cases h
theorem aEq {P:Program} {g:Genv} {o:Oper} {src dst:TypeId} {x:Operand} {r:ROp} (ho:o.op=.convert src dst x) (h:copConv P g src dst x=some r):OpOK P g o r:=by
 unfold copConv at h;split at h
 · rename_i x' hx
   split at h
   · rename_i d k hs hd
     obtain rfl:=Option.some.inj h;exact aOs ho hx hs hd
   · rename_i e hs hd
     split at h
     · rename_i he
       obtain rfl:=Option.some.inj h;exact aOx ho hx hs hd he
     · cases h
   · rename_i e hs hd
     split at h
     · rename_i he
       obtain rfl:=Option.some.inj h;exact aOq ho hx hs hd he
     · cases h
   · cases h
 · cases h
theorem aBo {P:Program} {g:Genv} {o:Oper} {t:TypeId} {x:Operand} {lo hi mx:Option Operand} {r:ROp} (ho:o.op=.slice t x lo hi mx) (h:copSlice P g t x lo hi mx=some r):OpOK P g o r:=by
 unfold copSlice at h;split at h
 · rename_i x' lo' hi' mx' hx hlo hhi hmx
   split at h
   · rename_i n sz b ht
     obtain rfl:=Option.some.inj h;exact aOu ho hx hlo hhi hmx ht
   · split at h
     · rename_i e sz ht
       obtain rfl:=Option.some.inj h;exact aSj ho hx hlo hhi hmx ht
     · split at h
       · rename_i ht
         obtain rfl:=Option.some.inj h;exact aOv ho hx hlo hhi ht
       · cases h
 · cases h
theorem tN {c:Call} {x:Operand} (h:c.args.toList=[x]):c.args= #[x]:=by
 apply Array.ext';simpa using h
theorem tO {c:Call} {x y:Operand} (h:c.args.toList=[x,y]):c.args= #[x,y]:=by
 apply Array.ext';simpa using h
theorem aKc {P:Program} {g:Genv} {o:Oper} {c:Call} {r:ROp} (ho:o.op=.call c) (hc:c.callee=.builtin .len) (h:copLen P g c=some r):OpOK P g o r:=by
 unfold copLen at h;split at h
 · rename_i x t ha hat
   split at h
   · rename_i x' ht hx
     obtain rfl:=Option.some.inj h;exact aSb ho hc (tN ha) hx hat ht
   · rename_i e x' ht hx
     obtain rfl:=Option.some.inj h;exact aSa ho hc (tN ha) hx hat ht
   · cases h
 · cases h
theorem zC {P:Program} {g:Genv} {mu:Bool} {o:Oper} {c:Call} {r:ROp} (ho:o.op=.call c) (hc:c.callee=.builtin .append) (h:copAppend P g mu c=some r):OpOK P g o r:=by
 unfold copAppend at h;split at h
 · rename_i x y t t2 ha hat
   have hat':c.argTypes= #[t,t2]:=by apply Array.ext';simpa using hat
   split at h
   · rename_i x' y' e sz hx hy ht
     obtain⟨hu,hsz⟩:=eX ht;split at h
     · cases h
     · rename_i i z d hd hi hz h2
       split at h
       · rename_i hcond
         obtain rfl:=Option.some.inj h;exact aLe ho hc (tO ha) hx hy hat' hu hsz h2 (fun k he=>hd k he) hi hcond.1 hz hcond.2
       · cases h
     · cases h
   · cases h
 · cases h
theorem wD {P:Program} {t:TypeId} {z:AV} (h:zeroC P t=some z):∃zv,zeroP P t=some zv∧ofConst zv=some z:=by
 unfold zeroC at h;split at h
 · rename_i zv hz
   exact⟨zv,hz,h⟩
 · cases h
theorem aEs {P:Program} {g:Genv} {mu:Bool} {o:Oper} {r:ROp} (h:cop P g mu o=some r) (hp:r.plain=true):OpOK P g o r:=by
 unfold cop at h;split at h
 · rename_i x ho
   simp only[Option.map_eq_some_iff] at h;obtain⟨x',hx,rfl⟩:=h;exact aIk (.inl ho) hx
 · rename_i x ho
   simp only[Option.map_eq_some_iff] at h;obtain⟨x',hx,rfl⟩:=h;exact aIk (.inr ho) hx
 · rename_i c x y ho
   split at h
   · rename_i c' x' y' hc hx hy
     obtain rfl:=Option.some.inj h;exact aSh ho hc hx hy
   · cases h
 · rename_i t ho
   split at h
   · rename_i z hz
     simp only[Option.map_eq_some_iff] at h;obtain⟨zs,hzs,rfl⟩:=h;exact aOp ho hz hzs
   · cases h
 · rename_i t x ho
   simp only[Option.map_eq_some_iff] at h;obtain⟨x',hx,rfl⟩:=h;exact aWq ho hx
 · rename_i t parts ho
   split at h
   · rename_i z hz
     split at h
     · rename_i zs fs hzs hu
       split at h
       · rename_i l hl
         simp only[Option.map_eq_some_iff] at h;obtain⟨ps,hps,rfl⟩:=h;exact sO ho hu hz hzs hl hps
       · cases h
     · rename_i zs n e hzs hu
       split at h
       · rename_i sz hsz
         simp only[Option.map_eq_some_iff] at h;obtain⟨ps,hps,rfl⟩:=h;exact uS ho hu hsz hz hzs hps
       · cases h
     · cases h
   · cases h
 · rename_i t len parts ho
   split at h
   · rename_i e sz ht
     split at h
     · rename_i z ys hz hys
       split at h
       · rename_i hcond
         obtain rfl:=Option.some.inj h;exact aOt ho ht hz hcond.1 hcond.2 hys
       · cases h
     · cases h
   · cases h
 · rename_i t x ho
   split at h
   · rename_i x' agg n hx hagg hn
     obtain rfl:=Option.some.inj h;exact aSc ho hx hagg hn
   · cases h
 · rename_i t x y ho
   split at h
   · rename_i x' y' n hx hy hn
     obtain rfl:=Option.some.inj h;exact aOw ho hx hy hn
   · cases h
 · rename_i op t x y t2 ho
   exact aKb ho h
 · rename_i op t x ho
   simp only[Option.map_eq_some_iff] at h;obtain⟨x',hx,rfl⟩:=h;exact bCn ho hx
 · rename_i src dst x ho
   exact aEq ho h
 · rename_i t x ho
   split at h
   · rename_i x' n e hx ht
     obtain rfl:=Option.some.inj h;exact aSi ho hx ht
   · cases h
 · rename_i t x ho
   split at h
   · cases h
   · rename_i x' d hni hx ht
     obtain rfl:=Option.some.inj h;refine aSg ho hx ?_;rw[ht]
     cases d<;>first|rfl|exact absurd rfl (hni _)
   · cases h
 · rename_i fn fs cs ho
   split at h
   · rename_i fs' cs' hf hc
     obtain rfl:=Option.some.inj h;exact aSf ho hf hc
   · cases h
 · rename_i t rr ho
   split at h
   · rename_i k v ht
     obtain rfl:=Option.some.inj h;exact aCv ho ht (.inl rfl)
   · rename_i k v j n ht
     obtain rfl:=Option.some.inj h;exact aCv ho ht (.inr ⟨_,_,rfl⟩)
   · cases h
 · rename_i t x y ho
   split at h
   · rename_i x' y' e sz hx hy ht
     split at h
     · rename_i i z hi hz
       split at h
       · rename_i zs hzs
         split at h
         · rename_i hcond
           obtain rfl:=Option.some.inj h;exact aFt ho hx hy ht hi hz hzs hcond.1 hcond.2
         · cases h
       · cases h
     · cases h
   · cases h
 · rename_i t x lo hi mx ho
   exact aBo ho h
 · rename_i t x i ho
   split at h
   · rename_i x' off n b hx hf
     obtain rfl:=Option.some.inj h;exact aRy ho hx hf
   · cases h
 · rename_i t x i ho
   split at h
   · rename_i x' i' hx hi
     split at h
     · rename_i n sz b ht
       obtain rfl:=Option.some.inj h;exact aCt ho hx hi ht
     · split at h
       · rename_i e sz ht
         obtain rfl:=Option.some.inj h;exact aFs ho hx hi ht
       · cases h
   · cases h
 · rename_i t x i ho
   split at h
   · rename_i x' i' hx hi
     split at h
     · rename_i n sz b ht
       obtain rfl:=Option.some.inj h;exact aWv ho hx hi ht
     · split at h
       · rename_i hst
         obtain rfl:=Option.some.inj h;exact aRz ho hx hi hst
       · cases h
   · cases h
 · rename_i t x i ok ho
   split at h
   · rename_i x' i' kt vt hx hi ht
     split at h
     · rename_i k z hk hz
       obtain rfl:=Option.some.inj h;obtain⟨zv,hz1,hz2⟩:=wD hz;exact aLf ho hx hi ht hk hz1 hz2
     · cases h
   · cases h
 · rename_i t m i x ho
   split at h
   · rename_i m' i' x' kt vt hm hi hx ht
     simp only[Option.map_eq_some_iff] at h;obtain⟨k,hk,rfl⟩:=h;exact aCu (.inl ho) hm hi hx ht hk
   · cases h
 · rename_i t m i x ho
   split at h
   · rename_i m' i' x' kt vt hm hi hx ht
     simp only[Option.map_eq_some_iff] at h;obtain⟨k,hk,rfl⟩:=h;exact aCu (.inr ho) hm hi hx ht hk
   · cases h
 · rename_i x ti t ok ho
   split at h
   · cases h
   · rename_i x' d z hni hx ht hz
     obtain rfl:=Option.some.inj h;obtain⟨zv,hz1,hz2⟩:=wD hz;exact aSk ho hx ht (fun ms he=>hni ms he) hz1 hz2
   · cases h
 · rename_i x i ho
   simp only[Option.map_eq_some_iff] at h;obtain⟨x',hx,rfl⟩:=h;exact aRx ho hx
 · rename_i t x ho
   split at h
   · obtain rfl:=Option.some.inj h
     cases hp
   · cases h
 · rename_i x st ho
   split at h
   · obtain rfl:=Option.some.inj h
     cases hp
   · cases h
 · rename_i x ho
   simp only[Option.map_eq_some_iff] at h;obtain⟨x',hx,rfl⟩:=h;cases hp
 · rename_i c ho
   unfold copCall at h;split at h
   · rename_i hc
     exact aKc ho hc h
   · rename_i hc
     exact zC ho hc h
   · rename_i f hc
     split at h
     · obtain rfl:=Option.some.inj h
       cases hp
     · cases h
   · rename_i hc
     split at h
     · rename_i x y ha
       split at h
       · rename_i x' y' hx hy
         obtain rfl:=Option.some.inj h;exact aSd ho hc (tO ha) hx hy
       · cases h
     · cases h
   · rename_i hc
     split at h
     · rename_i x y ha
       split at h
       · rename_i x' y' hx hy
         obtain rfl:=Option.some.inj h;exact aSe ho hc (tO ha) hx hy
       · cases h
     · cases h
   · rename_i hc
     split at h
     · rename_i x t ha hat
       split at h
       · rename_i x' e sz hx ht
         obtain⟨hu,hsz⟩:=eX ht;split at h
         · rename_i z hz
           simp only[Option.map_eq_some_iff] at h;obtain⟨zs,hzs,rfl⟩:=h;exact aWr ho hc (tN ha) hx hat hu hz hzs
         · cases h
       · cases h
     · cases h
   · cases h
 · rename_i x ho
   simp only[Option.map_eq_some_iff] at h;obtain⟨x',hx,rfl⟩:=h;cases hp
 · rename_i c ho
   split at h
   · split at h
     · obtain rfl:=Option.some.inj h
       cases hp
     · cases h
   · cases h
 · cases h
def ROp.fresh:ROp→Bool
 |.alloc _|.box _|.mkmap|.mkslice _ _ _ _ _|.str2b _=>true
 |_=>false
theorem aRb {P:Program} {g:Genv} {mu:Bool} {o:Oper} {r:ROp} (h:cop P g mu o=some r) (hp:r.fresh=true):FopOK P g o r:=by
 unfold cop at h;split at h
 case h_4=>
  rename_i t ho;split at h
  · rename_i z hz
    simp only[Option.map_eq_some_iff] at h;obtain⟨zs,hzs,rfl⟩:=h;exact xL ho hz hzs
  · cases h
 case h_5=>
  rename_i t x ho;simp only[Option.map_eq_some_iff] at h;obtain⟨x',hx,rfl⟩:=h;exact aHu ho hx
 case h_12=>
  rename_i src dst x ho;unfold copConv at h;split at h
  · rename_i x' hx
    split at h
    · obtain rfl:=Option.some.inj h;cases hp
    · rename_i e hs hd
      split at h
      · rename_i he
        obtain rfl:=Option.some.inj h;exact xM ho hx hs hd he
      · cases h
    · split at h
      · obtain rfl:=Option.some.inj h;cases hp
      · cases h
    · cases h
  · cases h
 case h_16=>
  rename_i t rr ho;split at h
  · rename_i k v ht
    obtain rfl:=Option.some.inj h;exact rF ho ht (.inl rfl)
  · rename_i k v j n ht
    obtain rfl:=Option.some.inj h;exact rF ho ht (.inr ⟨_,_,rfl⟩)
  · cases h
 case h_17=>
  rename_i t x y ho;split at h
  · rename_i x' y' e sz hx hy ht
    split at h
    · rename_i i z hi hz
      split at h
      · rename_i zs hzs
        split at h
        · rename_i hcond
          obtain rfl:=Option.some.inj h;exact rV ho hx hy ht hi hz hzs hcond.1 hcond.2
        · cases h
      · cases h
    · cases h
  · cases h
 all_goals exfalso
 all_goals (try unfold copBin at h)
 all_goals (try unfold copSlice at h)
 all_goals (try unfold copCall at h)
 all_goals (try unfold copLen at h)
 all_goals (try unfold copAppend at h)
 all_goals repeat' (split at h)
 all_goals first
  |(cases h;done)
  |(obtain rfl:=Option.some.inj h;cases hp)
  |(simp only[Option.map_eq_some_iff] at h;obtain⟨_,_,rfl⟩:=h;cases hp)
end Go.Av
