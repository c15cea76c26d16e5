/-
  Parts of the proof of statement 4: AvDefs, AvOps, AvRel
-/
import Derived.Calls
import Derived.Orders
set_option linter.unusedVariables false
set_option linter.unusedSimpArgs false
namespace Go.Av
open Go
inductive AV where
 |bool (b:Bool)
 |int (k:IntKind) (n:Int)
 |str (s:List UInt8)
 |nilp
 |ref (id off:Nat)
 |pl (cells:List AV)
 |nilsl
 |aT (tag sz:Nat) (els:List (List AV))
 |sl (id sz off len cap:Nat)
 |func (fn:Fn) (first captured:List AV)
 |nilfn
 |iface (t:TypeId) (v:AV)
 |nilif
 |agg (cs:List AV)
 |tup (vs:List AV)
 |map (id:Nat)
 |nilmap
 |yield (id:Nat)
instance:Inhabited AV:=⟨.nilp⟩
def undefA:AV:=.tup []
def AV.one:AV→Bool
 |.agg _|.tup _=>false
 |_=>true
def AV.isTup:AV→Bool
 |.tup _=>true
 |_=>false
def AV.cells:AV→List AV
 |.agg cs=>cs
 |v=>[v]
inductive Arg where
 |tmp (t:Nat)
 |const (v:AV)
 |glob (g:Nat)
inductive Sk where
 |b|i|s
 |f (sh:List Sk)
inductive Nk where
 |ptr|ifc|sli|mp|fn
 deriving DecidableEq
inductive ROp where
 |mov (x:Arg)
 |pick (c a b:Arg)
 |alloc (zero:List AV)
 |box (x:Arg)
 |build (zero:List AV) (parts:List (Nat×Nat×Arg))
 |mklit (sz:Nat) (parts:List Arg)
 |load (agg:Bool) (n:Nat) (a:Arg)
 |store (n:Nat) (a x:Arg)
 |bin (op:BinOp) (x y:Arg)
 |eqb (neg:Bool) (x y:Arg)
 |eqf (neg:Bool) (shape:List Sk) (x y:Arg)
 |eqn (neg:Bool) (k:Nk) (lit:Bool) (x y:Arg)
 |un (op:UnOp) (x:Arg)
 |convi (k:IntKind) (x:Arg)
 |str2b (x:Arg)
 |b2str (x:Arg)
 |s2ap (n:Nat) (x:Arg)
 |mkif (t:TypeId) (x:Arg)
 |mkfn (fn:Fn) (first cap:List Arg)
 |mkmap
 |mkslice (sz bytes:Nat) (zero:List AV) (l c:Arg)
 |slstr (x:Arg) (lo hi:Option Arg)
 |slsl (sz:Nat) (x:Arg) (lo hi mx:Option Arg)
 |slarr (n sz:Nat) (x:Arg) (lo hi mx:Option Arg)
 |fadr (off:Nat) (x:Arg)
 |iadr (arr:Option Nat) (sz:Nat) (x i:Arg)
 |idx (n sz:Nat) (agg:Bool) (x i:Arg)
 |idxs (x i:Arg)
 |tass (t:TypeId) (ok:Bool) (zero:AV) (x:Arg)
 |extr (x:Arg) (i:Nat)
 |lens (x:Arg)
 |lenl (x:Arg)
 |maxi (x y:Arg)
 |mini (x y:Arg)
 |clr (sz:Nat) (zero:List AV) (x:Arg)
 |append (sz bytes:Nat) (mu:Bool) (x y:Arg)
 |lookup (kind:Sk) (zero:AV) (ok:Bool) (x i:Arg)
 |mapup (kind:Sk) (m k v:Arg)
 |mrange (x:Arg)
 |mnext (x:Arg)
 |mentry (x:Arg)
 |call (f:Arg) (args:List Arg)
 |panic (x:Arg)
 |deferc (f:Arg) (args:List Arg)
structure ROper where
 dst:Option Nat
 op:ROp
 guard:Option (Nat×Bool)
inductive ACode where
 |skip
 |ops (rl:List ROper)
 |draw (rl:List ROper) (pairs:List (Nat×Nat))
 |seq (a b:ACode)
 |cond (c:Arg) (a b:ACode)
 |block (id:Nat) (a:ACode)
 |loop (a:ACode)
 |exit (id:Nat)
 |ret
 |rangeF (c:Arg) (ps:List Nat) (asg body:ACode)
structure LKey where
 ps:List Nat
 asg:ACode
 body:ACode
structure Genv where
 val:Nat→Option (List AV)
 lok:LKey→Loop→Prop
instance:CoeFun Genv (fun _=>Nat→Option (List AV)):=⟨Genv.val⟩
def Genv.mo (g:Genv):Bool:=(g.val 999999999).isNone
def g0:Genv:=⟨fun _=>none,fun _ _=>False⟩
inductive LEx where
 |ret
 |exit (id:Nat)
inductive LSt where
 |ready
 |busy
 |done (e:LEx)
 |over (e:Option LEx)
inductive AObj where
 |cells (cs:List AV) (opn:Bool)
 |tok
 |map (es:List (AV×AV))
 |mapf (es:List (AV×AV)) (bs:List Nat) (c mb:Nat)
 |iter (m mb c:Nat) (seen:List Nat)
 |loop (k:LKey) (sn:List AV) (st:LSt)
 |dfd
 |dfx
 |dead
def AObj.blk:AObj→Bool
 |.map _|.mapf _ _ _ _|.iter _ _ _ _|.loop _ _ _|.dfd|.dfx=>true
 |_=>false
def LEx.code:LEx→Code
 |.ret=>.ret
 |.exit id=>.exit id
def loopAt (r:Loop):LSt→Loop
 |.ready=>{r with state:=.ready,pending:=none}
 |.busy=>{r with state:=.busy,pending:=none}
 |.done e=>{r with state:=.done,pending:=some e.code}
 |.over e=>{r with state:=.exhausted,pending:=e.map LEx.code}
def AObj.live:AObj→Bool
 |.dead=>false
 |_=>true
inductive Tr where
 |nil
 |node (o:Option AObj) (l r:Tr)
def Tr.get:Tr→Nat→Option AObj
 |.nil,_=>none
 |.node o l r,n=>if n=0 then o else if n%2=1 then l.get (n / 2) else r.get (n / 2 -1)
def Tr.root:Tr→Option AObj
 |.nil=>none
 |.node o _ _=>o
def Tr.left:Tr→Tr
 |.nil=>.nil
 |.node _ l _=>l
def Tr.right:Tr→Tr
 |.nil=>.nil
 |.node _ _ r=>r
def Tr.setF:Nat→Tr→Nat→AObj→Tr
 |0,t,_,o=>.node (some o) t.left t.right
 |f+1,t,n,o=>
  if n=0 then .node (some o) t.left t.right
  else if n%2=1 then .node t.root (Tr.setF f t.left (n / 2) o) t.right
  else .node t.root t.left (Tr.setF f t.right (n / 2 -1) o)
def Tr.set (t:Tr) (n:Nat) (o:AObj):Tr:=Tr.setF n t n o
theorem Tr.aHv (t:Tr) (n:Nat):t.get n=if n=0 then t.root else if n%2=1 then t.left.get (n / 2) else t.right.get (n / 2 -1):=by
 cases t with
 |nil=>simp[Tr.get,Tr.root,Tr.left,Tr.right]
 |node o l r=>simp[Tr.get,Tr.root,Tr.left,Tr.right]
theorem Tr.pO:∀(f:Nat) (t:Tr) (n:Nat) (o:AObj) (m:Nat),n≤f→(Tr.setF f t n o).get m=if m=n then some o else t.get m:=by
 intro f
 induction f with
 |zero=>
  intro t n o m hn
  obtain rfl:n=0:=by omega
  rw[Tr.aHv t m];simp only[Tr.setF,Tr.get];by_cases hm:m=0<;>simp[hm]
 |succ f ih=>
  intro t n o m hn;rw[Tr.aHv t m];simp only[Tr.setF];by_cases h0:n=0
  · subst h0
    simp only[if_true,Tr.get];by_cases hm:m=0<;>simp[hm]
  · by_cases hodd:n%2=1
    · simp only[h0,hodd,if_true,if_false,Tr.get]
      by_cases hm:m=0
      · have :¬m=n:=by omega
        simp[hm,Ne.symm h0]
      · by_cases hmo:m%2=1
        · simp only[hm,hmo,if_true,if_false]
          rw[ih _ _ _ _ (by omega)];by_cases he:m=n
          · simp[he]
          · rw[if_neg he,if_neg (by omega)]
        · simp only[hm,hmo,if_false]
          rw[if_neg (by intro he;subst he;exact hmo hodd)]
    · simp only[h0,hodd,if_false,Tr.get]
      by_cases hm:m=0
      · simp[hm,Ne.symm h0]
      · by_cases hmo:m%2=1
        · simp only[hm,hmo,if_true,if_false]
          rw[if_neg (by intro he;subst he;exact hodd hmo)]
        · simp only[hm,hmo,if_false]
          rw[ih _ _ _ _ (by omega)];by_cases he:m=n
          · simp[he]
          · rw[if_neg he,if_neg (by omega)]
structure Heap where
 next:Nat
 tr:Tr
def Heap.get (H:Heap) (id:Nat):Option AObj:=H.tr.get id
def Heap.set (H:Heap) (id:Nat) (o:AObj):Heap:={H with tr:=H.tr.set id o}
def Heap.alloc (H:Heap) (o:AObj):Heap:={next:=H.next+1,tr:=H.tr.set H.next o}
theorem Heap.aB (H:Heap) (id:Nat) (o:AObj) (m:Nat):(H.set id o).get m=if m=id then some o else H.get m:=
 Tr.pO _ _ _ _ _ (Nat.le_refl _)
theorem Heap.aH (H:Heap) (o:AObj) (m:Nat):(H.alloc o).get m=if m=H.next then some o else H.get m:=
 Tr.pO _ _ _ _ _ (Nat.le_refl _)
@[simp] theorem Heap.aS (H:Heap) (id:Nat) (o:AObj):(H.set id o).next=H.next:=rfl
@[simp] theorem Heap.aX (H:Heap) (o:AObj):(H.alloc o).next=H.next+1:=rfl
def Arg.eval (g:Genv) (s:List AV):Arg→AV
 |.tmp t=>s.getD t undefA
 |.const v=>v
 |.glob n=>match g n with
  |some cs=>.pl cs
  |none=>undefA
def chunkF (sz:Nat):Nat→List AV→List (List AV)
 |0,_=>[]
 |n+1,cs=>cs.take sz::chunkF sz n (cs.drop sz)
def splice (cs:List AV) (off:Nat) (vs:List AV):List AV:=cs.take off++vs++cs.drop (off+vs.length)
def fillA (ev:Arg→AV):List AV→List (Nat×Nat×Arg)→Option (List AV)
 |cs,[]=>some cs
 |cs,(off,n,x)::rest=>
  let vs:=(ev x).cells
  if vs.length=n∧off+n≤cs.length∧(ev x).isTup=false then fillA ev (splice cs off vs) rest else none
def litA (ev:Arg→AV) (sz:Nat):List Arg→Option (List (List AV))
 |[]=>some []
 |x::rest=>
  let vs:=(ev x).cells
  if vs.length=sz∧(ev x).isTup=false then(litA ev sz rest).map (vs:: ·) else none
def eqFlat:List Sk→List AV→List AV→Option Bool
 |[],[],[]=>some true
 |.b::ks,.bool a::xs,.bool b::ys=>(eqFlat ks xs ys).map ((a==b)&& ·)
 |.i::ks,.int j a::xs,.int k b::ys=>if j=k then(eqFlat ks xs ys).map ((a==b)&& ·) else none
 |.s::ks,.str a::xs,.str b::ys=>(eqFlat ks xs ys).map ((a==b)&& ·)
 |_,_,_=>none
def isNilA (k:Nk):AV→Option Bool
 |.nilp=>if k=.ptr then some true else none
 |.ref _ _|.pl _=>if k=.ptr then some false else none
 |.nilsl=>if k=.sli then some true else none
 |.aT _ _ _|.sl _ _ _ _ _=>if k=.sli then some false else none
 |.nilif=>if k=.ifc then some true else none
 |.iface _ _=>if k=.ifc then some false else none
 |.nilfn=>if k=.fn then some true else none
 |.func _ _ _=>if k=.fn then some false else none
 |.nilmap=>if k=.mp then some true else none
 |.map _=>if k=.mp then some false else none
 |_=>none
def bitsI (op:BinOp) (k:IntKind) (x y:Int):Option AV:=
 let a:=BitVec.ofInt k.bits x;let b:=BitVec.ofInt k.bits y
 match op with
 |.and=>some (.int k (k.wrap (a&&& b).toNat))
 |.or=>some (.int k (k.wrap (a|||b).toNat))
 |.xor=>some (.int k (k.wrap (a^^^b).toNat))
 |.andNot=>some (.int k (k.wrap (a&&& ~~~b).toNat))
 |_=>none
def binI (op:BinOp) (k:IntKind) (a:Int) (k':IntKind) (b:Int):Option AV:=
 match op with
 |.shl=>if b<0 then none else some (.int k (k.wrap (a*2^(min b.toNat k.bits))))
 |.shr=>if b<0 then none else some (.int k (a.fdiv (2^(min b.toNat k.bits))))
 |.add=>if k=k' then some (.int k (k.wrap (a+b))) else none
 |.sub=>if k=k' then some (.int k (k.wrap (a -b))) else none
 |.mul=>if k=k' then some (.int k (k.wrap (a*b))) else none
 |.quo=>if k=k' then(if b=0 then none else some (.int k (k.wrap (a.tdiv b)))) else none
 |.rem=>if k=k' then(if b=0 then none else some (.int k (a.tmod b))) else none
 |.and|.or|.xor|.andNot=>if k=k' then bitsI op k a b else none
 |.eql=>if k=k' then some (.bool (a==b)) else none
 |.neq=>if k=k' then some (.bool (a != b)) else none
 |.lss=>if k=k' then some (.bool (a<b)) else none
 |.leq=>if k=k' then some (.bool (a≤b)) else none
 |.gtr=>if k=k' then some (.bool (a>b)) else none
 |.geq=>if k=k' then some (.bool (a≥b)) else none
def binS (op:BinOp) (x y:List UInt8):Option AV:=
 let eq:=x==y;let lt:=Op.bytesLess x y
 match op with
 |.add=>if x.length+y.length≤2^40 then some (.str (x++y)) else none
 |.eql=>some (.bool eq)
 |.neq=>some (.bool !eq)
 |.lss=>some (.bool lt)
 |.leq=>some (.bool (lt||eq))
 |.gtr=>some (.bool !(lt||eq))
 |.geq=>some (.bool !lt)
 |_=>none
def unA (op:UnOp):AV→Option AV
 |.int k n=>match op with
  |.neg=>some (.int k (k.wrap (0 -n)))
  |.xor=>bitsI .xor k (if k.signed then -1 else k.max) n
  |_=>none
 |.bool b=>match op with
  |.not=>some (.bool !b)
  |_=>none
 |_=>none
def asNat:AV→Option Nat
 |.int _ n=>if 0≤n then some n.toNat else none
 |_=>none
def optNat (ev:Arg→AV):Option Arg→Option (Option Nat)
 |none=>some none
 |some x=>(asNat (ev x)).map some
def u8s (s:List UInt8):List (List AV):=s.map fun b=>[.int .u8 b.toNat]
def bytesOf:List (List AV)→Option (List UInt8)
 |[]=>some []
 |[.int .u8 n]::rest=>(bytesOf rest).map (UInt8.ofNat n.toNat:: ·)
 |_=>none
def Heap.cellsAt (H:Heap) (id:Nat):Option (List AV):=
 match H.get id with
 |some (.cells cs _)=>some cs
 |_=>none
def elemsOf (H:Heap) (sz:Nat):AV→Option (List (List AV))
 |.nilsl=>some []
 |.aT _ sz' els=>if sz'=sz then some els else none
 |.str s=>if sz=1 then some (u8s s) else none
 |.sl id sz' off len _=>
  if sz'=sz then
   match H.cellsAt id with
   |some cs=>if off+len*sz≤cs.length then some (chunkF sz len (cs.drop off)) else none
   |none=>none
  else none
 |_=>none
def newRowA (H:Heap) (mu:Bool) (sz:Nat) (els:List (List AV)):AV×Heap:=
 if mu then(.sl H.next sz 0 els.length els.length,H.alloc (.cells els.flatten true))
 else(.aT (H.next+2) sz els,H.alloc .tok)
def appendA (H:Heap) (sz bytes:Nat) (mu:Bool) (x:AV) (ys:List (List AV)):Option (AV×Heap):=
 if ys.isEmpty then
  match x with
  |.nilsl|.aT _ _ _|.sl _ _ _ _ _=>some (x,H)
  |_=>none
 else
 match x with
 |.nilsl=>if ys.length*bytes≤2^40 then some (newRowA H mu sz ys) else none
 |.aT tag sz' els=>
  if sz'=sz∧(els.length+ys.length)*bytes≤2^40 then
   match tag with
   |0=>none
   |1=>some (newRowA H mu sz (els++ys))
   |k+2=>
    match H.get k with
    |some .tok=>some (.aT (H.next+2) sz (els++ys),(H.set k .dead).alloc .tok)
    |_=>none
  else none
 |.sl id sz' off len cap=>
  if sz'=sz∧(len+ys.length)*bytes≤2^40∧1≤sz then
   match H.get id with
   |some (.cells cs opn)=>
    if len+ys.length≤cap then
     if off+cap*sz≤cs.length then
      some (.sl id sz off (len+ys.length) cap,H.set id (.cells (splice cs (off+len*sz) ys.flatten) opn))
     else none
    else if off+len*sz≤cs.length∧(opn=false∨off+cap*sz<cs.length) then
     some (newRowA H mu sz (chunkF sz len (cs.drop off)++ys))
    else if mu=true∧off=0∧len=cap∧cs.length=len*sz then
     some (.sl H.next sz 0 (len+ys.length) (len+ys.length),(H.set id .dead).alloc (.cells (cs++ys.flatten) true))
    else none
   |_=>none
  else none
 |_=>none
def sliceA (sz:Nat) (x:AV) (lo hi mx:Option Nat):Option AV:=
 match x with
 |.nilsl=>if lo.getD 0=0∧hi.getD 0=0∧mx.getD 0=0 then some .nilsl else none
 |.aT tag sz' els=>
  let l:=lo.getD 0;let h:=hi.getD els.length
  if sz'=sz∧l≤h∧h≤els.length then
   match mx with
   |some m=>
    if h≤m∧m≤els.length then
     some (.aT (if m=h then 1 else 0) sz ((els.drop l).take (h -l)))
    else none
   |none=>
    if h=els.length∧(l<h∨tag<2) then some (.aT tag sz (els.drop l))
    else some (.aT 0 sz ((els.drop l).take (h -l)))
  else none
 |.sl id sz' off len cap=>
  let l:=lo.getD 0;let h:=hi.getD len
  if sz'=sz∧l≤h then
   match mx with
   |some m=>
    if h≤m∧m≤cap then
     if m=l then some (.sl id sz off 0 0) else some (.sl id sz (off+l*sz) (h -l) (m -l))
    else none
   |none=>
    if h≤cap then
     if l=cap then some (.aT 0 sz []) else some (.sl id sz (off+l*sz) (h -l) (cap -l))
    else none
  else none
 |_=>none
def sliceArrA (H:Heap) (n sz:Nat) (x:AV) (lo hi mx:Option Nat):Option AV:=
 let l:=lo.getD 0;let m:=mx.getD n;let h:=hi.getD n
 if l≤h∧h≤m∧m≤n∧(mx.isSome→hi.isSome) then
  match x with
  |.ref id o=>
   match H.cellsAt id with
   |some cs=>if o+n*sz≤cs.length then(if m=l then some (.sl id sz o 0 0) else some (.sl id sz (o+l*sz) (h -l) (m -l))) else none
   |none=>none
  |.pl cs=>if n*sz≤cs.length then some (.aT (if m=h then 1 else 0) sz ((chunkF sz n cs).drop l |>.take (h -l))) else none
  |_=>none
 else none
def sameKey (k:Sk):AV→AV→Option Bool
 |.int j a,.int j' b=>match k with
  |.i=>if j=j' then some (a==b) else none
  |_=>none
 |.str a,.str b=>match k with
  |.s=>some (a==b)
  |_=>none
 |.bool a,.bool b=>match k with
  |.b=>some (a==b)
  |_=>none
 |.agg xs,.agg ys=>match k with
  |.f sh=>eqFlat sh xs ys
  |_=>none
 |_,_=>none
def findKeyA (k:Sk) (x:AV):List (AV×AV)→Nat→Option (Option (Nat×AV))
 |[],_=>some none
 |(y,v)::es,i=>
  match sameKey k x y with
  |some true=>some (some (i,v))
  |some false=>findKeyA k x es (i+1)
  |none=>none
def keyOk (k:Sk):AV→Bool
 |.int _ _=>match k with|.i=>true|_=>false
 |.str _=>match k with|.s=>true|_=>false
 |.bool _=>match k with|.b=>true|_=>false
 |.agg xs=>match k with|.f sh=>decide (xs.length=sh.length)|_=>false
 |_=>false
def fop (ev:Arg→AV):ROp→Option (AObj×(Nat→AV))
 |.alloc zero=>some (.cells zero false,fun id=>.ref id 0)
 |.box x=>if(ev x).isTup then none else some (.cells (ev x).cells false,fun id=>.ref id 0)
 |.mkmap=>some (.map [],fun id=>.map id)
 |.mkslice sz bytes zero l c=>match asNat (ev l),asNat (ev c) with
  |some l,some c=>if l≤c∧bytes*c≤2^40∧zero.length=sz then some (.cells (List.replicate c zero).flatten false,fun id=>.sl id sz 0 l c) else none
  |_,_=>none
 |.str2b x=>match ev x with
  |.str s=>some (.tok,fun id=>.aT (id+2) 1 (u8s s))
  |_=>none
 |_=>none
def aop (ev:Arg→AV) (H:Heap):ROp→Option (AV×Heap)
 |.mov x=>some (ev x,H)
 |.pick c a b=>match ev c with
  |.bool t=>some (if t then ev a else ev b,H)
  |_=>none
 |.alloc zero=>(fop ev (.alloc zero)).map fun p=>(p.2 H.next,H.alloc p.1)
 |.box x=>(fop ev (.box x)).map fun p=>(p.2 H.next,H.alloc p.1)
 |.build zero parts=>(fillA ev zero parts).map fun cs=>(.agg cs,H)
 |.mklit sz parts=>(litA ev sz parts).map fun els=>(.aT 1 sz els,H)
 |.load agg n a=>match ev a with
  |.ref id off=>match H.cellsAt id with
   |some cs=>if off+n≤cs.length then(if agg then some (.agg ((cs.drop off).take n),H) else if n=1 then some (cs.getD off undefA,H) else none) else none
   |none=>none
  |.pl cs=>if n≤cs.length then(if agg then some (.agg (cs.take n),H) else if n=1 then some (cs.getD 0 undefA,H) else none) else none
  |_=>none
 |.store n a x=>match ev a with
  |.ref id off=>match H.get id with
   |some (.cells cs opn)=>
    let vs:=(ev x).cells
    if vs.length=n∧off+n≤cs.length∧(ev x).isTup=false then some (undefA,H.set id (.cells (splice cs off vs) opn)) else none
   |_=>none
  |_=>none
 |.bin op x y=>match ev x,ev y with
  |.int k a,.int k' b=>(binI op k a k' b).map (·,H)
  |.str a,.str b=>(binS op a b).map (·,H)
  |_,_=>none
 |.eqb neg x y=>match ev x,ev y with
  |.bool a,.bool b=>some (.bool (if neg then !(a==b) else(a==b)),H)
  |_,_=>none
 |.eqf neg shape x y=>match ev x,ev y with
  |.agg xs,.agg ys=>(eqFlat shape xs ys).map fun e=>(.bool (if neg then !e else e),H)
  |_,_=>none
 |.eqn neg k lit x y=>match isNilA k (ev x),isNilA k (ev y) with
  |some a,some b=>if(a||b)&&(k != .ifc|| !(a&&b)||lit) then some (.bool (if neg then !(a&&b) else(a&&b)),H) else none
  |_,_=>none
 |.un op x=>(unA op (ev x)).map (·,H)
 |.convi k x=>match ev x with
  |.int _ n=>some (.int k (k.wrap n),H)
  |_=>none
 |.str2b x=>(fop ev (.str2b x)).map fun p=>(p.2 H.next,H.alloc p.1)
 |.b2str x=>match ev x with
  |.str _=>none
  |v=>match elemsOf H 1 v with
   |some els=>(bytesOf els).map fun s=>(.str s,H)
   |none=>none
 |.s2ap n x=>match ev x with
  |.aT _ _ els=>if n≤els.length∧1≤els.length then some (.pl els.flatten,H) else none
  |.sl id _ off len _=>if n≤len then some (.ref id off,H) else none
  |_=>none
 |.mkif t x=>some (.iface t (ev x),H)
 |.mkfn fn first cap=>some (.func fn (first.map ev) (cap.map ev),H)
 |.mkmap=>(fop ev .mkmap).map fun p=>(p.2 H.next,H.alloc p.1)
 |.mkslice sz bytes zero l c=>(fop ev (.mkslice sz bytes zero l c)).map fun p=>(p.2 H.next,H.alloc p.1)
 |.slstr x lo hi=>match ev x,optNat ev lo,optNat ev hi with
  |.str s,some lo,some hi=>
   let l:=lo.getD 0;let h:=hi.getD s.length
   if l≤h∧h≤s.length then some (.str ((s.drop l).take (h -l)),H) else none
  |_,_,_=>none
 |.slsl sz x lo hi mx=>match optNat ev lo,optNat ev hi,optNat ev mx with
  |some lo,some hi,some mx=>if mx.isSome→hi.isSome then(sliceA sz (ev x) lo hi mx).map (·,H) else none
  |_,_,_=>none
 |.slarr n sz x lo hi mx=>match optNat ev lo,optNat ev hi,optNat ev mx with
  |some lo,some hi,some mx=>(sliceArrA H n sz (ev x) lo hi mx).map (·,H)
  |_,_,_=>none
 |.fadr off x=>match ev x with
  |.ref id o=>some (.ref id (o+off),H)
  |.pl cs=>some (.pl (cs.drop off),H)
  |_=>none
 |.iadr arr sz x i=>match asNat (ev i) with
  |some i=>match arr,ev x with
   |some n,.ref id o=>if i<n then some (.ref id (o+i*sz),H) else none
   |some n,.pl cs=>if i<n then some (.pl (cs.drop (i*sz)),H) else none
   |none,.aT _ sz' els=>if sz'=sz∧i<els.length then some (.pl (els.getD i []),H) else none
   |none,.sl id sz' off len _=>if sz'=sz∧i<len then some (.ref id (off+i*sz),H) else none
   |_,_=>none
  |none=>none
 |.idx n sz agg x i=>match asNat (ev i),ev x with
  |some i,.agg cs=>if i<n∧i*sz+sz≤cs.length then(if agg then some (.agg ((cs.drop (i*sz)).take sz),H) else if sz=1 then some (cs.getD i undefA,H) else none) else none
  |_,_=>none
 |.idxs x i=>match asNat (ev i),ev x with
  |some i,.str s=>match s[i]? with
   |some b=>some (.int .u8 b.toNat,H)
   |none=>none
  |_,_=>none
 |.tass t ok zero x=>match ev x with
  |.iface t' v=>if t'=t then some (if ok then .tup [v,.bool true] else v,H) else if ok then some (.tup [zero,.bool false],H) else none
  |.nilif=>if ok then some (.tup [zero,.bool false],H) else none
  |_=>none
 |.extr x i=>match ev x with
  |.tup vs=>if i<vs.length then some (vs.getD i undefA,H) else none
  |_=>none
 |.lens x=>match ev x with
  |.str s=>some (.int .i64 s.length,H)
  |_=>none
 |.lenl x=>match ev x with
  |.nilsl=>some (.int .i64 0,H)
  |.aT _ _ els=>some (.int .i64 els.length,H)
  |.sl _ _ _ len _=>some (.int .i64 len,H)
  |_=>none
 |.maxi x y=>match ev x,ev y with
  |.int k a,.int _ b=>some (.int k (if b>a then b else a),H)
  |_,_=>none
 |.mini x y=>match ev x,ev y with
  |.int k a,.int _ b=>some (.int k (if b<a then b else a),H)
  |_,_=>none
 |.clr sz zero x=>match ev x with
  |.nilsl|.aT _ _ []|.sl _ _ _ 0 _=>some (undefA,H)
  |.sl id sz' off len _=>if sz'=sz∧zero.length=sz then
    match H.get id with
    |some (.cells cs opn)=>if off+len*sz≤cs.length then some (undefA,H.set id (.cells (splice cs off (List.replicate len zero).flatten) opn)) else none
    |_=>none
   else none
  |_=>none
 |.append sz bytes mu x y=>match elemsOf H sz (ev y) with
  |some ys=>appendA H sz bytes mu (ev x) ys
  |none=>none
 |.lookup kind zero ok x i=>if keyOk kind (ev i) then
   match ev x with
   |.nilmap=>some (if ok then .tup [zero,.bool false] else zero,H)
   |.map id=>match H.get id with
    |some (.map es)=>match findKeyA kind (ev i) es 0 with
     |some (some (_,v))=>some (if ok then .tup [v,.bool true] else v,H)
     |some none=>some (if ok then .tup [zero,.bool false] else zero,H)
     |none=>none
    |_=>none
   |_=>none
  else none
 |.mapup kind m k v=>if keyOk kind (ev k) then
   match ev m with
   |.map id=>match H.get id with
    |some (.map es)=>match findKeyA kind (ev k) es 0 with
     |some (some (i,_))=>some (undefA,H.set id (.map (es.set i (ev k,ev v))))
     |some none=>some (undefA,H.set id (.map (es++[(ev k,ev v)])))
     |none=>none
    |_=>none
   |_=>none
  else none
 |.call _ _|.panic _|.deferc _ _|.mrange _|.mnext _|.mentry _=>none
structure Loc where
 blk:Nat
 base:Nat
 siz:Nat
 ext:Nat
structure Gh where
 loc:Nat→Option Loc
 imm:Nat→Nat→Prop
 mo:Bool
def TagOK (G:Gh) (tag b e sz len cap:Nat):Prop:=
 len≤cap∧match tag with
 |0=>True
 |1=>cap=len
 |k+2=>∃l,G.loc k=some l∧l.blk=b∧l.base=e∧l.siz=0∧l.ext=(cap -len)*sz
inductive VR (G:Gh) (w:World):AV→Value→Prop
 |bool (b:Bool):VR G w (.bool b) (.bool b)
 |int (k:IntKind) (n:Int):VR G w (.int k n) (.int k n)
 |str (s:ByteArray):VR G w (.str s.data.toList) (.string s)
 |nilp:VR G w .nilp (.pointer none)
 |ref (id off:Nat) (l:Loc) (h:G.loc id=some l):VR G w (.ref id off) (.pointer (some ⟨l.blk,l.base+off,none⟩))
 |pl (cells:List AV) (b o:Nat) (us:Nat→Value)
   (h:∀j,j<cells.length→G.imm b (o+j)∧w.cell? ⟨b,o+j,none⟩=some (us j)∧(cells.getD j undefA).one=true)
   (hv:∀j,j<cells.length→VR G w (cells.getD j undefA) (us j)):VR G w (.pl cells) (.pointer (some ⟨b,o,none⟩))
 |nilsl:VR G w .nilsl (.slice none 0 0)
 |aT (tag sz:Nat) (els:List (List AV)) (b o cap:Nat) (us:Nat→Value)
   (hu:∀e∈els,e.length=sz)
   (h:∀j,j<els.flatten.length→G.imm b (o+j)∧w.cell? ⟨b,o+j,none⟩=some (us j)∧(els.flatten.getD j undefA).one=true)
   (hv:∀j,j<els.flatten.length→VR G w (els.flatten.getD j undefA) (us j))
   (ht:TagOK G tag b (o+els.length*sz) sz els.length cap):VR G w (.aT tag sz els) (.slice (some ⟨b,o,none⟩) els.length cap)
 |lstE (tag sz b o s:Nat) (ht:tag<2):VR G w (.aT tag sz []) (.slice (some ⟨b,o,some s⟩) 0 0)
 |sl (id sz off len cap cap':Nat) (l:Loc) (h:G.loc id=some l) (hlen:len≤cap) (hin:off+cap*sz≤l.siz)
   (hcap:cap'=cap∨(off+cap*sz=l.siz∧cap≤cap'∧off+cap'*sz=l.ext)):
   VR G w (.sl id sz off len cap) (.slice (some ⟨l.blk,l.base+off,none⟩) len cap')
 |func (fn:Fn) (fs cs:List AV) (azs bs:List Value) (ha:azs.length=fs.length) (hb:bs.length=cs.length)
   (hav:∀j,j<fs.length→VR G w (fs.getD j undefA) (azs.getD j undef)) (hbv:∀j,j<cs.length→VR G w (cs.getD j undefA) (bs.getD j undef)):
   VR G w (.func fn fs cs) (.func fn azs.toArray bs.toArray)
 |nilfn:VR G w .nilfn .nilFunc
 |iface (t:TypeId) (a:AV) (v:Value) (h:VR G w a v):VR G w (.iface t a) (.iface t v)
 |nilif:VR G w .nilif .nilIface
 |agg (cs:List AV) (vs:List Value) (hl:vs.length=cs.length) (h1:∀c∈cs,c.one=true)
   (hv:∀j,j<cs.length→VR G w (cs.getD j undefA) (vs.getD j undef)):VR G w (.agg cs) (.agg vs.toArray)
 |tup (cs:List AV) (vs:List Value) (hl:vs.length=cs.length)
   (hv:∀j,j<cs.length→VR G w (cs.getD j undefA) (vs.getD j undef)):VR G w (.tup cs) (.tuple vs.toArray)
 |map (id:Nat) (l:Loc) (h:G.loc id=some l):VR G w (.map id) (.map (some l.blk))
 |nilmap:VR G w .nilmap (.map none)
 |yield (id:Nat) (l:Loc) (h:G.loc id=some l):VR G w (.yield id) (.func (.yield l.blk) #[] #[])
def VRs (G:Gh) (w:World) (xs:List AV) (vs:List Value):Prop:=
 vs.length=xs.length∧∀j,j<xs.length→VR G w (xs.getD j undefA) (vs.getD j undef)
theorem VR.eH (G:Gh) (w:World):VR G w undefA Go.undef:=VR.tup [] [] rfl (fun j hj=>absurd hj (Nat.not_lt_zero j))
theorem VR.mono {G G':Gh} {w w':World} {a:AV} {u:Value} (h:VR G w a u) (hl:∀id l,G.loc id=some l→G'.loc id=some l)
 (hi:∀b o,G.imm b o→G'.imm b o∧w'.cell? ⟨b,o,none⟩=w.cell? ⟨b,o,none⟩):VR G' w' a u:=by
 induction h with
 |bool b=>exact .bool b
 |int k n=>exact .int k n
 |str s=>exact .str s
 |nilp=>exact .nilp
 |ref id off l h=>exact .ref id off l (hl _ _ h)
 |pl cells b o us h hv ih=>exact .pl cells b o us (fun j hj=>⟨(hi _ _ (h j hj).1).1,by rw[(hi _ _ (h j hj).1).2];exact(h j hj).2.1,(h j hj).2.2⟩) ih
 |nilsl=>exact .nilsl
 |aT tag sz els b o cap us hu h hv ht ih=>
  refine .aT tag sz els b o cap us hu (fun j hj=>⟨(hi _ _ (h j hj).1).1,by rw[(hi _ _ (h j hj).1).2];exact(h j hj).2.1,(h j hj).2.2⟩) ih ?_;refine⟨ht.1,?_⟩;have h2:=ht.2
  match tag,h2 with
  |0,_=>trivial
  |1,h2=>exact h2
  |k+2,⟨l,h1,h2⟩=>exact⟨l,hl _ _ h1,h2⟩
 |lstE tag sz b o s ht=>exact .lstE tag sz b o s ht
 |sl id sz off len cap cap' l h hlen hin hcap=>exact .sl id sz off len cap cap' l (hl _ _ h) hlen hin hcap
 |func fn fs cs azs bs ha hb hav hbv iha ihb=>exact .func fn fs cs azs bs ha hb iha ihb
 |nilfn=>exact .nilfn
 |iface t a v h ih=>exact .iface t a v ih
 |nilif=>exact .nilif
 |agg cs vs hl' h1 hv ih=>exact .agg cs vs hl' h1 ih
 |tup cs vs hl' hv ih=>exact .tup cs vs hl' ih
 |map id l h=>exact .map id l (hl _ _ h)
 |nilmap=>exact .nilmap
 |yield id l h=>exact .yield id l (hl _ _ h)
def oneV:Value→Bool
 |.agg _|.tuple _=>false
 |_=>true
theorem VR.one {G:Gh} {w:World} {a:AV} {u:Value} (h:VR G w a u):a.one=oneV u:=by
 cases h<;>rfl
def Heap.live (H:Heap) (id:Nat):Prop:=∃o,H.get id=some o∧o.live=true
def Born (ents:Array MapEntry) (clock:Nat):Prop:=
 (∀i,i<ents.size→(ents.getD i default).born<clock)∧∀i j,i<ents.size→j<ents.size→(ents.getD i default).born=(ents.getD j default).born→i=j
def ObOK (g:Genv) (G:Gh) (w:World) (l:Loc):AObj→Prop
 |.map es=>∃ents clock,w.heap[l.blk]?=some (.map ents clock)∧ents.size=es.length∧Born ents clock∧
   ∀j,j<es.length→VR G w (es.getD j (undefA,undefA)).1 (ents.getD j default).key∧VR G w (es.getD j (undefA,undefA)).2 (ents.getD j default).val
 |.mapf es bs c mb=>l.blk=mb∧bs.Nodup∧(∀b∈bs,b<c)∧∃ents:Array MapEntry,w.heap[l.blk]?=some (.map ents c)∧ents.toList.map (·.born)=bs∧bs.length=es.length∧
   ∀j,j<es.length→VR G w (es.getD j (undefA,undefA)).1 (ents.getD j default).key∧VR G w (es.getD j (undefA,undefA)).2 (ents.getD j default).val
 |.iter m mb c seen=>w.heap[l.blk]?=some (.mapIter (some mb) c seen.toArray c)∧VR G w (.map m) (.map (some mb))
 |.loop k sn st=>∃r,g.lok k r∧w.heap[l.blk]?=some (.loop (loopAt r st))∧VRs G w sn r.tmps.toList
 |.dfd=>w.heap[l.blk]?=some (.deferred (some []))
 |.dfx=>w.heap[l.blk]?=some (.deferred none)
 |_=>True
theorem ObOK.mono {g:Genv} {G G':Gh} {w w':World} {l:Loc} {o:AObj} (h:ObOK g G w l o) (hb:w'.heap[l.blk]?=w.heap[l.blk]?) (hv:∀a u,VR G w a u→VR G' w' a u):ObOK g G' w' l o:=by
 cases o with
 |map es=>
  obtain⟨ents,clock,a1,a2,a3,a4⟩:=h;exact⟨ents,clock,by rw[hb];exact a1,a2,a3,fun j hj=>⟨hv _ _ (a4 j hj).1,hv _ _ (a4 j hj).2⟩⟩
 |mapf es bs c mb=>
  obtain⟨a1,a2,a3,ents,a4,a5,a6,a7⟩:=h;exact⟨a1,a2,a3,ents,hb.trans a4,a5,a6,fun j hj=>⟨hv _ _ (a7 j hj).1,hv _ _ (a7 j hj).2⟩⟩
 |iter m mb c seen=>exact⟨hb.trans h.1,hv _ _ h.2⟩
 |loop k sn st=>
  obtain⟨r,h0,h1,h2⟩:=h;exact⟨r,h0,hb.trans h1,h2.1,fun j hj=>hv _ _ (h2.2 j hj)⟩
 |dfd=>exact hb.trans h
 |dfx=>exact hb.trans h
 |_=>trivial
theorem ObOK.lt {g:Genv} {G:Gh} {w:World} {l:Loc} {o:AObj} (ho:o.blk=true) (h:ObOK g G w l o):l.blk<w.heap.size:=by
 cases o with
 |map es=>obtain⟨ents,clock,a1,_⟩:=h;exact(Array.getElem?_eq_some_iff.1 a1).1
 |mapf es bs c mb=>obtain⟨_,_,_,ents,a1,_⟩:=h;exact(Array.getElem?_eq_some_iff.1 a1).1
 |iter m mb c seen=>exact(Array.getElem?_eq_some_iff.1 h.1).1
 |loop k sn st=>obtain⟨r,_,h1,_⟩:=h;exact(Array.getElem?_eq_some_iff.1 h1).1
 |dfd=>exact(Array.getElem?_eq_some_iff.1 (show w.heap[l.blk]?=some _ from h)).1
 |dfx=>exact(Array.getElem?_eq_some_iff.1 (show w.heap[l.blk]?=some _ from h)).1
 |_=>cases ho
theorem uM {o:AObj} (h:o.blk=true):o.live=true:=by
 cases o<;>first|rfl|cases h
theorem ObOK.qC {g:Genv} {G:Gh} {w:World} {l:Loc} {o:AObj} (ho:o.blk=true) (h:ObOK g G w l o) {c:Array Value} {el:TypeId} {fz:Nat×Nat}:w.heap[l.blk]?≠some (.cells c el fz):=by
 intro hc
 cases o with
 |map es=>obtain⟨ents,clock,a1,_⟩:=h;rw[hc] at a1;cases a1
 |mapf es bs c mb=>obtain⟨_,_,_,ents,a1,_⟩:=h;rw[hc] at a1;cases a1
 |iter m mb c seen=>have h:=h.1;rw[hc] at h;cases h
 |loop k sn st=>obtain⟨r,_,h,_⟩:=h;rw[hc] at h;cases h
 |dfd=>have h:w.heap[l.blk]?=some _:=h;rw[hc] at h;cases h
 |dfx=>have h:w.heap[l.blk]?=some _:=h;rw[hc] at h;cases h
 |_=>cases ho
structure WR (g:Genv) (G:Gh) (H:Heap) (w:World):Prop where
 cells:∀id l cs opn,G.loc id=some l→H.get id=some (.cells cs opn)→
  l.siz=cs.length∧l.siz≤l.ext∧(opn=false→l.siz=l.ext)∧(∀c∈cs,c.one=true)∧
  ∀j,j<cs.length→∃u,w.cell? ⟨l.blk,l.base+j,none⟩=some u∧VR G w (cs.getD j undefA) u
 room:∀id l,G.loc id=some l→((∃cs opn,H.get id=some (.cells cs opn))∨H.get id=some .tok)→
  ∃c el fz,w.heap[l.blk]?=some (.cells c el fz)∧l.base+l.ext≤c.size∧∀j,j<l.ext→w.frozen? ⟨l.blk,l.base+j,none⟩=false
 disj:∀id id' l l',id≠id'→G.loc id=some l→G.loc id'=some l'→H.live id→H.live id'→
  l.blk≠l'.blk∨l.base+l.ext≤l'.base∨l'.base+l'.ext≤l.base
 immd:∀id l,G.loc id=some l→H.live id→∀j,j<l.ext→¬G.imm l.blk (l.base+j)
 mapr:∀id l o,G.loc id=some l→H.get id=some o→o.blk=true→l.base=0∧l.ext=1∧ObOK g G w l o
 lt:∀id l,G.loc id=some l→id<H.next
 imme:∀b o,G.imm b o→∃v,w.cell? ⟨b,o,none⟩=some v
 glob:∀n cs,g n=some cs→VR G w (.pl cs) (.pointer (some ⟨n,0,none⟩))
 mo:G.mo=g.mo
structure Same (w w':World):Prop where
 os:w'.os=w.os
 output:w'.output=w.output
 tape:w'.tape=w.tape
 drawn:w.drawn≤w'.drawn
theorem Same.now {w w':World} (h1:w'.os=w.os:=by rfl) (h2:w'.output=w.output:=by rfl) (h3:w'.tape=w.tape:=by rfl) (h4:w.drawn≤w'.drawn:=by first|exact Nat.le_refl _|exact Nat.le_succ _|exact Nat.le_add_right _ _):Same w w':=⟨h1,h2,h3,h4⟩
theorem Same.trans {w w' w'':World} (h:Same w w') (h':Same w' w''):Same w w'':=⟨h'.os.trans h.os,h'.output.trans h.output,h'.tape.trans h.tape,Nat.le_trans h.drawn h'.drawn⟩
structure SameB (b:Bool) (w w':World):Prop where
 os:w'.os=w.os
 output:w'.output=w.output
 tape:w'.tape=w.tape
 drawn:b=true→w.drawn≤w'.drawn
theorem Same.toB {w w':World} (h:Same w w') (b:Bool):SameB b w w':=⟨h.os,h.output,h.tape,fun _=>h.drawn⟩
theorem SameB.trans {b:Bool} {w w' w'':World} (h:SameB b w w') (h':SameB b w' w''):SameB b w w'':=⟨h'.os.trans h.os,h'.output.trans h.output,h'.tape.trans h.tape,fun hb=>Nat.le_trans (h.drawn hb) (h'.drawn hb)⟩
structure Ext (G:Gh) (H:Heap) (w:World) (G':Gh) (H':Heap) (w':World):Prop where
 loc:∀id l,G.loc id=some l→G'.loc id=some l
 imm:∀b o,G.imm b o→G'.imm b o∧w'.cell? ⟨b,o,none⟩=w.cell? ⟨b,o,none⟩
 size:w.heap.size≤w'.heap.size
 frame:∀b,b<w.heap.size→(∀id l,G.loc id=some l→H.live id→l.blk≠b)→w'.heap[b]?=w.heap[b]?
 blks:∀id l,G'.loc id=some l→H'.live id→w.heap.size≤l.blk∨∃id0 l0,G.loc id0=some l0∧H.live id0∧l0.blk=l.blk
 immn:∀b o,G'.imm b o→G.imm b o∨w.heap.size≤b∨∃id0 l0,G.loc id0=some l0∧H.live id0∧l0.blk=b
 next:H.next≤H'.next
 news:∀id l,G'.loc id=some l→G.loc id=none→H.next≤id
 dead:∀id l,G.loc id=some l→H'.live id→H.live id
 mo:G'.mo=G.mo
 same:SameB G.mo w w'
theorem Ext.refl (G:Gh) (H:Heap) (w:World):Ext G H w G H w where
 loc:=fun _ _ h=>h
 imm:=fun _ _ h=>⟨h,rfl⟩
 size:=Nat.le_refl _
 frame:=fun _ _ _=>rfl
 blks:=fun id l h hl=>.inr ⟨id,l,h,hl,rfl⟩
 immn:=fun _ _ h=>.inl h
 next:=Nat.le_refl _
 news:=fun _ _ h h'=>by rw[h] at h';cases h'
 dead:=fun _ _ _ h=>h
 mo:=rfl
 same:=Same.toB .now _
theorem Ext.trans {G G' G'':Gh} {H H' H'':Heap} {w w' w'':World} (h:Ext G H w G' H' w') (h':Ext G' H' w' G'' H'' w''):Ext G H w G'' H'' w'' where
 loc:=fun id l hl=>h'.loc _ _ (h.loc _ _ hl)
 imm:=fun b o hi=>⟨(h'.imm _ _ (h.imm _ _ hi).1).1,((h'.imm _ _ (h.imm _ _ hi).1).2).trans (h.imm _ _ hi).2⟩
 size:=Nat.le_trans h.size h'.size
 frame:=fun b hb hn=>by
  rw[h'.frame b (Nat.lt_of_lt_of_le hb h.size) (fun id l hl hv=>?_),h.frame b hb hn]
  rcases h.blks id l hl hv with hge|⟨id0,l0,hl0,hv0,he⟩
  · omega
  · rw[←he];exact hn id0 l0 hl0 hv0
 blks:=fun id l hl hv=>by
  rcases h'.blks id l hl hv with hge|⟨id0,l0,hl0,hv0,he⟩
  · exact .inl (Nat.le_trans h.size hge)
  · rcases h.blks id0 l0 hl0 hv0 with hge|⟨id1,l1,hl1,hv1,he1⟩
    · exact .inl (by omega)
    · exact .inr ⟨id1,l1,hl1,hv1,he1.trans he⟩
 immn:=fun b o hi=>by
  rcases h'.immn b o hi with hi|hge|⟨id0,l0,hl0,hv0,he⟩
  · exact h.immn b o hi
  · exact .inr (.inl (Nat.le_trans h.size hge))
  · rcases h.blks id0 l0 hl0 hv0 with hge|⟨id1,l1,hl1,hv1,he1⟩
    · exact .inr (.inl (by omega))
    · exact .inr (.inr ⟨id1,l1,hl1,hv1,he1.trans he⟩)
 next:=Nat.le_trans h.next h'.next
 news:=fun id l hl hn=>by
  cases h1:G'.loc id with
  |none=>exact Nat.le_trans h.next (h'.news id l hl h1)
  |some l1=>exact h.news id l1 h1 hn
 dead:=fun id l hl hv=>h.dead id l hl (h'.dead id l (h.loc _ _ hl) hv)
 mo:=h'.mo.trans h.mo
 same:=h.same.trans (h.mo▸h'.same)
theorem VR.ext {G G':Gh} {H H':Heap} {w w':World} {a:AV} {u:Value} (h:VR G w a u) (e:Ext G H w G' H' w'):VR G' w' a u:=
 h.mono e.loc e.imm
theorem VRs.ext {G G':Gh} {H H':Heap} {w w':World} {xs:List AV} {vs:List Value} (h:VRs G w xs vs) (e:Ext G H w G' H' w'):VRs G' w' xs vs:=
 ⟨h.1,fun j hj=>(h.2 j hj).ext e⟩
theorem Heap.dN {H:Heap} {id:Nat} {o:AObj} {m:Nat}:(H.set id o).live m↔(m=id∧o.live=true)∨(m≠id∧H.live m):=by
 unfold Heap.live;rw[Heap.aB];by_cases h:m=id
 · subst h
   simp
 · simp[h]
theorem dV {w:World} {b o:Nat} {c:Array Value} {el:TypeId} {fz:Nat×Nat} (h:w.heap[b]?=some (.cells c el fz)):
 w.cell? ⟨b,o,none⟩=c[o]?:=by
 unfold World.cell?;simp[h]
theorem fT {w:World} {b o:Nat} {c:Array Value} {el:TypeId} {fz:Nat×Nat} (h:w.heap[b]?=some (.cells c el fz)):
 w.frozen? ⟨b,o,none⟩=(decide (fz.1≤o)&&decide (o<fz.2)):=by
 unfold World.frozen?;simp[h]
theorem lF {w:World} {b o:Nat} {v:Value} (h:w.cell? ⟨b,o,none⟩=some v):∃c el fz,w.heap[b]?=some (.cells c el fz)∧c[o]?=some v:=by
 unfold World.cell? at h;split at h
 · rename_i c el fz hc
   exact⟨c,el,fz,hc,by simpa using h⟩
 · cases h
theorem cD {w w':World} {b o:Nat} (h:w'.heap[b]?=w.heap[b]?):w'.cell? ⟨b,o,none⟩=w.cell? ⟨b,o,none⟩:=by
 unfold World.cell?;simp[h]
theorem dP {w w':World} {b o:Nat} (h:w'.heap[b]?=w.heap[b]?):w'.frozen? ⟨b,o,none⟩=w.frozen? ⟨b,o,none⟩:=by
 unfold World.frozen?;simp[h]
theorem WR.of_heap {g:Genv} {G:Gh} {H:Heap} {w w':World} (h:WR g G H w) (hw:w'.heap=w.heap):WR g G H w':=by
 have hb:∀b:Nat,w'.heap[b]?=w.heap[b]?:=fun b=>by rw[hw]
 have hc:∀b o,w'.cell? ⟨b,o,none⟩=w.cell? ⟨b,o,none⟩:=fun b o=>cD (hb b);have hm:∀{a u},VR G w a u→VR G w' a u:=fun hv=>hv.mono (fun _ _ h=>h) (fun b o hi=>⟨hi,hc b o⟩)
 exact {
  cells:=fun id l cs opn h1 h2=>by
   obtain⟨a1,a2,a3,a4,a5⟩:=h.cells id l cs opn h1 h2;refine⟨a1,a2,a3,a4,fun j hj=>?_⟩;obtain⟨u,hu,hv⟩:=a5 j hj;exact⟨u,by rw[hc];exact hu,hm hv⟩
  room:=fun id l h1 h2=>by
   obtain⟨c,el,fz,a1,a2,a3⟩:=h.room id l h1 h2;exact⟨c,el,fz,by rw[hb];exact a1,a2,fun j hj=>by rw[dP (hb _)];exact a3 j hj⟩
  disj:=h.disj
  immd:=h.immd
  mapr:=fun id l o h1 h2 hk=>let⟨a1,a2,a3⟩:=h.mapr id l o h1 h2 hk;⟨a1,a2,a3.mono (hb _) fun _ _=>hm⟩
  lt:=h.lt
  imme:=fun b o hi=>by rw[hc];exact h.imme b o hi
  glob:=fun n cs hn=>hm (h.glob n cs hn)
  mo:=h.mo}
theorem Ext.of_heap {G:Gh} {H:Heap} {w w':World} (hw:w'.heap=w.heap) (hs:Same w w'):Ext G H w G H w' where
 loc:=fun _ _ h=>h
 imm:=fun b o h=>⟨h,cD (by rw[hw])⟩
 size:=by rw[hw];exact Nat.le_refl _
 frame:=fun _ _ _=>by rw[hw]
 blks:=fun id l h hl=>.inr ⟨id,l,h,hl,rfl⟩
 immn:=fun _ _ h=>.inl h
 next:=Nat.le_refl _
 news:=fun _ _ h h'=>by rw[h] at h';cases h'
 dead:=fun _ _ _ h=>h
 mo:=rfl
 same:=hs.toB _
end Go.Av
