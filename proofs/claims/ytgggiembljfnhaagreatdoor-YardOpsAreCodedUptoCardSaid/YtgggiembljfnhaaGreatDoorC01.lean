/-
  Part of the proof of statement 14
-/
import Derived.Calls
import Derived.Orders
import Derived.Laws.Sem
import Derived.Laws.Cells
import Derived.Laws.Entries
import Derived.Laws.Strings
set_option linter.unusedVariables false
set_option linter.unusedSimpArgs false
set_option linter.unusedSimpArgs false
set_option linter.defProp false
namespace Go
def Aa:=@Option.some.inj
def Ab:=@Option.some.injEq
def Ac:=@List.getElem?_eq_getElem
def Ad:=@Prod.mk.injEq
def Ae:=@Nat.le_of_ble_eq_true
def Af:=@Option.map_eq_some_iff
def Ag:=@List.length_append
def Ah:=@List.mem_cons
def Ai:=@Nat.le_refl
def Aj:=@Bool.and_eq_true
def Ak:=@List.length_cons
def Al:=@List.not_mem_nil
def Am:=@List.cons.injEq
def An:=@List.getElem?_eq_some_iff
def Ao:=@List.mem_cons_of_mem
def Ap:=@List.getElem_mem
def Aq:=@List.mem_cons_self
def Ar:=@List.length_nil
def As:=@decide_eq_false
def Au:=@Nat.eq_of_beq_eq_true
def Aw:=@Nat.lt_of_lt_of_le
def Ax:=@List.length_map
def Ay:=@Bool.false_eq_true
def Az:=@List.mem_append
def Ba:=@Array.getD_eq_getD_getElem?
def Bb:=@Option.getD_some
def Bc:=@List.all_eq_true
def Bd:=@Nat.add_assoc
def Be:=@List.map_cons
def Bf:=@List.mem_of_mem_take
def Bg:=@List.append_assoc
def Bh:=@Nat.not_lt_zero
def Bi:=@Option.map_some
def Bj:=@decide_eq_true_eq
def Bk:=@decide_eq_true
def Bl:=@List.take_of_length_le
def Bm:=@List.take_length
def Bn:=@List.mem_range
def Bo:=@List.flatten_cons
def Bp:=@List.getElem?_eq_none
def Bq:=@List.mem_map
def Br:=@Option.isSome_some
def Bs:=@and_true
def Bt:=@congrArg
def Bu:=@if_false
def Bv:=@List.take_add_one
def Bw:=@Array.getElem?_eq_some_iff
def Bx:=@or_false
def By:=@Nat.le_trans
def Bz:=@Nat.mod_eq_of_lt
def Ca:=@Option.isSome_none
def Cb:=@List.length_take
def Cc:=@Nat.zero_add
def Cd:=@Nat.mul_le_mul_right
def Ce:=@Nat.add_mul
def Cf:=@List.append_nil
def Cg:=@List.nil_append
def Ch:=@Nat.mul_le_mul
def Ci:=@List.map_nil
def Cj:=@List.getElem?_map
def Ck:=@List.getD_eq_getElem?_getD
def Cl:=@List.length_range
def Cm:=@Array.length_toList
def Cn:=@Nat.mul_comm
def Co:=@decide_eq_false_iff_not
def Cp:=@Nat.add_zero
def Cq:=@List.flatMap_cons
def Cr:=@Bool.not_eq_true'
def Cs:=@Nat.zero_le
def Ct:=@Classical.byContradiction
def Cu:=@Bool.true_and
def Cv:=@List.length_drop
def Cw:=@List.take_succ_cons
def Cx:=@Bool.and_self
def Cy:=@List.mem_of_mem_drop
def Cz:=@List.getElem?_append
def Da:=@List.eq_nil_of_length_eq_zero
def Db:=@Array.getElem?_eq_getElem
def Dc:=@List.mem_singleton
def Dd:=@Option.getD_none
def De:=@List.getElem?_toArray
def Df:=@List.getElem?_cons_succ
def Dg:=@Bool.or_eq_true
def Dh:=@Nat.div_eq_of_lt
def Di:=@List.getD_cons_zero
def Dk:=@Nat.mul_one
def Dl:=@Int.mul_le_mul_of_nonneg_left
def Dm:=@Nat.pow_succ
def Dn:=@List.mem_filter
def Dp:=@Nat.mod_lt
def Dq:=@of_decide_eq_true
def Dr:=@beq_iff_eq
def Ds:=@Nat.succ_mul
def Dt:=@Nat.lt_or_ge
def Du:=@Int.fdiv_eq_ediv_of_nonneg
def Dv:=@Array.ext'
def Dw:=@List.flatten_append
def Dx:=@List.map_append
def Dy:=@List.getElem?_append_left
def Dz:=@Nat.div_lt_iff_lt_mul
def Ea:=@Nat.lt_succ_self
def Eb:=@Nat.blt_eq
def Ec:=@List.pairwise_cons
def Ed:=@List.getElem?_drop
def Ee:=@Nat.lt_irrefl
def Ef:=@List.take_append_of_le_length
def Eg:=@bne_self_eq_false
def Eh:=@List.getElem?_set
def Ei:=@List.getElem?_replicate
def Ej:=@List.ext_getElem?
def Ek:=@Int.gcd_dvd_right
def El:=@bne_iff_ne
def Em:=@Nat.div_add_mod
def En:=@Array.getElem?_setIfInBounds
def Eo:=@Nat.mul_le_mul_left
def Ep:=@List.replicate_succ
def Er:=@List.map_congr_left
def Es:=@List.getD_cons_succ
def Et:=@List.drop_of_length_le
def Eu:=@beq_self_eq_true
def Ev:=@List.cons_append
def Ew:=@List.take_zero
def Ex:=@List.drop_zero
def Ey:=@BitVec.toNat_ofNat
def Ez:=@List.pairwise_iff_getElem
def Fa:=@Nat.pow_le_pow_right
def Fb:=@Nat.mul_add
def Fc:=@List.size_toArray
def Fe:=@Int.lt_trichotomy
def Ff:=@List.getElem_of_mem
def Fg:=@List.mem_flatten
def Fh:=@List.mem_flatMap
def Fj:=@List.getElem?_cons_zero
def Fk:=@List.ext_getElem
def Fl:=@List.countP_cons
def Fm:=@Nat.le_succ
def Fo:=@Int.lt_or_eq_of_le
def Fp:=@Nat.mul_assoc
def Fq:=@Bool.not_true
def Fs:=@List.length_filter_le
def Ft:=@Array.getElem?_modify
def Fu:=@Int.mul_lt_mul_of_pos_right
def Fv:=@Nat.one_mul
def Fx:=@Nat.add_mul_div_left
def Fy:=@List.mem_iff_getElem
def Fz:=@List.getElem?_append_right
def Ga:=@Bool.not_false
def Gb:=@Nat.le_add_right
def Gc:=@Nat.add_comm
def Gd:=@Int.mul_zero
def Ge:=@Int.gcd_dvd_left
def Gf:=@List.extract_eq_take_drop
def Gg:=@beq_eq_false_iff_ne
def Gi:=@Int.toNat_of_nonneg
def Gj:=@Bool.and_true
def Gk:=@Bool.eq_iff_iff
def Gl:=@List.getElem_range
def Gm:=@List.getElem?_take
def Gn:=@decide_true
def Gp:=@List.length_eq_zero_iff
def Gq:=@Nat.sub_zero
def Gr:=@Nat.lt_trans
def Gs:=@Nat.div_div_eq_div_mul
def Gt:=@List.drop_drop
def Gu:=@Int.toNat_natCast
def Gv:=@Array.getElem?_eq_none
def Gw:=@List.take_append_drop
def Gx:=@Classical.choose_spec
def Gy:=@decide_eq_decide
def Gz:=@Nat.le_of_not_lt
def Ha:=@List.getElem_map
def Hb:=@List.eq_nil_iff_forall_not_mem
def Hc:=@List.any_eq_true
def Hd:=@Array.toList_map
def Hg:=@List.all_cons
def Hh:=@Int.dvd_trans
def Hi:=@List.drop_append_of_le_length
def Hj:=@Int.neg_mul
def Hl:=@Int.mul_pos
def Ho:=@List.length_set
def Hq:=@List.getElem?_range
def Hr:=@Nat.zero_mul
def Ht:=@List.map_map
def Hu:=@Bool.or_true
def Hv:=@Nat.lt_of_le_of_lt
def Hw:=@Int.tdiv_eq_ediv_of_nonneg
def Hx:=@List.drop_eq_getElem_cons
def Hy:=@Int.eq_of_mul_eq_mul_left
def Hz:=@Decidable.byContradiction
def Ia:=@not_false_eq_true
def Ib:=@Nat.pow_add
def Ic:=@Nat.lt_trichotomy
def Ie:=@List.pairwise_map
def Ig:=@List.Pairwise.imp_of_mem
def Ih:=@Bool.or_false
def Ii:=@true_and
def Ij:=@Int.tdiv_eq_ediv_of_dvd
def Ik:=@Bool.not_eq_true
def Il:=@decide_false
def Im:=@List.pairwise_lt_range
def Io:=@List.drop_eq_nil_of_le
def Ip:=@Decidable.em
def Iq:=@Array.toList_replicate
def Ir:=@Nat.div_le_self
def Is:=@List.sizeOf_lt_of_mem
def It:=@List.length_replicate
def Iu:=@Bool.beq_eq_decide_eq
def Iv:=@Array.getElem?_toList
def Iw:=@Nat.pow_pos
def Ix:=@List.range_eq_range'
def Iy:=@List.getElem?_set_ne
def Iz:=@Int.mul_ediv_cancel'
def Ja:=@Bool.and_false
def Jb:=@Int.neg_ediv_of_dvd
def Jc:=@Array.toList_append
def Jd:=@Array.getElem?_push
def Je:=@List.take_add
def Jf:=@List.map_take
def Jg:=@List.drop_nil
def Jh:=@Bool.false_or
end Go
namespace Go.Av
open Go
inductive AV where
 |bool (b:Bool)
 |int (k:IntKind) (n:Int)
 |str (s:List UInt8)
 |zX
 |ref (id off:Nat)
 |pl (cells:List AV)
 |aF
 |bH (tag sz:Nat) (els:List (List AV))
 |sl (id sz off len cap:Nat)
 |func (fn:Fn) (first captured:List AV)
 |vZ
 |iface (t:TypeId) (v:AV)
 |lZ
 |agg (cs:List AV)
 |eZ (vs:List AV)
 |map (id:Nat)
 |oZ
 |yield (id:Nat)
instance:Inhabited AV:=⟨.zX⟩
def aC:AV:=.eZ []
def AV.one:AV->Bool
 |.agg _|.eZ _=>false
 |_=>true
def AV.oK:AV->Bool
 |.eZ _=>true
 |_=>false
def AV.cells:AV->List AV
 |.agg cs=>cs
 |v=>[v]
inductive Arg where
 |tmp (t:Nat)
 |const (v:AV)
 |fY (g:Nat)
inductive Sk where
 |b|i|s
 |f (sh:List Sk)
inductive Nk where
 |ptr|Ww|sli|mp|fn
 deriving DecidableEq
inductive cZ where
 |CI (x:Arg)
 |pick (c a b:Arg)
 |alloc (zero:List AV)
 |box (x:Arg)
 |build (zero:List AV) (parts:List (Nat×Nat×Arg))
 |KK (sz:Nat) (parts:List Arg)
 |load (agg:Bool) (n:Nat) (a:Arg)
 |store (n:Nat) (a x:Arg)
 |KM (x:Arg)
 |bin (op:BinOp) (x y:Arg)
 |eqb (neg:Bool) (x y:Arg)
 |eqf (neg:Bool) (shape:List Sk) (x y:Arg)
 |Xp (neg:Bool) (k:Nk) (lit:Bool) (x y:Arg)
 |un (op:UnOp) (x:Arg)
 |JH (k:IntKind) (x:Arg)
 |wM (x:Arg)
 |yA (x:Arg)
 |Sw (n:Nat) (x:Arg)
 |SV (t:TypeId) (x:Arg)
 |SU (fn:Fn) (first cap:List Arg)
 |uJ
 |gM (sz bytes:Nat) (zero:List AV) (l c:Arg)
 |Kn (x:Arg) (lo hi:Option Arg)
 |Sx (sz:Nat) (x:Arg) (lo hi mx:Option Arg)
 |yJ (n sz:Nat) (x:Arg) (lo hi mx:Option Arg)
 |Ru (off:Nat) (x:Arg)
 |Nl (arr:Option Nat) (sz:Nat) (x i:Arg)
 |idx (n sz:Nat) (agg:Bool) (x i:Arg)
 |idxs (x i:Arg)
 |TE (t:TypeId) (ok:Bool) (zero:AV) (x:Arg)
 |Rr (x:Arg) (i:Nat)
 |lens (x:Arg)
 |GU (x:Arg)
 |QA (x y:Arg)
 |QC (x y:Arg)
 |zw (sz:Nat) (zero:List AV) (x:Arg)
 |append (sz bytes:Nat) (mu:Bool) (x y:Arg)
 |copy (sz:Nat) (d s:Arg)
 |lookup (kind:Sk) (zero:AV) (ok:Bool) (x i:Arg)
 |KH (kind:Sk) (m k v:Arg)
 |rF (x:Arg)
 |yE (x:Arg)
 |tX (x:Arg)
 |call (f:Arg) (args:List Arg)
 |panic (x:Arg)
 |iH (f:Arg) (args:List Arg)
structure aN where
 dst:Option Nat
 op:cZ
 guard:Option (Nat×Bool)
inductive bP where
 |skip
 |ops (rl:List aN)
 |draw (rl:List aN) (pairs:List (Nat×Nat))
 |seq (a b:bP)
 |cond (c:Arg) (a b:bP)
 |block (id:Nat) (a:bP)
 |loop (a:bP)
 |exit (id:Nat)
 |ret
 |lK (c:Arg) (ps:List Nat) (LB body:bP)
structure IP where
 ps:List Nat
 LB:bP
 body:bP
structure aT where
 val:Nat->Option (List AV)
 lok:IP->Loop->Prop
instance:CoeFun aT (fun _=>Nat->Option (List AV)):=⟨aT.val⟩
def aT.mo (g:aT):Bool:=(g.val 999999999).isNone
def g0:aT:=⟨fun _=>none,fun _ _=>False⟩
inductive bu where
 |ret
 |exit (id:Nat)
inductive LSt where
 |ready
 |busy
 |done (e:bu)
 |over (e:Option bu)
inductive dU where
 |cells (cs:List AV) (dH:Bool)
 |tok
 |map (es:List (AV×AV))
 |pQ (es:List (AV×AV)) (bs:List Nat) (c mb:Nat)
 |iter (m mb c:Nat) (seen:List Nat)
 |loop (k:IP) (sn:List AV) (st:LSt)
 |NQ
 |nz
 |dead
def dU.cC:dU->Bool
 |.map _|.pQ _ _ _ _|.iter _ _ _ _|.loop _ _ _|.NQ|.nz=>true
 |_=>false
def bu.code:bu->Code
 |.ret=>.ret
 |.exit id=>.exit id
def kK (r:Loop):LSt->Loop
 |.ready=>{r with state:=.ready,pending:=none}
 |.busy=>{r with state:=.busy,pending:=none}
 |.done e=>{r with state:=.done,pending:=some e.code}
 |.over e=>{r with state:=.exhausted,pending:=e.map bu.code}
def dU.live:dU->Bool
 |.dead=>false
 |_=>true
inductive Tr where
 |nil
 |node (o:Option dU) (l r:Tr)
def Tr.get:Tr->Nat->Option dU
 |.nil,_=>none
 |.node o l r,n=>if n=0 then o else if n%2=1 then l.get (n / 2) else r.get (n / 2 -1)
def Tr.root:Tr->Option dU
 |.nil=>none
 |.node o _ _=>o
def Tr.left:Tr->Tr
 |.nil=>.nil
 |.node _ l _=>l
def Tr.right:Tr->Tr
 |.nil=>.nil
 |.node _ _ r=>r
def Tr.wK:Nat->Tr->Nat->dU->Tr
 |0,t,_,o=>.node (some o) t.left t.right
 |f+1,t,n,o=>
  if n=0 then .node (some o) t.left t.right
  else if n%2=1 then .node t.root (Tr.wK f t.left (n / 2) o) t.right
  else .node t.root t.left (Tr.wK f t.right (n / 2 -1) o)
def Tr.set (t:Tr) (n:Nat) (o:dU):Tr:=Tr.wK n t n o
theorem Tr.Tk (t:Tr) (n:Nat):t.get n=if n=0 then t.root else if n%2=1 then t.left.get (n / 2) else t.right.get (n / 2 -1):=by
 cases t with
 |nil=>simp[Tr.get,Tr.root,Tr.left,Tr.right]
 |node o l r=>simp[Tr.get,Tr.root,Tr.left,Tr.right]
theorem Tr.BK:∀(f:Nat) (t:Tr) (n:Nat) (o:dU) (m:Nat),n<=f->(Tr.wK f t n o).get m=if m=n then some o else t.get m:=by
 intro f
 induction f with
 |zero=>
  intro t n o m hn;obtain rfl:n=0:=by omega
  rw[Tr.Tk t m];simp only[Tr.wK,Tr.get];by_cases hm:m=0<;>simp[hm]
 |succ f ih=>
  intro t n o m hn;rw[Tr.Tk t m];simp only[Tr.wK];by_cases h0:n=0
  . subst h0;simp only[if_true,Tr.get];by_cases hm:m=0<;>simp[hm]
  by_cases ij:n%2=1
  . simp only[h0,ij,if_true,Bu,Tr.get];by_cases hm:m=0
    . have :¬m=n:=(by omega);simp[hm,Ne.symm h0]
    by_cases hmo:m%2=1
    . simp only[hm,hmo,if_true,Bu];rw[ih _ _ _ _ (by omega)];by_cases he:m=n
      . simp[he]
      rw[if_neg he,if_neg (by omega)]
    simp only[hm,hmo,Bu];rw[if_neg (by intro he;subst he;exact hmo ij)]
  simp only[h0,ij,Bu,Tr.get];by_cases hm:m=0
  . simp[hm,Ne.symm h0]
  by_cases hmo:m%2=1
  . simp only[hm,hmo,if_true,Bu];rw[if_neg (by intro he;subst he;exact ij hmo)]
  simp only[hm,hmo,Bu];rw[ih _ _ _ _ (by omega)];by_cases he:m=n
  . simp[he]
  rw[if_neg he,if_neg (by omega)]
structure aA where
 next:Nat
 tr:Tr
def aA.get (H:aA) (id:Nat):Option dU:=H.tr.get id
def aA.set (H:aA) (id:Nat) (o:dU):aA:={H with tr:=H.tr.set id o}
def aA.alloc (H:aA) (o:dU):aA:={next:=H.next+1,tr:=H.tr.set H.next o}
theorem aA.aI (H:aA) (id:Nat) (o:dU) (m:Nat):(H.set id o).get m=if m=id then some o else H.get m:=
 Tr.BK _ _ _ _ _ (Ai _)
theorem aA.aG (H:aA) (o:dU) (m:Nat):(H.alloc o).get m=if m=H.next then some o else H.get m:=
 Tr.BK _ _ _ _ _ (Ai _)
@[simp] theorem aA.bD (H:aA) (id:Nat) (o:dU):(H.set id o).next=H.next:=rfl
@[simp] theorem aA.aR (H:aA) (o:dU):(H.alloc o).next=H.next+1:=rfl
def Arg.eval (g:aT) (s:List AV):Arg->AV
 |.tmp t=>s.getD t aC
 |.const v=>v
 |.fY n=>match g n with
  |some cs=>.pl cs
  |none=>aC
def eQ (sz:Nat):Nat->List AV->List (List AV)
 |0,_=>[]
 |n+1,cs=>cs.take sz::eQ sz n (cs.drop sz)
def eR (cs:List AV) (off:Nat) (vs:List AV):List AV:=cs.take off++vs++cs.drop (off+vs.length)
def BE (ev:Arg->AV):List AV->List (Nat×Nat×Arg)->Option (List AV)
 |cs,[]=>some cs
 |cs,(off,n,x)::rest=>
  let vs:=(ev x).cells
  if vs.length=n/\off+n<=cs.length/\(ev x).oK=false then BE ev (eR cs off vs) rest else none
def CC (ev:Arg->AV) (sz:Nat):List Arg->Option (List (List AV))
 |[]=>some []
 |x::rest=>
  let vs:=(ev x).cells
  if vs.length=sz/\(ev x).oK=false then(CC ev sz rest).map (vs:: ·) else none
def cE:List Sk->List AV->List AV->Option Bool
 |[],[],[]=>some true
 |.b::ks,.bool a::xs,.bool b::ys=>(cE ks xs ys).map ((a==b)&& ·)
 |.i::ks,.int j a::xs,.int k b::ys=>if j=k then(cE ks xs ys).map ((a==b)&& ·) else none
 |.s::ks,.str a::xs,.str b::ys=>(cE ks xs ys).map ((a==b)&& ·)
 |_,_,_=>none
def tS (k:Nk):AV->Option Bool
 |.zX=>if k=.ptr then some true else none
 |.ref _ _|.pl _=>if k=.ptr then some false else none
 |.aF=>if k=.sli then some true else none
 |.bH _ _ _|.sl _ _ _ _ _=>if k=.sli then some false else none
 |.lZ=>if k=.Ww then some true else none
 |.iface _ _=>if k=.Ww then some false else none
 |.vZ=>if k=.fn then some true else none
 |.func _ _ _=>if k=.fn then some false else none
 |.oZ=>if k=.mp then some true else none
 |.map _=>if k=.mp then some false else none
 |_=>none
def nG (op:BinOp) (k:IntKind) (x y:Int):Option AV:=
 let a:=BitVec.ofInt k.bits x;let b:=BitVec.ofInt k.bits y
 match op with
 |.and=>some (.int k (k.wrap (a&&& b).toNat))
 |.or=>some (.int k (k.wrap (a|||b).toNat))
 |.xor=>some (.int k (k.wrap (a^^^b).toNat))
 |.andNot=>some (.int k (k.wrap (a&&& ~~~b).toNat))
 |_=>none
def jX (op:BinOp) (k:IntKind) (a:Int) (k':IntKind) (b:Int):Option AV:=
 match op with
 |.shl=>if b<0 then none else some (.int k (k.wrap (a*2^(min b.toNat k.bits))))
 |.shr=>if b<0 then none else some (.int k (a.fdiv (2^(min b.toNat k.bits))))
 |.add=>if k=k' then some (.int k (k.wrap (a+b))) else none
 |.sub=>if k=k' then some (.int k (k.wrap (a -b))) else none
 |.mul=>if k=k' then some (.int k (k.wrap (a*b))) else none
 |.quo=>if k=k' then(if b=0 then none else some (.int k (k.wrap (a.tdiv b)))) else none
 |.rem=>if k=k' then(if b=0 then none else some (.int k (a.tmod b))) else none
 |.and|.or|.xor|.andNot=>if k=k' then nG op k a b else none
 |.eql=>if k=k' then some (.bool (a==b)) else none
 |.neq=>if k=k' then some (.bool (a != b)) else none
 |.lss=>if k=k' then some (.bool (a<b)) else none
 |.leq=>if k=k' then some (.bool (a<=b)) else none
 |.gtr=>if k=k' then some (.bool (a>b)) else none
 |.geq=>if k=k' then some (.bool (a≥b)) else none
def di (op:BinOp) (x y:List UInt8):Option AV:=
 let eq:=x==y;let lt:=Op.bytesLess x y
 match op with
 |.add=>if x.length+y.length<=2^40 then some (.str (x++y)) else none
 |.eql=>some (.bool eq)
 |.neq=>some (.bool !eq)
 |.lss=>some (.bool lt)
 |.leq=>some (.bool (lt||eq))
 |.gtr=>some (.bool !(lt||eq))
 |.geq=>some (.bool !lt)
 |_=>none
def tp (op:UnOp):AV->Option AV
 |.int k n=>match op with
  |.neg=>some (.int k (k.wrap (0 -n)))
  |.xor=>nG .xor k (if k.signed then -1 else k.max) n
  |_=>none
 |.bool b=>match op with
  |.not=>some (.bool !b)
  |_=>none
 |_=>none
def asNat:AV->Option Nat
 |.int _ n=>if 0<=n then some n.toNat else none
 |_=>none
def cP (ev:Arg->AV):Option Arg->Option (Option Nat)
 |none=>some none
 |some x=>(asNat (ev x)).map some
def RE (s:List UInt8):List (List AV):=s.map fun b=>[.int .u8 b.toNat]
def bytesOf:List (List AV)->Option (List UInt8)
 |[]=>some []
 |[.int .u8 n]::rest=>(bytesOf rest).map (UInt8.ofNat n.toNat:: ·)
 |_=>none
def aA.eB (H:aA) (id:Nat):Option (List AV):=
 match H.get id with
 |some (.cells cs _)=>some cs
 |_=>none
def bJ (H:aA) (sz:Nat):AV->Option (List (List AV))
 |.aF=>some []
 |.bH _ dL els=>if dL=sz then some els else none
 |.str s=>if sz=1 then some (RE s) else none
 |.sl id dL off len _=>
  if dL=sz then
   match H.eB id with
   |some cs=>if off+len*sz<=cs.length then some (eQ sz len (cs.drop off)) else none
   |none=>none
  else none
 |_=>none
def iK (H:aA) (mu:Bool) (sz:Nat) (els:List (List AV)):AV×aA:=
 if mu then(.sl H.next sz 0 els.length els.length,H.alloc (.cells els.flatten true))
 else(.bH (H.next+2) sz els,H.alloc .tok)
def cV (H:aA) (sz bytes:Nat) (mu:Bool) (x:AV) (ys:List (List AV)):Option (AV×aA):=
 if ys.isEmpty then
  match x with
  |.aF|.bH _ _ _|.sl _ _ _ _ _=>some (x,H)
  |_=>none
 else
 match x with
 |.aF=>if ys.length*bytes<=2^40 then some (iK H mu sz ys) else none
 |.bH tag dL els=>
  if dL=sz/\(els.length+ys.length)*bytes<=2^40 then
   match tag with
   |0=>none
   |1=>some (iK H mu sz (els++ys))
   |k+2=>
    match H.get k with
    |some .tok=>some (.bH (H.next+2) sz (els++ys),(H.set k .dead).alloc .tok)
    |_=>none
  else none
 |.sl id dL off len cap=>
  if dL=sz/\(len+ys.length)*bytes<=2^40/\1<=sz then
   match H.get id with
   |some (.cells cs dH)=>
    if len+ys.length<=cap then
     if off+cap*sz<=cs.length then
      some (.sl id sz off (len+ys.length) cap,H.set id (.cells (eR cs (off+len*sz) ys.flatten) dH))
     else none
    else if off+len*sz<=cs.length/\(dH=false\/off+cap*sz<cs.length) then
     some (iK H mu sz (eQ sz len (cs.drop off)++ys))
    else if mu=true/\off=0/\len=cap/\cs.length=len*sz then
     some (.sl H.next sz 0 (len+ys.length) (len+ys.length),(H.set id .dead).alloc (.cells (cs++ys.flatten) true))
    else none
   |_=>none
  else none
 |_=>none
def lN (sz:Nat) (x:AV) (lo hi mx:Option Nat):Option AV:=
 match x with
 |.aF=>if lo.getD 0=0/\hi.getD 0=0/\mx.getD 0=0 then some .aF else none
 |.bH tag dL els=>
  let l:=lo.getD 0;let h:=hi.getD els.length
  if dL=sz/\l<=h/\h<=els.length then
   match mx with
   |some m=>
    if h<=m/\m<=els.length then
     some (.bH (if m=h then 1 else 0) sz ((els.drop l).take (h -l)))
    else none
   |none=>
    if h=els.length/\(l<h\/tag<2) then some (.bH tag sz (els.drop l))
    else some (.bH 0 sz ((els.drop l).take (h -l)))
  else none
 |.sl id dL off len cap=>
  let l:=lo.getD 0;let h:=hi.getD len
  if dL=sz/\l<=h then
   match mx with
   |some m=>
    if h<=m/\m<=cap then
     if m=l then some (.sl id sz off 0 0) else some (.sl id sz (off+l*sz) (h -l) (m -l))
    else none
   |none=>
    if h<=cap then
     if l=cap then some (.bH 0 sz []) else some (.sl id sz (off+l*sz) (h -l) (cap -l))
    else none
  else none
 |_=>none
def kC (H:aA) (n sz:Nat) (x:AV) (lo hi mx:Option Nat):Option AV:=
 let l:=lo.getD 0;let m:=mx.getD n;let h:=hi.getD n
 if l<=h/\h<=m/\m<=n/\(mx.isSome->hi.isSome) then
  match x with
  |.ref id o=>
   match H.eB id with
   |some cs=>if o+n*sz<=cs.length then(if m=l then some (.sl id sz o 0 0) else some (.sl id sz (o+l*sz) (h -l) (m -l))) else none
   |none=>none
  |.pl cs=>if n*sz<=cs.length then some (.bH (if m=h then 1 else 0) sz ((eQ sz n cs).drop l |>.take (h -l))) else none
  |_=>none
 else none
def sameKey (k:Sk):AV->AV->Option Bool
 |.int j a,.int j' b=>match k with
  |.i=>if j=j' then some (a==b) else none
  |_=>none
 |.str a,.str b=>match k with
  |.s=>some (a==b)
  |_=>none
 |.bool a,.bool b=>match k with
  |.b=>some (a==b)
  |_=>none
 |.agg xs,.agg ys=>match k with
  |.f sh=>cE sh xs ys
  |_=>none
 |_,_=>none
def jP (k:Sk) (x:AV):List (AV×AV)->Nat->Option (Option (Nat×AV))
 |[],_=>some none
 |(y,v)::es,i=>
  match sameKey k x y with
  |some true=>some (some (i,v))
  |some false=>jP k x es (i+1)
  |none=>none
def Jy (k:Sk):AV->Bool
 |.int _ _=>match k with|.i=>true|_=>false
 |.str _=>match k with|.s=>true|_=>false
 |.bool _=>match k with|.b=>true|_=>false
 |.agg xs=>match k with|.f sh=>decide (xs.length=sh.length)|_=>false
 |_=>false
def tL (ev:Arg->AV):cZ->Option (dU×(Nat->AV))
 |.alloc zero=>some (.cells zero false,fun id=>.ref id 0)
 |.box x=>if(ev x).oK then none else some (.cells (ev x).cells false,fun id=>.ref id 0)
 |.uJ=>some (.map [],fun id=>.map id)
 |.gM sz bytes zero l c=>match asNat (ev l),asNat (ev c) with
  |some l,some c=>if l<=c/\bytes*c<=2^40/\zero.length=sz then some (.cells (List.replicate c zero).flatten false,fun id=>.sl id sz 0 l c) else none
  |_,_=>none
 |.wM x=>match ev x with
  |.str s=>some (.tok,fun id=>.bH (id+2) 1 (RE s))
  |_=>none
 |_=>none
def cD (ev:Arg->AV) (H:aA):cZ->Option (AV×aA)
 |.CI x=>some (ev x,H)
 |.pick c a b=>match ev c with
  |.bool t=>some (if t then ev a else ev b,H)
  |_=>none
 |.alloc zero=>(tL ev (.alloc zero)).map fun p=>(p.2 H.next,H.alloc p.1)
 |.box x=>(tL ev (.box x)).map fun p=>(p.2 H.next,H.alloc p.1)
 |.build zero parts=>(BE ev zero parts).map fun cs=>(.agg cs,H)
 |.KK sz parts=>(CC ev sz parts).map fun els=>(.bH 1 sz els,H)
 |.load agg n a=>match ev a with
  |.ref id off=>match H.eB id with
   |some cs=>if off+n<=cs.length then(if agg then some (.agg ((cs.drop off).take n),H) else if n=1 then some (cs.getD off aC,H) else none) else none
   |none=>none
  |.pl cs=>if n<=cs.length then(if agg then some (.agg (cs.take n),H) else if n=1 then some (cs.getD 0 aC,H) else none) else none
  |_=>none
 |.store n a x=>match ev a with
  |.ref id off=>match H.get id with
   |some (.cells cs dH)=>
    let vs:=(ev x).cells
    if vs.length=n/\off+n<=cs.length/\(ev x).oK=false then some (aC,H.set id (.cells (eR cs off vs) dH)) else none
   |_=>none
  |_=>none
 |.KM x=>match ev x with
  |.ref id off=>some (.ref id off,H)
  |.pl cs=>some (.pl cs,H)
  |.func (.func f) a b=>some (.func (.func f) a b,H)
  |.iface t v=>some (.iface t v,H)
  |_=>none
 |.bin op x y=>match ev x,ev y with
  |.int k a,.int k' b=>(jX op k a k' b).map (·,H)
  |.str a,.str b=>(di op a b).map (·,H)
  |_,_=>none
 |.eqb neg x y=>match ev x,ev y with
  |.bool a,.bool b=>some (.bool (if neg then !(a==b) else(a==b)),H)
  |_,_=>none
 |.eqf neg shape x y=>match ev x,ev y with
  |.agg xs,.agg ys=>(cE shape xs ys).map fun e=>(.bool (if neg then !e else e),H)
  |_,_=>none
 |.Xp neg k lit x y=>match tS k (ev x),tS k (ev y) with
  |some a,some b=>if(a||b)&&(k != .Ww|| !(a&&b)||lit) then some (.bool (if neg then !(a&&b) else(a&&b)),H) else none
  |_,_=>none
 |.un op x=>(tp op (ev x)).map (·,H)
 |.JH k x=>match ev x with
  |.int _ n=>some (.int k (k.wrap n),H)
  |_=>none
 |.wM x=>(tL ev (.wM x)).map fun p=>(p.2 H.next,H.alloc p.1)
 |.yA x=>match ev x with
  |.str _=>none
  |v=>match bJ H 1 v with
   |some els=>(bytesOf els).map fun s=>(.str s,H)
   |none=>none
 |.Sw n x=>match ev x with
  |.bH _ _ els=>if n<=els.length/\1<=els.length then some (.pl els.flatten,H) else none
  |.sl id _ off len _=>if n<=len then some (.ref id off,H) else none
  |_=>none
 |.SV t x=>some (.iface t (ev x),H)
 |.SU fn first cap=>some (.func fn (first.map ev) (cap.map ev),H)
 |.uJ=>(tL ev .uJ).map fun p=>(p.2 H.next,H.alloc p.1)
 |.gM sz bytes zero l c=>(tL ev (.gM sz bytes zero l c)).map fun p=>(p.2 H.next,H.alloc p.1)
 |.Kn x lo hi=>match ev x,cP ev lo,cP ev hi with
  |.str s,some lo,some hi=>
   let l:=lo.getD 0;let h:=hi.getD s.length
   if l<=h/\h<=s.length then some (.str ((s.drop l).take (h -l)),H) else none
  |_,_,_=>none
 |.Sx sz x lo hi mx=>match cP ev lo,cP ev hi,cP ev mx with
  |some lo,some hi,some mx=>if mx.isSome->hi.isSome then(lN sz (ev x) lo hi mx).map (·,H) else none
  |_,_,_=>none
 |.yJ n sz x lo hi mx=>match cP ev lo,cP ev hi,cP ev mx with
  |some lo,some hi,some mx=>(kC H n sz (ev x) lo hi mx).map (·,H)
  |_,_,_=>none
 |.Ru off x=>match ev x with
  |.ref id o=>some (.ref id (o+off),H)
  |.pl cs=>some (.pl (cs.drop off),H)
  |_=>none
 |.Nl arr sz x i=>match asNat (ev i) with
  |some i=>match arr,ev x with
   |some n,.ref id o=>if i<n then some (.ref id (o+i*sz),H) else none
   |some n,.pl cs=>if i<n then some (.pl (cs.drop (i*sz)),H) else none
   |none,.bH _ dL els=>if dL=sz/\i<els.length then some (.pl (els.getD i []),H) else none
   |none,.sl id dL off len _=>if dL=sz/\i<len then some (.ref id (off+i*sz),H) else none
   |_,_=>none
  |none=>none
 |.idx n sz agg x i=>match asNat (ev i),ev x with
  |some i,.agg cs=>if i<n/\i*sz+sz<=cs.length then(if agg then some (.agg ((cs.drop (i*sz)).take sz),H) else if sz=1 then some (cs.getD i aC,H) else none) else none
  |_,_=>none
 |.idxs x i=>match asNat (ev i),ev x with
  |some i,.str s=>match s[i]? with
   |some b=>some (.int .u8 b.toNat,H)
   |none=>none
  |_,_=>none
 |.TE t ok zero x=>match ev x with
  |.iface t' v=>if t'=t then some (if ok then .eZ [v,.bool true] else v,H) else if ok then some (.eZ [zero,.bool false],H) else none
  |.lZ=>if ok then some (.eZ [zero,.bool false],H) else none
  |_=>none
 |.Rr x i=>match ev x with
  |.eZ vs=>if i<vs.length then some (vs.getD i aC,H) else none
  |_=>none
 |.lens x=>match ev x with
  |.str s=>some (.int .i64 s.length,H)
  |_=>none
 |.GU x=>match ev x with
  |.aF=>some (.int .i64 0,H)
  |.bH _ _ els=>some (.int .i64 els.length,H)
  |.sl _ _ _ len _=>some (.int .i64 len,H)
  |_=>none
 |.QA x y=>match ev x,ev y with
  |.int k a,.int _ b=>some (.int k (if b>a then b else a),H)
  |_,_=>none
 |.QC x y=>match ev x,ev y with
  |.int k a,.int _ b=>some (.int k (if b<a then b else a),H)
  |_,_=>none
 |.zw sz zero x=>match ev x with
  |.aF|.bH _ _ []|.sl _ _ _ 0 _=>some (aC,H)
  |.sl id dL off len _=>if dL=sz/\zero.length=sz then
    match H.get id with
    |some (.cells cs dH)=>if off+len*sz<=cs.length then some (aC,H.set id (.cells (eR cs off (List.replicate len zero).flatten) dH)) else none
    |_=>none
   else none
  |_=>none
 |.append sz bytes mu x y=>match bJ H sz (ev y) with
  |some ys=>cV H sz bytes mu (ev x) ys
  |none=>none
 |.copy sz d s=>match bJ H sz (ev s),ev d with
  |some ys,.aF=>some (.int .i64 (min ys.length 0:Nat),H)
  |some ys,.sl id dL off len _=>
   let n:=min ys.length len
   if dL=sz then
    match H.get id with
    |some (.cells cs dH)=>if off+n*sz<=cs.length then some (.int .i64 n,H.set id (.cells (eR cs off (ys.take n).flatten) dH)) else none
    |_=>none
   else none
  |_,_=>none
 |.lookup kind zero ok x i=>if Jy kind (ev i) then
   match ev x with
   |.oZ=>some (if ok then .eZ [zero,.bool false] else zero,H)
   |.map id=>match H.get id with
    |some (.map es)=>match jP kind (ev i) es 0 with
     |some (some (_,v))=>some (if ok then .eZ [v,.bool true] else v,H)
     |some none=>some (if ok then .eZ [zero,.bool false] else zero,H)
     |none=>none
    |_=>none
   |_=>none
  else none
 |.KH kind m k v=>if Jy kind (ev k) then
   match ev m with
   |.map id=>match H.get id with
    |some (.map es)=>match jP kind (ev k) es 0 with
     |some (some (i,_))=>some (aC,H.set id (.map (es.set i (ev k,ev v))))
     |some none=>some (aC,H.set id (.map (es++[(ev k,ev v)])))
     |none=>none
    |_=>none
   |_=>none
  else none
 |.call _ _|.panic _|.iH _ _|.rF _|.yE _|.tX _=>none
structure Loc where
 cC:Nat
 base:Nat
 OZ:Nat
 ext:Nat
structure Gh where
 loc:Nat->Option Loc
 fB:Nat->Nat->Prop
 mo:Bool
def nq (G:Gh) (tag b e sz len cap:Nat):Prop:=
 len<=cap/\match tag with
 |0=>True
 |1=>cap=len
 |k+2=>∃l,G.loc k=some l/\l.cC=b/\l.base=e/\l.OZ=0/\l.ext=(cap -len)*sz
inductive VR (G:Gh) (w:World):AV->Value->Prop
 |bool (b:Bool):VR G w (.bool b) (.bool b)
 |int (k:IntKind) (n:Int):VR G w (.int k n) (.int k n)
 |str (s:ByteArray):VR G w (.str s.data.toList) (.string s)
 |zX:VR G w .zX (.pointer none)
 |ref (id off:Nat) (l:Loc) (h:G.loc id=some l):VR G w (.ref id off) (.pointer (some ⟨l.cC,l.base+off,none⟩))
 |pl (cells:List AV) (b o:Nat) (us:Nat->Value)
   (h:∀j,j<cells.length->G.fB b (o+j)/\w.cell? ⟨b,o+j,none⟩=some (us j)/\(cells.getD j aC).one=true)
   (hv:∀j,j<cells.length->VR G w (cells.getD j aC) (us j)):VR G w (.pl cells) (.pointer (some ⟨b,o,none⟩))
 |aF:VR G w .aF (.slice none 0 0)
 |bH (tag sz:Nat) (els:List (List AV)) (b o cap:Nat) (us:Nat->Value)
   (hu:∀e∈els,e.length=sz)
   (h:∀j,j<els.flatten.length->G.fB b (o+j)/\w.cell? ⟨b,o+j,none⟩=some (us j)/\(els.flatten.getD j aC).one=true)
   (hv:∀j,j<els.flatten.length->VR G w (els.flatten.getD j aC) (us j))
   (ht:nq G tag b (o+els.length*sz) sz els.length cap):VR G w (.bH tag sz els) (.slice (some ⟨b,o,none⟩) els.length cap)
 |rE (tag sz b o s:Nat) (ht:tag<2):VR G w (.bH tag sz []) (.slice (some ⟨b,o,some s⟩) 0 0)
 |sl (id sz off len cap gQ:Nat) (l:Loc) (h:G.loc id=some l) (hlen:len<=cap) (gU:off+cap*sz<=l.OZ)
   (nE:gQ=cap\/(off+cap*sz=l.OZ/\cap<=gQ/\off+gQ*sz=l.ext)):
   VR G w (.sl id sz off len cap) (.slice (some ⟨l.cC,l.base+off,none⟩) len gQ)
 |func (fn:Fn) (fs cs:List AV) (azs bs:List Value) (ha:azs.length=fs.length) (hb:bs.length=cs.length)
   (hav:∀j,j<fs.length->VR G w (fs.getD j aC) (azs.getD j undef)) (OS:∀j,j<cs.length->VR G w (cs.getD j aC) (bs.getD j undef)):
   VR G w (.func fn fs cs) (.func fn azs.toArray bs.toArray)
 |vZ:VR G w .vZ .nilFunc
 |iface (t:TypeId) (a:AV) (v:Value) (h:VR G w a v):VR G w (.iface t a) (.iface t v)
 |lZ:VR G w .lZ .nilIface
 |agg (cs:List AV) (vs:List Value) (hl:vs.length=cs.length) (h1:∀c∈cs,c.one=true)
   (hv:∀j,j<cs.length->VR G w (cs.getD j aC) (vs.getD j undef)):VR G w (.agg cs) (.agg vs.toArray)
 |eZ (cs:List AV) (vs:List Value) (hl:vs.length=cs.length)
   (hv:∀j,j<cs.length->VR G w (cs.getD j aC) (vs.getD j undef)):VR G w (.eZ cs) (.tuple vs.toArray)
 |map (id:Nat) (l:Loc) (h:G.loc id=some l):VR G w (.map id) (.map (some l.cC))
 |oZ:VR G w .oZ (.map none)
 |yield (id:Nat) (l:Loc) (h:G.loc id=some l):VR G w (.yield id) (.func (.yield l.cC) #[] #[])
def fJ (G:Gh) (w:World) (xs:List AV) (vs:List Value):Prop:=
 vs.length=xs.length/\∀j,j<xs.length->VR G w (xs.getD j aC) (vs.getD j undef)
theorem VR.kN (G:Gh) (w:World):VR G w aC Go.undef:=VR.eZ [] [] rfl (fun j hj=>absurd hj (Bh j))
theorem VR.mono {G G':Gh} {w w':World} {a:AV} {u:Value} (h:VR G w a u) (hl:∀id l,G.loc id=some l->G'.loc id=some l)
 (hi:∀b o,G.fB b o->G'.fB b o/\w'.cell? ⟨b,o,none⟩=w.cell? ⟨b,o,none⟩):VR G' w' a u:=by
 induction h with
 |bool b=>exact .bool b
 |int k n=>exact .int k n
 |str s=>exact .str s
 |zX=>exact .zX
 |ref id off l h=>exact .ref id off l (hl _ _ h)
 |pl cells b o us h hv ih=>exact .pl cells b o us (fun j hj=>⟨(hi _ _ (h j hj).1).1,by rw[(hi _ _ (h j hj).1).2];exact(h j hj).2.1,(h j hj).2.2⟩) ih
 |aF=>exact .aF
 |bH tag sz els b o cap us hu h hv ht ih=>
  refine .bH tag sz els b o cap us hu (fun j hj=>⟨(hi _ _ (h j hj).1).1,by rw[(hi _ _ (h j hj).1).2];exact(h j hj).2.1,(h j hj).2.2⟩) ih ?_;refine⟨ht.1,?_⟩;have h2:=ht.2
  match tag,h2 with
  |0,_=>trivial
  |1,h2=>exact h2
  |k+2,⟨l,h1,h2⟩=>exact⟨l,hl _ _ h1,h2⟩
 |rE tag sz b o s ht=>exact .rE tag sz b o s ht
 |sl id sz off len cap gQ l h hlen gU nE=>exact .sl id sz off len cap gQ l (hl _ _ h) hlen gU nE
 |func fn fs cs azs bs ha hb hav OS oY qS=>exact .func fn fs cs azs bs ha hb oY qS
 |vZ=>exact .vZ
 |iface t a v h ih=>exact .iface t a v ih
 |lZ=>exact .lZ
 |agg cs vs lY h1 hv ih=>exact .agg cs vs lY h1 ih
 |eZ cs vs lY hv ih=>exact .eZ cs vs lY ih
 |map id l h=>exact .map id l (hl _ _ h)
 |oZ=>exact .oZ
 |yield id l h=>exact .yield id l (hl _ _ h)
def Yy:Value->Bool
 |.agg _|.tuple _=>false
 |_=>true
theorem VR.one {G:Gh} {w:World} {a:AV} {u:Value} (h:VR G w a u):a.one=Yy u:=by cases h<;>rfl
def aA.live (H:aA) (id:Nat):Prop:=∃o,H.get id=some o/\o.live=true
def Oe (ents:Array MapEntry) (clock:Nat):Prop:=
 (∀i,i<ents.size->(ents.getD i default).born<clock)/\∀i j,i<ents.size->j<ents.size->(ents.getD i default).born=(ents.getD j default).born->i=j
def DM (g:aT) (G:Gh) (w:World) (l:Loc):dU->Prop
 |.map es=>∃ents clock,w.heap[l.cC]?=some (.map ents clock)/\ents.size=es.length/\Oe ents clock/\
   ∀j,j<es.length->VR G w (es.getD j (aC,aC)).1 (ents.getD j default).key/\VR G w (es.getD j (aC,aC)).2 (ents.getD j default).val
 |.pQ es bs c mb=>l.cC=mb/\bs.Nodup/\(∀b∈bs,b<c)/\∃ents:Array MapEntry,w.heap[l.cC]?=some (.map ents c)/\ents.toList.map (·.born)=bs/\bs.length=es.length/\
   ∀j,j<es.length->VR G w (es.getD j (aC,aC)).1 (ents.getD j default).key/\VR G w (es.getD j (aC,aC)).2 (ents.getD j default).val
 |.iter m mb c seen=>w.heap[l.cC]?=some (.mapIter (some mb) c seen.toArray c)/\VR G w (.map m) (.map (some mb))
 |.loop k sn st=>∃r,g.lok k r/\w.heap[l.cC]?=some (.loop (kK r st))/\fJ G w sn r.tmps.toList
 |.NQ=>w.heap[l.cC]?=some (.deferred (some []))
 |.nz=>w.heap[l.cC]?=some (.deferred none)
 |_=>True
theorem DM.mono {g:aT} {G G':Gh} {w w':World} {l:Loc} {o:dU} (h:DM g G w l o) (hb:w'.heap[l.cC]?=w.heap[l.cC]?) (hv:∀a u,VR G w a u->VR G' w' a u):DM g G' w' l o:=by
 cases o with
 |map es=>obtain⟨ents,clock,a1,a2,a3,a4⟩:=h;exact⟨ents,clock,by rw[hb];exact a1,a2,a3,fun j hj=>⟨hv _ _ (a4 j hj).1,hv _ _ (a4 j hj).2⟩⟩
 |pQ es bs c mb=>obtain⟨a1,a2,a3,ents,a4,a5,a6,a7⟩:=h;exact⟨a1,a2,a3,ents,hb.trans a4,a5,a6,fun j hj=>⟨hv _ _ (a7 j hj).1,hv _ _ (a7 j hj).2⟩⟩
 |iter m mb c seen=>exact⟨hb.trans h.1,hv _ _ h.2⟩
 |loop k sn st=>obtain⟨r,h0,h1,h2⟩:=h;exact⟨r,h0,hb.trans h1,h2.1,fun j hj=>hv _ _ (h2.2 j hj)⟩
 |NQ=>exact hb.trans h
 |nz=>exact hb.trans h
 |_=>trivial
theorem DM.lt {g:aT} {G:Gh} {w:World} {l:Loc} {o:dU} (ho:o.cC=true) (h:DM g G w l o):l.cC<w.heap.size:=by
 cases o with
 |map es=>obtain⟨ents,clock,a1,_⟩:=h;exact(Bw.1 a1).1
 |pQ es bs c mb=>obtain⟨_,_,_,ents,a1,_⟩:=h;exact(Bw.1 a1).1
 |iter m mb c seen=>exact(Bw.1 h.1).1
 |loop k sn st=>obtain⟨r,_,h1,_⟩:=h;exact(Bw.1 h1).1
 |NQ=>exact(Bw.1 (show w.heap[l.cC]?=some _ from h)).1
 |nz=>exact(Bw.1 (show w.heap[l.cC]?=some _ from h)).1
 |_=>cases ho
theorem KD {o:dU} (h:o.cC=true):o.live=true:=by cases o<;>first|rfl|cases h
theorem DM.wA {g:aT} {G:Gh} {w:World} {l:Loc} {o:dU} (ho:o.cC=true) (h:DM g G w l o) {c:Array Value} {el:TypeId} {fz:Nat×Nat}:w.heap[l.cC]?≠some (.cells c el fz):=by
 intro hc
 cases o with
 |map es=>obtain⟨ents,clock,a1,_⟩:=h;rw[hc] at a1;cases a1
 |pQ es bs c mb=>obtain⟨_,_,_,ents,a1,_⟩:=h;rw[hc] at a1;cases a1
 |iter m mb c seen=>have h:=h.1;rw[hc] at h;cases h
 |loop k sn st=>obtain⟨r,_,h,_⟩:=h;rw[hc] at h;cases h
 |NQ=>have h:w.heap[l.cC]?=some _:=h;rw[hc] at h;cases h
 |nz=>have h:w.heap[l.cC]?=some _:=h;rw[hc] at h;cases h
 |_=>cases ho
structure WR (g:aT) (G:Gh) (H:aA) (w:World):Prop where
 cells:∀id l cs dH,G.loc id=some l->H.get id=some (.cells cs dH)->
  l.OZ=cs.length/\l.OZ<=l.ext/\(dH=false->l.OZ=l.ext)/\(∀c∈cs,c.one=true)/\
  ∀j,j<cs.length->∃u,w.cell? ⟨l.cC,l.base+j,none⟩=some u/\VR G w (cs.getD j aC) u
 room:∀id l,G.loc id=some l->((∃cs dH,H.get id=some (.cells cs dH))\/H.get id=some .tok)->
  ∃c el fz,w.heap[l.cC]?=some (.cells c el fz)/\l.base+l.ext<=c.size/\∀j,j<l.ext->w.frozen? ⟨l.cC,l.base+j,none⟩=false
 iN:∀id iO l l',id≠iO->G.loc id=some l->G.loc iO=some l'->H.live id->H.live iO->
  l.cC≠l'.cC\/l.base+l.ext<=l'.base\/l'.base+l'.ext<=l.base
 gW:∀id l,G.loc id=some l->H.live id->∀j,j<l.ext->¬G.fB l.cC (l.base+j)
 fQ:∀id l o,G.loc id=some l->H.get id=some o->o.cC=true->l.base=0/\l.ext=1/\DM g G w l o
 lt:∀id l,G.loc id=some l->id<H.next
 fU:∀b o,G.fB b o->∃v,w.cell? ⟨b,o,none⟩=some v
 fY:∀n cs,g n=some cs->VR G w (.pl cs) (.pointer (some ⟨n,0,none⟩))
 xA:∀n cs,g n=some cs->cs≠[]->∃c el fz,w.heap[n]?=some (.cells c el fz)/\c.size=cs.length
 mo:G.mo=g.mo
structure uY (w w':World):Prop where
 os:w'.os=w.os
 output:w'.output=w.output
 tape:w'.tape=w.tape
 drawn:w.drawn<=w'.drawn
theorem uY.now {w w':World} (h1:w'.os=w.os:=by rfl) (h2:w'.output=w.output:=by rfl) (h3:w'.tape=w.tape:=by rfl) (h4:w.drawn<=w'.drawn:=by first|exact Ai _|exact Fm _|exact Gb _ _):uY w w':=⟨h1,h2,h3,h4⟩
theorem uY.trans {w w' tq:World} (h:uY w w') (h':uY w' tq):uY w tq:=⟨h'.os.trans h.os,h'.output.trans h.output,h'.tape.trans h.tape,By h.drawn h'.drawn⟩
structure Ll (b:Bool) (w w':World):Prop where
 os:w'.os=w.os
 output:w'.output=w.output
 tape:w'.tape=w.tape
 drawn:b=true->w.drawn<=w'.drawn
theorem uY.toB {w w':World} (h:uY w w') (b:Bool):Ll b w w':=⟨h.os,h.output,h.tape,fun _=>h.drawn⟩
theorem Ll.trans {b:Bool} {w w' tq:World} (h:Ll b w w') (h':Ll b w' tq):Ll b w tq:=⟨h'.os.trans h.os,h'.output.trans h.output,h'.tape.trans h.tape,fun hb=>By (h.drawn hb) (h'.drawn hb)⟩
structure Ext (G:Gh) (H:aA) (w:World) (G':Gh) (H':aA) (w':World):Prop where
 loc:∀id l,G.loc id=some l->G'.loc id=some l
 fB:∀b o,G.fB b o->G'.fB b o/\w'.cell? ⟨b,o,none⟩=w.cell? ⟨b,o,none⟩
 size:w.heap.size<=w'.heap.size
 frame:∀b,b<w.heap.size->(∀id l,G.loc id=some l->H.live id->l.cC≠b)->w'.heap[b]?=w.heap[b]?
 jK:∀id l,G'.loc id=some l->H'.live id->w.heap.size<=l.cC\/∃dN l0,G.loc dN=some l0/\H.live dN/\l0.cC=l.cC
 mU:∀b o,G'.fB b o->G.fB b o\/w.heap.size<=b\/∃dN l0,G.loc dN=some l0/\H.live dN/\l0.cC=b
 next:H.next<=H'.next
 news:∀id l,G'.loc id=some l->G.loc id=none->H.next<=id
 dead:∀id l,G.loc id=some l->H'.live id->H.live id
 mo:G'.mo=G.mo
 same:Ll G.mo w w'
theorem Ext.refl (G:Gh) (H:aA) (w:World):Ext G H w G H w where
 loc:=fun _ _ h=>h
 fB:=fun _ _ h=>⟨h,rfl⟩
 size:=Ai _
 frame:=fun _ _ _=>rfl
 jK:=fun id l h hl=>.inr ⟨id,l,h,hl,rfl⟩
 mU:=fun _ _ h=>.inl h
 next:=Ai _
 news:=fun _ _ h h'=>by rw[h] at h';cases h'
 dead:=fun _ _ _ h=>h
 mo:=rfl
 same:=uY.toB .now _
theorem Ext.trans {G G' G'':Gh} {H H' GN:aA} {w w' tq:World} (h:Ext G H w G' H' w') (h':Ext G' H' w' G'' GN tq):Ext G H w G'' GN tq where
 loc:=fun id l hl=>h'.loc _ _ (h.loc _ _ hl)
 fB:=fun b o hi=>⟨(h'.fB _ _ (h.fB _ _ hi).1).1,((h'.fB _ _ (h.fB _ _ hi).1).2).trans (h.fB _ _ hi).2⟩
 size:=By h.size h'.size
 frame:=fun b hb hn=>by
  rw[h'.frame b (Aw hb h.size) (fun id l hl hv=>?_),h.frame b hb hn]
  rcases h.jK id l hl hv with xB|⟨dN,l0,LG,SH,he⟩
  . omega
  rw[<-he];exact hn dN l0 LG SH
 jK:=fun id l hl hv=>by
  rcases h'.jK id l hl hv with xB|⟨dN,l0,LG,SH,he⟩
  . exact .inl (By h.size xB)
  rcases h.jK dN l0 LG SH with xB|⟨id1,l1,uP,qN,OT⟩
  . exact .inl (by omega)
  exact .inr ⟨id1,l1,uP,qN,OT.trans he⟩
 mU:=fun b o hi=>by
  rcases h'.mU b o hi with hi|xB|⟨dN,l0,LG,SH,he⟩
  . exact h.mU b o hi
  . exact .inr (.inl (By h.size xB))
  rcases h.jK dN l0 LG SH with xB|⟨id1,l1,uP,qN,OT⟩
  . exact .inr (.inl (by omega))
  exact .inr (.inr ⟨id1,l1,uP,qN,OT.trans he⟩)
 next:=By h.next h'.next
 news:=fun id l hl hn=>by
  cases h1:G'.loc id with
  |none=>exact By h.next (h'.news id l hl h1)
  |some l1=>exact h.news id l1 h1 hn
 dead:=fun id l hl hv=>h.dead id l hl (h'.dead id l (h.loc _ _ hl) hv)
 mo:=h'.mo.trans h.mo
 same:=h.same.trans (h.mo▸h'.same)
theorem VR.ext {G G':Gh} {H H':aA} {w w':World} {a:AV} {u:Value} (h:VR G w a u) (e:Ext G H w G' H' w'):VR G' w' a u:=
 h.mono e.loc e.fB
theorem fJ.ext {G G':Gh} {H H':aA} {w w':World} {xs:List AV} {vs:List Value} (h:fJ G w xs vs) (e:Ext G H w G' H' w'):fJ G' w' xs vs:=
 ⟨h.1,fun j hj=>(h.2 j hj).ext e⟩
theorem aA.iP {H:aA} {id:Nat} {o:dU} {m:Nat}:(H.set id o).live m↔(m=id/\o.live=true)\/(m≠id/\H.live m):=by
 unfold aA.live;rw[aA.aI];by_cases h:m=id
 . subst h;simp
 simp[h]
theorem jL {w:World} {b o:Nat} {c:Array Value} {el:TypeId} {fz:Nat×Nat} (h:w.heap[b]?=some (.cells c el fz)):
 w.cell? ⟨b,o,none⟩=c[o]?:=by
 unfold World.cell?;simp[h]
theorem nY {w:World} {b o:Nat} {c:Array Value} {el:TypeId} {fz:Nat×Nat} (h:w.heap[b]?=some (.cells c el fz)):
 w.frozen? ⟨b,o,none⟩=(decide (fz.1<=o)&&decide (o<fz.2)):=by
 unfold World.frozen?;simp[h]
theorem vE {w:World} {b o:Nat} {v:Value} (h:w.cell? ⟨b,o,none⟩=some v):∃c el fz,w.heap[b]?=some (.cells c el fz)/\c[o]?=some v:=by
 unfold World.cell? at h;split at h
 . rename_i c el fz hc;exact⟨c,el,fz,hc,by simpa using h⟩
 cases h
theorem eV {w w':World} {b o:Nat} (h:w'.heap[b]?=w.heap[b]?):w'.cell? ⟨b,o,none⟩=w.cell? ⟨b,o,none⟩:=by unfold World.cell?;simp[h]
theorem iR {w w':World} {b o:Nat} (h:w'.heap[b]?=w.heap[b]?):w'.frozen? ⟨b,o,none⟩=w.frozen? ⟨b,o,none⟩:=by unfold World.frozen?;simp[h]
theorem WR.of_heap {g:aT} {G:Gh} {H:aA} {w w':World} (h:WR g G H w) (hw:w'.heap=w.heap):WR g G H w':=by
 have hb:∀b:Nat,w'.heap[b]?=w.heap[b]?:=fun b=>by rw[hw]
 have hc:∀b o,w'.cell? ⟨b,o,none⟩=w.cell? ⟨b,o,none⟩:=fun b o=>eV (hb b);have hm:∀{a u},VR G w a u->VR G w' a u:=fun hv=>hv.mono (fun _ _ h=>h) (fun b o hi=>⟨hi,hc b o⟩)
 exact {
  cells:=fun id l cs dH h1 h2=>by obtain⟨a1,a2,a3,a4,a5⟩:=h.cells id l cs dH h1 h2;refine⟨a1,a2,a3,a4,fun j hj=>?_⟩;obtain⟨u,hu,hv⟩:=a5 j hj;exact⟨u,by rw[hc];exact hu,hm hv⟩
  room:=fun id l h1 h2=>by obtain⟨c,el,fz,a1,a2,a3⟩:=h.room id l h1 h2;exact⟨c,el,fz,by rw[hb];exact a1,a2,fun j hj=>by rw[iR (hb _)];exact a3 j hj⟩
  iN:=h.iN
  gW:=h.gW
  fQ:=fun id l o h1 h2 hk=>let⟨a1,a2,a3⟩:=h.fQ id l o h1 h2 hk;⟨a1,a2,a3.mono (hb _) fun _ _=>hm⟩
  lt:=h.lt
  fU:=fun b o hi=>by rw[hc];exact h.fU b o hi
  fY:=fun n cs hn=>hm (h.fY n cs hn)
  xA:=fun n cs hn h0=>by rw[hb];exact h.xA n cs hn h0
  mo:=h.mo}
theorem Ext.of_heap {G:Gh} {H:aA} {w w':World} (hw:w'.heap=w.heap) (hs:uY w w'):Ext G H w G H w' where
 loc:=fun _ _ h=>h
 fB:=fun b o h=>⟨h,eV (by rw[hw])⟩
 size:=by rw[hw];exact Ai _
 frame:=fun _ _ _=>by rw[hw]
 jK:=fun id l h hl=>.inr ⟨id,l,h,hl,rfl⟩
 mU:=fun _ _ h=>.inl h
 next:=Ai _
 news:=fun _ _ h h'=>by rw[h] at h';cases h'
 dead:=fun _ _ _ h=>h
 mo:=rfl
 same:=hs.toB _
theorem BJ {α:Type} (a:Array α) (x:α) {b:Nat} (h:b<a.size):(a.push x)[b]?=a[b]?:=by rw[Jd];rw[if_neg (by omega)]
theorem xR {α:Type} (a:Array α) (x:α):(a.push x)[a.size]?=some x:=by simp
theorem rT {w:World} {b o:Nat} {v:Value} (h:w.cell? ⟨b,o,none⟩=some v):b<w.heap.size:=by obtain⟨c,el,fz,h1,_⟩:=vE h;exact(Bw.1 h1).1
def Gh.lG (G:Gh) (b lo n:Nat):Gh:={G with fB:=fun b' o=>G.fB b' o\/(b'=b/\lo<=o/\o<lo+n)}
def Gh.dA (G:Gh) (id:Nat) (l:Loc):Gh:={G with loc:=fun i=>if i=id then some l else G.loc i}
theorem WR.kI {g:aT} {G:Gh} {H:aA} {w:World} (h:WR g G H w) {id:Nat} {l:Loc} (hl:G.loc id=some l) (hv:H.live id):l.cC<w.heap.size:=by
 obtain⟨o,ho,iY⟩:=hv
 have :∃x,w.heap[l.cC]?=some x:=by
  cases o with
  |cells cs dH=>obtain⟨c,el,fz,h1,_⟩:=h.room id l hl (.inl ⟨cs,dH,ho⟩);exact⟨_,h1⟩
  |tok=>obtain⟨c,el,fz,h1,_⟩:=h.room id l hl (.inr ho);exact⟨_,h1⟩
  |dead=>cases iY
  |_=>have :=(h.fQ id l _ hl ho rfl).2.2.lt rfl;exact⟨_,Db this⟩
 obtain⟨x,hx⟩:=this;exact(Bw.1 hx).1
theorem WR.grow {g:aT} {G:Gh} {H:aA} {w w':World} (h:WR g G H w)
 (hb:∀b,b<w.heap.size->w'.heap[b]?=w.heap[b]?):WR g G H w':=by
 have hc:∀b o,G.fB b o->w'.cell? ⟨b,o,none⟩=w.cell? ⟨b,o,none⟩:=fun b o hi=>by obtain⟨v,hv⟩:=h.fU b o hi;exact eV (hb b (rT hv))
 have hm:∀{a u},VR G w a u->VR G w' a u:=fun hv=>hv.mono (fun _ _ h=>h) (fun b o hi=>⟨hi,hc b o hi⟩)
 exact {
  cells:=fun id l cs dH h1 h2=>by obtain⟨a1,a2,a3,a4,a5⟩:=h.cells id l cs dH h1 h2;refine⟨a1,a2,a3,a4,fun j hj=>?_⟩;obtain⟨u,hu,hv⟩:=a5 j hj;exact⟨u,by rw[eV (hb _ (h.kI h1 ⟨_,h2,rfl⟩))];exact hu,hm hv⟩
  room:=fun id l h1 h2=>by obtain⟨c,el,fz,a1,a2,a3⟩:=h.room id l h1 h2;have eW:=(Bw.1 a1).1;exact⟨c,el,fz,by rw[hb _ eW];exact a1,a2,fun j hj=>by rw[iR (hb _ eW)];exact a3 j hj⟩
  iN:=h.iN
  gW:=h.gW
  fQ:=fun id l o h1 h2 hk=>let⟨a1,a2,a3⟩:=h.fQ id l o h1 h2 hk;⟨a1,a2,a3.mono (hb _ (a3.lt hk)) fun _ _=>hm⟩
  lt:=h.lt
  fU:=fun b o hi=>by rw[hc b o hi];exact h.fU b o hi
  fY:=fun n cs hn=>hm (h.fY n cs hn)
  xA:=fun n cs hn h0=>let⟨c,el,fz,a1,a2⟩:=h.xA n cs hn h0;⟨c,el,fz,by rw[hb _ (Bw.1 a1).1];exact a1,a2⟩
  mo:=h.mo}
theorem Ext.grow {G:Gh} {H:aA} {w w':World} (mS:∀b o,G.fB b o->∃v,w.cell? ⟨b,o,none⟩=some v)
 (hb:∀b,b<w.heap.size->w'.heap[b]?=w.heap[b]?) (jE:w.heap.size<=w'.heap.size) (hs:uY w w'):Ext G H w G H w' where
 loc:=fun _ _ h=>h
 fB:=fun b o hi=>⟨hi,by obtain⟨v,hv⟩:=mS b o hi;exact eV (hb b (rT hv))⟩
 size:=jE
 frame:=fun b eW _=>hb b eW
 jK:=fun id l h hl=>.inr ⟨id,l,h,hl,rfl⟩
 mU:=fun _ _ h=>.inl h
 next:=Ai _
 news:=fun _ _ h h'=>by rw[h] at h';cases h'
 dead:=fun _ _ _ h=>h
 mo:=rfl
 same:=hs.toB _
theorem WR.lG {g:aT} {G:Gh} {H:aA} {w:World} (h:WR g G H w) (b lo n:Nat)
 (hex:∀j,j<n->∃v,w.cell? ⟨b,lo+j,none⟩=some v)
 (rD:∀id l,G.loc id=some l->H.live id->l.cC≠b\/l.base+l.ext<=lo\/lo+n<=l.base):WR g (G.lG b lo n) H w:=by
 have hm:∀{a u},VR G w a u->VR (G.lG b lo n) w a u:=fun hv=>hv.mono (fun _ _ h=>h) (fun b o hi=>⟨.inl hi,rfl⟩)
 exact {
  cells:=fun id l cs dH h1 h2=>by obtain⟨a1,a2,a3,a4,a5⟩:=h.cells id l cs dH h1 h2;refine⟨a1,a2,a3,a4,fun j hj=>?_⟩;obtain⟨u,hu,hv⟩:=a5 j hj;exact⟨u,hu,hm hv⟩
  room:=h.room
  iN:=h.iN
  gW:=fun id l hl hv j hj hi=>by
   rcases hi with hi|⟨h1,h2,h3⟩
   . exact h.gW id l hl hv j hj hi
   rcases rD id l hl hv with hd|hd|hd
   . exact hd h1
   . omega
   omega
  fQ:=fun id l o h1 h2 hk=>let⟨a1,a2,a3⟩:=h.fQ id l o h1 h2 hk;⟨a1,a2,a3.mono rfl fun _ _=>hm⟩
  lt:=h.lt
  fU:=fun b' o hi=>by
   rcases hi with hi|⟨rfl,h2,h3⟩
   . exact h.fU b' o hi
   have :=hex (o -lo) (by omega)
   rwa [show lo+(o -lo)=o by omega] at this
  fY:=fun n cs hn=>hm (h.fY n cs hn)
  xA:=h.xA
  mo:=h.mo}
theorem Ext.lG {G G':Gh} {H H':aA} {w w':World} (e:Ext G H w G' H' w') (b lo n:Nat)
 (hb:w.heap.size<=b\/∃dN l0,G.loc dN=some l0/\H.live dN/\l0.cC=b):Ext G H w (G'.lG b lo n) H' w' where
 loc:=e.loc
 fB:=fun b' o hi=>⟨.inl (e.fB b' o hi).1,(e.fB b' o hi).2⟩
 size:=e.size
 frame:=e.frame
 jK:=e.jK
 mU:=fun b' o hi=>by
  rcases hi with hi|⟨rfl,_,_⟩
  . exact e.mU b' o hi
  exact .inr hb
 next:=e.next
 news:=e.news
 dead:=e.dead
 mo:=e.mo
 same:=e.same
theorem WR.AW {g:aT} {G:Gh} {H H':aA} {w:World} (h:WR g G H w) (dN:Nat) (o:dU) (l:Loc) (bZ:G.loc dN=none)
 (cJ:∀m,H'.get m=if m=dN then some o else H.get m) (xT:H.next<=H'.next) (zN:dN<H'.next)
 (rD:∀id l',G.loc id=some l'->H.live id->l.cC≠l'.cC\/l.base+l.ext<=l'.base\/l'.base+l'.ext<=l.base)
 (mS:∀j,j<l.ext->¬G.fB l.cC (l.base+j))
 (Jl:∀cs dH,o=.cells cs dH->l.OZ=cs.length/\l.OZ<=l.ext/\(dH=false->l.OZ=l.ext)/\(∀c∈cs,c.one=true)/\
   ∀j,j<cs.length->∃u,w.cell? ⟨l.cC,l.base+j,none⟩=some u/\VR G w (cs.getD j aC) u)
 (sH:((∃cs dH,o=.cells cs dH)\/o=.tok)->∃c el fz,w.heap[l.cC]?=some (.cells c el fz)/\l.base+l.ext<=c.size/\∀j,j<l.ext->w.frozen? ⟨l.cC,l.base+j,none⟩=false)
 (Pd:o.cC=true->l.base=0/\l.ext=1/\DM g G w l o):
 WR g (G.dA dN l) H' w:=by
 have cF:∀{id l'},G.loc id=some l'->id≠dN:=fun hl he=>by rw[he,bZ] at hl;cases hl
 have hm:∀{a u},VR G w a u->VR (G.dA dN l) w a u:=fun hv=>hv.mono (fun id l' hl=>by simp only[Gh.dA];rw[if_neg (cF hl)];exact hl) (fun b o hi=>⟨hi,rfl⟩)
 have lX:∀{id l'},(G.dA dN l).loc id=some l'->(id=dN/\l'=l)\/(id≠dN/\G.loc id=some l'):=fun {id l'} hl=>by
  simp only[Gh.dA] at hl;split at hl
  . exact .inl ⟨by assumption,by cases hl;rfl⟩
  exact .inr ⟨by assumption,hl⟩
 have nF:∀{id},id≠dN->H'.live id->H.live id:=fun hn ⟨x,hx,EI⟩=>⟨x,by rw[cJ,if_neg hn] at hx;exact hx,EI⟩
 exact {
  cells:=fun id l' cs dH h1 h2=>by
   rw[cJ] at h2
   rcases lX h1 with ⟨rfl,rfl⟩|⟨hn,h1⟩
   . rw[if_pos rfl] at h2;obtain⟨a1,a2,a3,a4,a5⟩:=Jl cs dH (Aa h2);refine⟨a1,a2,a3,a4,fun j hj=>?_⟩;obtain⟨u,hu,hv⟩:=a5 j hj;exact⟨u,hu,hm hv⟩
   rw[if_neg hn] at h2;obtain⟨a1,a2,a3,a4,a5⟩:=h.cells id l' cs dH h1 h2;refine⟨a1,a2,a3,a4,fun j hj=>?_⟩;obtain⟨u,hu,hv⟩:=a5 j hj;exact⟨u,hu,hm hv⟩
  room:=fun id l' h1 h2=>by
   simp only[cJ] at h2
   rcases lX h1 with ⟨rfl,rfl⟩|⟨hn,h1⟩
   . simp only[if_true] at h2;refine sH (h2.imp (fun⟨cs,dH,hh⟩=>⟨cs,dH,Aa hh⟩) (fun hh=>Aa hh))
   simp only[if_neg hn] at h2;exact h.room id l' h1 h2
  iN:=fun id iO l1 l2 aDw h1 h2 qN DH=>by
   rcases lX h1 with ⟨e1,e1'⟩|⟨hn,k1⟩
   . rcases lX h2 with ⟨e2,e2'⟩|⟨SE,k2⟩
     . exact absurd (e1.trans e2.symm) aDw
     rw[e1'];exact rD iO l2 k2 (nF SE DH)
   rcases lX h2 with ⟨e2,e2'⟩|⟨SE,k2⟩
   . rw[e2']
     rcases rD id l1 k1 (nF hn qN) with hd|hd|hd
     . exact .inl (Ne.symm hd)
     . exact .inr (.inr hd)
     exact .inr (.inl hd)
   exact h.iN id iO l1 l2 aDw k1 k2 (nF hn qN) (nF SE DH)
  gW:=fun id l' h1 hv j hj=>by
   rcases lX h1 with ⟨rfl,rfl⟩|⟨hn,h1⟩
   . exact mS j hj
   exact h.gW id l' h1 (nF hn hv) j hj
  fQ:=fun id l' ob h1 h2 hk=>by
   rw[cJ] at h2
   rcases lX h1 with ⟨rfl,rfl⟩|⟨hn,h1⟩
   . rw[if_pos rfl] at h2;obtain rfl:=Aa h2;obtain⟨a1,a2,a3⟩:=Pd hk;exact⟨a1,a2,a3.mono rfl fun _ _=>hm⟩
   rw[if_neg hn] at h2;obtain⟨a1,a2,a3⟩:=h.fQ id l' ob h1 h2 hk;exact⟨a1,a2,a3.mono rfl fun _ _=>hm⟩
  lt:=fun id l' h1=>by
   rcases lX h1 with ⟨rfl,rfl⟩|⟨hn,h1⟩
   . exact zN
   exact Aw (h.lt id l' h1) xT
  fU:=h.fU
  fY:=fun n cs hn=>hm (h.fY n cs hn)
  xA:=h.xA
  mo:=h.mo}
theorem WR.IX {g:aT} {G:Gh} {H:aA} {w:World} (h:WR g G H w) (o:dU) (l:Loc)
 (rD:∀id l',G.loc id=some l'->H.live id->l.cC≠l'.cC\/l.base+l.ext<=l'.base\/l'.base+l'.ext<=l.base)
 (mS:∀j,j<l.ext->¬G.fB l.cC (l.base+j))
 (Jl:∀cs dH,o=.cells cs dH->l.OZ=cs.length/\l.OZ<=l.ext/\(dH=false->l.OZ=l.ext)/\(∀c∈cs,c.one=true)/\
   ∀j,j<cs.length->∃u,w.cell? ⟨l.cC,l.base+j,none⟩=some u/\VR G w (cs.getD j aC) u)
 (sH:((∃cs dH,o=.cells cs dH)\/o=.tok)->∃c el fz,w.heap[l.cC]?=some (.cells c el fz)/\l.base+l.ext<=c.size/\∀j,j<l.ext->w.frozen? ⟨l.cC,l.base+j,none⟩=false)
 (Pd:o.cC=true->l.base=0/\l.ext=1/\DM g G w l o):
 WR g (G.dA H.next l) (H.alloc o) w:=
 h.AW H.next o l (by
  cases hl:G.loc H.next with
  |none=>rfl
  |some l'=>exact absurd (h.lt _ _ hl) (Ee _)) (aA.aG H o) (Fm _) (Ea _) rD mS Jl sH Pd
theorem Ext.AW {G G':Gh} {H H' GN:aA} {w w':World} (e:Ext G H w G' H' w') (dN:Nat) (o:dU) (l:Loc) (bZ:G'.loc dN=none)
 (cJ:∀m,GN.get m=if m=dN then some o else H'.get m) (xT:H'.next<=GN.next) (xB:H.next<=dN)
 (hb:w.heap.size<=l.cC\/∃dN l0,G.loc dN=some l0/\H.live dN/\l0.cC=l.cC):Ext G H w (G'.dA dN l) GN w' where
 loc:=fun id l' hl=>by have h1:=e.loc id l' hl;simp only[Gh.dA];rw[if_neg (fun he=>by rw[he,bZ] at h1;cases h1)];exact h1
 fB:=e.fB
 size:=e.size
 frame:=e.frame
 jK:=fun id l' hl hv=>by
  simp only[Gh.dA] at hl;split at hl
  . cases hl;exact hb
  rename_i hn;obtain⟨x,hx,EI⟩:=hv;rw[cJ,if_neg hn] at hx;exact e.jK id l' hl ⟨x,hx,EI⟩
 mU:=e.mU
 next:=By e.next xT
 news:=fun id l' hl hn=>by
  simp only[Gh.dA] at hl;split at hl
  . rename_i he;rw[he];exact xB
  exact e.news id l' hl hn
 dead:=fun id l' hl hv=>by have h1:=e.loc id l' hl;obtain⟨x,hx,EI⟩:=hv;rw[cJ,if_neg (fun he=>by rw[he,bZ] at h1;cases h1)] at hx;exact e.dead id l' hl ⟨x,hx,EI⟩
 mo:=e.mo
 same:=e.same
theorem Ext.IX {G G':Gh} {H H':aA} {w w':World} (e:Ext G H w G' H' w') (o:dU) (l:Loc) (eW:∀id l',G'.loc id=some l'->id<H'.next)
 (hb:w.heap.size<=l.cC\/∃dN l0,G.loc dN=some l0/\H.live dN/\l0.cC=l.cC):Ext G H w (G'.dA H'.next l) (H'.alloc o) w':=
 e.AW H'.next o l (by
  cases hl:G'.loc H'.next with
  |none=>rfl
  |some l'=>exact absurd (eW _ _ hl) (Ee _)) (aA.aG H' o) (Fm _) e.next hb
theorem WR.kill {g:aT} {G:Gh} {H:aA} {w:World} (h:WR g G H w) (id:Nat):WR g G (H.set id .dead) w where
 cells:=fun i l cs dH h1 h2=>by
  rw[aA.aI] at h2;split at h2
  . cases h2
  exact h.cells i l cs dH h1 h2
 room:=fun i l h1 h2=>by
  simp only[aA.aI] at h2;split at h2
  . rcases h2 with ⟨_,_,h2⟩|h2<;>cases h2
  exact h.room i l h1 h2
 iN:=fun i i' l l' cF h1 h2 qN DH=>by
  rcases aA.iP.1 qN with ⟨_,hh⟩|⟨_,qN⟩
  . cases hh
  rcases aA.iP.1 DH with ⟨_,hh⟩|⟨_,DH⟩
  . cases hh
  exact h.iN i i' l l' cF h1 h2 qN DH
 gW:=fun i l h1 hv=>by
  rcases aA.iP.1 hv with ⟨_,hh⟩|⟨_,hv⟩
  . cases hh
  exact h.gW i l h1 hv
 fQ:=fun i l ob h1 h2 hk=>by
  rw[aA.aI] at h2;split at h2
  . cases h2;cases hk
  exact h.fQ i l ob h1 h2 hk
 lt:=h.lt
 fU:=h.fU
 fY:=h.fY
 xA:=h.xA
 mo:=h.mo
theorem Ext.kill {G G':Gh} {H H':aA} {w w':World} (e:Ext G H w G' H' w') (id:Nat):Ext G H w G' (H'.set id .dead) w' where
 loc:=e.loc
 fB:=e.fB
 size:=e.size
 frame:=e.frame
 jK:=fun i l hl hv=>by
  rcases aA.iP.1 hv with ⟨_,hh⟩|⟨_,hv⟩
  . cases hh
  exact e.jK i l hl hv
 mU:=e.mU
 next:=e.next
 news:=e.news
 dead:=fun i l hl hv=>by
  rcases aA.iP.1 hv with ⟨_,hh⟩|⟨_,hv⟩
  . cases hh
  exact e.dead i l hl hv
 mo:=e.mo
 same:=e.same
structure OR (w w':World) (b lo:Nat) (vs:List Value):Prop where
 size:w'.heap.size=w.heap.size
 other:∀b',b'≠b->w'.heap[b']?=w.heap[b']?
 row:∀c el fz,w.heap[b]?=some (.cells c el fz)->∃c',w'.heap[b]?=some (.cells c' el fz)/\c'.size=c.size/\
  (∀o,(o<lo\/lo+vs.length<=o)->c'[o]?=c[o]?)/\(∀j,j<vs.length->lo+j<c.size->c'[lo+j]?=some (vs.getD j undef))
 same:uY w w'
theorem OR.cell {w w':World} {b lo:Nat} {vs:List Value} (u:OR w w' b lo vs) {b' o:Nat} (h:b'≠b\/o<lo\/lo+vs.length<=o) {v:Value}
 (hc:w.cell? ⟨b',o,none⟩=some v):w'.cell? ⟨b',o,none⟩=some v:=by
 by_cases hb:b'=b
 . subst hb;obtain⟨c,el,fz,h1,h2⟩:=vE hc;obtain⟨c',h3,h4,h5,_⟩:=u.row c el fz h1;rw[jL h3,h5 o (h.resolve_left (fun cF=>cF rfl))];exact h2
 rw[eV (u.other b' hb)];exact hc
theorem OR.frozen {w w':World} {b lo:Nat} {vs:List Value} (u:OR w w' b lo vs) {b' o:Nat} {c:Array Value} {el:TypeId} {fz:Nat×Nat}
 (hc:w.heap[b']?=some (.cells c el fz)):w'.frozen? ⟨b',o,none⟩=w.frozen? ⟨b',o,none⟩:=by
 by_cases hb:b'=b
 . subst hb;obtain⟨c',h3,_⟩:=u.row c el fz hc;rw[nY h3,nY hc]
 exact iR (u.other b' hb)
theorem WR.write {g:aT} {G:Gh} {H:aA} {w w':World} (h:WR g G H w) {b lo:Nat} {vs:List Value} (u:OR w w' b lo vs)
 (mS:∀j,j<vs.length->¬G.fB b (lo+j))
 (rD:∀id l,G.loc id=some l->H.live id->l.cC≠b\/l.base+l.ext<=lo\/lo+vs.length<=l.base)
 (tQ:∃c el fz,w.heap[b]?=some (.cells c el fz)):WR g G H w':=by
 have hc:∀b' o,G.fB b' o->w'.cell? ⟨b',o,none⟩=w.cell? ⟨b',o,none⟩:=fun b' o hi=>by
  obtain⟨v,hv⟩:=h.fU b' o hi;rw[hv];refine u.cell ?_ hv;by_cases hb:b'=b
  . subst hb;by_cases h1:o<lo
    . exact .inr (.inl h1)
    refine .inr (.inr (Gz fun h2=>mS (o -lo) (by omega) ?_))
    rwa [show lo+(o -lo)=o by omega]
  exact .inl hb
 have hm:∀{a u},VR G w a u->VR G w' a u:=fun hv=>hv.mono (fun _ _ h=>h) (fun b o hi=>⟨hi,hc b o hi⟩)
 exact {
  cells:=fun id l cs dH h1 h2=>by
   obtain⟨a1,a2,a3,a4,a5⟩:=h.cells id l cs dH h1 h2;refine⟨a1,a2,a3,a4,fun j hj=>?_⟩;obtain⟨x,hx,hv⟩:=a5 j hj;refine⟨x,u.cell ?_ hx,hm hv⟩
   rcases rD id l h1 ⟨_,h2,rfl⟩ with hd|hd|hd
   . exact .inl hd
   . exact .inr (.inl (by omega))
   exact .inr (.inr (by omega))
  room:=fun id l h1 h2=>by
   obtain⟨c,el,fz,a1,a2,a3⟩:=h.room id l h1 h2;by_cases hb:l.cC=b
   . subst hb;obtain⟨c',h3,h4,_⟩:=u.row c el fz a1;exact⟨c',el,fz,h3,by omega,fun j hj=>by rw[u.frozen a1];exact a3 j hj⟩
   exact⟨c,el,fz,by rw[u.other _ hb];exact a1,a2,fun j hj=>by rw[u.frozen a1];exact a3 j hj⟩
  iN:=h.iN
  gW:=h.gW
  fQ:=fun id l ob h1 h2 hk=>by
   obtain⟨a1,a2,a3⟩:=h.fQ id l ob h1 h2 hk
   have hb:l.cC≠b:=fun hb=>by obtain⟨c,el,fz,hr⟩:=tQ;rw[<-hb] at hr;exact a3.wA hk hr
   exact⟨a1,a2,a3.mono (u.other _ hb) fun _ _=>hm⟩
  lt:=h.lt
  fU:=fun b o hi=>by rw[hc b o hi];exact h.fU b o hi
  fY:=fun n cs hn=>hm (h.fY n cs hn)
  xA:=fun n cs hn h0=>by
   obtain⟨c,el,fz,a1,a2⟩:=h.xA n cs hn h0;by_cases hb:n=b
   . subst hb;obtain⟨c',h3,h4,_⟩:=u.row c el fz a1;exact⟨c',el,fz,h3,by omega⟩
   exact⟨c,el,fz,by rw[u.other _ hb];exact a1,a2⟩
  mo:=h.mo}
theorem Ext.write {G G':Gh} {H H':aA} {w w1 w':World} (e:Ext G H w G' H' w1) {b lo:Nat} {vs:List Value} (u:OR w1 w' b lo vs)
 (mS:∀j,j<vs.length->¬G'.fB b (lo+j)) (hex:∀b o,G'.fB b o->∃v,w1.cell? ⟨b,o,none⟩=some v)
 (hb:w.heap.size<=b\/∃dN l0,G.loc dN=some l0/\H.live dN/\l0.cC=b):Ext G H w G' H' w' where
 loc:=e.loc
 fB:=fun b' o hi=>by
  have h1:=e.fB b' o hi;refine⟨h1.1,?_⟩;rw[<-h1.2];obtain⟨v,hv⟩:=hex b' o h1.1;rw[hv];refine u.cell ?_ hv;by_cases hbb:b'=b
  . subst hbb;by_cases h2:o<lo
    . exact .inr (.inl h2)
    refine .inr (.inr (Gz fun h3=>mS (o -lo) (by omega) ?_));rw[show lo+(o -lo)=o by omega];exact h1.1
  exact .inl hbb
 size:=by rw[u.size];exact e.size
 frame:=fun b' eW hn=>by
  have cF:b'≠b:=fun he=>by
   subst he
   rcases hb with hb|⟨dN,l0,h1,h2,h3⟩
   . omega
   exact hn dN l0 h1 h2 h3
  rw[u.other b' cF];exact e.frame b' eW hn
 jK:=e.jK
 mU:=e.mU
 next:=e.next
 news:=e.news
 dead:=e.dead
 mo:=e.mo
 same:=e.same.trans (u.same.toB _)
theorem WR.aCn {g:aT} {G:Gh} {H:aA} {w:World} {id:Nat} (h:WR g G (H.set id .dead) w) (o:dU) (l:Loc) (hl:G.loc id=some l)
 (rD:∀iO l',iO≠id->G.loc iO=some l'->H.live iO->l.cC≠l'.cC\/l.base+l.ext<=l'.base\/l'.base+l'.ext<=l.base)
 (mS:∀j,j<l.ext->¬G.fB l.cC (l.base+j))
 (Jl:∀cs dH,o=.cells cs dH->l.OZ=cs.length/\l.OZ<=l.ext/\(dH=false->l.OZ=l.ext)/\(∀c∈cs,c.one=true)/\
   ∀j,j<cs.length->∃u,w.cell? ⟨l.cC,l.base+j,none⟩=some u/\VR G w (cs.getD j aC) u)
 (sH:((∃cs dH,o=.cells cs dH)\/o=.tok)->∃c el fz,w.heap[l.cC]?=some (.cells c el fz)/\l.base+l.ext<=c.size/\∀j,j<l.ext->w.frozen? ⟨l.cC,l.base+j,none⟩=false)
 (Pd:o.cC=true->l.base=0/\l.ext=1/\DM g G w l o):
 WR g G (H.set id o) w:=by
 have cJ:∀{m},m≠id->(H.set id o).get m=(H.set id .dead).get m:=fun hm=>by rw[aA.aI,aA.aI,if_neg hm,if_neg hm]
 have pP:∀{l'},G.loc id=some l'->l'=l:=fun h'=>Aa (h'.symm.trans hl)
 have nF:∀{m},m≠id->(H.set id o).live m->(H.set id .dead).live m:=fun hm hv=>by obtain⟨x,hx,EI⟩:=hv;exact⟨x,by rw[<-cJ hm];exact hx,EI⟩
 have qf:∀{m},m≠id->(H.set id o).live m->H.live m:=fun hm hv=>by
  rcases aA.iP.1 hv with ⟨he,_⟩|⟨_,hv⟩
  . exact absurd he hm
  exact hv
 exact {
  cells:=fun i l' cs dH h1 h2=>by
   by_cases hi:i=id
   . subst hi;rw[aA.aI,if_pos rfl] at h2;obtain rfl:=pP h1;exact Jl cs dH (Aa h2)
   rw[cJ hi] at h2;exact h.cells i l' cs dH h1 h2
  room:=fun i l' h1 h2=>by
   by_cases hi:i=id
   . subst hi;simp only[aA.aI,if_true] at h2;obtain rfl:=pP h1;exact sH (h2.imp (fun⟨cs,dH,hh⟩=>⟨cs,dH,Aa hh⟩) (fun hh=>Aa hh))
   simp only[cJ hi] at h2;exact h.room i l' h1 h2
  iN:=fun i i' l1 l2 cF h1 h2 qN DH=>by
   by_cases hi:i=id
   . subst hi;obtain rfl:=pP h1;exact rD i' l2 (Ne.symm cF) h2 (qf (Ne.symm cF) DH)
   by_cases zL:i'=id
   . subst zL;obtain rfl:=pP h2
     rcases rD i l1 cF h1 (qf cF qN) with hd|hd|hd
     . exact .inl (Ne.symm hd)
     . exact .inr (.inr hd)
     exact .inr (.inl hd)
   exact h.iN i i' l1 l2 cF h1 h2 (nF hi qN) (nF zL DH)
  gW:=fun i l' h1 hv=>by
   by_cases hi:i=id
   . subst hi;obtain rfl:=pP h1;exact mS
   exact h.gW i l' h1 (nF hi hv)
  fQ:=fun i l' ob h1 h2 hk=>by
   by_cases hi:i=id
   . subst hi;rw[aA.aI,if_pos rfl] at h2;obtain rfl:=Aa h2;obtain rfl:=pP h1;exact Pd hk
   rw[cJ hi] at h2;exact h.fQ i l' ob h1 h2 hk
  lt:=h.lt
  fU:=h.fU
  fY:=h.fY
  xA:=h.xA
  mo:=h.mo}
theorem Ext.lq {G G':Gh} {H H':aA} {w w':World} (e:Ext G H w G' H' w') (id:Nat) (o:dU) (hv:H'.live id):Ext G H w G' (H'.set id o) w' where
 loc:=e.loc
 fB:=e.fB
 size:=e.size
 frame:=e.frame
 jK:=fun i l hl kA=>by
  rcases aA.iP.1 kA with ⟨he,_⟩|⟨_,kA⟩
  . subst he;exact e.jK i l hl hv
  exact e.jK i l hl kA
 mU:=e.mU
 next:=e.next
 news:=e.news
 dead:=fun i l hl kA=>by
  rcases aA.iP.1 kA with ⟨he,_⟩|⟨_,kA⟩
  . subst he;exact e.dead i l hl hv
  exact e.dead i l hl kA
 mo:=e.mo
 same:=e.same
theorem gN (b o i:Nat):(⟨b,o,none⟩:Addr).add i=⟨b,o+i,none⟩:=by
 unfold Addr.add;split
 . rename_i h;subst h;rfl
 rfl
theorem nP {α:Type} (l:List α) (d:α) (j:Nat) (h:j<l.length):l[j]?=some (l.getD j d):=by simp[List.getD,Ac h]
theorem qU (P:Program) (w:World) (b o:Nat) (us:List Value) (h:∀j,j<us.length->w.cell? ⟨b,o+j,none⟩=some (us.getD j undef)):
 (loadCells ⟨b,o,none⟩ us.length).run P w=.ok us.toArray w:=
 run_loadCells_list w ⟨b,o,none⟩ us (fun j v hj=>by
  have eW:=(An.1 hj).1;rw[gN,h j eW];rw[nP us undef j eW] at hj
  exact hj)
theorem Qd {w:World} {b o:Nat} {v:Value}:OR w (w.setCell ⟨b,o,none⟩ v) b o [v] where
 size:=by simp[World.setCell]
 other:=fun b' hb=>by simp only[World.setCell,Ft];rw[if_neg (Ne.symm hb)]
 row:=fun c el fz h=>by
  refine⟨c.setIfInBounds o v,?_,by simp,fun o' ho=>?_,fun j hj eW=>?_⟩
  . simp[World.setCell,Ft,h]
  . rw[Array.getElem?_setIfInBounds_ne];simp at ho;omega
  simp at hj;subst hj;simp at eW;simp[eW]
 same:=.now
theorem OR.refl (w:World) (b lo:Nat):OR w w b lo [] where
 size:=rfl
 other:=fun _ _=>rfl
 row:=fun c el fz h=>⟨c,h,rfl,fun _ _=>rfl,fun j hj=>absurd hj (Bh j)⟩
 same:=.now
theorem OR.cons {w w1 w2:World} {b lo:Nat} {v:Value} {vs:List Value} (h1:OR w w1 b lo [v]) (h2:OR w1 w2 b (lo+1) vs):OR w w2 b lo (v::vs) where
 size:=h2.size.trans h1.size
 other:=fun b' hb=>(h2.other b' hb).trans (h1.other b' hb)
 row:=fun c el fz h=>by
  obtain⟨c1,a1,a2,a3,a4⟩:=h1.row c el fz h;obtain⟨c2,b1,b2,b3,b4⟩:=h2.row c1 el fz a1;refine⟨c2,b1,b2.trans a2,fun o ho=>?_,fun j hj eW=>?_⟩
  . simp only[Ak] at ho;rw[b3 o (by omega),a3 o (by simp;omega)]
  cases j with
  |zero=>rw[b3 _ (by omega)];have :=a4 0 (by simp) (by omega);simpa using this
  |succ j=>have :=b4 j (by simpa using hj) (by omega);rw[show lo+(j+1)=lo+1+j by omega,this];simp
 same:=h1.same.trans h2.same
theorem Ld (P:Program) (w:World) (b o:Nat) (v:Value) (u:Value) (hc:w.cell? ⟨b,o,none⟩=some u) (hf:w.frozen? ⟨b,o,none⟩=false) (h1:Yy v=true):
 (store ⟨b,o,none⟩ v).run P w=.ok () (w.setCell ⟨b,o,none⟩ v):=by
 cases v<;>first
  |(simp[Yy] at h1;done)
  |simp[store,Sem.run,hc,hf]
theorem dV (P:Program) (b o:Nat):∀(vs:List Value) (i:Nat) (w:World),(∃c el fz,w.heap[b]?=some (.cells c el fz)/\o+i+vs.length<=c.size)->
 (∀j,j<vs.length->w.frozen? ⟨b,o+i+j,none⟩=false)->(∀v∈vs,Yy v=true)->
 ∃w',(storeCells ⟨b,o,none⟩ vs i).run P w=.ok () w'/\OR w w' b (o+i) vs
 |[],i,w,_,_,_=>⟨w,rfl,OR.refl w b _⟩
 |v::r,i,w,⟨c,el,fz,tQ,jE⟩,hf,h1=>by
  simp only[Ak] at jE;have iD:w.cell? ⟨b,o+i,none⟩=some c[o+i]:=by rw[jL tQ,Db (by omega)]
  have xU:=Ld P w b (o+i) v _ iD (by simpa using hf 0 (by simp)) (h1 v (by simp));have hu:OR w (w.setCell ⟨b,o+i,none⟩ v) b (o+i) [v]:=Qd;obtain⟨c1,a1,a2,_,_⟩:=hu.row c el fz tQ
  obtain⟨w',hr,hu'⟩:=dV P b o r (i+1) (w.setCell ⟨b,o+i,none⟩ v) ⟨c1,el,fz,a1,by omega⟩
   (fun j hj=>by
     rw[hu.frozen tQ];have :=hf (j+1) (by simpa using hj)
     rwa [show o+(i+1)+j=o+i+(j+1) by omega]) (fun x hx=>h1 x (by simp[hx]))
  refine⟨w',?_,hu.cons (by rwa [show o+i+1=o+(i+1) by omega])⟩;simp only[storeCells,Sem.run_bind,gN,xU,Result.andThen_ok];exact hr
structure fO (w w':World) (o:Go.Obj):Prop where
 heap:w'.heap=w.heap.push o
 same:uY w w'
theorem fO.CL {w w':World} {o:Go.Obj} (p:fO w w' o) (b:Nat) (h:b<w.heap.size):w'.heap[b]?=w.heap[b]?:=by rw[p.heap];exact BJ _ _ h
theorem fO.new {w w':World} {o:Go.Obj} (p:fO w w' o):w'.heap[w.heap.size]?=some o:=by rw[p.heap];simp
theorem fO.size {w w':World} {o:Go.Obj} (p:fO w w' o):w'.heap.size=w.heap.size+1:=by rw[p.heap];simp
theorem WR.AD {g:aT} {G:Gh} {H:aA} {w w':World} {o:Go.Obj} (h:WR g G H w) (p:fO w w' o):WR g G H w':=
 h.grow p.CL
theorem Ext.AD {g:aT} {G:Gh} {H:aA} {w w':World} {o:Go.Obj} (h:WR g G H w) (p:fO w w' o):Ext G H w G H w':=
 Ext.grow h.fU p.CL (by rw[p.size];omega) p.same
theorem fJ.nil (G:Gh) (w:World):fJ G w [] []:=⟨rfl,fun j hj=>absurd hj (Bh j)⟩
def Clear (arr:Array Value) (fz:Nat×Nat):Prop:=∀o,o<arr.size->(decide (fz.1<=o)&&decide (o<fz.2))=false
theorem Clear.zero (arr:Array Value):Clear arr (0,0):=fun o _=>by simp
structure Made (g:aT) (G:Gh) (H:aA) (w:World) (dN:Nat) (o:dU) (G':Gh) (H':aA) (w':World):Prop where
 rel:WR g G' H' w'
 aNw:∃l,l.cC=w.heap.size/\G'.loc dN=some l/\∀id,id≠dN->G'.loc id=G.loc id
 ext:∀{G0:Gh} {H0:aA} {w0:World},Ext G0 H0 w0 G H w->H0.next<=dN->Ext G0 H0 w0 G' H' w'
 mU:∀b o,G'.fB b o->G.fB b o\/b=w.heap.size
 aLo:∀b o,G.fB b o->G'.fB b o
 size:w'.heap.size=w.heap.size+1
 CL:∀b,b<w.heap.size->w'.heap[b]?=w.heap[b]?
theorem WR.sU {g:aT} {G:Gh} {H H':aA} {w w':World} (h:WR g G H w) (dN:Nat) (bZ:G.loc dN=none) (cs:List AV) (vs rest:List Value) (hv:fJ G w cs vs) (h1:∀c∈cs,c.one=true)
 (dH:Bool) (ho:dH=false->rest=[]) (cJ:∀m,H'.get m=if m=dN then some (.cells cs dH) else H.get m) (xT:H.next<=H'.next) (zN:dN<H'.next)
 {el:TypeId} {fz:Nat×Nat} (Ts:Clear (vs++rest).toArray fz) (p:fO w w' (.cells (vs++rest).toArray el fz)):
 Made g G H w dN (.cells cs dH) (G.dA dN ⟨w.heap.size,0,cs.length,(vs++rest).length⟩) H' w':=by
 have hp:=h.AD p;have he:=Ext.AD h p;have EF:=p.new
 refine⟨hp.AW dN _ _ bZ cJ xT zN (fun id l' hl hv=>.inl (Ne.symm (Nat.ne_of_lt (h.kI hl hv)))) (fun j _ hi=>?_) (fun vI Yz sG=>?_) (fun _=>?_) (fun sG=>by cases sG),
  ⟨⟨w.heap.size,0,cs.length,(vs++rest).length⟩,rfl,by simp only[Gh.dA,if_true],fun id cF=>by simp only[Gh.dA];rw[if_neg cF]⟩,fun {G0 H0 w0} e0 xB=>(e0.trans he).AW dN _ _ bZ cJ xT xB (.inl ?_),fun b o hi=>.inl hi,fun b o hi=>hi,p.size,p.CL⟩
 . obtain⟨v,hv⟩:=h.fU _ _ hi;have :=rT hv;simp at this
 . cases sG;have hlen:=hv.1;refine⟨rfl,by simp[hlen],fun eK=>by simp[ho eK,hlen],h1,fun j hj=>⟨vs.getD j undef,?_,(hv.2 j hj).mono he.loc he.fB⟩⟩;rw[jL EF];have HQ:j<vs.length:=by omega
   rw[De];simp only[Cc];rw[Dy HQ,nP vs undef j HQ]
 . exact⟨_,el,fz,EF,by simp,fun j hj=>by rw[nY EF];exact Ts _ (by simpa using hj)⟩
 exact e0.size
theorem WR.lh {g:aT} {G:Gh} {H:aA} {w w':World} (h:WR g G H w) (cs:List AV) (vs rest:List Value) (hv:fJ G w cs vs) (h1:∀c∈cs,c.one=true)
 (dH:Bool) (ho:dH=false->rest=[]) {el:TypeId} {fz:Nat×Nat} (Ts:Clear (vs++rest).toArray fz) (p:fO w w' (.cells (vs++rest).toArray el fz)):
 WR g (G.dA H.next ⟨w.heap.size,0,cs.length,(vs++rest).length⟩) (H.alloc (.cells cs dH)) w'/\
  Ext G H w (G.dA H.next ⟨w.heap.size,0,cs.length,(vs++rest).length⟩) (H.alloc (.cells cs dH)) w':=by
 have bZ:G.loc H.next=none:=by
  cases hl:G.loc H.next with
  |none=>rfl
  |some l'=>exact absurd (h.lt _ _ hl) (Ee _)
 have :=h.sU H.next bZ cs vs rest hv h1 dH ho (aA.aG H _) (Fm _) (Ea _) Ts p;exact⟨this.rel,this.ext (Ext.refl G H w) (Ai _)⟩
theorem WR.UR {g:aT} {G:Gh} {H:aA} {w w':World} (h:WR g G H w) (cs:List AV) (vs rest:List Value) (hv:fJ G w cs vs)
 {el:TypeId} {fz:Nat×Nat} (p:fO w w' (.cells (vs++rest).toArray el fz)):
 WR g (G.lG w.heap.size 0 cs.length) H w'/\Ext G H w (G.lG w.heap.size 0 cs.length) H w'/\
  ∀j,j<cs.length->(G.lG w.heap.size 0 cs.length).fB w.heap.size (0+j)/\w'.cell? ⟨w.heap.size,0+j,none⟩=some (vs.getD j undef)/\
   VR (G.lG w.heap.size 0 cs.length) w' (cs.getD j aC) (vs.getD j undef):=by
 have hp:=h.AD p;have he:=Ext.AD h p;have EF:=p.new;have hlen:=hv.1
 have iD:∀j,j<cs.length->w'.cell? ⟨w.heap.size,0+j,none⟩=some (vs.getD j undef):=fun j hj=>by
  have HQ:j<vs.length:=by omega
  rw[jL EF];rw[De];simp only[Cc];rw[Dy HQ,nP vs undef j HQ]
 have sG:=he.lG w.heap.size 0 cs.length (.inl (Ai _));refine⟨hp.lG _ _ _ (fun j hj=>⟨_,iD j hj⟩) (fun id l hl hv=>.inl (Nat.ne_of_lt (h.kI hl hv))),sG,fun j hj=>⟨.inr ⟨rfl,by omega,by omega⟩,iD j hj,(hv.2 j hj).mono sG.loc sG.fB⟩⟩
theorem WR.Md {g:aT} {G:Gh} {H H':aA} {w w':World} (h:WR g G H w) (dN:Nat) (bZ:G.loc dN=none) (cs:List AV) (vs rest:List Value) (hv:fJ G w cs vs)
 (cJ:∀m,H'.get m=if m=dN then some .tok else H.get m) (xT:H.next<=H'.next) (zN:dN<H'.next)
 {el:TypeId} {fz:Nat×Nat} (Ts:Clear (vs++rest).toArray fz) (p:fO w w' (.cells (vs++rest).toArray el fz)):
 ∃G',G'.loc dN=some ⟨w.heap.size,cs.length,0,rest.length⟩/\Made g G H w dN .tok G' H' w'/\
  ∀j,j<cs.length->G'.fB w.heap.size (0+j)/\w'.cell? ⟨w.heap.size,0+j,none⟩=some (vs.getD j undef)/\VR G' w' (cs.getD j aC) (vs.getD j undef):=by
 obtain⟨hw,he,hc⟩:=h.UR cs vs rest hv p;have EF:=p.new;have hlen:=hv.1;have zM:(G.lG w.heap.size 0 cs.length).loc dN=none:=bZ
 refine⟨(G.lG w.heap.size 0 cs.length).dA dN ⟨w.heap.size,cs.length,0,rest.length⟩,by simp[Gh.dA],⟨?_,⟨_,rfl,by simp[Gh.dA];rfl,fun id cF=>by simp only[Gh.dA];rw[if_neg cF];rfl⟩,fun {G0 H0 w0} e0 xB=>?_,fun b o hi=>hi.imp id (fun hh=>hh.1),fun b o hi=>.inl hi,p.size,p.CL⟩,
  fun j hj=>⟨(hc j hj).1,(hc j hj).2.1,(hc j hj).2.2.mono (fun id l hl=>?_) (fun b o hi=>⟨hi,rfl⟩)⟩⟩
 . refine hw.AW dN .tok _ zM cJ xT zN (fun id l' hl hv=>.inl (Ne.symm (Nat.ne_of_lt (h.kI hl hv)))) (fun j _ hi=>?_) (fun vI Yz sG=>by cases sG) (fun _=>?_) (fun sG=>by cases sG)
   . rcases hi with hi|⟨_,_,hi⟩
     . obtain⟨v,hv⟩:=h.fU _ _ hi;have :=rT hv;simp at this
     simp at hi;omega
   exact⟨_,el,fz,EF,by simp[hlen],fun j hj=>by rw[nY EF];exact Ts _ (by simp at hj;simp;omega)⟩
 . exact(e0.trans he).AW dN .tok _ zM cJ xT xB (.inl e0.size)
 simp only[Gh.dA];rw[if_neg (fun he=>by rw[he,zM] at hl;cases hl)];exact hl
theorem WR.lj {g:aT} {G:Gh} {H:aA} {w w':World} (h:WR g G H w) (cs:List AV) (vs rest:List Value) (hv:fJ G w cs vs)
 {el:TypeId} {fz:Nat×Nat} (Ts:Clear (vs++rest).toArray fz) (p:fO w w' (.cells (vs++rest).toArray el fz)):
 ∃G',G'.loc H.next=some ⟨w.heap.size,cs.length,0,rest.length⟩/\WR g G' (H.alloc .tok) w'/\Ext G H w G' (H.alloc .tok) w'/\
  ∀j,j<cs.length->G'.fB w.heap.size (0+j)/\w'.cell? ⟨w.heap.size,0+j,none⟩=some (vs.getD j undef)/\VR G' w' (cs.getD j aC) (vs.getD j undef):=by
 have bZ:G.loc H.next=none:=by
  cases hl:G.loc H.next with
  |none=>rfl
  |some l'=>exact absurd (h.lt _ _ hl) (Ee _)
 obtain⟨G',h1,h2,h3⟩:=h.Md H.next bZ cs vs rest hv (aA.aG H _) (Fm _) (Ea _) Ts p;exact⟨G',h1,h2.rel,h2.ext (Ext.refl G H w) (Ai _),h3⟩
section
def CK:Value->Option AV
 |.bool b=>some (.bool b)
 |.int k n=>some (.int k n)
 |.string s=>some (.str s.data.toList)
 |.pointer none=>some .zX
 |.slice none 0 0=>some .aF
 |.nilFunc=>some .vZ
 |.nilIface=>some .lZ
 |.map none=>some .oZ
 |_=>none
def gK:List Value->Option (List AV)
 |[]=>some []
 |v::r=>match CK v,gK r with
  |some a,some b=>some (a::b)
  |_,_=>none
def ofConst:Value->Option AV
 |.agg cs=>(gK cs.toList).map .agg
 |v=>CK v
theorem GD {v:Value} {a:AV} (h:CK v=some a) (G:Gh) (w:World):VR G w a v/\a.one=true:=by
 unfold CK at h
 split at h<;>first
  |(cases h;done)
  |(obtain rfl:=Aa h;exact⟨by constructor,rfl⟩)
theorem fJ.cons {G:Gh} {w:World} {x:AV} {v:Value} {xs:List AV} {vs:List Value} (h:VR G w x v) (hs:fJ G w xs vs):fJ G w (x::xs) (v::vs):=
 ⟨by simp[hs.1],fun j hj=>by
   cases j with
   |zero=>simpa using h
   |succ j=>simpa using hs.2 j (by simpa using hj)⟩
theorem VR.cons {G:Gh} {w:World} {x:AV} {v:Value} {xs:List AV} {vs:List Value} (h:VR G w x v) (hs:fJ G w xs vs):fJ G w (x::xs) (v::vs):=
 fJ.cons h hs
theorem jN:∀{vs:List Value} {cs:List AV},gK vs=some cs->∀(G:Gh) (w:World),fJ G w cs vs/\∀c∈cs,c.one=true
 |[],cs,h,G,w=>by obtain rfl:=Aa h;exact⟨fJ.nil G w,fun c hc=>by cases hc⟩
 |v::r,cs,h,G,w=>by
  unfold gK at h;split at h
  . rename_i a b ha hb;obtain rfl:=Aa h;have h1:=GD ha G w;have h2:=jN hb G w
    exact⟨h1.1.cons h2.1,fun c hc=>by
     rcases Ah.1 hc with rfl|hc
     . exact h1.2
     exact h2.2 c hc⟩
  cases h
theorem VR.RV {G:Gh} {w:World} {cs:List AV} {vs:List Value} (h:fJ G w cs vs) (h1:∀c∈cs,c.one=true):VR G w (.agg cs) (.agg vs.toArray):=
 .agg cs vs h.1 h1 h.2
theorem zY {v:Value} {a:AV} (h:ofConst v=some a) (G:Gh) (w:World):VR G w a v:=by
 unfold ofConst at h;split at h
 . rename_i cs
   cases hc:gK cs.toList with
   |none=>simp[hc] at h
   |some b=>simp[hc] at h;subst h;have :=jN hc G w;simpa using VR.RV this.1 this.2
 exact(GD h G w).1
theorem VR.cellsOf {G:Gh} {w:World} {a:AV} {v:Value} (h:VR G w a v) (ht:a.oK=false):fJ G w a.cells v.cells.toList/\∀c∈a.cells,c.one=true:=by
 cases h with
 |agg cs vs hl h1 hv=>exact⟨⟨by simpa [AV.cells,Value.cells] using hl,by simpa [AV.cells,Value.cells] using hv⟩,h1⟩
 |eZ cs vs hl hv=>simp[AV.oK] at ht
 |_=>exact⟨fJ.cons (by constructor<;>assumption) (fJ.nil G w),fun c hc=>by
   simp only[AV.cells,Dc] at hc;subst hc
   rfl⟩
def aX (g:aT):Operand->Option Arg
 |.tmp t=>some (.tmp t)
 |.const v=>(ofConst v).map .const
 |.global n=>if(g n).isSome then some (.fY n) else none
 |.func f=>some (.const (.func (.func f) [] []))
def SR (G:Gh) (w:World) (s:List AV) (a:Act):Prop:=fJ G w s a.tmps.toList
theorem SR.getD {G:Gh} {w:World} {s:List AV} {a:Act} (h:SR G w s a) (t:Nat):VR G w (s.getD t aC) (a.tmps.getD t undef):=by
 have hlen:=h.1;by_cases ht:t<s.length
 . have :=h.2 t ht
   have e:a.tmps.getD t undef=a.tmps.toList.getD t undef:=by simp[List.getD,Ba]
   rw[e];exact this
 have e1:s.getD t aC=aC:=by simp[List.getD,Bp (Gz ht)]
 have e2:a.tmps.getD t undef=undef:=by
  have :¬t<a.tmps.size:=by simp at hlen;omega
  simp[Array.getD,this]
 rw[e1,e2];exact VR.kN G w
theorem aW {g:aT} {G:Gh} {H:aA} {w:World} {s:List AV} {a:Act} (hw:WR g G H w) (hs:SR G w s a) {x:Operand} {y:Arg} (h:aX g x=some y):
 VR G w (y.eval g s) (a.eval x):=by
 cases x with
 |tmp t=>obtain rfl:=Aa h;exact hs.getD t
 |const v=>simp only[aX,Af] at h;obtain⟨c,hc,rfl⟩:=h;exact zY hc G w
 |global n=>
  simp only[aX] at h;split at h
  . rename_i hg;obtain rfl:=Aa h;obtain⟨cs,FW⟩:=Option.isSome_iff_exists.1 hg;simp only[Arg.eval,FW,Act.eval];exact hw.fY n cs FW
  cases h
 |func f=>obtain rfl:=Aa h;exact VR.func _ [] [] [] [] rfl rfl (fun j hj=>absurd hj (Bh j)) (fun j hj=>absurd hj (Bh j))
def lH (g:aT):List Operand->Option (List Arg)
 |[]=>some []
 |x::r=>match aX g x,lH g r with
  |some a,some b=>some (a::b)
  |_,_=>none
theorem qA {g:aT} {G:Gh} {H:aA} {w:World} {s:List AV} {a:Act} (hw:WR g G H w) (hs:SR G w s a):∀{xs:List Operand} {ys:List Arg},lH g xs=some ys->
 fJ G w (ys.map (Arg.eval g s)) (xs.map a.eval)
 |[],ys,h=>by obtain rfl:=Aa h;exact fJ.nil G w
 |x::r,ys,h=>by
  unfold lH at h;split at h
  . rename_i y b hy hb;obtain rfl:=Aa h;exact(aW hw hs hy).cons (qA hw hs hb)
  cases h
def kL (g:aT):Option Operand->Option (Option Arg)
 |none=>some none
 |some x=>(aX g x).map some
def eO (P:Program) (t:TypeId):Option Bool:=
 match P.underlying t with
 |some (.struct _)|some (.array _ _)=>some true
 |some _=>some false
 |none=>none
theorem nV {P:Program} {t:TypeId} {b:Bool} (h:eO P t=some b) (w:World):(isAgg t).run P w=.ok b w:=by
 unfold eO at h;unfold isAgg;split at h
 . rename_i fs hu;obtain rfl:=Aa h;simp[run_underlying hu w]
 . rename_i n e hu;obtain rfl:=Aa h;simp[run_underlying hu w]
 . rename_i d h1 h2 hu;obtain rfl:=Aa h;simp only[Sem.run_bind,run_underlying hu w,Result.andThen_ok];rfl
 cases h
def hZ (P:Program) (t:TypeId):Option Nat:=(P.info? t).map (·.size)
theorem dF {P:Program} {t:TypeId} {n:Nat} (h:hZ P t=some n) (w:World):(sizeOf t).run P w=.ok n w:=by simp only[hZ,Af] at h;obtain⟨i,hi,rfl⟩:=h;simp[sizeOf,typeInfo,program,Sem.run,hi]
def jC (P:Program) (t:TypeId):Option Value:=(P.info? t).bind (·.zero)
theorem iT {P:Program} {t:TypeId} {v:Value} (h:jC P t=some v) (w:World):(zeroValue t).run P w=.ok v w:=by simp only[jC,Option.bind_eq_some_iff] at h;obtain⟨i,hi,hz⟩:=h;simp[zeroValue,typeInfo,program,Sem.run,hi,hz]
def Lj (n:Next) (u:Value):Prop:=n=.value u\/(n=.skip/\u=undef)
def bT (P:Program) (g:aT) (o:Oper) (r:cZ):Prop:=
 ∀(s:List AV) (a:Act) (G:Gh) (H:aA) (w:World) (v:AV) (H':aA),WR g G H w->SR G w s a->cD (Arg.eval g s) H r=some (v,H')->
  ∃n u w' G',(execOp a.eval o).run P w=.ok n w'/\Lj n u/\WR g G' H' w'/\Ext G H w G' H' w'/\VR G' w' v u
theorem bT.pure' {P:Program} {g:aT} {o:Oper} {G:Gh} {H:aA} {w:World} {v:AV} {a:Act} {u:Value} (hw:WR g G H w)
 (hr:(execOp a.eval o).run P w=.ok (.value u) w) (hv:VR G w v u):
 ∃n u w' G',(execOp a.eval o).run P w=.ok n w'/\Lj n u/\WR g G' H w'/\Ext G H w G' H w'/\VR G' w' v u:=
 ⟨_,u,w,G,hr,.inl rfl,hw,Ext.refl G H w,hv⟩
def xY (P:Program) (g:aT) (o:Oper) (r:cZ):Prop:=
 ∀(s:List AV) (a:Act) (G:Gh) (H H':aA) (w:World) (ob:dU) (val:Nat->AV) (dN:Nat),WR g G H w->SR G w s a->tL (Arg.eval g s) r=some (ob,val)->
  G.loc dN=none->(∀m,H'.get m=if m=dN then some ob else H.get m)->H.next<=H'.next->dN<H'.next->
  ∃u w' G',(execOp a.eval o).run P w=.ok (.value u) w'/\Made g G H w dN ob G' H' w'/\VR G' w' (val dN) u
theorem xY.op {P:Program} {g:aT} {o:Oper} {r:cZ} (h:xY P g o r) (hr:∀ev H,cD ev H r=(tL ev r).map fun p=>(p.2 H.next,H.alloc p.1)):bT P g o r:=by
 intro s a G H w v H' hw hs ha;rw[hr] at ha;simp only[Af,Ad] at ha;obtain⟨⟨ob,val⟩,hf,rfl,rfl⟩:=ha
 have bZ:G.loc H.next=none:=by
  cases hl:G.loc H.next with
  |none=>rfl
  |some l'=>exact absurd (hw.lt _ _ hl) (Ee _)
 obtain⟨u,w',G',h1,h2,h3⟩:=h s a G H (H.alloc ob) w ob val H.next hw hs hf bZ (aA.aG H _) (Fm _) (Ea _);exact⟨_,u,w',G',h1,.inl rfl,h2.rel,h2.ext (Ext.refl G H w) (Ai _),h3⟩
section
variable {P:Program} {g:aT} {o:Oper}
theorem UO {x:Operand} {y:Arg} (ho:o.op=.move x\/o.op=.assign x) (hx:aX g x=some y):bT P g o (.CI y):=by
 intro s a G H w v H' hw hs h;simp only[cD,Ab,Ad] at h;obtain⟨rfl,rfl⟩:=h;refine bT.pure' hw (u:=a.eval x) ?_ (aW hw hs hx)
 rcases ho with ho|ho<;>simp[execOp,ho]
theorem kj {c x y:Operand} {c' x' y':Arg} (ho:o.op=.pick c x y) (hc:aX g c=some c') (hx:aX g x=some x') (hy:aX g y=some y'):bT P g o (.pick c' x' y'):=by
 intro s a G H w v H' hw hs h;have vc:=aW hw hs hc;have vx:=aW hw hs hx;have vy:=aW hw hs hy;simp only[cD] at h;split at h
 . rename_i t ht;rw[ht] at vc;simp only[Ab,Ad] at h;obtain⟨rfl,rfl⟩:=h
   cases hcv:a.eval c with
   |bool b=>rw[hcv] at vc;cases vc;refine bT.pure' hw (u:=if t then a.eval x else a.eval y) ?_ (by cases t<;>simpa);simp[execOp,ho,hcv,asBool]
   |_=>rw[hcv] at vc;cases vc
 cases h
theorem MC {t:TypeId} {z:Value} {zs:List AV} (ho:o.op=.alloc t) (hz:jC P t=some z) (zT:gK z.cells.toList=some zs):xY P g o (.alloc zs):=by
 intro s a G H H' w ob val dN hw hs h bZ cJ xT eW;simp only[tL,Ab,Ad] at h;obtain⟨rfl,rfl⟩:=h;have hc:=jN zT G w;have hp:fO w {w with heap:=w.heap.push (.cells z.cells t)} (.cells (z.cells.toList++[]).toArray t (0,0)):=⟨by simp,.now⟩;have hm:=hw.sU dN bZ zs z.cells.toList [] hc.1 hc.2 false (fun _=>rfl) cJ xT eW (Clear.zero _) hp;refine⟨.pointer (some ⟨w.heap.size,0,none⟩),_,_,?_,hm,?_⟩
 . simp[execOp,ho,Instr.alloc,iT hz w,newVar,newRow,newObj,Sem.run]
 exact VR.ref dN 0 ⟨w.heap.size,0,zs.length,(z.cells.toList++[]).length⟩ (by simp only[Gh.dA,if_true])
theorem Yo {t:TypeId} {z:Value} {zs:List AV} (ho:o.op=.alloc t) (hz:jC P t=some z) (zT:gK z.cells.toList=some zs):bT P g o (.alloc zs):=
 (MC ho hz zT).op fun _ _=>rfl
theorem Ti {t:TypeId} {x:Operand} {x':Arg} (ho:o.op=.box t x) (hx:aX g x=some x'):xY P g o (.box x'):=by
 intro s a G H H' w ob val dN hw hs h bZ cJ xT eW;simp only[tL] at h;split at h
 . cases h
 rename_i ht;simp only[Ab,Ad] at h;obtain⟨rfl,rfl⟩:=h;have hc:=(aW hw hs hx).cellsOf (by simpa using ht);have hp:fO w {w with heap:=w.heap.push (.cells (a.eval x).cells t)} (.cells ((a.eval x).cells.toList++[]).toArray t (0,0)):=⟨by simp,.now⟩;have hm:=hw.sU dN bZ _ _ [] hc.1 hc.2 false (fun _=>rfl) cJ xT eW (Clear.zero _) hp;refine⟨.pointer (some ⟨w.heap.size,0,none⟩),_,_,?_,hm,?_⟩
 . simp[execOp,ho,Instr.box,newVar,newRow,newObj,Sem.run]
 exact VR.ref dN 0 ⟨w.heap.size,0,(x'.eval g s).cells.length,((a.eval x).cells.toList++[]).length⟩ (by simp only[Gh.dA,if_true])
theorem aBz {t:TypeId} {x:Operand} {x':Arg} (ho:o.op=.box t x) (hx:aX g x=some x'):bT P g o (.box x'):=
 (Ti ho hx).op fun _ _=>rfl
theorem ki {t:TypeId} {x:Operand} {x':Arg} (ho:o.op=.makeInterface t x) (hx:aX g x=some x')
 (ht:(match P.underlying t with|some (.interface _)=>false|some _=>true|none=>false)=true):bT P g o (.SV t x'):=by
 intro s a G H w v H' hw hs h;simp only[cD,Ab,Ad] at h;obtain⟨rfl,rfl⟩:=h;refine bT.pure' hw (u:=.iface t (a.eval x)) ?_ (.iface t _ _ (aW hw hs hx));split at ht
 . cases ht
 . rename_i d hd hu;simp only[execOp,ho,Instr.makeInterface,Sem.run_bind,run_underlying hu w,Result.andThen_ok];rfl
 cases ht
theorem kh {fn:Fn} {fs cs:Array Operand} {fs' vI:List Arg} (ho:o.op=.makeFunc fn fs cs) (hf:lH g fs.toList=some fs') (hc:lH g cs.toList=some vI):bT P g o (.SU fn fs' vI):=by intro s a G H w v H' hw hs h;simp only[cD,Ab,Ad] at h;obtain⟨rfl,rfl⟩:=h;have h1:=qA hw hs hf;have h2:=qA hw hs hc;refine bT.pure' hw (u:=.func fn (fs.toList.map a.eval).toArray (cs.toList.map a.eval).toArray) ?_ (.func fn _ _ _ _ h1.1 h2.1 h1.2 h2.2);simp only[execOp,ho,Instr.makeFunc,Sem.run_bind,Sem.run_pure,Result.andThen_ok];congr 3<;>(apply Dv;simp)
theorem j9 {x:Operand} {x':Arg} {i:Nat} (ho:o.op=.extract x i) (hx:aX g x=some x'):bT P g o (.Rr x' i):=by
 intro s a G H w v H' hw hs h;have vx:=aW hw hs hx;simp only[cD] at h;split at h
 . rename_i vs gV;rw[gV] at vx;split at h
   . rename_i hi;simp only[Ab,Ad] at h;obtain⟨rfl,rfl⟩:=h
     cases dC:a.eval x with
     |tuple us=>
      rw[dC] at vx
      cases vx with
      |eZ _ us' hl hv=>refine bT.pure' hw (u:=us'.getD i undef) ?_ (hv i hi);have zL:i<us'.length:=(by omega);simp only[execOp,ho,dC,Instr.extract,De,nP us' undef i zL,Sem.run_bind,Sem.run_pure,Result.andThen_ok]
     |_=>rw[dC] at vx;cases vx
   cases h
 cases h
theorem Yt {x:Operand} {x':Arg} (ho:o.op=.nilCheck x) (hx:aX g x=some x'):bT P g o (.KM x'):=by
 intro s a G H w v H' hw hs h;have vx:=aW hw hs hx
 have key:∀{va:AV} {u:Value},VR G w va u->(∃id off,va=.ref id off)\/(∃cs,va=.pl cs)\/(∃f p q,va=.func (.func f) p q)\/(∃t y,va=.iface t y)->a.eval x=u->(execOp a.eval o).run P w=.ok (.value u) w:=by
  intro va u hv lX he
  rcases lX with ⟨id,off,rfl⟩|⟨cs,rfl⟩|⟨f,p,q,rfl⟩|⟨t,y,rfl⟩<;>cases hv<;>simp[execOp,ho,he]
 simp only[cD] at h
 split at h<;>first
  |(cases h;done)
  |(rename_i gV
    simp only[Ab,Ad] at h;obtain⟨rfl,rfl⟩:=h;rw[gV] at vx
    exact bT.pure' hw (key vx (by simp) rfl) vx)
theorem VR.fS {G:Gh} {w:World} {k:IntKind} {n:Int} {u:Value} (h:VR G w (.int k n) u):u=.int k n:=by cases h;rfl
theorem VR.gO {G:Gh} {w:World} {b:Bool} {u:Value} (h:VR G w (.bool b) u):u=.bool b:=by cases h;rfl
theorem VR.jB {G:Gh} {w:World} {s:List UInt8} {u:Value} (h:VR G w (.str s) u):u=.string ⟨s.toArray⟩:=by cases h;rfl
theorem VR.TA (G:Gh) (w:World) (s:List UInt8):VR G w (.str s) (.string ⟨s.toArray⟩):=by have :=VR.str (G:=G) (w:=w) ⟨s.toArray⟩;simpa using this
theorem qB {G:Gh} {w:World} {a:AV} {u:Value} {n:Nat} (h:asNat a=some n) (hv:VR G w a u):∃k,a=.int k n/\u=.int k n:=by
 cases a<;>simp only[asNat] at h<;>try (cases h;done)
 rename_i k m;split at h
 . rename_i hm;obtain rfl:=Aa h;refine⟨k,by rw[Gi hm],by rw[Gi hm];exact hv.fS⟩
 cases h
end
end
section
theorem getD_eq {α:Type} (l:List α) (d:α) (j:Nat):l.getD j d=(l[j]?).getD d:=rfl
theorem dT {α:Type} (l:List α) (d:α) (o n j:Nat) (h:j<n):((l.drop o).take n).getD j d=l.getD (o+j) d:=by simp only[getD_eq];rw[Gm,if_pos h,Ed]
theorem wY {α:Type} (l:List α) (d:α) (o j:Nat):(l.drop o).getD j d=l.getD (o+j) d:=by simp only[getD_eq,Ed]
theorem getD_take {α:Type} (l:List α) (d:α) (n j:Nat) (h:j<n):(l.take n).getD j d=l.getD j d:=by simp only[getD_eq];rw[Gm,if_pos h]
theorem oA (cs:List AV) (off:Nat) (vs:List AV) (h:off+vs.length<=cs.length):(eR cs off vs).length=cs.length:=by simp[eR];omega
theorem FU (cs:List AV) (off:Nat) (vs:List AV) (d:AV) (h:off+vs.length<=cs.length) (j:Nat):
 (eR cs off vs).getD j d=if off<=j/\j<off+vs.length then vs.getD (j -off) d else cs.getD j d:=by
 simp only[getD_eq,eR];rw[Cz];simp only[Ag,Cb];have hm:min off cs.length=off:=by omega
 rw[hm];by_cases h1:j<off+vs.length
 . rw[if_pos h1,Cz];simp only[Cb,hm];by_cases h2:j<off
   . rw[if_pos h2,if_neg (by omega),Gm,if_pos h2]
   rw[if_neg h2,if_pos (by omega)]
 rw[if_neg h1,if_neg (by omega),Ed];congr 2;omega
theorem KI {cs:List AV} {off:Nat} {vs:List AV} {c:AV} (h:c∈eR cs off vs):c∈cs\/c∈vs:=by
 simp only[eR,Az] at h
 rcases h with (h|h)|h
 . exact .inl (Bf h)
 . exact .inr h
 exact .inl (Cy h)
theorem CH {cs:List AV} {j:Nat} (h:j<cs.length):cs.getD j aC∈cs:=by rw[getD_eq,Ac h];exact Ap h
theorem JD {G:Gh} {w:World} {b o n:Nat} {cs:List AV} (h:∀j,j<n->∃u,w.cell? ⟨b,o+j,none⟩=some u/\VR G w (cs.getD j aC) u):
 ∃us:List Value,us.length=n/\(∀j,j<n->w.cell? ⟨b,o+j,none⟩=some (us.getD j undef))/\∀j,j<n->VR G w (cs.getD j aC) (us.getD j undef):=by
 have hd:∀j,j<n->((List.range n).map fun j=>(w.cell? ⟨b,o+j,none⟩).getD undef).getD j undef=(w.cell? ⟨b,o+j,none⟩).getD undef:=fun j hj=>by simp[getD_eq,Hq hj]
 refine⟨(List.range n).map fun j=>(w.cell? ⟨b,o+j,none⟩).getD undef,by simp,fun j hj=>?_,fun j hj=>?_⟩
 . rw[hd j hj];obtain⟨u,hu,_⟩:=h j hj;rw[hu];rfl
 rw[hd j hj];obtain⟨u,hu,hv⟩:=h j hj;rw[hu];exact hv
theorem CU {P:Program} {G:Gh} {w:World} {t:TypeId} {agg:Bool} {n b o:Nat} {cs:List AV} (ot:eO P t=some agg) (jE:hZ P t=some n)
 (hlen:n=cs.length) (h1:∀c∈cs,c.one=true) (hn:agg=false->n=1)
 (h:∀j,j<n->∃u,w.cell? ⟨b,o+j,none⟩=some u/\VR G w (cs.getD j aC) u):
 ∃u,(loadVar t ⟨b,o,none⟩).run P w=.ok u w/\VR G w (if agg then .agg cs else cs.getD 0 aC) u:=by
 obtain⟨us,hl,hc,hv⟩:=JD h
 cases agg with
 |true=>refine⟨.agg us.toArray,?_,.agg cs us (by omega) h1 (fun j hj=>hv j (by omega))⟩;have hr:=qU P w b o us (fun j hj=>hc j (by omega));rw[hl] at hr;simp[loadVar,nV ot w,dF jE w,hr]
 |false=>have h1':=hn rfl;have hc0:=hc 0 (by omega);have SH:=hv 0 (by omega);refine⟨us.getD 0 undef,?_,SH⟩;simp only[Cp] at hc0;simp only[loadVar,Sem.run_bind,nV ot w,Result.andThen_ok,Ay,Bu,run_load,hc0]
theorem WR.store {g:aT} {G:Gh} {H:aA} {w w':World} (h:WR g G H w) {id:Nat} {l:Loc} {cs:List AV} {dH:Bool} (hl:G.loc id=some l) (hg:H.get id=some (.cells cs dH))
 {off:Nat} {xs:List AV} {vs:List Value} (hv:fJ G w xs vs) (h1:∀c∈xs,c.one=true) (gU:off+xs.length<=cs.length) (u:OR w w' l.cC (l.base+off) vs):
 WR g G (H.set id (.cells (eR cs off xs) dH)) w'/\Ext G H w G (H.set id (.cells (eR cs off xs) dH)) w':=by
 have iY:H.live id:=⟨_,hg,rfl⟩;obtain⟨a1,a2,a3,a4,a5⟩:=h.cells id l cs dH hl hg;obtain⟨c,el,fz,b1,b2,b3⟩:=h.room id l hl (.inl ⟨cs,dH,hg⟩);have hlen:=hv.1
 have mS:∀j,j<vs.length->¬G.fB l.cC (l.base+off+j):=fun j hj=>by rw[Bd];exact h.gW id l hl iY (off+j) (by omega)
 have rD:∀iO l',iO≠id->G.loc iO=some l'->H.live iO->l.cC≠l'.cC\/l.base+l.ext<=l'.base\/l'.base+l'.ext<=l.base:=
  fun iO l' cF lY kA=>h.iN id iO l l' (Ne.symm cF) hl lY iY kA
 have hk:=h.kill id
 have uS:=hk.write u mS (fun iO l' lY kA=>by
  rcases aA.iP.1 kA with ⟨_,hh⟩|⟨cF,kA⟩
  . cases hh
  rcases rD iO l' cF lY kA with hd|hd|hd
  . exact .inl (Ne.symm hd)
  . exact .inr (.inr (by omega))
  exact .inr (.inl (by omega))) ⟨c,el,fz,b1⟩
 have tO:=((Ext.refl G H w).write u mS h.fU (.inr ⟨id,l,hl,iY,rfl⟩)).lq id (.cells (eR cs off xs) dH) iY;have uI:∀{a:AV} {x:Value},VR G w a x->VR G w' a x:=fun hx=>hx.mono (fun _ _ h=>h) (fun b o hi=>⟨hi,(tO.fB b o hi).2⟩);obtain⟨c',d1,d2,d3,d4⟩:=u.row c el fz b1;refine⟨uS.aCn _ l hl rD (fun j hj=>h.gW id l hl iY j hj) (fun vI Yz he=>?_) (fun _=>⟨c',el,fz,d1,by omega,fun j hj=>by rw[u.frozen b1];exact b3 j hj⟩) (fun he=>by cases he),tO⟩;cases he;refine⟨by rw[oA _ _ _ gU];exact a1,a2,a3,fun x hx=>(KI hx).elim (a4 x) (h1 x),fun j hj=>?_⟩;rw[oA _ _ _ gU] at hj;rw[FU _ _ _ _ gU];by_cases Jo:off<=j/\j<off+xs.length
 . rw[if_pos Jo];refine⟨vs.getD (j -off) undef,?_,uI (hv.2 (j -off) (by omega))⟩;have :=d4 (j -off) (by omega) (by omega);rw[jL d1,<-this];congr 1;omega
 rw[if_neg Jo];obtain⟨x,hx,a8⟩:=a5 j hj;exact⟨x,u.cell (.inr (by omega)) hx,uI a8⟩
theorem aA.mO {H:aA} {id:Nat} {cs:List AV} (h:H.eB id=some cs):∃dH,H.get id=some (.cells cs dH):=by
 unfold aA.eB at h;split at h
 . rename_i vI dH hg;obtain rfl:=Aa h;exact⟨dH,hg⟩
 cases h
theorem ET {g:aT} {G:Gh} {H:aA} {w:World} (hw:WR g G H w) {id off n:Nat} {l:Loc} {cs:List AV} {dH:Bool} (hl:G.loc id=some l) (hg:H.get id=some (.cells cs dH))
 (gU:off+n<=cs.length):∀j,j<n->∃u,w.cell? ⟨l.cC,l.base+off+j,none⟩=some u/\VR G w (((cs.drop off).take n).getD j aC) u:=fun j hj=>by
 obtain⟨u,hu,hv⟩:=(hw.cells id l cs dH hl hg).2.2.2.2 (off+j) (by omega);refine⟨u,by rw[Bd];exact hu,?_⟩;rw[dT _ _ _ _ _ hj];exact hv
section
variable {P:Program} {g:aT} {o:Oper}
theorem ke {t:TypeId} {x:Operand} {x':Arg} {agg:Bool} {n:Nat} (ho:o.op=.load t x) (hx:aX g x=some x') (ot:eO P t=some agg) (jE:hZ P t=some n):
 bT P g o (.load agg n x'):=by
 intro s a G H w v H' hw hs h;have vx:=aW hw hs hx
 have fin:∀(b o':Nat) (cs:List AV),a.eval x=.pointer (some ⟨b,o',none⟩)->n=cs.length->(∀c∈cs,c.one=true)->(agg=false->n=1)->
  (∀j,j<n->∃u,w.cell? ⟨b,o'+j,none⟩=some u/\VR G w (cs.getD j aC) u)->
  ∃n u w' G',(execOp a.eval o).run P w=.ok n w'/\Lj n u/\WR g G' H w'/\Ext G H w G' H w'/\VR G' w' (if agg then .agg cs else cs.getD 0 aC) u:=by
  intro b o' cs he hl h1 hn hc;obtain⟨u,hr,hv⟩:=CU (P:=P) ot jE hl h1 hn hc;refine bT.pure' hw (u:=u) ?_ hv;simp[execOp,ho,he,Instr.loadAt,Instr.sureAddr,hr]
 simp only[cD] at h;split at h
 . rename_i id off bZ;rw[bZ] at vx;split at h
   . rename_i cs FW;obtain⟨dH,hg⟩:=aA.mO FW;split at h
     . rename_i gU
       cases dC:a.eval x with
       |pointer p=>
        rw[dC] at vx
        cases vx with
        |ref _ _ l hl=>
         have h4:=(hw.cells id l cs dH hl hg).2.2.2.1;have iD:=ET hw hl hg gU;have hlen:n=((cs.drop off).take n).length:=(by simp;omega);have tP:∀c∈(cs.drop off).take n,c.one=true:=fun c hc=>h4 c (Cy (Bf hc));split at h
         . rename_i oJ;simp only[Ab,Ad] at h;obtain⟨rfl,rfl⟩:=h;have :=fin _ _ _ dC hlen tP (fun hf=>by rw[oJ] at hf;cases hf) iD
           rwa [if_pos oJ] at this
         rename_i oJ;split at h
         . rename_i hn;simp only[Ab,Ad] at h;obtain⟨rfl,rfl⟩:=h;have :=fin _ _ _ dC hlen tP (fun _=>hn) iD
           rwa [if_neg oJ,dT _ _ _ _ _ (by omega),Cp] at this
         cases h
       |_=>rw[dC] at vx;cases vx
     cases h
   cases h
 . rename_i cs bZ;rw[bZ] at vx;split at h
   . rename_i gU
     cases dC:a.eval x with
     |pointer p=>
      rw[dC] at vx
      cases vx with
      |pl _ b o' us hh hv=>
       have iD:∀j,j<n->∃u,w.cell? ⟨b,o'+j,none⟩=some u/\VR G w ((cs.take n).getD j aC) u:=fun j hj=>by rw[getD_take _ _ _ _ hj];exact⟨us j,(hh j (by omega)).2.1,hv j (by omega)⟩
       have hlen:n=(cs.take n).length:=by simp;omega
       have tP:∀c∈cs.take n,c.one=true:=fun c hc=>by obtain⟨j,hj,rfl⟩:=Fy.1 (Bf hc);have :=(hh j hj).2.2;simpa [getD_eq,Ac hj] using this
       split at h
       . rename_i oJ;simp only[Ab,Ad] at h;obtain⟨rfl,rfl⟩:=h;have :=fin _ _ _ dC hlen tP (fun hf=>by rw[oJ] at hf;cases hf) iD
         rwa [if_pos oJ] at this
       rename_i oJ;split at h
       . rename_i hn;simp only[Ab,Ad] at h;obtain⟨rfl,rfl⟩:=h;have :=fin _ _ _ dC hlen tP (fun _=>hn) iD
         rwa [if_neg oJ,getD_take _ _ _ _ (by omega)] at this
       cases h
     |_=>rw[dC] at vx;cases vx
   cases h
 cases h
theorem mA {G:Gh} {w:World} {xs:List AV} {vs:List Value} (hv:fJ G w xs vs) (h1:∀c∈xs,c.one=true):∀v∈vs,Yy v=true:=by
 intro v kA;obtain⟨j,hj,rfl⟩:=Fy.1 kA;have HQ:j<xs.length:=by have :=hv.1;omega
 have :=(hv.2 j HQ).one;rw[h1 _ (CH HQ)] at this;simpa [getD_eq,Ac hj] using this.symm
theorem Yw {t:TypeId} {x y:Operand} {x' y':Arg} {n:Nat} (ho:o.op=.store t x y) (hx:aX g x=some x') (hy:aX g y=some y') (jE:hZ P t=some n):
 bT P g o (.store n x' y'):=by
 intro s a G H w v H' hw hs h;have vx:=aW hw hs hx;have vy:=aW hw hs hy;simp only[cD] at h;split at h
 . rename_i id off bZ;rw[bZ] at vx;split at h
   . rename_i cs dH hg;split at h
     . rename_i hc;obtain⟨YJ,Jj,hc3⟩:=hc;simp only[Ab,Ad] at h;obtain⟨rfl,rfl⟩:=h;obtain⟨gV,tP⟩:=vy.cellsOf hc3
       cases dC:a.eval x with
       |pointer p=>
        rw[dC] at vx
        cases vx with
        |ref _ _ l hl=>
         obtain⟨a1,a2,_,_,_⟩:=hw.cells id l cs dH hl hg;obtain⟨c,el,fz,b1,b2,b3⟩:=hw.room id l hl (.inl ⟨cs,dH,hg⟩);have hlen:=gV.1
         obtain⟨w',hr,hu⟩:=dV P l.cC (l.base+off) (a.eval y).cells.toList 0 w ⟨c,el,fz,b1,by omega⟩
          (fun j hj=>by rw[Cp,Bd];exact b3 (off+j) (by omega)) (mA gV tP)
         obtain⟨r1,r2⟩:=hw.store hl hg gV tP (by omega) hu;refine⟨.skip,undef,w',G,?_,.inr ⟨rfl,rfl⟩,r1,r2,VR.kN G w'⟩;have Pm:(a.eval y).cells.size=n:=(by simpa [YJ] using hlen);simp[execOp,ho,dC,Instr.storeAt,Instr.sureAddr,storeVar,dF jE w,Pm,hr]
       |_=>rw[dC] at vx;cases vx
     cases h
   cases h
 cases h
def Rv (P:Program) (t:TypeId) (i:Nat):Option (Nat×Nat×Bool):=
 match P.underlying t with
 |some (.struct fs)=>match fs[i]? with
  |some f=>match hZ P f.type,eO P f.type with
   |some n,some b=>if n=0 then none else some (f.offset,n,b)
   |_,_=>none
  |none=>none
 |_=>none
theorem ka {t:TypeId} {x:Operand} {x':Arg} {i:Nat} {off n:Nat} {b:Bool} (ho:o.op=.fieldAddr t x i) (hx:aX g x=some x') (hf:Rv P t i=some (off,n,b)):
 bT P g o (.Ru off x'):=by
 intro s a G H w v H' hw hs h;have vx:=aW hw hs hx;unfold Rv at hf;split at hf
 . rename_i fs hu;split at hf
   . rename_i f gd;split at hf
     . rename_i n' b' hn hb;split at hf
       . cases hf
       rename_i hn0;simp only[Ab,Ad] at hf;obtain⟨rfl,rfl,rfl⟩:=hf
       have fZ:∀bl o',a.eval x=.pointer (some ⟨bl,o',none⟩)->(execOp a.eval o).run P w=.ok (.value (.pointer (some ⟨bl,o'+f.offset,none⟩))) w:=fun bl o' he=>by simp[execOp,ho,he,Instr.fieldAt,run_underlying hu w,gd,Instr.sureAddr,fieldPlace,dF hn w,hn0,gN]
       simp only[cD] at h;split at h
       . rename_i id o' bZ;rw[bZ] at vx;simp only[Ab,Ad] at h;obtain⟨rfl,rfl⟩:=h
         cases dC:a.eval x with
         |pointer p=>
          rw[dC] at vx
          cases vx with
          |ref _ _ l hl=>exact bT.pure' hw (fZ _ _ dC) (by rw[Bd];exact .ref id (o'+f.offset) l hl)
         |_=>rw[dC] at vx;cases vx
       . rename_i cs bZ;rw[bZ] at vx;simp only[Ab,Ad] at h;obtain⟨rfl,rfl⟩:=h
         cases dC:a.eval x with
         |pointer p=>
          rw[dC] at vx
          cases vx with
          |pl _ bl o' us hh hv=>
           refine bT.pure' hw (fZ _ _ dC) (.pl _ bl (o'+f.offset) (fun j=>us (f.offset+j)) (fun j hj=>?_) (fun j hj=>?_))
           . simp at hj;rw[Bd,wY];exact hh (f.offset+j) (by omega)
           simp at hj;rw[wY];exact hv (f.offset+j) (by omega)
         |_=>rw[dC] at vx;cases vx
       cases h
     cases hf
   cases hf
 cases hf
theorem Qc {t:TypeId} {n:Nat} {b:Bool} (hn:hZ P t=some n) (hb:eO P t=some b) {G:Gh} {w:World} {cs:List AV} {us:List Value} {off:Nat}
 (hl:us.length=cs.length) (h1:∀c∈cs,c.one=true) (hv:∀j,j<cs.length->VR G w (cs.getD j aC) (us.getD j undef)) (gU:off+n<=cs.length) (qH:b=false->n=1):
 ∃u,(part t us.toArray off).run P w=.ok u w/\VR G w (if b then .agg ((cs.drop off).take n) else cs.getD off aC) u:=by
 cases b with
 |true=>
  refine⟨.agg ((us.drop off).take n).toArray,?_,?_⟩
  . simp only[part,Sem.run_bind,nV hb w,Result.andThen_ok,if_true,dF hn w,Sem.run_pure];congr 2;apply Dv;simp[Gf]
  simp only[if_true];refine .agg _ _ (by simp;omega) (fun c hc=>h1 c (Cy (Bf hc))) (fun j hj=>?_);simp at hj;rw[dT _ _ _ _ _ (by omega),dT _ _ _ _ _ (by omega)];exact hv _ (by omega)
 |false=>have :=qH rfl;refine⟨us.getD off undef,?_,hv off (by omega)⟩;simp only[part,Sem.run_bind,nV hb w,Result.andThen_ok,Ay,Bu,De,nP us undef off (by omega)];rfl
theorem VR.qP {G:Gh} {w:World} {cs:List AV} {u:Value} (h:VR G w (.agg cs) u):∃us:List Value,u=.agg us.toArray/\us.length=cs.length/\(∀c∈cs,c.one=true)/\
 ∀j,j<cs.length->VR G w (cs.getD j aC) (us.getD j undef):=by
 cases h with
 |agg _ us hl h1 hv=>exact⟨us,rfl,hl,h1,hv⟩
end
end
section
theorem tM {els:List (List AV)} {sz:Nat} (hu:∀e∈els,e.length=sz):∀{i j:Nat},i<els.length->j<sz->els.flatten.getD (i*sz+j) aC=(els.getD i []).getD j aC:=by
 induction els with
 |nil=>intro i j hi;simp at hi
 |cons e r ih=>
  intro i j hi hj;have he:e.length=sz:=hu e (by simp)
  cases i with
  |zero=>simp only[getD_eq,Bo,Hr,Cc,Fj,Bb];rw[Dy (by omega)]
  |succ i=>have :=ih (fun e he=>hu e (by simp[he])) (i:=i) (j:=j) (by simpa using hi) hj;simp only[getD_eq,Bo,Df] at this ⊢;rw[Fz (by rw[he,Ds];omega)];rw[show(i+1)*sz+j -e.length=i*sz+j by rw[he,Ds];omega];exact this
theorem length_flatten {els:List (List AV)} {sz:Nat} (hu:∀e∈els,e.length=sz):els.flatten.length=els.length*sz:=by
 induction els with
 |nil=>simp
 |cons e r ih=>simp only[Bo,Ag,Ak,Ds];rw[ih (fun e he=>hu e (by simp[he])),hu e (by simp)];omega
section
variable {P:Program} {g:aT} {o:Oper}
def vC (P:Program) (t:TypeId):Option (Nat×Nat×Bool):=
 match P.underlying t with
 |some (.array n e)=>match hZ P e,eO P e with
  |some sz,some b=>some (n,sz,b)
  |_,_=>none
 |_=>none
def kM (P:Program) (t:TypeId):Option (TypeId×Nat):=
 match P.underlying t with
 |some (.slice e)=>match hZ P e with
  |some sz=>some (e,sz)
  |none=>none
 |_=>none
theorem vD {t:TypeId} {n sz:Nat} {b:Bool} (h:vC P t=some (n,sz,b)):∃e,P.underlying t=some (.array n e)/\hZ P e=some sz/\eO P e=some b:=by
 unfold vC at h;split at h
 . rename_i n' e hu;split at h
   . rename_i dL b' h1 h2;simp only[Ab,Ad] at h;obtain⟨rfl,rfl,rfl⟩:=h;exact⟨e,hu,h1,h2⟩
   cases h
 cases h
theorem iE {t e:TypeId} {sz:Nat} (h:kM P t=some (e,sz)):P.underlying t=some (.slice e)/\hZ P e=some sz:=by
 unfold kM at h;split at h
 . rename_i e' hu;split at h
   . rename_i dL h1;simp only[Ab,Ad] at h;obtain⟨rfl,rfl⟩:=h;exact⟨hu,h1⟩
   cases h
 cases h
theorem QH {t:TypeId} {x i:Operand} {x' i':Arg} {n sz:Nat} {b:Bool} (ho:o.op=.indexAddr t x i) (hx:aX g x=some x') (hi:aX g i=some i') (ht:vC P t=some (n,sz,b)):
 bT P g o (.Nl (some n) sz x' i'):=by
 intro s a G H w v H' hw hs h;have vx:=aW hw hs hx;have vi:=aW hw hs hi;obtain⟨e,hu,he,hb⟩:=vD ht;simp only[cD] at h;split at h
 . rename_i k hk;obtain⟨kk,LD,hkv⟩:=qB hk vi
   have fZ:∀bl o',a.eval x=.pointer (some ⟨bl,o',none⟩)->k<n->(execOp a.eval o).run P w=.ok (.value (.pointer (some ⟨bl,o'+k*sz,none⟩))) w:=fun bl o' hxe eW=>by have h0:(0:Int)<=(k:Int)/\(k:Int)<(n:Int):=(by omega);simp[execOp,ho,Instr.indexAt,hkv,asIntOf,run_underlying hu w,hxe,Instr.sureAddr,h0,dF he w,gN];intro xB;omega
   split at h
   . rename_i n' id off hn bZ;cases hn;rw[bZ] at vx;split at h
     . rename_i eW;simp only[Ab,Ad] at h;obtain⟨rfl,rfl⟩:=h
       cases dC:a.eval x with
       |pointer p=>
        rw[dC] at vx
        cases vx with
        |ref _ _ l hl=>exact bT.pure' hw (fZ _ _ dC eW) (by rw[Bd];exact .ref id (off+k*sz) l hl)
       |_=>rw[dC] at vx;cases vx
     cases h
   . rename_i n' cs hn bZ;cases hn;rw[bZ] at vx;split at h
     . rename_i eW;simp only[Ab,Ad] at h;obtain⟨rfl,rfl⟩:=h
       cases dC:a.eval x with
       |pointer p=>
        rw[dC] at vx
        cases vx with
        |pl _ bl o' us hh hv=>
         refine bT.pure' hw (fZ _ _ dC eW) (.pl _ bl (o'+k*sz) (fun j=>us (k*sz+j)) (fun j hj=>?_) (fun j hj=>?_))
         . simp at hj;rw[Bd,wY];exact hh (k*sz+j) (by omega)
         simp at hj;rw[wY];exact hv (k*sz+j) (by omega)
       |_=>rw[dC] at vx;cases vx
     cases h
   . rename_i hn _;cases hn
   . rename_i hn _;cases hn
   cases h
 cases h
theorem Se {t e:TypeId} {x i:Operand} {x' i':Arg} {sz:Nat} (ho:o.op=.indexAddr t x i) (hx:aX g x=some x') (hi:aX g i=some i') (ht:kM P t=some (e,sz)):
 bT P g o (.Nl none sz x' i'):=by
 intro s a G H w v H' hw hs h;have vx:=aW hw hs hx;have vi:=aW hw hs hi;obtain⟨hu,he⟩:=iE ht;simp only[cD] at h;split at h
 . rename_i k hk;obtain⟨kk,LD,hkv⟩:=qB hk vi
   have fZ:∀bl o' n cap,a.eval x=.slice (some ⟨bl,o',none⟩) n cap->k<n->(execOp a.eval o).run P w=.ok (.value (.pointer (some ⟨bl,o'+k*sz,none⟩))) w:=fun bl o' n cap hxe eW=>by have h0:(0:Int)<=(k:Int)/\(k:Int)<(n:Int):=(by omega);simp[execOp,ho,Instr.indexAt,hkv,asIntOf,run_underlying hu w,hxe,Instr.sureAddr,h0,dF he w,gN];intro xB;omega
   split at h
   . rename_i hn _;cases hn
   . rename_i hn _;cases hn
   . rename_i tag dL els hn bZ;rw[bZ] at vx;split at h
     . rename_i hc;obtain⟨rfl,eW⟩:=hc;simp only[Ab,Ad] at h;obtain⟨rfl,rfl⟩:=h
       cases dC:a.eval x with
       |slice p n cap=>
        rw[dC] at vx
        cases vx with
        |rE=>exact absurd eW (Bh _)
        |bH _ _ _ bl o' _ us AM hh hv oX=>
         have Nb:(els.getD k []).length=dL:=by rw[getD_eq,Ac eW];exact AM _ (Ap eW)
         have pI:=length_flatten AM
         have gU:∀j,j<dL->k*dL+j<els.flatten.length:=fun j hj=>by
          rw[pI]
          calc k*dL+j<k*dL+dL:=by omega
           _=(k+1)*dL:=by rw[Ds]
           _<=els.length*dL:=Cd _ eW
         refine bT.pure' hw (fZ _ _ _ _ dC eW) (.pl _ bl (o'+k*dL) (fun j=>us (k*dL+j)) (fun j hj=>?_) (fun j hj=>?_))
         . rw[Nb] at hj;rw[Bd,<-tM AM eW hj];exact hh _ (gU j hj)
         rw[Nb] at hj;rw[<-tM AM eW hj];exact hv _ (gU j hj)
       |_=>rw[dC] at vx;cases vx
     cases h
   . rename_i id dL off len cap hn bZ;rw[bZ] at vx;split at h
     . rename_i hc;obtain⟨rfl,eW⟩:=hc;simp only[Ab,Ad] at h;obtain⟨rfl,rfl⟩:=h
       cases dC:a.eval x with
       |slice p n cap=>
        rw[dC] at vx
        cases vx with
        |sl _ _ _ _ _ _ l hl hlen gU nE=>exact bT.pure' hw (fZ _ _ _ _ dC eW) (by rw[Bd];exact .ref id (off+k*dL) l hl)
       |_=>rw[dC] at vx;cases vx
     cases h
   cases h
 cases h
theorem aCe {t:TypeId} {x i:Operand} {x' i':Arg} {n sz:Nat} {b:Bool} (ho:o.op=.index t x i) (hx:aX g x=some x') (hi:aX g i=some i') (ht:vC P t=some (n,sz,b)):
 bT P g o (.idx n sz b x' i'):=by
 intro s a G H w v H' hw hs h;have vx:=aW hw hs hx;have vi:=aW hw hs hi;obtain⟨e,hu,he,hb⟩:=vD ht;simp only[cD] at h;split at h
 . rename_i k cs hk bZ;rw[bZ] at vx;obtain⟨kk,LD,hkv⟩:=qB hk vi;obtain⟨us,dC,hl,h1,hv⟩:=vx.qP;split at h
   . rename_i hc;obtain⟨eW,gU⟩:=hc
     have fZ:∀u,(part e us.toArray (k*sz)).run P w=.ok u w->(execOp a.eval o).run P w=.ok (.value u) w:=fun u hr=>by have h0:(0:Int)<=(k:Int)/\(k:Int)<(n:Int):=(by omega);simp[execOp,ho,dC,Instr.index,hkv,asIntOf,run_underlying hu w,h0,dF he w,hr];intro xB;omega
     split at h
     . rename_i oJ;simp only[Ab,Ad] at h;obtain⟨rfl,rfl⟩:=h;obtain⟨u,hr,GR⟩:=Qc (P:=P) he hb hl h1 hv gU (fun hf=>by rw[oJ] at hf;cases hf);rw[if_pos oJ] at GR;exact bT.pure' hw (fZ u hr) GR
     rename_i oJ;split at h
     . rename_i qH;simp only[Ab,Ad] at h;obtain⟨rfl,rfl⟩:=h;obtain⟨u,hr,GR⟩:=Qc (P:=P) he hb hl h1 hv gU (fun _=>qH);rw[if_neg oJ,qH,Dk] at GR;rw[qH,Dk] at hr;exact bT.pure' hw (fZ u (by rw[qH,Dk];exact hr)) GR
     cases h
   cases h
 cases h
theorem kb {t:TypeId} {x i:Operand} {x' i':Arg} (ho:o.op=.index t x i) (hx:aX g x=some x') (hi:aX g i=some i') (ht:P.underlying t=some .string):
 bT P g o (.idxs x' i'):=by
 intro s a G H w v H' hw hs h;have vx:=aW hw hs hx;have vi:=aW hw hs hi;simp only[cD] at h;split at h
 . rename_i k str hk bZ;rw[bZ] at vx;obtain⟨kk,LD,hkv⟩:=qB hk vi;have dC:=vx.jB;split at h
   . rename_i b hb;simp only[Ab,Ad] at h;obtain⟨rfl,rfl⟩:=h;refine bT.pure' hw (u:=.int .u8 b.toNat) ?_ (.int _ _);have eW:=(An.1 hb).1
     have xB:(⟨str.toArray⟩:ByteArray)[k]?=some b:=by have aKw:k<(⟨str.toArray⟩:ByteArray).size:=(by simpa [ByteArray.size] using eW);rw[getElem?_pos (⟨str.toArray⟩:ByteArray) k aKw];have :=(An.1 hb).2;simpa [ByteArray.getElem_eq_getElem_data] using this
     simp[execOp,ho,Instr.index,hkv,asIntOf,run_underlying ht w,dC,xB]
   cases h
 cases h
theorem kd {c:Call} {x:Operand} {x':Arg} {t:TypeId} (ho:o.op=.call c) (hc:c.callee=.builtin .len) (ha:c.args= #[x]) (hx:aX g x=some x') (LU:c.argTypes[0]?=some t)
 (ht:P.underlying t=some .string):bT P g o (.lens x'):=by
 intro s a G H w v H' hw hs h;have vx:=aW hw hs hx;simp only[cD] at h;split at h
 . rename_i str bZ;rw[bZ] at vx;simp only[Ab,Ad] at h;obtain⟨rfl,rfl⟩:=h;have dC:=vx.jB;refine bT.pure' hw (u:=.int .i64 str.length) ?_ (.int _ _);have jE:(⟨str.toArray⟩:ByteArray).size=str.length:=by simp[ByteArray.size]
   simp[execOp,ho,resolve,hc,ha,invoke,builtin,Builtin.len_,LU,run_underlying ht w,dC,goInt];exact Bt (fun n:Nat=>(n:Int)) jE
 cases h
theorem kf {c:Call} {x y:Operand} {x' y':Arg} (ho:o.op=.call c) (hc:c.callee=.builtin .max) (ha:c.args= #[x,y]) (hx:aX g x=some x') (hy:aX g y=some y'):bT P g o (.QA x' y'):=by
 intro s a G H w v H' hw hs h;have vx:=aW hw hs hx;have vy:=aW hw hs hy;simp only[cD] at h;split at h
 . rename_i k m k' n h1 h2;rw[h1] at vx;rw[h2] at vy;simp only[Ab,Ad] at h;obtain⟨rfl,rfl⟩:=h;have dC:=vx.fS;have qu:=vy.fS;refine bT.pure' hw (u:=.int k (if n>m then n else m)) ?_ (.int _ _);simp[execOp,ho,resolve,hc,ha,invoke,builtin,Builtin.max_,Builtin.max2,dC,qu]
 cases h
theorem kg {c:Call} {x y:Operand} {x' y':Arg} (ho:o.op=.call c) (hc:c.callee=.builtin .min) (ha:c.args= #[x,y]) (hx:aX g x=some x') (hy:aX g y=some y'):bT P g o (.QC x' y'):=by
 intro s a G H w v H' hw hs h;have vx:=aW hw hs hx;have vy:=aW hw hs hy;simp only[cD] at h;split at h
 . rename_i k m k' n h1 h2;rw[h1] at vx;rw[h2] at vy;simp only[Ab,Ad] at h;obtain⟨rfl,rfl⟩:=h;have dC:=vx.fS;have qu:=vy.fS;refine bT.pure' hw (u:=.int k (if n<m then n else m)) ?_ (.int _ _);simp[execOp,ho,resolve,hc,ha,invoke,builtin,Builtin.min_,Builtin.min2,dC,qu]
 cases h
theorem kc {c:Call} {x:Operand} {x':Arg} {t e:TypeId} (ho:o.op=.call c) (hc:c.callee=.builtin .len) (ha:c.args= #[x]) (hx:aX g x=some x') (LU:c.argTypes[0]?=some t)
 (ht:P.underlying t=some (.slice e)):bT P g o (.GU x'):=by
 intro s a G H w v H' hw hs h;have vx:=aW hw hs hx
 have fZ:∀p n cap,a.eval x=.slice p n cap->(execOp a.eval o).run P w=.ok (.value (.int .i64 n)) w:=fun p n cap dC=>by simp[execOp,ho,resolve,hc,ha,invoke,builtin,Builtin.len_,LU,run_underlying ht w,dC,goInt]
 simp only[cD] at h;split at h
 . rename_i bZ;rw[bZ] at vx;simp only[Ab,Ad] at h;obtain⟨rfl,rfl⟩:=h;generalize dC:a.eval x=u at vx;cases vx;exact bT.pure' hw (fZ _ _ _ dC) (.int _ _)
 . rename_i tag sz els bZ;rw[bZ] at vx;simp only[Ab,Ad] at h;obtain⟨rfl,rfl⟩:=h;generalize dC:a.eval x=u at vx
   cases vx<;>
    exact bT.pure' hw (fZ _ _ _ dC) (.int _ _)
 . rename_i id sz off len cap bZ;rw[bZ] at vx;simp only[Ab,Ad] at h;obtain⟨rfl,rfl⟩:=h;generalize dC:a.eval x=u at vx;cases vx;exact bT.pure' hw (fZ _ _ _ dC) (.int _ _)
 cases h
theorem qL {op:BinOp} {t:TypeId} {x y:Operand} {u v:Value} (w:World) (h:∀c,u≠ .agg c) (h':u≠ .nilIface):(eqGuard op t x y u v).run P w=.ok () w:=by
 unfold eqGuard
 cases u<;>first
  |exact absurd rfl h'
  |exact absurd rfl (h _)
  |(cases op<;>rfl)
theorem j6 {op:BinOp} {k k':IntKind} {m n:Int} {v:AV} {t:TypeId} (h:jX op k m k' n=some v) (w:World):
 ∃u,(Go.binOp op t (.int k m) (.int k' n)).run P w=.ok u w/\∀G,VR G w v u:=by
 have key:∀{k:IntKind} {z:Int},∀G,VR G w (.int k z) (.int k z):=fun G=>.int _ _;have aBs:∀{z:Bool},∀G,VR G w (.bool z) (.bool z):=fun G=>.bool _;cases op<;>simp only[jX] at h
 all_goals first
  |(split at h<;>first
     |(cases h;done)
     |(rename_i hk
       first
        |(subst hk
          first
           |(obtain rfl:=Aa h
             refine⟨_,?_,key⟩;simp[Go.binOp,Op.intArith]
             done)
           |(obtain rfl:=Aa h
             refine⟨_,?_,aBs⟩;simp[Go.binOp,Op.intCmp]
             done)
           |(simp only[nG] at h
             obtain rfl:=Aa h;refine⟨_,?_,key⟩;simp[Go.binOp,Op.intBits]
             done)
           |(split at h
             . cases h
             rename_i h0;obtain rfl:=Aa h;refine⟨_,?_,key⟩
             simp[Go.binOp,Op.intDiv,h0]))
        |(obtain rfl:=Aa h
          refine⟨_,?_,key⟩;simp[Go.binOp,Op.shift,hk]
          done)))
theorem j7 {op:BinOp} {x y:List UInt8} {v:AV} {t:TypeId} (h:di op x y=some v) (w:World):
 ∃u,(Go.binOp op t (.string ⟨x.toArray⟩) (.string ⟨y.toArray⟩)).run P w=.ok u w/\∀G,VR G w v u:=by
 have aBs:∀{z:Bool},∀G,VR G w (.bool z) (.bool z):=fun G=>.bool _;have e1:(⟨x.toArray⟩:ByteArray).toList=x:=ByteArray.toList_mk x;have e2:(⟨y.toArray⟩:ByteArray).toList=y:=ByteArray.toList_mk y;cases op<;>simp only[di] at h
 case add=>
  split at h
  . rename_i hle;obtain rfl:=Aa h;refine⟨.string (⟨x.toArray⟩++⟨y.toArray⟩),?_,fun G=>?_⟩
    . have h1:(⟨x.toArray⟩:ByteArray).size=x.length:=(by simp[ByteArray.size]);have h2:(⟨y.toArray⟩:ByteArray).size=y.length:=by simp[ByteArray.size]
      have hm:¬(((⟨x.toArray⟩:ByteArray).size+(⟨y.toArray⟩:ByteArray).size:Nat):Int)>IntKind.i64.max:=by rw[h1,h2];have :IntKind.i64.max=9223372036854775807:=(by decide);omega
      simp only[Go.binOp,Op.stringOp,if_neg hm];rfl
    have :(⟨x.toArray⟩++⟨y.toArray⟩:ByteArray)=⟨(x++y).toArray⟩:=by apply ByteArray.ext;simp
    rw[this];exact VR.TA G w _
  cases h
 all_goals first
  |(cases h;done)
  |(obtain rfl:=Aa h
    refine⟨_,?_,aBs⟩;simp only[Go.binOp,Op.stringOp,e1,e2]
    rfl)
theorem Yq {op:BinOp} {t t2:TypeId} {x y:Operand} {x' y':Arg} (ho:o.op=.binOp op t x y t2) (hx:aX g x=some x') (hy:aX g y=some y'):bT P g o (.bin op x' y'):=by
 intro s a G H w v H' hw hs h;have vx:=aW hw hs hx;have vy:=aW hw hs hy;simp only[cD] at h;split at h
 . rename_i k m k' n h1 h2;rw[h1] at vx;rw[h2] at vy;have e1:=vx.fS;have e2:=vy.fS;simp only[Af,Ad] at h;obtain⟨v',kA,rfl,rfl⟩:=h;obtain⟨u,hr,hv⟩:=j6 (P:=P) (t:=t) kA w;refine bT.pure' hw (u:=u) ?_ (hv G);have Nc:=qL (P:=P) (op:=op) (t:=t) (x:=x) (y:=y) (u:=.int k m) (v:=.int k' n) w (fun c=>by simp) (by simp);simp[execOp,ho,e1,e2,Nc,hr]
 . rename_i m n h1 h2;rw[h1] at vx;rw[h2] at vy;have e1:=vx.jB;have e2:=vy.jB;simp only[Af,Ad] at h;obtain⟨v',kA,rfl,rfl⟩:=h;obtain⟨u,hr,hv⟩:=j7 (P:=P) (t:=t) kA w;refine bT.pure' hw (u:=u) ?_ (hv G);have Nc:=qL (P:=P) (op:=op) (t:=t) (x:=x) (y:=y) (u:=.string ⟨m.toArray⟩) (v:=.string ⟨n.toArray⟩) w (fun c=>by simp) (by simp);simp[execOp,ho,e1,e2,Nc,hr]
 cases h
theorem BC (d:Nat) {t:TypeId} (ht:P.underlying t=some .bool) (w:World) (m n:Bool):(Op.equalIn (d+1) t (.bool m) (.bool n)).run P w=.ok (m==n) w:=by rw[Op.equalIn];simp only[Sem.run_bind,run_underlying ht w,Result.andThen_ok];rfl
theorem aCb {op:BinOp} {neg:Bool} {t t2:TypeId} {x y:Operand} {x' y':Arg} (ho:o.op=.binOp op t x y t2) (eK:op=if neg then .neq else .eql) (ht:P.underlying t=some .bool)
 (hx:aX g x=some x') (hy:aX g y=some y'):bT P g o (.eqb neg x' y'):=by
 intro s a G H w v H' hw hs h;have vx:=aW hw hs hx;have vy:=aW hw hs hy;simp only[cD] at h;split at h
 . rename_i m n h1 h2;rw[h1] at vx;rw[h2] at vy;have e1:=vx.gO;have e2:=vy.gO;simp only[Ab,Ad] at h;obtain⟨rfl,rfl⟩:=h;refine bT.pure' hw (u:=.bool (if neg then !(m==n) else(m==n))) ?_ (.bool _);have Nc:=qL (P:=P) (op:=op) (t:=t) (x:=x) (y:=y) (u:=.bool m) (v:=.bool n) w (fun c=>by simp) (by simp)
   have heq:(Op.equal t (.bool m) (.bool n)).run P w=.ok (m==n) w:=by exact BC 9999 ht w m n
   subst eK;cases neg<;>simp only[Ay,Bu,if_true] at ho Nc<;>simp[execOp,ho,e1,e2,Nc,Go.binOp,heq]
 cases h
theorem aJa {op:UnOp} {t:TypeId} {x:Operand} {x':Arg} (ho:o.op=.unOp op t x) (hx:aX g x=some x'):bT P g o (.un op x'):=by
 intro s a G H w v H' hw hs h;have vx:=aW hw hs hx;simp only[cD,Af,Ad] at h;obtain⟨v',kA,rfl,rfl⟩:=h;unfold tp at kA;split at kA
 . rename_i k n h1;rw[h1] at vx;have e1:=vx.fS;split at kA
   . obtain rfl:=Aa kA;exact bT.pure' hw (u:=.int k (k.wrap (0 -n))) (by simp[execOp,ho,e1,Op.unary,Op.intArith]) (.int _ _)
   . simp only[nG] at kA;obtain rfl:=Aa kA;exact bT.pure' hw (u:=.int k _) (by simp[execOp,ho,e1,Op.unary,Op.intBits]) (.int _ _)
   cases kA
 . rename_i b h1;rw[h1] at vx;have e1:=vx.gO;split at kA
   . obtain rfl:=Aa kA;exact bT.pure' hw (u:=.bool !b) (by simp[execOp,ho,e1,Op.unary]) (.bool _)
   cases kA
 cases kA
theorem Yr {src dst:TypeId} {k:IntKind} {d:TypeDesc} {x:Operand} {x':Arg} (ho:o.op=.convert src dst x) (hx:aX g x=some x') (DG:P.underlying src=some d)
 (hd:P.underlying dst=some (.int k)):bT P g o (.JH k x'):=by
 intro s a G H w v H' hw hs h;have vx:=aW hw hs hx;simp only[cD] at h;split at h
 . rename_i k' n h1;rw[h1] at vx;have e1:=vx.fS;simp only[Ab,Ad] at h;obtain⟨rfl,rfl⟩:=h;refine bT.pure' hw (u:=.int k (k.wrap n)) ?_ (.int _ _);simp only[execOp,ho,e1,Go.convert,Sem.run_bind,run_underlying DG w,run_underlying hd w,Result.andThen_ok,Conv.intToInt];rfl
 cases h
theorem kp {t ti:TypeId} {ok:Bool} {d:TypeDesc} {z:AV} {zv:Value} {x:Operand} {x':Arg} (ho:o.op=.typeAssert x ti t ok) (hx:aX g x=some x')
 (hd:P.underlying t=some d) (qg:∀ms,d≠ .interface ms) (hz:jC P t=some zv) (hzc:ofConst zv=some z):bT P g o (.TE t ok z x'):=by
 intro s a G H w v H' hw hs h;have vx:=aW hw hs hx;have hzero:=iT hz w;have hzr:=zY hzc G w
 have two:∀{p q:AV} {u1 u2:Value},VR G w p u1->VR G w q u2->VR G w (.eZ [p,q]) (.tuple #[u1,u2]):=fun h1 h2=>.eZ [_,_] [_,_] rfl (h1.cons (h2.cons (fJ.nil G w))).2
 have hh:∀(y:Value) (r:Value),(Instr.typeAssert y ti t ok).run P w=.ok r w->a.eval x=y->(execOp a.eval o).run P w=.ok (.value r) w:=fun y r hr he=>by simp[execOp,ho,he,hr]
 have oU:∀(ms:Array (String×TypeId)),d=TypeDesc.interface ms->False:=fun ms he=>qg ms he;simp only[cD] at h;split at h
 . rename_i t' y h1;rw[h1] at vx;generalize dC:a.eval x=u at vx
   cases vx with
   |iface _ _ yv hy=>
    split at h
    . rename_i htt;subst htt;simp only[Ab,Ad] at h;obtain⟨rfl,rfl⟩:=h;refine bT.pure' hw (u:=if ok then .tuple #[yv,.bool true] else yv) (hh _ _ ?_ dC) (by cases ok<;>simp <;>first|exact hy|exact two hy (.bool true));unfold Instr.typeAssert;simp only[Sem.run_bind,run_underlying hd w,Result.andThen_ok]
      cases d<;>first|exact absurd rfl (qg _)|simp
    rename_i htt;split at h
    . rename_i vS;simp only[Ab,Ad] at h;obtain⟨rfl,rfl⟩:=h;refine bT.pure' hw (u:=.tuple #[zv,.bool false]) (hh _ _ ?_ dC) (two hzr (.bool false));unfold Instr.typeAssert;simp only[Sem.run_bind,run_underlying hd w,Result.andThen_ok]
      cases d<;>first|exact absurd rfl (qg _)|simp[htt,vS,hzero]
    cases h
 . rename_i h1;rw[h1] at vx;generalize dC:a.eval x=u at vx;cases vx;split at h
   . rename_i vS;simp only[Ab,Ad] at h;obtain⟨rfl,rfl⟩:=h;refine bT.pure' hw (u:=.tuple #[zv,.bool false]) (hh _ _ ?_ dC) (two hzr (.bool false));unfold Instr.typeAssert;simp only[Sem.run_bind,run_underlying hd w,Result.andThen_ok]
     cases d<;>first|exact absurd rfl (qg _)|simp[vS,hzero]
   cases h
 cases h
end
end
end Go.Av
