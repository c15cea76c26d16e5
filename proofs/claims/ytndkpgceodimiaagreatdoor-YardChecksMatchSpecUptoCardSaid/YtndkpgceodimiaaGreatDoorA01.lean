/-
  Part of the proof of statement 10
-/
import Derived.Calls
import Derived.Orders
import Derived.Laws.Sem
import Derived.Laws.Cells
import Derived.Laws.Entries
import Derived.Laws.Strings
set_option linter.unusedVariables false
set_option linter.unusedSimpArgs false
set_option linter.defProp false
namespace Go
def Aa:=@Option.some.inj
def Ab:=@List.getElem?_eq_getElem
def Ac:=@List.getElem_mem
def Ad:=@Option.some.injEq
def Ae:=@decide_eq_false
def Af:=@decide_eq_true
def Ag:=@Option.map_eq_some_iff
def Ah:=@Prod.mk.injEq
def Ai:=@List.length_map
def Aj:=@Nat.le_of_ble_eq_true
def Ak:=@Nat.le_refl
def Al:=@List.take_add_one
def Am:=@Bool.and_eq_true
def An:=@List.mem_append
def Ao:=@List.take_length
def Ap:=@List.mem_cons
def Aq:=@List.length_cons
def Ar:=@List.take_of_length_le
def As:=@Nat.not_lt_zero
def Au:=@List.length_append
def Aw:=@List.all_eq_true
def Ax:=@List.mem_cons_self
def Ay:=@List.mem_cons_of_mem
def Az:=@Nat.zero_le
def Ba:=@List.mem_range
def Bb:=@decide_eq_decide
def Bc:=@congrArg
def Bd:=@Option.isSome_some
def Be:=@Bool.false_eq_true
def Bf:=@List.mem_map
def Bg:=@decide_eq_true_eq
def Bh:=@Nat.eq_of_beq_eq_true
def Bi:=@Option.getD_some
def Bj:=@List.length_nil
def Bk:=@decide_eq_false_iff_not
def Bl:=@List.getElem?_eq_some_iff
def Bm:=@Nat.add_assoc
def Bn:=@List.mem_singleton
def Bo:=@Array.getD_eq_getD_getElem?
def Bp:=@List.length_range
def Bq:=@Nat.mul_le_mul
def Br:=@List.not_mem_nil
def Bs:=@List.getElem?_eq_none
def Bt:=@List.drop_of_length_le
def Bu:=@List.any_eq_true
def Bv:=@List.map_cons
def Bw:=@List.getD_eq_getElem?_getD
def Bx:=@List.flatten_cons
def By:=@List.mem_of_mem_take
def Bz:=@Option.map_some
def Ca:=@Nat.lt_of_lt_of_le
def Cb:=@Nat.le_trans
def Cc:=@of_decide_eq_true
def Cd:=@List.append_nil
def Ce:=@beq_eq_false_iff_ne
def Cf:=@List.map_append
def Cg:=@Bool.eq_iff_iff
def Ch:=@List.getElem_map
def Ci:=@Nat.lt_trans
def Cj:=@Option.isSome_none
def Ck:=@Array.getElem?_eq_some_iff
def Cl:=@List.pairwise_cons
def Cm:=@if_false
def Cn:=@Nat.add_mul
def Co:=@List.take_append_of_le_length
def Cp:=@Bool.not_eq_true'
def Cq:=@List.length_take
def Cr:=@Bool.true_and
def Cs:=@of_decide_eq_false
def Ct:=@List.drop_eq_getElem_cons
def Cu:=@Classical.byContradiction
def Cv:=@Nat.zero_add
def Cw:=@List.eq_nil_of_length_eq_zero
def Cx:=@Array.length_toList
def Cy:=@Nat.add_zero
def Cz:=@List.getElem?_map
def Da:=@beq_iff_eq
def Db:=@Nat.mod_eq_of_lt
def Dc:=@bne_iff_ne
def Dd:=@Nat.mul_le_mul_right
def De:=@List.length_filter_le
def Df:=@Bool.and_self
def Dg:=@Nat.mod_lt
def Dh:=@List.getElem?_append
def Di:=@List.append_assoc
def Dk:=@Nat.mul_comm
def Dl:=@List.take_succ_cons
def Dm:=@List.getElem_of_mem
def Dn:=@List.getD_cons_zero
def Dp:=@Bool.or_eq_true
def Dq:=@or_false
def Dr:=@List.flatMap_cons
def Ds:=@Nat.pow_le_pow_right
def Dt:=@Nat.mul_one
def Du:=@List.mem_of_mem_drop
def Dv:=@Array.getElem?_eq_getElem
def Dw:=@List.nil_append
def Dx:=@Option.getD_none
def Dy:=@List.replicate_succ
def Ea:=@Nat.div_lt_iff_lt_mul
def Eb:=@List.getElem?_toArray
def Ec:=@List.all_eq_false
def Ed:=@Int.gcd_dvd_right
def Ee:=@List.exists_cons_of_ne_nil
def Ef:=@List.drop_zero
def Eg:=@Bool.or_eq_false_iff
def Eh:=@Nat.pow_succ
def Ei:=@Nat.div_eq_of_lt
def Ej:=@List.map_congr_left
def Ek:=@List.any_eq_false
def El:=@Int.mul_le_mul_of_nonneg_left
def Em:=@Nat.succ_mul
def En:=@List.map_map
def Eo:=@Int.natAbs_natCast
def Ep:=@Int.lt_or_eq_of_le
def Er:=@Nat.mul_add
def Es:=@List.take_zero
def Et:=@Int.tmod_eq_emod_of_nonneg
def Eu:=@Int.lt_trichotomy
def Ev:=@Nat.mul_le_mul_left
def Ew:=@List.range_succ
def Ex:=@List.getElem?_append_left
def Ey:=@Decidable.byContradiction
def Ez:=@Nat.lt_succ_self
def Fa:=@List.mem_flatMap
def Fb:=@List.eq_nil_iff_forall_not_mem
def Fc:=@List.cons_append
def Fe:=@Bool.not_eq_true
def Ff:=@Nat.lt_irrefl
def Fg:=@List.map_nil
def Fh:=@List.ext_getElem?
def Fj:=@Nat.div_add_mod
def Fk:=@List.mem_filter
def Fl:=@Array.getElem?_setIfInBounds
def Fm:=@Array.ext'
def Fo:=@List.flatten_append
def Fp:=@List.flatMap_append
def Fq:=@Nat.add_comm
def Fs:=@Bool.and_true
def Ft:=@List.drop_append
def Fu:=@Int.gcd_dvd_left
def Fv:=@Option.toList_some
def Fx:=@List.getElem?_drop
def Fy:=@List.getElem?_append_right
def Fz:=@Int.tdiv_eq_ediv_of_nonneg
def Ga:=@Int.natAbs_mul
def Gb:=@List.take_append_drop
def Gc:=@List.pairwise_iff_getElem
def Gd:=@Nat.lt_or_ge
def Ge:=@List.getD_cons_succ
def Gf:=@List.getElem?_replicate
def Gg:=@List.getElem?_cons_zero
def Gi:=@List.getElem?_cons_succ
def Gj:=@List.ext_getElem
def Gk:=@List.drop_length
def Gl:=@List.countP_cons
def Gm:=@Bool.not_false
def Gn:=@decide_true
def Gp:=@Nat.one_mul
def Gq:=@Nat.le_succ
def Gr:=@Nat.blt_eq
def Gs:=@Int.mul_zero
def Gt:=@Nat.mul_assoc
def Gu:=@Int.dvd_trans
def Gv:=@Array.getElem?_modify
def Gw:=@Nat.gcd_zero_left
def Gx:=@List.size_toArray
def Gy:=@List.getElem?_set
def Gz:=@List.foldl_append
def Ha:=@List.Pairwise.imp
def Hb:=@Int.mul_lt_mul_of_pos_right
def Hc:=@Nat.add_mul_div_left
def Hd:=@List.mem_iff_getElem
def Hg:=@beq_self_eq_true
def Hh:=@Nat.le_add_right
def Hi:=@List.length_drop
def Hj:=@List.mem_take_iff_getElem
def Hk:=@List.extract_eq_take_drop
def Hl:=@List.map_eq_nil_iff
def Hn:=@List.eq_of_mem_replicate
def Ho:=@List.all_cons
def Hq:=@List.foldl_cons
def Hr:=@Nat.eq_zero_or_pos
def Ht:=@List.getElem_range
def Hu:=@List.getElem?_take
def Hv:=@List.find?_eq_none
def Hw:=@Nat.add_left_cancel_iff
def Hx:=@List.map_id
def Hy:=@List.length_eq_zero_iff
def Hz:=@Int.tdiv_eq_ediv_of_dvd
def Ia:=@not_false_eq_true
def Ib:=@bne_self_eq_false
def Ic:=@Nat.sub_zero
def Ie:=@Nat.gcd_comm
def Ig:=@Nat.div_div_eq_div_mul
def Ih:=@List.pairwise_map
def Ii:=@List.drop_eq_nil_of_le
def Ij:=@Array.getElem?_eq_none
def Ik:=@Classical.choose_spec
def Il:=@Bool.beq_eq_decide_eq
def Im:=@decide_not
def Io:=@Nat.le_of_not_lt
def Ip:=@List.take_append
def Iq:=@List.mem_flatten
def Ir:=@Array.toList_map
def Is:=@Bool.not_true
def It:=@List.drop_append_of_le_length
def Iu:=@Int.neg_mul
def Iv:=@Int.mul_pos
def Iw:=@List.cons.injEq
def Ix:=@List.any_append
def Iy:=@List.getElem?_range
def Iz:=@List.drop_succ_cons
def Ja:=@Nat.zero_mul
def Jb:=@Int.ne_of_gt
def Jc:=@Option.isNone_none
def Jd:=@Nat.lt_of_le_of_lt
def Je:=@List.filter_append
def Jf:=@List.drop_drop
def Jg:=@Int.fdiv_eq_ediv_of_nonneg
def Jh:=@Int.eq_of_mul_eq_mul_left
def Ji:=@Nat.lt_trichotomy
def Jj:=@List.Pairwise.imp_of_mem
def Jk:=@List.filter_cons
def Jl:=@decide_false
def Jm:=@Nat.le_mul_of_pos_left
def Jn:=@List.pairwise_lt_range
def Jo:=@List.find?_cons_of_pos
def Jp:=@Int.lt_asymm
def Jq:=@Nat.min_eq_left
def Jr:=@Nat.div_le_self
def Js:=@List.nodup_cons
def Jt:=@List.length_set
def Ju:=@List.filter_nil
def Jv:=@Int.mul_eq_zero
def Jw:=@List.sizeOf_lt_of_mem
def Jx:=@List.length_replicate
def Jy:=@Bool.and_eq_false_iff
def Jz:=@true_and
def Ka:=@Nat.pow_add
def Kb:=@List.nodup_nil
def Kc:=@Int.natAbs_neg
def Kd:=@Int.mul_ediv_cancel'
def Ke:=@Bool.false_and
def Kf:=@Int.toNat_of_nonneg
def Kg:=@Int.neg_ediv_of_dvd
def Kh:=@Array.getElem?_push
def Ki:=@List.drop_nil
end Go
namespace Go.Av
open Go
inductive AV where
 |bool (b:Bool)
 |int (k:IntKind) (n:Int)
 |str (s:List UInt8)
 |LD
 |ref (id off:Nat)
 |pl (cells:List AV)
 |aS
 |aU (tag sz:Nat) (els:List (List AV))
 |sl (id sz off len cap:Nat)
 |func (fn:Fn) (first captured:List AV)
 |AX
 |iface (t:TypeId) (v:AV)
 |wZ
 |agg (cs:List AV)
 |jR (vs:List AV)
 |map (id:Nat)
 |rX
 |yield (id:Nat)
instance:Inhabited AV:=⟨.LD⟩
def aD:AV:=.jR []
def AV.one:AV->Bool
 |.agg _|.jR _=>false
 |_=>true
def AV.AS:AV->Bool
 |.jR _=>true
 |_=>false
def AV.cells:AV->List AV
 |.agg cs=>cs
 |v=>[v]
inductive Arg where
 |tmp (t:Nat)
 |const (v:AV)
 |jA (g:Nat)
inductive Sk where
 |b|i|s
 |f (sh:List Sk)
inductive Nk where
 |ptr|ifc|sli|mp|fn
 deriving DecidableEq
inductive eC where
 |TM (x:Arg)
 |pick (c a b:Arg)
 |alloc (zero:List AV)
 |box (x:Arg)
 |build (zero:List AV) (parts:List (Nat×Nat×Arg))
 |Ob (sz:Nat) (parts:List Arg)
 |load (agg:Bool) (n:Nat) (a:Arg)
 |store (n:Nat) (a x:Arg)
 |Re (x:Arg)
 |bin (op:BinOp) (x y:Arg)
 |eqb (neg:Bool) (x y:Arg)
 |eqf (neg:Bool) (shape:List Sk) (x y:Arg)
 |u9 (neg:Bool) (k:Nk) (lit:Bool) (x y:Arg)
 |un (op:UnOp) (x:Arg)
 |NX (k:IntKind) (x:Arg)
 |BK (x:Arg)
 |DB (x:Arg)
 |Yw (n:Nat) (x:Arg)
 |YO (t:TypeId) (x:Arg)
 |YN (fn:Fn) (first cap:List Arg)
 |yU
 |jD (sz bytes:Nat) (zero:List AV) (l c:Arg)
 |PM (x:Arg) (lo hi:Option Arg)
 |Yy (sz:Nat) (x:Arg) (lo hi mx:Option Arg)
 |DU (n sz:Nat) (x:Arg) (lo hi mx:Option Arg)
 |Xf (off:Nat) (x:Arg)
 |TG (arr:Option Nat) (sz:Nat) (x i:Arg)
 |idx (n sz:Nat) (agg:Bool) (x i:Arg)
 |idxs (x i:Arg)
 |ZF (t:TypeId) (ok:Bool) (zero:AV) (x:Arg)
 |Xe (x:Arg) (i:Nat)
 |lens (x:Arg)
 |OQ (x:Arg)
 |Vc (x y:Arg)
 |Ve (x y:Arg)
 |clr (sz:Nat) (zero:List AV) (x:Arg)
 |append (sz bytes:Nat) (mu:Bool) (x y:Arg)
 |copy (sz:Nat) (d s:Arg)
 |lookup (kind:Sk) (zero:AV) (ok:Bool) (x i:Arg)
 |OY (kind:Sk) (m k v:Arg)
 |vQ (x:Arg)
 |DN (x:Arg)
 |yB (x:Arg)
 |call (f:Arg) (args:List Arg)
 |panic (x:Arg)
 |lC (f:Arg) (args:List Arg)
structure bD where
 dst:Option Nat
 op:eC
 guard:Option (Nat×Bool)
inductive cD where
 |skip
 |ops (rl:List bD)
 |draw (rl:List bD) (pairs:List (Nat×Nat))
 |seq (a b:cD)
 |cond (c:Arg) (a b:cD)
 |block (id:Nat) (a:cD)
 |loop (a:cD)
 |exit (id:Nat)
 |ret
 |oD (c:Arg) (ps:List Nat) (LX body:cD)
structure KI where
 ps:List Nat
 LX:cD
 body:cD
structure bB where
 val:Nat->Option (List AV)
 lok:KI->Loop->Prop
instance:CoeFun bB (fun _=>Nat->Option (List AV)):=⟨bB.val⟩
def bB.mo (g:bB):Bool:=(g.val 999999999).isNone
def g0:bB:=⟨fun _=>none,fun _ _=>False⟩
inductive LEx where
 |ret
 |exit (id:Nat)
inductive LSt where
 |ready
 |busy
 |done (e:LEx)
 |over (e:Option LEx)
inductive fE where
 |cells (cs:List AV) (eI:Bool)
 |tok
 |map (es:List (AV×AV))
 |sT (es:List (AV×AV)) (bs:List Nat) (c mb:Nat)
 |iter (m mb c:Nat) (seen:List Nat)
 |loop (k:KI) (sn:List AV) (st:LSt)
 |LZ
 |dfx
 |dead
def fE.cY:fE->Bool
 |.map _|.sT _ _ _ _|.iter _ _ _ _|.loop _ _ _|.LZ|.dfx=>true
 |_=>false
def LEx.code:LEx->Code
 |.ret=>.ret
 |.exit id=>.exit id
def mT (r:Loop):LSt->Loop
 |.ready=>{r with state:=.ready,pending:=none}
 |.busy=>{r with state:=.busy,pending:=none}
 |.done e=>{r with state:=.done,pending:=some e.code}
 |.over e=>{r with state:=.exhausted,pending:=e.map LEx.code}
def fE.live:fE->Bool
 |.dead=>false
 |_=>true
inductive Tr where
 |nil
 |node (o:Option fE) (l r:Tr)
def Tr.get:Tr->Nat->Option fE
 |.nil,_=>none
 |.node o l r,n=>if n=0 then o else if n%2=1 then l.get (n / 2) else r.get (n / 2 -1)
def Tr.root:Tr->Option fE
 |.nil=>none
 |.node o _ _=>o
def Tr.left:Tr->Tr
 |.nil=>.nil
 |.node _ l _=>l
def Tr.right:Tr->Tr
 |.nil=>.nil
 |.node _ _ r=>r
def Tr.BI:Nat->Tr->Nat->fE->Tr
 |0,t,_,o=>.node (some o) t.left t.right
 |f+1,t,n,o=>
  if n=0 then .node (some o) t.left t.right
  else if n%2=1 then .node t.root (Tr.BI f t.left (n / 2) o) t.right
  else .node t.root t.left (Tr.BI f t.right (n / 2 -1) o)
def Tr.set (t:Tr) (n:Nat) (o:fE):Tr:=Tr.BI n t n o
theorem Tr.Zn (t:Tr) (n:Nat):t.get n=if n=0 then t.root else if n%2=1 then t.left.get (n / 2) else t.right.get (n / 2 -1):=by
 cases t with
 |nil=>simp[Tr.get,Tr.root,Tr.left,Tr.right]
 |node o l r=>simp[Tr.get,Tr.root,Tr.left,Tr.right]
theorem Tr.HT:∀(f:Nat) (t:Tr) (n:Nat) (o:fE) (m:Nat),n<=f->(Tr.BI f t n o).get m=if m=n then some o else t.get m:=by
 intro f
 induction f with
 |zero=>
  intro t n o m hn;obtain rfl:n=0:=by omega
  rw[Tr.Zn t m];simp only[Tr.BI,Tr.get];by_cases hm:m=0<;>simp[hm]
 |succ f ih=>
  intro t n o m hn;rw[Tr.Zn t m];simp only[Tr.BI];by_cases h0:n=0
  · subst h0;simp only[if_true,Tr.get];by_cases hm:m=0<;>simp[hm]
  by_cases aEy:n%2=1
  · simp only[h0,aEy,if_true,Cm,Tr.get];by_cases hm:m=0
    · have :¬m=n:=(by omega);simp[hm,Ne.symm h0]
    by_cases GB:m%2=1
    · simp only[hm,GB,if_true,Cm];rw[ih _ _ _ _ (by omega)];by_cases he:m=n
      · simp[he]
      rw[if_neg he,if_neg (by omega)]
    simp only[hm,GB,Cm];rw[if_neg (by intro he;subst he;exact GB aEy)]
  simp only[h0,aEy,Cm,Tr.get];by_cases hm:m=0
  · simp[hm,Ne.symm h0]
  by_cases GB:m%2=1
  · simp only[hm,GB,if_true,Cm];rw[if_neg (by intro he;subst he;exact aEy GB)]
  simp only[hm,GB,Cm];rw[ih _ _ _ _ (by omega)];by_cases he:m=n
  · simp[he]
  rw[if_neg he,if_neg (by omega)]
structure aA where
 next:Nat
 tr:Tr
def aA.get (H:aA) (id:Nat):Option fE:=H.tr.get id
def aA.set (H:aA) (id:Nat) (o:fE):aA:={H with tr:=H.tr.set id o}
def aA.alloc (H:aA) (o:fE):aA:={next:=H.next+1,tr:=H.tr.set H.next o}
theorem aA.aC (H:aA) (id:Nat) (o:fE) (m:Nat):(H.set id o).get m=if m=id then some o else H.get m:=
 Tr.HT _ _ _ _ _ (Ak _)
theorem aA.aJ (H:aA) (o:fE) (m:Nat):(H.alloc o).get m=if m=H.next then some o else H.get m:=
 Tr.HT _ _ _ _ _ (Ak _)
@[simp] theorem aA.aW (H:aA) (id:Nat) (o:fE):(H.set id o).next=H.next:=rfl
@[simp] theorem aA.aZ (H:aA) (o:fE):(H.alloc o).next=H.next+1:=rfl
def Arg.eval (g:bB) (s:List AV):Arg->AV
 |.tmp t=>s.getD t aD
 |.const v=>v
 |.jA n=>match g n with
  |some cs=>.pl cs
  |none=>aD
def fS (sz:Nat):Nat->List AV->List (List AV)
 |0,_=>[]
 |n+1,cs=>cs.take sz::fS sz n (cs.drop sz)
def fY (cs:List AV) (off:Nat) (vs:List AV):List AV:=cs.take off++vs++cs.drop (off+vs.length)
def HJ (ev:Arg->AV):List AV->List (Nat×Nat×Arg)->Option (List AV)
 |cs,[]=>some cs
 |cs,(off,n,x)::rest=>
  let vs:=(ev x).cells
  if vs.length=n/\off+n<=cs.length/\(ev x).AS=false then HJ ev (fY cs off vs) rest else none
def Ky (ev:Arg->AV) (sz:Nat):List Arg->Option (List (List AV))
 |[]=>some []
 |x::rest=>
  let vs:=(ev x).cells
  if vs.length=sz/\(ev x).AS=false then(Ky ev sz rest).map (vs:: ·) else none
def cJ:List Sk->List AV->List AV->Option Bool
 |[],[],[]=>some true
 |.b::ks,.bool a::xs,.bool b::ys=>(cJ ks xs ys).map ((a==b)&& ·)
 |.i::ks,.int j a::xs,.int k b::ys=>if j=k then(cJ ks xs ys).map ((a==b)&& ·) else none
 |.s::ks,.str a::xs,.str b::ys=>(cJ ks xs ys).map ((a==b)&& ·)
 |_,_,_=>none
def Kv (k:Nk):AV->Option Bool
 |.LD=>if k=.ptr then some true else none
 |.ref _ _|.pl _=>if k=.ptr then some false else none
 |.aS=>if k=.sli then some true else none
 |.aU _ _ _|.sl _ _ _ _ _=>if k=.sli then some false else none
 |.wZ=>if k=.ifc then some true else none
 |.iface _ _=>if k=.ifc then some false else none
 |.AX=>if k=.fn then some true else none
 |.func _ _ _=>if k=.fn then some false else none
 |.rX=>if k=.mp then some true else none
 |.map _=>if k=.mp then some false else none
 |_=>none
def GX (op:BinOp) (k:IntKind) (x y:Int):Option AV:=
 let a:=BitVec.ofInt k.bits x;let b:=BitVec.ofInt k.bits y
 match op with
 |.and=>some (.int k (k.wrap (a&&& b).toNat))
 |.or=>some (.int k (k.wrap (a|||b).toNat))
 |.xor=>some (.int k (k.wrap (a^^^b).toNat))
 |.andNot=>some (.int k (k.wrap (a&&& ~~~b).toNat))
 |_=>none
def qA (op:BinOp) (k:IntKind) (a:Int) (k':IntKind) (b:Int):Option AV:=
 match op with
 |.shl=>if b<0 then none else some (.int k (k.wrap (a*2^(min b.toNat k.bits))))
 |.shr=>if b<0 then none else some (.int k (a.fdiv (2^(min b.toNat k.bits))))
 |.add=>if k=k' then some (.int k (k.wrap (a+b))) else none
 |.sub=>if k=k' then some (.int k (k.wrap (a -b))) else none
 |.mul=>if k=k' then some (.int k (k.wrap (a*b))) else none
 |.quo=>if k=k' then(if b=0 then none else some (.int k (k.wrap (a.tdiv b)))) else none
 |.rem=>if k=k' then(if b=0 then none else some (.int k (a.tmod b))) else none
 |.and|.or|.xor|.andNot=>if k=k' then GX op k a b else none
 |.eql=>if k=k' then some (.bool (a==b)) else none
 |.neq=>if k=k' then some (.bool (a != b)) else none
 |.lss=>if k=k' then some (.bool (a<b)) else none
 |.leq=>if k=k' then some (.bool (a<=b)) else none
 |.gtr=>if k=k' then some (.bool (a>b)) else none
 |.geq=>if k=k' then some (.bool (a≥b)) else none
def tt (op:BinOp) (x y:List UInt8):Option AV:=
 let eq:=x==y;let lt:=Op.bytesLess x y
 match op with
 |.add=>if x.length+y.length<=2^40 then some (.str (x++y)) else none
 |.eql=>some (.bool eq)
 |.neq=>some (.bool !eq)
 |.lss=>some (.bool lt)
 |.leq=>some (.bool (lt||eq))
 |.gtr=>some (.bool !(lt||eq))
 |.geq=>some (.bool !lt)
 |_=>none
def unA (op:UnOp):AV->Option AV
 |.int k n=>match op with
  |.neg=>some (.int k (k.wrap (0 -n)))
  |.xor=>GX .xor k (if k.signed then -1 else k.max) n
  |_=>none
 |.bool b=>match op with
  |.not=>some (.bool !b)
  |_=>none
 |_=>none
def asNat:AV->Option Nat
 |.int _ n=>if 0<=n then some n.toNat else none
 |_=>none
def dQ (ev:Arg->AV):Option Arg->Option (Option Nat)
 |none=>some none
 |some x=>(asNat (ev x)).map some
def SC (s:List UInt8):List (List AV):=s.map fun b=>[.int .u8 b.toNat]
def bytesOf:List (List AV)->Option (List UInt8)
 |[]=>some []
 |[.int .u8 n]::rest=>(bytesOf rest).map (UInt8.ofNat n.toNat:: ·)
 |_=>none
def aA.eW (H:aA) (id:Nat):Option (List AV):=
 match H.get id with
 |some (.cells cs _)=>some cs
 |_=>none
def cQ (H:aA) (sz:Nat):AV->Option (List (List AV))
 |.aS=>some []
 |.aU _ eO els=>if eO=sz then some els else none
 |.str s=>if sz=1 then some (SC s) else none
 |.sl id eO off len _=>
  if eO=sz then
   match H.eW id with
   |some cs=>if off+len*sz<=cs.length then some (fS sz len (cs.drop off)) else none
   |none=>none
  else none
 |_=>none
def lJ (H:aA) (mu:Bool) (sz:Nat) (els:List (List AV)):AV×aA:=
 if mu then(.sl H.next sz 0 els.length els.length,H.alloc (.cells els.flatten true))
 else(.aU (H.next+2) sz els,H.alloc .tok)
def eF (H:aA) (sz bytes:Nat) (mu:Bool) (x:AV) (ys:List (List AV)):Option (AV×aA):=
 if ys.isEmpty then
  match x with
  |.aS|.aU _ _ _|.sl _ _ _ _ _=>some (x,H)
  |_=>none
 else
 match x with
 |.aS=>if ys.length*bytes<=2^40 then some (lJ H mu sz ys) else none
 |.aU tag eO els=>
  if eO=sz/\(els.length+ys.length)*bytes<=2^40 then
   match tag with
   |0=>none
   |1=>some (lJ H mu sz (els++ys))
   |k+2=>
    match H.get k with
    |some .tok=>some (.aU (H.next+2) sz (els++ys),(H.set k .dead).alloc .tok)
    |_=>none
  else none
 |.sl id eO off len cap=>
  if eO=sz/\(len+ys.length)*bytes<=2^40/\1<=sz then
   match H.get id with
   |some (.cells cs eI)=>
    if len+ys.length<=cap then
     if off+cap*sz<=cs.length then
      some (.sl id sz off (len+ys.length) cap,H.set id (.cells (fY cs (off+len*sz) ys.flatten) eI))
     else none
    else if off+len*sz<=cs.length/\(eI=false\/off+cap*sz<cs.length) then
     some (lJ H mu sz (fS sz len (cs.drop off)++ys))
    else if mu=true/\off=0/\len=cap/\cs.length=len*sz then
     some (.sl H.next sz 0 (len+ys.length) (len+ys.length),(H.set id .dead).alloc (.cells (cs++ys.flatten) true))
    else none
   |_=>none
  else none
 |_=>none
def rZ (sz:Nat) (x:AV) (lo hi mx:Option Nat):Option AV:=
 match x with
 |.aS=>if lo.getD 0=0/\hi.getD 0=0/\mx.getD 0=0 then some .aS else none
 |.aU tag eO els=>
  let l:=lo.getD 0;let h:=hi.getD els.length
  if eO=sz/\l<=h/\h<=els.length then
   match mx with
   |some m=>
    if h<=m/\m<=els.length then
     some (.aU (if m=h then 1 else 0) sz ((els.drop l).take (h -l)))
    else none
   |none=>
    if h=els.length/\(l<h\/tag<2) then some (.aU tag sz (els.drop l))
    else some (.aU 0 sz ((els.drop l).take (h -l)))
  else none
 |.sl id eO off len cap=>
  let l:=lo.getD 0;let h:=hi.getD len
  if eO=sz/\l<=h then
   match mx with
   |some m=>
    if h<=m/\m<=cap then
     if m=l then some (.sl id sz off 0 0) else some (.sl id sz (off+l*sz) (h -l) (m -l))
    else none
   |none=>
    if h<=cap then
     if l=cap then some (.aU 0 sz []) else some (.sl id sz (off+l*sz) (h -l) (cap -l))
    else none
  else none
 |_=>none
def mO (H:aA) (n sz:Nat) (x:AV) (lo hi mx:Option Nat):Option AV:=
 let l:=lo.getD 0;let m:=mx.getD n;let h:=hi.getD n
 if l<=h/\h<=m/\m<=n/\(mx.isSome->hi.isSome) then
  match x with
  |.ref id o=>
   match H.eW id with
   |some cs=>if o+n*sz<=cs.length then(if m=l then some (.sl id sz o 0 0) else some (.sl id sz (o+l*sz) (h -l) (m -l))) else none
   |none=>none
  |.pl cs=>if n*sz<=cs.length then some (.aU (if m=h then 1 else 0) sz ((fS sz n cs).drop l |>.take (h -l))) else none
  |_=>none
 else none
def sameKey (k:Sk):AV->AV->Option Bool
 |.int j a,.int j' b=>match k with
  |.i=>if j=j' then some (a==b) else none
  |_=>none
 |.str a,.str b=>match k with
  |.s=>some (a==b)
  |_=>none
 |.bool a,.bool b=>match k with
  |.b=>some (a==b)
  |_=>none
 |.agg xs,.agg ys=>match k with
  |.f sh=>cJ sh xs ys
  |_=>none
 |_,_=>none
def gN (k:Sk) (x:AV):List (AV×AV)->Nat->Option (Option (Nat×AV))
 |[],_=>some none
 |(y,v)::es,i=>
  match sameKey k x y with
  |some true=>some (some (i,v))
  |some false=>gN k x es (i+1)
  |none=>none
def DM (k:Sk):AV->Bool
 |.int _ _=>match k with|.i=>true|_=>false
 |.str _=>match k with|.s=>true|_=>false
 |.bool _=>match k with|.b=>true|_=>false
 |.agg xs=>match k with|.f sh=>decide (xs.length=sh.length)|_=>false
 |_=>false
def xK (ev:Arg->AV):eC->Option (fE×(Nat->AV))
 |.alloc zero=>some (.cells zero false,fun id=>.ref id 0)
 |.box x=>if(ev x).AS then none else some (.cells (ev x).cells false,fun id=>.ref id 0)
 |.yU=>some (.map [],fun id=>.map id)
 |.jD sz bytes zero l c=>match asNat (ev l),asNat (ev c) with
  |some l,some c=>if l<=c/\bytes*c<=2^40/\zero.length=sz then some (.cells (List.replicate c zero).flatten false,fun id=>.sl id sz 0 l c) else none
  |_,_=>none
 |.BK x=>match ev x with
  |.str s=>some (.tok,fun id=>.aU (id+2) 1 (SC s))
  |_=>none
 |_=>none
def cX (ev:Arg->AV) (H:aA):eC->Option (AV×aA)
 |.TM x=>some (ev x,H)
 |.pick c a b=>match ev c with
  |.bool t=>some (if t then ev a else ev b,H)
  |_=>none
 |.alloc zero=>(xK ev (.alloc zero)).map fun p=>(p.2 H.next,H.alloc p.1)
 |.box x=>(xK ev (.box x)).map fun p=>(p.2 H.next,H.alloc p.1)
 |.build zero parts=>(HJ ev zero parts).map fun cs=>(.agg cs,H)
 |.Ob sz parts=>(Ky ev sz parts).map fun els=>(.aU 1 sz els,H)
 |.load agg n a=>match ev a with
  |.ref id off=>match H.eW id with
   |some cs=>if off+n<=cs.length then(if agg then some (.agg ((cs.drop off).take n),H) else if n=1 then some (cs.getD off aD,H) else none) else none
   |none=>none
  |.pl cs=>if n<=cs.length then(if agg then some (.agg (cs.take n),H) else if n=1 then some (cs.getD 0 aD,H) else none) else none
  |_=>none
 |.store n a x=>match ev a with
  |.ref id off=>match H.get id with
   |some (.cells cs eI)=>
    let vs:=(ev x).cells
    if vs.length=n/\off+n<=cs.length/\(ev x).AS=false then some (aD,H.set id (.cells (fY cs off vs) eI)) else none
   |_=>none
  |_=>none
 |.Re x=>match ev x with
  |.ref id off=>some (.ref id off,H)
  |.pl cs=>some (.pl cs,H)
  |.func (.func f) a b=>some (.func (.func f) a b,H)
  |.iface t v=>some (.iface t v,H)
  |_=>none
 |.bin op x y=>match ev x,ev y with
  |.int k a,.int k' b=>(qA op k a k' b).map (·,H)
  |.str a,.str b=>(tt op a b).map (·,H)
  |_,_=>none
 |.eqb neg x y=>match ev x,ev y with
  |.bool a,.bool b=>some (.bool (if neg then !(a==b) else(a==b)),H)
  |_,_=>none
 |.eqf neg shape x y=>match ev x,ev y with
  |.agg xs,.agg ys=>(cJ shape xs ys).map fun e=>(.bool (if neg then !e else e),H)
  |_,_=>none
 |.u9 neg k lit x y=>match Kv k (ev x),Kv k (ev y) with
  |some a,some b=>if(a||b)&&(k != .ifc|| !(a&&b)||lit) then some (.bool (if neg then !(a&&b) else(a&&b)),H) else none
  |_,_=>none
 |.un op x=>(unA op (ev x)).map (·,H)
 |.NX k x=>match ev x with
  |.int _ n=>some (.int k (k.wrap n),H)
  |_=>none
 |.BK x=>(xK ev (.BK x)).map fun p=>(p.2 H.next,H.alloc p.1)
 |.DB x=>match ev x with
  |.str _=>none
  |v=>match cQ H 1 v with
   |some els=>(bytesOf els).map fun s=>(.str s,H)
   |none=>none
 |.Yw n x=>match ev x with
  |.aU _ _ els=>if n<=els.length/\1<=els.length then some (.pl els.flatten,H) else none
  |.sl id _ off len _=>if n<=len then some (.ref id off,H) else none
  |_=>none
 |.YO t x=>some (.iface t (ev x),H)
 |.YN fn first cap=>some (.func fn (first.map ev) (cap.map ev),H)
 |.yU=>(xK ev .yU).map fun p=>(p.2 H.next,H.alloc p.1)
 |.jD sz bytes zero l c=>(xK ev (.jD sz bytes zero l c)).map fun p=>(p.2 H.next,H.alloc p.1)
 |.PM x lo hi=>match ev x,dQ ev lo,dQ ev hi with
  |.str s,some lo,some hi=>
   let l:=lo.getD 0;let h:=hi.getD s.length
   if l<=h/\h<=s.length then some (.str ((s.drop l).take (h -l)),H) else none
  |_,_,_=>none
 |.Yy sz x lo hi mx=>match dQ ev lo,dQ ev hi,dQ ev mx with
  |some lo,some hi,some mx=>if mx.isSome->hi.isSome then(rZ sz (ev x) lo hi mx).map (·,H) else none
  |_,_,_=>none
 |.DU n sz x lo hi mx=>match dQ ev lo,dQ ev hi,dQ ev mx with
  |some lo,some hi,some mx=>(mO H n sz (ev x) lo hi mx).map (·,H)
  |_,_,_=>none
 |.Xf off x=>match ev x with
  |.ref id o=>some (.ref id (o+off),H)
  |.pl cs=>some (.pl (cs.drop off),H)
  |_=>none
 |.TG arr sz x i=>match asNat (ev i) with
  |some i=>match arr,ev x with
   |some n,.ref id o=>if i<n then some (.ref id (o+i*sz),H) else none
   |some n,.pl cs=>if i<n then some (.pl (cs.drop (i*sz)),H) else none
   |none,.aU _ eO els=>if eO=sz/\i<els.length then some (.pl (els.getD i []),H) else none
   |none,.sl id eO off len _=>if eO=sz/\i<len then some (.ref id (off+i*sz),H) else none
   |_,_=>none
  |none=>none
 |.idx n sz agg x i=>match asNat (ev i),ev x with
  |some i,.agg cs=>if i<n/\i*sz+sz<=cs.length then(if agg then some (.agg ((cs.drop (i*sz)).take sz),H) else if sz=1 then some (cs.getD i aD,H) else none) else none
  |_,_=>none
 |.idxs x i=>match asNat (ev i),ev x with
  |some i,.str s=>match s[i]? with
   |some b=>some (.int .u8 b.toNat,H)
   |none=>none
  |_,_=>none
 |.ZF t ok zero x=>match ev x with
  |.iface t' v=>if t'=t then some (if ok then .jR [v,.bool true] else v,H) else if ok then some (.jR [zero,.bool false],H) else none
  |.wZ=>if ok then some (.jR [zero,.bool false],H) else none
  |_=>none
 |.Xe x i=>match ev x with
  |.jR vs=>if i<vs.length then some (vs.getD i aD,H) else none
  |_=>none
 |.lens x=>match ev x with
  |.str s=>some (.int .i64 s.length,H)
  |_=>none
 |.OQ x=>match ev x with
  |.aS=>some (.int .i64 0,H)
  |.aU _ _ els=>some (.int .i64 els.length,H)
  |.sl _ _ _ len _=>some (.int .i64 len,H)
  |_=>none
 |.Vc x y=>match ev x,ev y with
  |.int k a,.int _ b=>some (.int k (if b>a then b else a),H)
  |_,_=>none
 |.Ve x y=>match ev x,ev y with
  |.int k a,.int _ b=>some (.int k (if b<a then b else a),H)
  |_,_=>none
 |.clr sz zero x=>match ev x with
  |.aS|.aU _ _ []|.sl _ _ _ 0 _=>some (aD,H)
  |.sl id eO off len _=>if eO=sz/\zero.length=sz then
    match H.get id with
    |some (.cells cs eI)=>if off+len*sz<=cs.length then some (aD,H.set id (.cells (fY cs off (List.replicate len zero).flatten) eI)) else none
    |_=>none
   else none
  |_=>none
 |.append sz bytes mu x y=>match cQ H sz (ev y) with
  |some ys=>eF H sz bytes mu (ev x) ys
  |none=>none
 |.copy sz d s=>match cQ H sz (ev s),ev d with
  |some ys,.aS=>some (.int .i64 (min ys.length 0:Nat),H)
  |some ys,.sl id eO off len _=>
   let n:=min ys.length len
   if eO=sz then
    match H.get id with
    |some (.cells cs eI)=>if off+n*sz<=cs.length then some (.int .i64 n,H.set id (.cells (fY cs off (ys.take n).flatten) eI)) else none
    |_=>none
   else none
  |_,_=>none
 |.lookup kind zero ok x i=>if DM kind (ev i) then
   match ev x with
   |.rX=>some (if ok then .jR [zero,.bool false] else zero,H)
   |.map id=>match H.get id with
    |some (.map es)=>match gN kind (ev i) es 0 with
     |some (some (_,v))=>some (if ok then .jR [v,.bool true] else v,H)
     |some none=>some (if ok then .jR [zero,.bool false] else zero,H)
     |none=>none
    |_=>none
   |_=>none
  else none
 |.OY kind m k v=>if DM kind (ev k) then
   match ev m with
   |.map id=>match H.get id with
    |some (.map es)=>match gN kind (ev k) es 0 with
     |some (some (i,_))=>some (aD,H.set id (.map (es.set i (ev k,ev v))))
     |some none=>some (aD,H.set id (.map (es++[(ev k,ev v)])))
     |none=>none
    |_=>none
   |_=>none
  else none
 |.call _ _|.panic _|.lC _ _|.vQ _|.DN _|.yB _=>none
structure Loc where
 cY:Nat
 base:Nat
 UD:Nat
 ext:Nat
structure Gh where
 loc:Nat->Option Loc
 gV:Nat->Nat->Prop
 mo:Bool
def aIe (G:Gh) (tag b e sz len cap:Nat):Prop:=
 len<=cap/\match tag with
 |0=>True
 |1=>cap=len
 |k+2=>∃l,G.loc k=some l/\l.cY=b/\l.base=e/\l.UD=0/\l.ext=(cap -len)*sz
inductive VR (G:Gh) (w:World):AV->Value->Prop
 |bool (b:Bool):VR G w (.bool b) (.bool b)
 |int (k:IntKind) (n:Int):VR G w (.int k n) (.int k n)
 |str (s:ByteArray):VR G w (.str s.data.toList) (.string s)
 |LD:VR G w .LD (.pointer none)
 |ref (id off:Nat) (l:Loc) (h:G.loc id=some l):VR G w (.ref id off) (.pointer (some ⟨l.cY,l.base+off,none⟩))
 |pl (cells:List AV) (b o:Nat) (us:Nat->Value)
   (h:∀j,j<cells.length->G.gV b (o+j)/\w.cell? ⟨b,o+j,none⟩=some (us j)/\(cells.getD j aD).one=true)
   (hv:∀j,j<cells.length->VR G w (cells.getD j aD) (us j)):VR G w (.pl cells) (.pointer (some ⟨b,o,none⟩))
 |aS:VR G w .aS (.slice none 0 0)
 |aU (tag sz:Nat) (els:List (List AV)) (b o cap:Nat) (us:Nat->Value)
   (hu:∀e∈els,e.length=sz)
   (h:∀j,j<els.flatten.length->G.gV b (o+j)/\w.cell? ⟨b,o+j,none⟩=some (us j)/\(els.flatten.getD j aD).one=true)
   (hv:∀j,j<els.flatten.length->VR G w (els.flatten.getD j aD) (us j))
   (ht:aIe G tag b (o+els.length*sz) sz els.length cap):VR G w (.aU tag sz els) (.slice (some ⟨b,o,none⟩) els.length cap)
 |vP (tag sz b o s:Nat) (ht:tag<2):VR G w (.aU tag sz []) (.slice (some ⟨b,o,some s⟩) 0 0)
 |sl (id sz off len cap jV:Nat) (l:Loc) (h:G.loc id=some l) (hlen:len<=cap) (gG:off+cap*sz<=l.UD)
   (qJ:jV=cap\/(off+cap*sz=l.UD/\cap<=jV/\off+jV*sz=l.ext)):
   VR G w (.sl id sz off len cap) (.slice (some ⟨l.cY,l.base+off,none⟩) len jV)
 |func (fn:Fn) (fs cs:List AV) (azs bs:List Value) (ha:azs.length=fs.length) (hb:bs.length=cs.length)
   (hav:∀j,j<fs.length->VR G w (fs.getD j aD) (azs.getD j undef)) (hbv:∀j,j<cs.length->VR G w (cs.getD j aD) (bs.getD j undef)):
   VR G w (.func fn fs cs) (.func fn azs.toArray bs.toArray)
 |AX:VR G w .AX .nilFunc
 |iface (t:TypeId) (a:AV) (v:Value) (h:VR G w a v):VR G w (.iface t a) (.iface t v)
 |wZ:VR G w .wZ .nilIface
 |agg (cs:List AV) (vs:List Value) (hl:vs.length=cs.length) (h1:∀c∈cs,c.one=true)
   (hv:∀j,j<cs.length->VR G w (cs.getD j aD) (vs.getD j undef)):VR G w (.agg cs) (.agg vs.toArray)
 |jR (cs:List AV) (vs:List Value) (hl:vs.length=cs.length)
   (hv:∀j,j<cs.length->VR G w (cs.getD j aD) (vs.getD j undef)):VR G w (.jR cs) (.tuple vs.toArray)
 |map (id:Nat) (l:Loc) (h:G.loc id=some l):VR G w (.map id) (.map (some l.cY))
 |rX:VR G w .rX (.map none)
 |yield (id:Nat) (l:Loc) (h:G.loc id=some l):VR G w (.yield id) (.func (.yield l.cY) #[] #[])
def iF (G:Gh) (w:World) (xs:List AV) (vs:List Value):Prop:=
 vs.length=xs.length/\∀j,j<xs.length->VR G w (xs.getD j aD) (vs.getD j undef)
theorem VR.oH (G:Gh) (w:World):VR G w aD Go.undef:=VR.jR [] [] rfl (fun j hj=>absurd hj (As j))
theorem VR.mono {G G':Gh} {w w':World} {a:AV} {u:Value} (h:VR G w a u) (hl:∀id l,G.loc id=some l->G'.loc id=some l)
 (hi:∀b o,G.gV b o->G'.gV b o/\w'.cell? ⟨b,o,none⟩=w.cell? ⟨b,o,none⟩):VR G' w' a u:=by
 induction h with
 |bool b=>exact .bool b
 |int k n=>exact .int k n
 |str s=>exact .str s
 |LD=>exact .LD
 |ref id off l h=>exact .ref id off l (hl _ _ h)
 |pl cells b o us h hv ih=>exact .pl cells b o us (fun j hj=>⟨(hi _ _ (h j hj).1).1,by rw[(hi _ _ (h j hj).1).2];exact(h j hj).2.1,(h j hj).2.2⟩) ih
 |aS=>exact .aS
 |aU tag sz els b o cap us hu h hv ht ih=>
  refine .aU tag sz els b o cap us hu (fun j hj=>⟨(hi _ _ (h j hj).1).1,by rw[(hi _ _ (h j hj).1).2];exact(h j hj).2.1,(h j hj).2.2⟩) ih ?_;refine⟨ht.1,?_⟩;have h2:=ht.2
  match tag,h2 with
  |0,_=>trivial
  |1,h2=>exact h2
  |k+2,⟨l,h1,h2⟩=>exact⟨l,hl _ _ h1,h2⟩
 |vP tag sz b o s ht=>exact .vP tag sz b o s ht
 |sl id sz off len cap jV l h hlen gG qJ=>exact .sl id sz off len cap jV l (hl _ _ h) hlen gG qJ
 |func fn fs cs azs bs ha hb hav hbv qR uM=>exact .func fn fs cs azs bs ha hb qR uM
 |AX=>exact .AX
 |iface t a v h ih=>exact .iface t a v ih
 |wZ=>exact .wZ
 |agg cs vs oU h1 hv ih=>exact .agg cs vs oU h1 ih
 |jR cs vs oU hv ih=>exact .jR cs vs oU ih
 |map id l h=>exact .map id l (hl _ _ h)
 |rX=>exact .rX
 |yield id l h=>exact .yield id l (hl _ _ h)
def aAb:Value->Bool
 |.agg _|.tuple _=>false
 |_=>true
theorem VR.one {G:Gh} {w:World} {a:AV} {u:Value} (h:VR G w a u):a.one=aAb u:=by cases h<;>rfl
def aA.live (H:aA) (id:Nat):Prop:=∃o,H.get id=some o/\o.live=true
def UG (ents:Array MapEntry) (clock:Nat):Prop:=
 (∀i,i<ents.size->(ents.getD i default).born<clock)/\∀i j,i<ents.size->j<ents.size->(ents.getD i default).born=(ents.getD j default).born->i=j
def KJ (g:bB) (G:Gh) (w:World) (l:Loc):fE->Prop
 |.map es=>∃ents clock,w.heap[l.cY]?=some (.map ents clock)/\ents.size=es.length/\UG ents clock/\
   ∀j,j<es.length->VR G w (es.getD j (aD,aD)).1 (ents.getD j default).key/\VR G w (es.getD j (aD,aD)).2 (ents.getD j default).val
 |.sT es bs c mb=>l.cY=mb/\bs.Nodup/\(∀b∈bs,b<c)/\∃ents:Array MapEntry,w.heap[l.cY]?=some (.map ents c)/\ents.toList.map (·.born)=bs/\bs.length=es.length/\
   ∀j,j<es.length->VR G w (es.getD j (aD,aD)).1 (ents.getD j default).key/\VR G w (es.getD j (aD,aD)).2 (ents.getD j default).val
 |.iter m mb c seen=>w.heap[l.cY]?=some (.mapIter (some mb) c seen.toArray c)/\VR G w (.map m) (.map (some mb))
 |.loop k sn st=>∃r,g.lok k r/\w.heap[l.cY]?=some (.loop (mT r st))/\iF G w sn r.tmps.toList
 |.LZ=>w.heap[l.cY]?=some (.deferred (some []))
 |.dfx=>w.heap[l.cY]?=some (.deferred none)
 |_=>True
theorem KJ.mono {g:bB} {G G':Gh} {w w':World} {l:Loc} {o:fE} (h:KJ g G w l o) (hb:w'.heap[l.cY]?=w.heap[l.cY]?) (hv:∀a u,VR G w a u->VR G' w' a u):KJ g G' w' l o:=by
 cases o with
 |map es=>obtain⟨ents,clock,a1,a2,a3,a4⟩:=h;exact⟨ents,clock,by rw[hb];exact a1,a2,a3,fun j hj=>⟨hv _ _ (a4 j hj).1,hv _ _ (a4 j hj).2⟩⟩
 |sT es bs c mb=>obtain⟨a1,a2,a3,ents,a4,a5,a6,a7⟩:=h;exact⟨a1,a2,a3,ents,hb.trans a4,a5,a6,fun j hj=>⟨hv _ _ (a7 j hj).1,hv _ _ (a7 j hj).2⟩⟩
 |iter m mb c seen=>exact⟨hb.trans h.1,hv _ _ h.2⟩
 |loop k sn st=>obtain⟨r,h0,h1,h2⟩:=h;exact⟨r,h0,hb.trans h1,h2.1,fun j hj=>hv _ _ (h2.2 j hj)⟩
 |LZ=>exact hb.trans h
 |dfx=>exact hb.trans h
 |_=>trivial
theorem KJ.lt {g:bB} {G:Gh} {w:World} {l:Loc} {o:fE} (ho:o.cY=true) (h:KJ g G w l o):l.cY<w.heap.size:=by
 cases o with
 |map es=>obtain⟨ents,clock,a1,_⟩:=h;exact(Ck.1 a1).1
 |sT es bs c mb=>obtain⟨_,_,_,ents,a1,_⟩:=h;exact(Ck.1 a1).1
 |iter m mb c seen=>exact(Ck.1 h.1).1
 |loop k sn st=>obtain⟨r,_,h1,_⟩:=h;exact(Ck.1 h1).1
 |LZ=>exact(Ck.1 (show w.heap[l.cY]?=some _ from h)).1
 |dfx=>exact(Ck.1 (show w.heap[l.cY]?=some _ from h)).1
 |_=>cases ho
theorem OS {o:fE} (h:o.cY=true):o.live=true:=by cases o<;>first|rfl|cases h
theorem KJ.AY {g:bB} {G:Gh} {w:World} {l:Loc} {o:fE} (ho:o.cY=true) (h:KJ g G w l o) {c:Array Value} {el:TypeId} {fz:Nat×Nat}:w.heap[l.cY]?≠some (.cells c el fz):=by
 intro hc
 cases o with
 |map es=>obtain⟨ents,clock,a1,_⟩:=h;rw[hc] at a1;cases a1
 |sT es bs c mb=>obtain⟨_,_,_,ents,a1,_⟩:=h;rw[hc] at a1;cases a1
 |iter m mb c seen=>have h:=h.1;rw[hc] at h;cases h
 |loop k sn st=>obtain⟨r,_,h,_⟩:=h;rw[hc] at h;cases h
 |LZ=>have h:w.heap[l.cY]?=some _:=h;rw[hc] at h;cases h
 |dfx=>have h:w.heap[l.cY]?=some _:=h;rw[hc] at h;cases h
 |_=>cases ho
structure WR (g:bB) (G:Gh) (H:aA) (w:World):Prop where
 cells:∀id l cs eI,G.loc id=some l->H.get id=some (.cells cs eI)->
  l.UD=cs.length/\l.UD<=l.ext/\(eI=false->l.UD=l.ext)/\(∀c∈cs,c.one=true)/\
  ∀j,j<cs.length->∃u,w.cell? ⟨l.cY,l.base+j,none⟩=some u/\VR G w (cs.getD j aD) u
 room:∀id l,G.loc id=some l->((∃cs eI,H.get id=some (.cells cs eI))\/H.get id=some .tok)->
  ∃c el fz,w.heap[l.cY]?=some (.cells c el fz)/\l.base+l.ext<=c.size/\∀j,j<l.ext->w.frozen? ⟨l.cY,l.base+j,none⟩=false
 kT:∀id kG l l',id≠kG->G.loc id=some l->G.loc kG=some l'->H.live id->H.live kG->
  l.cY≠l'.cY\/l.base+l.ext<=l'.base\/l'.base+l'.ext<=l.base
 jY:∀id l,G.loc id=some l->H.live id->∀j,j<l.ext->¬G.gV l.cY (l.base+j)
 iM:∀id l o,G.loc id=some l->H.get id=some o->o.cY=true->l.base=0/\l.ext=1/\KJ g G w l o
 lt:∀id l,G.loc id=some l->id<H.next
 iR:∀b o,G.gV b o->∃v,w.cell? ⟨b,o,none⟩=some v
 jA:∀n cs,g n=some cs->VR G w (.pl cs) (.pointer (some ⟨n,0,none⟩))
 CA:∀n cs,g n=some cs->cs≠[]->∃c el fz,w.heap[n]?=some (.cells c el fz)/\c.size=cs.length
 mo:G.mo=g.mo
structure zN (w w':World):Prop where
 os:w'.os=w.os
 output:w'.output=w.output
 tape:w'.tape=w.tape
 drawn:w.drawn<=w'.drawn
theorem zN.now {w w':World} (h1:w'.os=w.os:=by rfl) (h2:w'.output=w.output:=by rfl) (h3:w'.tape=w.tape:=by rfl) (h4:w.drawn<=w'.drawn:=by first|exact Ak _|exact Gq _|exact Hh _ _):zN w w':=⟨h1,h2,h3,h4⟩
theorem zN.trans {w w' w'':World} (h:zN w w') (h':zN w' w''):zN w w'':=⟨h'.os.trans h.os,h'.output.trans h.output,h'.tape.trans h.tape,Cb h.drawn h'.drawn⟩
structure Qd (b:Bool) (w w':World):Prop where
 os:w'.os=w.os
 output:w'.output=w.output
 tape:w'.tape=w.tape
 drawn:b=true->w.drawn<=w'.drawn
theorem zN.toB {w w':World} (h:zN w w') (b:Bool):Qd b w w':=⟨h.os,h.output,h.tape,fun _=>h.drawn⟩
theorem Qd.trans {b:Bool} {w w' w'':World} (h:Qd b w w') (h':Qd b w' w''):Qd b w w'':=⟨h'.os.trans h.os,h'.output.trans h.output,h'.tape.trans h.tape,fun hb=>Cb (h.drawn hb) (h'.drawn hb)⟩
structure Ext (G:Gh) (H:aA) (w:World) (G':Gh) (H':aA) (w':World):Prop where
 loc:∀id l,G.loc id=some l->G'.loc id=some l
 gV:∀b o,G.gV b o->G'.gV b o/\w'.cell? ⟨b,o,none⟩=w.cell? ⟨b,o,none⟩
 size:w.heap.size<=w'.heap.size
 frame:∀b,b<w.heap.size->(∀id l,G.loc id=some l->H.live id->l.cY≠b)->w'.heap[b]?=w.heap[b]?
 lR:∀id l,G'.loc id=some l->H'.live id->w.heap.size<=l.cY\/∃eS l0,G.loc eS=some l0/\H.live eS/\l0.cY=l.cY
 pH:∀b o,G'.gV b o->G.gV b o\/w.heap.size<=b\/∃eS l0,G.loc eS=some l0/\H.live eS/\l0.cY=b
 next:H.next<=H'.next
 news:∀id l,G'.loc id=some l->G.loc id=none->H.next<=id
 dead:∀id l,G.loc id=some l->H'.live id->H.live id
 mo:G'.mo=G.mo
 same:Qd G.mo w w'
theorem Ext.refl (G:Gh) (H:aA) (w:World):Ext G H w G H w where
 loc:=fun _ _ h=>h
 gV:=fun _ _ h=>⟨h,rfl⟩
 size:=Ak _
 frame:=fun _ _ _=>rfl
 lR:=fun id l h hl=>.inr ⟨id,l,h,hl,rfl⟩
 pH:=fun _ _ h=>.inl h
 next:=Ak _
 news:=fun _ _ h h'=>by rw[h] at h';cases h'
 dead:=fun _ _ _ h=>h
 mo:=rfl
 same:=zN.toB .now _
theorem Ext.trans {G G' G'':Gh} {H H' GM:aA} {w w' w'':World} (h:Ext G H w G' H' w') (h':Ext G' H' w' G'' GM w''):Ext G H w G'' GM w'' where
 loc:=fun id l hl=>h'.loc _ _ (h.loc _ _ hl)
 gV:=fun b o hi=>⟨(h'.gV _ _ (h.gV _ _ hi).1).1,((h'.gV _ _ (h.gV _ _ hi).1).2).trans (h.gV _ _ hi).2⟩
 size:=Cb h.size h'.size
 frame:=fun b hb hn=>by
  rw[h'.frame b (Ca hb h.size) (fun id l hl hv=>?_),h.frame b hb hn]
  rcases h.lR id l hl hv with Lm|⟨eS,l0,OA,Pf,he⟩
  · omega
  rw[<-he];exact hn eS l0 OA Pf
 lR:=fun id l hl hv=>by
  rcases h'.lR id l hl hv with Lm|⟨eS,l0,OA,Pf,he⟩
  · exact .inl (Cb h.size Lm)
  rcases h.lR eS l0 OA Pf with Lm|⟨id1,l1,zC,sQ,Tw⟩
  · exact .inl (by omega)
  exact .inr ⟨id1,l1,zC,sQ,Tw.trans he⟩
 pH:=fun b o hi=>by
  rcases h'.pH b o hi with hi|Lm|⟨eS,l0,OA,Pf,he⟩
  · exact h.pH b o hi
  · exact .inr (.inl (Cb h.size Lm))
  rcases h.lR eS l0 OA Pf with Lm|⟨id1,l1,zC,sQ,Tw⟩
  · exact .inr (.inl (by omega))
  exact .inr (.inr ⟨id1,l1,zC,sQ,Tw.trans he⟩)
 next:=Cb h.next h'.next
 news:=fun id l hl hn=>by
  cases h1:G'.loc id with
  |none=>exact Cb h.next (h'.news id l hl h1)
  |some l1=>exact h.news id l1 h1 hn
 dead:=fun id l hl hv=>h.dead id l hl (h'.dead id l (h.loc _ _ hl) hv)
 mo:=h'.mo.trans h.mo
 same:=h.same.trans (h.mo▸h'.same)
theorem VR.ext {G G':Gh} {H H':aA} {w w':World} {a:AV} {u:Value} (h:VR G w a u) (e:Ext G H w G' H' w'):VR G' w' a u:=
 h.mono e.loc e.gV
theorem iF.ext {G G':Gh} {H H':aA} {w w':World} {xs:List AV} {vs:List Value} (h:iF G w xs vs) (e:Ext G H w G' H' w'):iF G' w' xs vs:=
 ⟨h.1,fun j hj=>(h.2 j hj).ext e⟩
theorem aA.kV {H:aA} {id:Nat} {o:fE} {m:Nat}:(H.set id o).live m↔(m=id/\o.live=true)\/(m≠id/\H.live m):=by
 unfold aA.live;rw[aA.aC];by_cases h:m=id
 · subst h;simp
 simp[h]
theorem lS {w:World} {b o:Nat} {c:Array Value} {el:TypeId} {fz:Nat×Nat} (h:w.heap[b]?=some (.cells c el fz)):
 w.cell? ⟨b,o,none⟩=c[o]?:=by
 unfold World.cell?;simp[h]
theorem qP {w:World} {b o:Nat} {c:Array Value} {el:TypeId} {fz:Nat×Nat} (h:w.heap[b]?=some (.cells c el fz)):
 w.frozen? ⟨b,o,none⟩=(decide (fz.1<=o)&&decide (o<fz.2)):=by
 unfold World.frozen?;simp[h]
theorem zZ {w:World} {b o:Nat} {v:Value} (h:w.cell? ⟨b,o,none⟩=some v):∃c el fz,w.heap[b]?=some (.cells c el fz)/\c[o]?=some v:=by
 unfold World.cell? at h;split at h
 · rename_i c el fz hc;exact⟨c,el,fz,hc,by simpa using h⟩
 cases h
theorem gI {w w':World} {b o:Nat} (h:w'.heap[b]?=w.heap[b]?):w'.cell? ⟨b,o,none⟩=w.cell? ⟨b,o,none⟩:=by unfold World.cell?;simp[h]
theorem kY {w w':World} {b o:Nat} (h:w'.heap[b]?=w.heap[b]?):w'.frozen? ⟨b,o,none⟩=w.frozen? ⟨b,o,none⟩:=by unfold World.frozen?;simp[h]
theorem WR.of_heap {g:bB} {G:Gh} {H:aA} {w w':World} (h:WR g G H w) (hw:w'.heap=w.heap):WR g G H w':=by
 have hb:∀b:Nat,w'.heap[b]?=w.heap[b]?:=fun b=>by rw[hw]
 have hc:∀b o,w'.cell? ⟨b,o,none⟩=w.cell? ⟨b,o,none⟩:=fun b o=>gI (hb b);have hm:∀{a u},VR G w a u->VR G w' a u:=fun hv=>hv.mono (fun _ _ h=>h) (fun b o hi=>⟨hi,hc b o⟩)
 exact {
  cells:=fun id l cs eI h1 h2=>by obtain⟨a1,a2,a3,a4,a5⟩:=h.cells id l cs eI h1 h2;refine⟨a1,a2,a3,a4,fun j hj=>?_⟩;obtain⟨u,hu,hv⟩:=a5 j hj;exact⟨u,by rw[hc];exact hu,hm hv⟩
  room:=fun id l h1 h2=>by obtain⟨c,el,fz,a1,a2,a3⟩:=h.room id l h1 h2;exact⟨c,el,fz,by rw[hb];exact a1,a2,fun j hj=>by rw[kY (hb _)];exact a3 j hj⟩
  kT:=h.kT
  jY:=h.jY
  iM:=fun id l o h1 h2 hk=>let⟨a1,a2,a3⟩:=h.iM id l o h1 h2 hk;⟨a1,a2,a3.mono (hb _) fun _ _=>hm⟩
  lt:=h.lt
  iR:=fun b o hi=>by rw[hc];exact h.iR b o hi
  jA:=fun n cs hn=>hm (h.jA n cs hn)
  CA:=fun n cs hn h0=>by rw[hb];exact h.CA n cs hn h0
  mo:=h.mo}
theorem Ext.of_heap {G:Gh} {H:aA} {w w':World} (hw:w'.heap=w.heap) (hs:zN w w'):Ext G H w G H w' where
 loc:=fun _ _ h=>h
 gV:=fun b o h=>⟨h,gI (by rw[hw])⟩
 size:=by rw[hw];exact Ak _
 frame:=fun _ _ _=>by rw[hw]
 lR:=fun id l h hl=>.inr ⟨id,l,h,hl,rfl⟩
 pH:=fun _ _ h=>.inl h
 next:=Ak _
 news:=fun _ _ h h'=>by rw[h] at h';cases h'
 dead:=fun _ _ _ h=>h
 mo:=rfl
 same:=hs.toB _
theorem HR {α:Type} (a:Array α) (x:α) {b:Nat} (h:b<a.size):(a.push x)[b]?=a[b]?:=by rw[Kh];rw[if_neg (by omega)]
theorem CP {α:Type} (a:Array α) (x:α):(a.push x)[a.size]?=some x:=by simp
theorem wF {w:World} {b o:Nat} {v:Value} (h:w.cell? ⟨b,o,none⟩=some v):b<w.heap.size:=by obtain⟨c,el,fz,h1,_⟩:=zZ h;exact(Ck.1 h1).1
def Gh.nS (G:Gh) (b lo n:Nat):Gh:={G with gV:=fun b' o=>G.gV b' o\/(b'=b/\lo<=o/\o<lo+n)}
def Gh.dZ (G:Gh) (id:Nat) (l:Loc):Gh:={G with loc:=fun i=>if i=id then some l else G.loc i}
theorem WR.mP {g:bB} {G:Gh} {H:aA} {w:World} (h:WR g G H w) {id:Nat} {l:Loc} (hl:G.loc id=some l) (hv:H.live id):l.cY<w.heap.size:=by
 obtain⟨o,ho,lG⟩:=hv
 have :∃x,w.heap[l.cY]?=some x:=by
  cases o with
  |cells cs eI=>obtain⟨c,el,fz,h1,_⟩:=h.room id l hl (.inl ⟨cs,eI,ho⟩);exact⟨_,h1⟩
  |tok=>obtain⟨c,el,fz,h1,_⟩:=h.room id l hl (.inr ho);exact⟨_,h1⟩
  |dead=>cases lG
  |_=>have :=(h.iM id l _ hl ho rfl).2.2.lt rfl;exact⟨_,Dv this⟩
 obtain⟨x,hx⟩:=this;exact(Ck.1 hx).1
theorem WR.grow {g:bB} {G:Gh} {H:aA} {w w':World} (h:WR g G H w)
 (hb:∀b,b<w.heap.size->w'.heap[b]?=w.heap[b]?):WR g G H w':=by
 have hc:∀b o,G.gV b o->w'.cell? ⟨b,o,none⟩=w.cell? ⟨b,o,none⟩:=fun b o hi=>by obtain⟨v,hv⟩:=h.iR b o hi;exact gI (hb b (wF hv))
 have hm:∀{a u},VR G w a u->VR G w' a u:=fun hv=>hv.mono (fun _ _ h=>h) (fun b o hi=>⟨hi,hc b o hi⟩)
 exact {
  cells:=fun id l cs eI h1 h2=>by obtain⟨a1,a2,a3,a4,a5⟩:=h.cells id l cs eI h1 h2;refine⟨a1,a2,a3,a4,fun j hj=>?_⟩;obtain⟨u,hu,hv⟩:=a5 j hj;exact⟨u,by rw[gI (hb _ (h.mP h1 ⟨_,h2,rfl⟩))];exact hu,hm hv⟩
  room:=fun id l h1 h2=>by obtain⟨c,el,fz,a1,a2,a3⟩:=h.room id l h1 h2;have eZ:=(Ck.1 a1).1;exact⟨c,el,fz,by rw[hb _ eZ];exact a1,a2,fun j hj=>by rw[kY (hb _ eZ)];exact a3 j hj⟩
  kT:=h.kT
  jY:=h.jY
  iM:=fun id l o h1 h2 hk=>let⟨a1,a2,a3⟩:=h.iM id l o h1 h2 hk;⟨a1,a2,a3.mono (hb _ (a3.lt hk)) fun _ _=>hm⟩
  lt:=h.lt
  iR:=fun b o hi=>by rw[hc b o hi];exact h.iR b o hi
  jA:=fun n cs hn=>hm (h.jA n cs hn)
  CA:=fun n cs hn h0=>let⟨c,el,fz,a1,a2⟩:=h.CA n cs hn h0;⟨c,el,fz,by rw[hb _ (Ck.1 a1).1];exact a1,a2⟩
  mo:=h.mo}
theorem Ext.grow {G:Gh} {H:aA} {w w':World} (pF:∀b o,G.gV b o->∃v,w.cell? ⟨b,o,none⟩=some v)
 (hb:∀b,b<w.heap.size->w'.heap[b]?=w.heap[b]?) (lE:w.heap.size<=w'.heap.size) (hs:zN w w'):Ext G H w G H w' where
 loc:=fun _ _ h=>h
 gV:=fun b o hi=>⟨hi,by obtain⟨v,hv⟩:=pF b o hi;exact gI (hb b (wF hv))⟩
 size:=lE
 frame:=fun b eZ _=>hb b eZ
 lR:=fun id l h hl=>.inr ⟨id,l,h,hl,rfl⟩
 pH:=fun _ _ h=>.inl h
 next:=Ak _
 news:=fun _ _ h h'=>by rw[h] at h';cases h'
 dead:=fun _ _ _ h=>h
 mo:=rfl
 same:=hs.toB _
theorem WR.nS {g:bB} {G:Gh} {H:aA} {w:World} (h:WR g G H w) (b lo n:Nat)
 (hex:∀j,j<n->∃v,w.cell? ⟨b,lo+j,none⟩=some v)
 (tU:∀id l,G.loc id=some l->H.live id->l.cY≠b\/l.base+l.ext<=lo\/lo+n<=l.base):WR g (G.nS b lo n) H w:=by
 have hm:∀{a u},VR G w a u->VR (G.nS b lo n) w a u:=fun hv=>hv.mono (fun _ _ h=>h) (fun b o hi=>⟨.inl hi,rfl⟩)
 exact {
  cells:=fun id l cs eI h1 h2=>by obtain⟨a1,a2,a3,a4,a5⟩:=h.cells id l cs eI h1 h2;refine⟨a1,a2,a3,a4,fun j hj=>?_⟩;obtain⟨u,hu,hv⟩:=a5 j hj;exact⟨u,hu,hm hv⟩
  room:=h.room
  kT:=h.kT
  jY:=fun id l hl hv j hj hi=>by
   rcases hi with hi|⟨h1,h2,h3⟩
   · exact h.jY id l hl hv j hj hi
   rcases tU id l hl hv with hd|hd|hd
   · exact hd h1
   · omega
   omega
  iM:=fun id l o h1 h2 hk=>let⟨a1,a2,a3⟩:=h.iM id l o h1 h2 hk;⟨a1,a2,a3.mono rfl fun _ _=>hm⟩
  lt:=h.lt
  iR:=fun b' o hi=>by
   rcases hi with hi|⟨rfl,h2,h3⟩
   · exact h.iR b' o hi
   have :=hex (o -lo) (by omega)
   rwa [show lo+(o -lo)=o by omega] at this
  jA:=fun n cs hn=>hm (h.jA n cs hn)
  CA:=h.CA
  mo:=h.mo}
theorem Ext.nS {G G':Gh} {H H':aA} {w w':World} (e:Ext G H w G' H' w') (b lo n:Nat)
 (hb:w.heap.size<=b\/∃eS l0,G.loc eS=some l0/\H.live eS/\l0.cY=b):Ext G H w (G'.nS b lo n) H' w' where
 loc:=e.loc
 gV:=fun b' o hi=>⟨.inl (e.gV b' o hi).1,(e.gV b' o hi).2⟩
 size:=e.size
 frame:=e.frame
 lR:=e.lR
 pH:=fun b' o hi=>by
  rcases hi with hi|⟨rfl,_,_⟩
  · exact e.pH b' o hi
  exact .inr hb
 next:=e.next
 news:=e.news
 dead:=e.dead
 mo:=e.mo
 same:=e.same
theorem WR.GR {g:bB} {G:Gh} {H H':aA} {w:World} (h:WR g G H w) (eS:Nat) (o:fE) (l:Loc) (cZ:G.loc eS=none)
 (cT:∀m,H'.get m=if m=eS then some o else H.get m) (AM:H.next<=H'.next) (FA:eS<H'.next)
 (tU:∀id l',G.loc id=some l'->H.live id->l.cY≠l'.cY\/l.base+l.ext<=l'.base\/l'.base+l'.ext<=l.base)
 (pF:∀j,j<l.ext->¬G.gV l.cY (l.base+j))
 (Nv:∀cs eI,o=.cells cs eI->l.UD=cs.length/\l.UD<=l.ext/\(eI=false->l.UD=l.ext)/\(∀c∈cs,c.one=true)/\
   ∀j,j<cs.length->∃u,w.cell? ⟨l.cY,l.base+j,none⟩=some u/\VR G w (cs.getD j aD) u)
 (wP:((∃cs eI,o=.cells cs eI)\/o=.tok)->∃c el fz,w.heap[l.cY]?=some (.cells c el fz)/\l.base+l.ext<=c.size/\∀j,j<l.ext->w.frozen? ⟨l.cY,l.base+j,none⟩=false)
 (Sx:o.cY=true->l.base=0/\l.ext=1/\KJ g G w l o):
 WR g (G.dZ eS l) H' w:=by
 have cK:∀{id l'},G.loc id=some l'->id≠eS:=fun hl he=>by rw[he,cZ] at hl;cases hl
 have hm:∀{a u},VR G w a u->VR (G.dZ eS l) w a u:=fun hv=>hv.mono (fun id l' hl=>by simp only[Gh.dZ];rw[if_neg (cK hl)];exact hl) (fun b o hi=>⟨hi,rfl⟩)
 have pW:∀{id l'},(G.dZ eS l).loc id=some l'->(id=eS/\l'=l)\/(id≠eS/\G.loc id=some l'):=fun {id l'} hl=>by
  simp only[Gh.dZ] at hl;split at hl
  · exact .inl ⟨by assumption,by cases hl;rfl⟩
  exact .inr ⟨by assumption,hl⟩
 have pT:∀{id},id≠eS->H'.live id->H.live id:=fun hn ⟨x,hx,RT⟩=>⟨x,by rw[cT,if_neg hn] at hx;exact hx,RT⟩
 exact {
  cells:=fun id l' cs eI h1 h2=>by
   rw[cT] at h2
   rcases pW h1 with ⟨rfl,rfl⟩|⟨hn,h1⟩
   · rw[if_pos rfl] at h2;obtain⟨a1,a2,a3,a4,a5⟩:=Nv cs eI (Aa h2);refine⟨a1,a2,a3,a4,fun j hj=>?_⟩;obtain⟨u,hu,hv⟩:=a5 j hj;exact⟨u,hu,hm hv⟩
   rw[if_neg hn] at h2;obtain⟨a1,a2,a3,a4,a5⟩:=h.cells id l' cs eI h1 h2;refine⟨a1,a2,a3,a4,fun j hj=>?_⟩;obtain⟨u,hu,hv⟩:=a5 j hj;exact⟨u,hu,hm hv⟩
  room:=fun id l' h1 h2=>by
   simp only[cT] at h2
   rcases pW h1 with ⟨rfl,rfl⟩|⟨hn,h1⟩
   · simp only[if_true] at h2;refine wP (h2.imp (fun⟨cs,eI,hh⟩=>⟨cs,eI,Aa hh⟩) (fun hh=>Aa hh))
   simp only[if_neg hn] at h2;exact h.room id l' h1 h2
  kT:=fun id kG l1 l2 aUj h1 h2 sQ pU=>by
   rcases pW h1 with ⟨e1,e1'⟩|⟨hn,k1⟩
   · rcases pW h2 with ⟨e2,e2'⟩|⟨KA,k2⟩
     · exact absurd (e1.trans e2.symm) aUj
     rw[e1'];exact tU kG l2 k2 (pT KA pU)
   rcases pW h2 with ⟨e2,e2'⟩|⟨KA,k2⟩
   · rw[e2']
     rcases tU id l1 k1 (pT hn sQ) with hd|hd|hd
     · exact .inl (Ne.symm hd)
     · exact .inr (.inr hd)
     exact .inr (.inl hd)
   exact h.kT id kG l1 l2 aUj k1 k2 (pT hn sQ) (pT KA pU)
  jY:=fun id l' h1 hv j hj=>by
   rcases pW h1 with ⟨rfl,rfl⟩|⟨hn,h1⟩
   · exact pF j hj
   exact h.jY id l' h1 (pT hn hv) j hj
  iM:=fun id l' ob h1 h2 hk=>by
   rw[cT] at h2
   rcases pW h1 with ⟨rfl,rfl⟩|⟨hn,h1⟩
   · rw[if_pos rfl] at h2;obtain rfl:=Aa h2;obtain⟨a1,a2,a3⟩:=Sx hk;exact⟨a1,a2,a3.mono rfl fun _ _=>hm⟩
   rw[if_neg hn] at h2;obtain⟨a1,a2,a3⟩:=h.iM id l' ob h1 h2 hk;exact⟨a1,a2,a3.mono rfl fun _ _=>hm⟩
  lt:=fun id l' h1=>by
   rcases pW h1 with ⟨rfl,rfl⟩|⟨hn,h1⟩
   · exact FA
   exact Ca (h.lt id l' h1) AM
  iR:=h.iR
  jA:=fun n cs hn=>hm (h.jA n cs hn)
  CA:=h.CA
  mo:=h.mo}
theorem WR.NJ {g:bB} {G:Gh} {H:aA} {w:World} (h:WR g G H w) (o:fE) (l:Loc)
 (tU:∀id l',G.loc id=some l'->H.live id->l.cY≠l'.cY\/l.base+l.ext<=l'.base\/l'.base+l'.ext<=l.base)
 (pF:∀j,j<l.ext->¬G.gV l.cY (l.base+j))
 (Nv:∀cs eI,o=.cells cs eI->l.UD=cs.length/\l.UD<=l.ext/\(eI=false->l.UD=l.ext)/\(∀c∈cs,c.one=true)/\
   ∀j,j<cs.length->∃u,w.cell? ⟨l.cY,l.base+j,none⟩=some u/\VR G w (cs.getD j aD) u)
 (wP:((∃cs eI,o=.cells cs eI)\/o=.tok)->∃c el fz,w.heap[l.cY]?=some (.cells c el fz)/\l.base+l.ext<=c.size/\∀j,j<l.ext->w.frozen? ⟨l.cY,l.base+j,none⟩=false)
 (Sx:o.cY=true->l.base=0/\l.ext=1/\KJ g G w l o):
 WR g (G.dZ H.next l) (H.alloc o) w:=
 h.GR H.next o l (by
  cases hl:G.loc H.next with
  |none=>rfl
  |some l'=>exact absurd (h.lt _ _ hl) (Ff _)) (aA.aJ H o) (Gq _) (Ez _) tU pF Nv wP Sx
theorem Ext.GR {G G':Gh} {H H' GM:aA} {w w':World} (e:Ext G H w G' H' w') (eS:Nat) (o:fE) (l:Loc) (cZ:G'.loc eS=none)
 (cT:∀m,GM.get m=if m=eS then some o else H'.get m) (AM:H'.next<=GM.next) (Lm:H.next<=eS)
 (hb:w.heap.size<=l.cY\/∃eS l0,G.loc eS=some l0/\H.live eS/\l0.cY=l.cY):Ext G H w (G'.dZ eS l) GM w' where
 loc:=fun id l' hl=>by have h1:=e.loc id l' hl;simp only[Gh.dZ];rw[if_neg (fun he=>by rw[he,cZ] at h1;cases h1)];exact h1
 gV:=e.gV
 size:=e.size
 frame:=e.frame
 lR:=fun id l' hl hv=>by
  simp only[Gh.dZ] at hl;split at hl
  · cases hl;exact hb
  rename_i hn;obtain⟨x,hx,RT⟩:=hv;rw[cT,if_neg hn] at hx;exact e.lR id l' hl ⟨x,hx,RT⟩
 pH:=e.pH
 next:=Cb e.next AM
 news:=fun id l' hl hn=>by
  simp only[Gh.dZ] at hl;split at hl
  · rename_i he;rw[he];exact Lm
  exact e.news id l' hl hn
 dead:=fun id l' hl hv=>by have h1:=e.loc id l' hl;obtain⟨x,hx,RT⟩:=hv;rw[cT,if_neg (fun he=>by rw[he,cZ] at h1;cases h1)] at hx;exact e.dead id l' hl ⟨x,hx,RT⟩
 mo:=e.mo
 same:=e.same
theorem Ext.NJ {G G':Gh} {H H':aA} {w w':World} (e:Ext G H w G' H' w') (o:fE) (l:Loc) (eZ:∀id l',G'.loc id=some l'->id<H'.next)
 (hb:w.heap.size<=l.cY\/∃eS l0,G.loc eS=some l0/\H.live eS/\l0.cY=l.cY):Ext G H w (G'.dZ H'.next l) (H'.alloc o) w':=
 e.GR H'.next o l (by
  cases hl:G'.loc H'.next with
  |none=>rfl
  |some l'=>exact absurd (eZ _ _ hl) (Ff _)) (aA.aJ H' o) (Gq _) e.next hb
theorem WR.kill {g:bB} {G:Gh} {H:aA} {w:World} (h:WR g G H w) (id:Nat):WR g G (H.set id .dead) w where
 cells:=fun i l cs eI h1 h2=>by
  rw[aA.aC] at h2;split at h2
  · cases h2
  exact h.cells i l cs eI h1 h2
 room:=fun i l h1 h2=>by
  simp only[aA.aC] at h2;split at h2
  · rcases h2 with ⟨_,_,h2⟩|h2<;>cases h2
  exact h.room i l h1 h2
 kT:=fun i i' l l' cK h1 h2 sQ pU=>by
  rcases aA.kV.1 sQ with ⟨_,hh⟩|⟨_,sQ⟩
  · cases hh
  rcases aA.kV.1 pU with ⟨_,hh⟩|⟨_,pU⟩
  · cases hh
  exact h.kT i i' l l' cK h1 h2 sQ pU
 jY:=fun i l h1 hv=>by
  rcases aA.kV.1 hv with ⟨_,hh⟩|⟨_,hv⟩
  · cases hh
  exact h.jY i l h1 hv
 iM:=fun i l ob h1 h2 hk=>by
  rw[aA.aC] at h2;split at h2
  · cases h2;cases hk
  exact h.iM i l ob h1 h2 hk
 lt:=h.lt
 iR:=h.iR
 jA:=h.jA
 CA:=h.CA
 mo:=h.mo
theorem Ext.kill {G G':Gh} {H H':aA} {w w':World} (e:Ext G H w G' H' w') (id:Nat):Ext G H w G' (H'.set id .dead) w' where
 loc:=e.loc
 gV:=e.gV
 size:=e.size
 frame:=e.frame
 lR:=fun i l hl hv=>by
  rcases aA.kV.1 hv with ⟨_,hh⟩|⟨_,hv⟩
  · cases hh
  exact e.lR i l hl hv
 pH:=e.pH
 next:=e.next
 news:=e.news
 dead:=fun i l hl hv=>by
  rcases aA.kV.1 hv with ⟨_,hh⟩|⟨_,hv⟩
  · cases hh
  exact e.dead i l hl hv
 mo:=e.mo
 same:=e.same
structure Tu (w w':World) (b lo:Nat) (vs:List Value):Prop where
 size:w'.heap.size=w.heap.size
 other:∀b',b'≠b->w'.heap[b']?=w.heap[b']?
 row:∀c el fz,w.heap[b]?=some (.cells c el fz)->∃c',w'.heap[b]?=some (.cells c' el fz)/\c'.size=c.size/\
  (∀o,(o<lo\/lo+vs.length<=o)->c'[o]?=c[o]?)/\(∀j,j<vs.length->lo+j<c.size->c'[lo+j]?=some (vs.getD j undef))
 same:zN w w'
theorem Tu.cell {w w':World} {b lo:Nat} {vs:List Value} (u:Tu w w' b lo vs) {b' o:Nat} (h:b'≠b\/o<lo\/lo+vs.length<=o) {v:Value}
 (hc:w.cell? ⟨b',o,none⟩=some v):w'.cell? ⟨b',o,none⟩=some v:=by
 by_cases hb:b'=b
 · subst hb;obtain⟨c,el,fz,h1,h2⟩:=zZ hc;obtain⟨c',h3,h4,h5,_⟩:=u.row c el fz h1;rw[lS h3,h5 o (h.resolve_left (fun cK=>cK rfl))];exact h2
 rw[gI (u.other b' hb)];exact hc
theorem Tu.frozen {w w':World} {b lo:Nat} {vs:List Value} (u:Tu w w' b lo vs) {b' o:Nat} {c:Array Value} {el:TypeId} {fz:Nat×Nat}
 (hc:w.heap[b']?=some (.cells c el fz)):w'.frozen? ⟨b',o,none⟩=w.frozen? ⟨b',o,none⟩:=by
 by_cases hb:b'=b
 · subst hb;obtain⟨c',h3,_⟩:=u.row c el fz hc;rw[qP h3,qP hc]
 exact kY (u.other b' hb)
theorem WR.write {g:bB} {G:Gh} {H:aA} {w w':World} (h:WR g G H w) {b lo:Nat} {vs:List Value} (u:Tu w w' b lo vs)
 (pF:∀j,j<vs.length->¬G.gV b (lo+j))
 (tU:∀id l,G.loc id=some l->H.live id->l.cY≠b\/l.base+l.ext<=lo\/lo+vs.length<=l.base)
 (tV:∃c el fz,w.heap[b]?=some (.cells c el fz)):WR g G H w':=by
 have hc:∀b' o,G.gV b' o->w'.cell? ⟨b',o,none⟩=w.cell? ⟨b',o,none⟩:=fun b' o hi=>by
  obtain⟨v,hv⟩:=h.iR b' o hi;rw[hv];refine u.cell ?_ hv;by_cases hb:b'=b
  · subst hb;by_cases h1:o<lo
    · exact .inr (.inl h1)
    refine .inr (.inr (Io fun h2=>pF (o -lo) (by omega) ?_))
    rwa [show lo+(o -lo)=o by omega]
  exact .inl hb
 have hm:∀{a u},VR G w a u->VR G w' a u:=fun hv=>hv.mono (fun _ _ h=>h) (fun b o hi=>⟨hi,hc b o hi⟩)
 exact {
  cells:=fun id l cs eI h1 h2=>by
   obtain⟨a1,a2,a3,a4,a5⟩:=h.cells id l cs eI h1 h2;refine⟨a1,a2,a3,a4,fun j hj=>?_⟩;obtain⟨x,hx,hv⟩:=a5 j hj;refine⟨x,u.cell ?_ hx,hm hv⟩
   rcases tU id l h1 ⟨_,h2,rfl⟩ with hd|hd|hd
   · exact .inl hd
   · exact .inr (.inl (by omega))
   exact .inr (.inr (by omega))
  room:=fun id l h1 h2=>by
   obtain⟨c,el,fz,a1,a2,a3⟩:=h.room id l h1 h2;by_cases hb:l.cY=b
   · subst hb;obtain⟨c',h3,h4,_⟩:=u.row c el fz a1;exact⟨c',el,fz,h3,by omega,fun j hj=>by rw[u.frozen a1];exact a3 j hj⟩
   exact⟨c,el,fz,by rw[u.other _ hb];exact a1,a2,fun j hj=>by rw[u.frozen a1];exact a3 j hj⟩
  kT:=h.kT
  jY:=h.jY
  iM:=fun id l ob h1 h2 hk=>by
   obtain⟨a1,a2,a3⟩:=h.iM id l ob h1 h2 hk
   have hb:l.cY≠b:=fun hb=>by obtain⟨c,el,fz,hr⟩:=tV;rw[<-hb] at hr;exact a3.AY hk hr
   exact⟨a1,a2,a3.mono (u.other _ hb) fun _ _=>hm⟩
  lt:=h.lt
  iR:=fun b o hi=>by rw[hc b o hi];exact h.iR b o hi
  jA:=fun n cs hn=>hm (h.jA n cs hn)
  CA:=fun n cs hn h0=>by
   obtain⟨c,el,fz,a1,a2⟩:=h.CA n cs hn h0;by_cases hb:n=b
   · subst hb;obtain⟨c',h3,h4,_⟩:=u.row c el fz a1;exact⟨c',el,fz,h3,by omega⟩
   exact⟨c,el,fz,by rw[u.other _ hb];exact a1,a2⟩
  mo:=h.mo}
theorem Ext.write {G G':Gh} {H H':aA} {w w1 w':World} (e:Ext G H w G' H' w1) {b lo:Nat} {vs:List Value} (u:Tu w1 w' b lo vs)
 (pF:∀j,j<vs.length->¬G'.gV b (lo+j)) (hex:∀b o,G'.gV b o->∃v,w1.cell? ⟨b,o,none⟩=some v)
 (hb:w.heap.size<=b\/∃eS l0,G.loc eS=some l0/\H.live eS/\l0.cY=b):Ext G H w G' H' w' where
 loc:=e.loc
 gV:=fun b' o hi=>by
  have h1:=e.gV b' o hi;refine⟨h1.1,?_⟩;rw[<-h1.2];obtain⟨v,hv⟩:=hex b' o h1.1;rw[hv];refine u.cell ?_ hv;by_cases hbb:b'=b
  · subst hbb;by_cases h2:o<lo
    · exact .inr (.inl h2)
    refine .inr (.inr (Io fun h3=>pF (o -lo) (by omega) ?_));rw[show lo+(o -lo)=o by omega];exact h1.1
  exact .inl hbb
 size:=by rw[u.size];exact e.size
 frame:=fun b' eZ hn=>by
  have cK:b'≠b:=fun he=>by
   subst he
   rcases hb with hb|⟨eS,l0,h1,h2,h3⟩
   · omega
   exact hn eS l0 h1 h2 h3
  rw[u.other b' cK];exact e.frame b' eZ hn
 lR:=e.lR
 pH:=e.pH
 next:=e.next
 news:=e.news
 dead:=e.dead
 mo:=e.mo
 same:=e.same.trans (u.same.toB _)
theorem WR.aSs {g:bB} {G:Gh} {H:aA} {w:World} {id:Nat} (h:WR g G (H.set id .dead) w) (o:fE) (l:Loc) (hl:G.loc id=some l)
 (tU:∀kG l',kG≠id->G.loc kG=some l'->H.live kG->l.cY≠l'.cY\/l.base+l.ext<=l'.base\/l'.base+l'.ext<=l.base)
 (pF:∀j,j<l.ext->¬G.gV l.cY (l.base+j))
 (Nv:∀cs eI,o=.cells cs eI->l.UD=cs.length/\l.UD<=l.ext/\(eI=false->l.UD=l.ext)/\(∀c∈cs,c.one=true)/\
   ∀j,j<cs.length->∃u,w.cell? ⟨l.cY,l.base+j,none⟩=some u/\VR G w (cs.getD j aD) u)
 (wP:((∃cs eI,o=.cells cs eI)\/o=.tok)->∃c el fz,w.heap[l.cY]?=some (.cells c el fz)/\l.base+l.ext<=c.size/\∀j,j<l.ext->w.frozen? ⟨l.cY,l.base+j,none⟩=false)
 (Sx:o.cY=true->l.base=0/\l.ext=1/\KJ g G w l o):
 WR g G (H.set id o) w:=by
 have cT:∀{m},m≠id->(H.set id o).get m=(H.set id .dead).get m:=fun hm=>by rw[aA.aC,aA.aC,if_neg hm,if_neg hm]
 have sP:∀{l'},G.loc id=some l'->l'=l:=fun h'=>Aa (h'.symm.trans hl)
 have pT:∀{m},m≠id->(H.set id o).live m->(H.set id .dead).live m:=fun hm hv=>by obtain⟨x,hx,RT⟩:=hv;exact⟨x,by rw[<-cT hm];exact hx,RT⟩
 have aIv:∀{m},m≠id->(H.set id o).live m->H.live m:=fun hm hv=>by
  rcases aA.kV.1 hv with ⟨he,_⟩|⟨_,hv⟩
  · exact absurd he hm
  exact hv
 exact {
  cells:=fun i l' cs eI h1 h2=>by
   by_cases hi:i=id
   · subst hi;rw[aA.aC,if_pos rfl] at h2;obtain rfl:=sP h1;exact Nv cs eI (Aa h2)
   rw[cT hi] at h2;exact h.cells i l' cs eI h1 h2
  room:=fun i l' h1 h2=>by
   by_cases hi:i=id
   · subst hi;simp only[aA.aC,if_true] at h2;obtain rfl:=sP h1;exact wP (h2.imp (fun⟨cs,eI,hh⟩=>⟨cs,eI,Aa hh⟩) (fun hh=>Aa hh))
   simp only[cT hi] at h2;exact h.room i l' h1 h2
  kT:=fun i i' l1 l2 cK h1 h2 sQ pU=>by
   by_cases hi:i=id
   · subst hi;obtain rfl:=sP h1;exact tU i' l2 (Ne.symm cK) h2 (aIv (Ne.symm cK) pU)
   by_cases gR:i'=id
   · subst gR;obtain rfl:=sP h2
     rcases tU i l1 cK h1 (aIv cK sQ) with hd|hd|hd
     · exact .inl (Ne.symm hd)
     · exact .inr (.inr hd)
     exact .inr (.inl hd)
   exact h.kT i i' l1 l2 cK h1 h2 (pT hi sQ) (pT gR pU)
  jY:=fun i l' h1 hv=>by
   by_cases hi:i=id
   · subst hi;obtain rfl:=sP h1;exact pF
   exact h.jY i l' h1 (pT hi hv)
  iM:=fun i l' ob h1 h2 hk=>by
   by_cases hi:i=id
   · subst hi;rw[aA.aC,if_pos rfl] at h2;obtain rfl:=Aa h2;obtain rfl:=sP h1;exact Sx hk
   rw[cT hi] at h2;exact h.iM i l' ob h1 h2 hk
  lt:=h.lt
  iR:=h.iR
  jA:=h.jA
  CA:=h.CA
  mo:=h.mo}
theorem Ext.aHl {G G':Gh} {H H':aA} {w w':World} (e:Ext G H w G' H' w') (id:Nat) (o:fE) (hv:H'.live id):Ext G H w G' (H'.set id o) w' where
 loc:=e.loc
 gV:=e.gV
 size:=e.size
 frame:=e.frame
 lR:=fun i l hl mS=>by
  rcases aA.kV.1 mS with ⟨he,_⟩|⟨_,mS⟩
  · subst he;exact e.lR i l hl hv
  exact e.lR i l hl mS
 pH:=e.pH
 next:=e.next
 news:=e.news
 dead:=fun i l hl mS=>by
  rcases aA.kV.1 mS with ⟨he,_⟩|⟨_,mS⟩
  · subst he;exact e.dead i l hl hv
  exact e.dead i l hl mS
 mo:=e.mo
 same:=e.same
theorem jT (b o i:Nat):(⟨b,o,none⟩:Addr).add i=⟨b,o+i,none⟩:=by
 unfold Addr.add;split
 · rename_i h;subst h;rfl
 rfl
theorem qI {α:Type} (l:List α) (d:α) (j:Nat) (h:j<l.length):l[j]?=some (l.getD j d):=by simp[List.getD,Ab h]
theorem vB (P:Program) (w:World) (b o:Nat) (us:List Value) (h:∀j,j<us.length->w.cell? ⟨b,o+j,none⟩=some (us.getD j undef)):
 (loadCells ⟨b,o,none⟩ us.length).run P w=.ok us.toArray w:=
 run_loadCells_list w ⟨b,o,none⟩ us (fun j v hj=>by
  have eZ:=(Bl.1 hj).1;rw[jT,h j eZ];rw[qI us undef j eZ] at hj
  exact hj)
theorem WM {w:World} {b o:Nat} {v:Value}:Tu w (w.setCell ⟨b,o,none⟩ v) b o [v] where
 size:=by simp[World.setCell]
 other:=fun b' hb=>by simp only[World.setCell,Gv];rw[if_neg (Ne.symm hb)]
 row:=fun c el fz h=>by
  refine⟨c.setIfInBounds o v,?_,by simp,fun o' ho=>?_,fun j hj eZ=>?_⟩
  · simp[World.setCell,Gv,h]
  · rw[Array.getElem?_setIfInBounds_ne];simp at ho;omega
  simp at hj;subst hj;simp at eZ;simp[eZ]
 same:=.now
theorem Tu.refl (w:World) (b lo:Nat):Tu w w b lo [] where
 size:=rfl
 other:=fun _ _=>rfl
 row:=fun c el fz h=>⟨c,h,rfl,fun _ _=>rfl,fun j hj=>absurd hj (As j)⟩
 same:=.now
theorem Tu.cons {w w1 w2:World} {b lo:Nat} {v:Value} {vs:List Value} (h1:Tu w w1 b lo [v]) (h2:Tu w1 w2 b (lo+1) vs):Tu w w2 b lo (v::vs) where
 size:=h2.size.trans h1.size
 other:=fun b' hb=>(h2.other b' hb).trans (h1.other b' hb)
 row:=fun c el fz h=>by
  obtain⟨c1,a1,a2,a3,a4⟩:=h1.row c el fz h;obtain⟨c2,b1,b2,b3,b4⟩:=h2.row c1 el fz a1;refine⟨c2,b1,b2.trans a2,fun o ho=>?_,fun j hj eZ=>?_⟩
  · simp only[Aq] at ho;rw[b3 o (by omega),a3 o (by simp;omega)]
  cases j with
  |zero=>rw[b3 _ (by omega)];have :=a4 0 (by simp) (by omega);simpa using this
  |succ j=>have :=b4 j (by simpa using hj) (by omega);rw[show lo+(j+1)=lo+1+j by omega,this];simp
 same:=h1.same.trans h2.same
theorem QS (P:Program) (w:World) (b o:Nat) (v:Value) (u:Value) (hc:w.cell? ⟨b,o,none⟩=some u) (hf:w.frozen? ⟨b,o,none⟩=false) (h1:aAb v=true):
 (store ⟨b,o,none⟩ v).run P w=.ok () (w.setCell ⟨b,o,none⟩ v):=by
 cases v<;>first
  |(simp[aAb] at h1;done)
  |simp[store,Sem.run,hc,hf]
theorem fD (P:Program) (b o:Nat):∀(vs:List Value) (i:Nat) (w:World),(∃c el fz,w.heap[b]?=some (.cells c el fz)/\o+i+vs.length<=c.size)->
 (∀j,j<vs.length->w.frozen? ⟨b,o+i+j,none⟩=false)->(∀v∈vs,aAb v=true)->
 ∃w',(storeCells ⟨b,o,none⟩ vs i).run P w=.ok () w'/\Tu w w' b (o+i) vs
 |[],i,w,_,_,_=>⟨w,rfl,Tu.refl w b _⟩
 |v::r,i,w,⟨c,el,fz,tV,lE⟩,hf,h1=>by
  simp only[Aq] at lE;have kF:w.cell? ⟨b,o+i,none⟩=some c[o+i]:=by rw[lS tV,Dv (by omega)]
  have iE:=QS P w b (o+i) v _ kF (by simpa using hf 0 (by simp)) (h1 v (by simp));have hu:Tu w (w.setCell ⟨b,o+i,none⟩ v) b (o+i) [v]:=WM;obtain⟨c1,a1,a2,_,_⟩:=hu.row c el fz tV
  obtain⟨w',hr,hu'⟩:=fD P b o r (i+1) (w.setCell ⟨b,o+i,none⟩ v) ⟨c1,el,fz,a1,by omega⟩
   (fun j hj=>by
     rw[hu.frozen tV];have :=hf (j+1) (by simpa using hj)
     rwa [show o+(i+1)+j=o+i+(j+1) by omega]) (fun x hx=>h1 x (by simp[hx]))
  refine⟨w',?_,hu.cons (by rwa [show o+i+1=o+(i+1) by omega])⟩;simp only[storeCells,Sem.run_bind,jT,iE,Result.andThen_ok];exact hr
structure iH (w w':World) (o:Go.Obj):Prop where
 heap:w'.heap=w.heap.push o
 same:zN w w'
theorem iH.UB {w w':World} {o:Go.Obj} (p:iH w w' o) (b:Nat) (h:b<w.heap.size):w'.heap[b]?=w.heap[b]?:=by rw[p.heap];exact HR _ _ h
theorem iH.new {w w':World} {o:Go.Obj} (p:iH w w' o):w'.heap[w.heap.size]?=some o:=by rw[p.heap];simp
theorem iH.size {w w':World} {o:Go.Obj} (p:iH w w' o):w'.heap.size=w.heap.size+1:=by rw[p.heap];simp
theorem WR.FK {g:bB} {G:Gh} {H:aA} {w w':World} {o:Go.Obj} (h:WR g G H w) (p:iH w w' o):WR g G H w':=
 h.grow p.UB
theorem Ext.FK {g:bB} {G:Gh} {H:aA} {w w':World} {o:Go.Obj} (h:WR g G H w) (p:iH w w' o):Ext G H w G H w':=
 Ext.grow h.iR p.UB (by rw[p.size];omega) p.same
theorem iF.nil (G:Gh) (w:World):iF G w [] []:=⟨rfl,fun j hj=>absurd hj (As j)⟩
def Clear (arr:Array Value) (fz:Nat×Nat):Prop:=∀o,o<arr.size->(decide (fz.1<=o)&&decide (o<fz.2))=false
theorem Clear.zero (arr:Array Value):Clear arr (0,0):=fun o _=>by simp
structure Made (g:bB) (G:Gh) (H:aA) (w:World) (eS:Nat) (o:fE) (G':Gh) (H':aA) (w':World):Prop where
 rel:WR g G' H' w'
 bHc:∃l,l.cY=w.heap.size/\G'.loc eS=some l/\∀id,id≠eS->G'.loc id=G.loc id
 ext:∀{G0:Gh} {H0:aA} {w0:World},Ext G0 H0 w0 G H w->H0.next<=eS->Ext G0 H0 w0 G' H' w'
 pH:∀b o,G'.gV b o->G.gV b o\/b=w.heap.size
 bEr:∀b o,G.gV b o->G'.gV b o
 size:w'.heap.size=w.heap.size+1
 UB:∀b,b<w.heap.size->w'.heap[b]?=w.heap[b]?
theorem WR.xB {g:bB} {G:Gh} {H H':aA} {w w':World} (h:WR g G H w) (eS:Nat) (cZ:G.loc eS=none) (cs:List AV) (vs rest:List Value) (hv:iF G w cs vs) (h1:∀c∈cs,c.one=true)
 (eI:Bool) (ho:eI=false->rest=[]) (cT:∀m,H'.get m=if m=eS then some (.cells cs eI) else H.get m) (AM:H.next<=H'.next) (FA:eS<H'.next)
 {el:TypeId} {fz:Nat×Nat} (Zx:Clear (vs++rest).toArray fz) (p:iH w w' (.cells (vs++rest).toArray el fz)):
 Made g G H w eS (.cells cs eI) (G.dZ eS ⟨w.heap.size,0,cs.length,(vs++rest).length⟩) H' w':=by
 have hp:=h.FK p;have he:=Ext.FK h p;have Kr:=p.new
 refine⟨hp.GR eS _ _ cZ cT AM FA (fun id l' hl hv=>.inl (Ne.symm (Nat.ne_of_lt (h.mP hl hv)))) (fun j _ hi=>?_) (fun MJ aAc xU=>?_) (fun _=>?_) (fun xU=>by cases xU),
  ⟨⟨w.heap.size,0,cs.length,(vs++rest).length⟩,rfl,by simp only[Gh.dZ,if_true],fun id cK=>by simp only[Gh.dZ];rw[if_neg cK]⟩,fun {G0 H0 w0} e0 Lm=>(e0.trans he).GR eS _ _ cZ cT AM Lm (.inl ?_),fun b o hi=>.inl hi,fun b o hi=>hi,p.size,p.UB⟩
 · obtain⟨v,hv⟩:=h.iR _ _ hi;have :=wF hv;simp at this
 · cases xU;have hlen:=hv.1;refine⟨rfl,by simp[hlen],fun fP=>by simp[ho fP,hlen],h1,fun j hj=>⟨vs.getD j undef,?_,(hv.2 j hj).mono he.loc he.gV⟩⟩;rw[lS Kr];have GA:j<vs.length:=by omega
   rw[Eb];simp only[Cv];rw[Ex GA,qI vs undef j GA]
 · exact⟨_,el,fz,Kr,by simp,fun j hj=>by rw[qP Kr];exact Zx _ (by simpa using hj)⟩
 exact e0.size
theorem WR.aGz {g:bB} {G:Gh} {H:aA} {w w':World} (h:WR g G H w) (cs:List AV) (vs rest:List Value) (hv:iF G w cs vs) (h1:∀c∈cs,c.one=true)
 (eI:Bool) (ho:eI=false->rest=[]) {el:TypeId} {fz:Nat×Nat} (Zx:Clear (vs++rest).toArray fz) (p:iH w w' (.cells (vs++rest).toArray el fz)):
 WR g (G.dZ H.next ⟨w.heap.size,0,cs.length,(vs++rest).length⟩) (H.alloc (.cells cs eI)) w'/\
  Ext G H w (G.dZ H.next ⟨w.heap.size,0,cs.length,(vs++rest).length⟩) (H.alloc (.cells cs eI)) w':=by
 have cZ:G.loc H.next=none:=by
  cases hl:G.loc H.next with
  |none=>rfl
  |some l'=>exact absurd (h.lt _ _ hl) (Ff _)
 have :=h.xB H.next cZ cs vs rest hv h1 eI ho (aA.aJ H _) (Gq _) (Ez _) Zx p;exact⟨this.rel,this.ext (Ext.refl G H w) (Ak _)⟩
theorem WR.dj {g:bB} {G:Gh} {H:aA} {w w':World} (h:WR g G H w) (cs:List AV) (vs rest:List Value) (hv:iF G w cs vs)
 {el:TypeId} {fz:Nat×Nat} (p:iH w w' (.cells (vs++rest).toArray el fz)):
 WR g (G.nS w.heap.size 0 cs.length) H w'/\Ext G H w (G.nS w.heap.size 0 cs.length) H w'/\
  ∀j,j<cs.length->(G.nS w.heap.size 0 cs.length).gV w.heap.size (0+j)/\w'.cell? ⟨w.heap.size,0+j,none⟩=some (vs.getD j undef)/\
   VR (G.nS w.heap.size 0 cs.length) w' (cs.getD j aD) (vs.getD j undef):=by
 have hp:=h.FK p;have he:=Ext.FK h p;have Kr:=p.new;have hlen:=hv.1
 have kF:∀j,j<cs.length->w'.cell? ⟨w.heap.size,0+j,none⟩=some (vs.getD j undef):=fun j hj=>by
  have GA:j<vs.length:=by omega
  rw[lS Kr];rw[Eb];simp only[Cv];rw[Ex GA,qI vs undef j GA]
 have xU:=he.nS w.heap.size 0 cs.length (.inl (Ak _));refine⟨hp.nS _ _ _ (fun j hj=>⟨_,kF j hj⟩) (fun id l hl hv=>.inl (Nat.ne_of_lt (h.mP hl hv))),xU,fun j hj=>⟨.inr ⟨rfl,by omega,by omega⟩,kF j hj,(hv.2 j hj).mono xU.loc xU.gV⟩⟩
theorem WR.Rl {g:bB} {G:Gh} {H H':aA} {w w':World} (h:WR g G H w) (eS:Nat) (cZ:G.loc eS=none) (cs:List AV) (vs rest:List Value) (hv:iF G w cs vs)
 (cT:∀m,H'.get m=if m=eS then some .tok else H.get m) (AM:H.next<=H'.next) (FA:eS<H'.next)
 {el:TypeId} {fz:Nat×Nat} (Zx:Clear (vs++rest).toArray fz) (p:iH w w' (.cells (vs++rest).toArray el fz)):
 ∃G',G'.loc eS=some ⟨w.heap.size,cs.length,0,rest.length⟩/\Made g G H w eS .tok G' H' w'/\
  ∀j,j<cs.length->G'.gV w.heap.size (0+j)/\w'.cell? ⟨w.heap.size,0+j,none⟩=some (vs.getD j undef)/\VR G' w' (cs.getD j aD) (vs.getD j undef):=by
 obtain⟨hw,he,hc⟩:=h.dj cs vs rest hv p;have Kr:=p.new;have hlen:=hv.1;have EZ:(G.nS w.heap.size 0 cs.length).loc eS=none:=cZ
 refine⟨(G.nS w.heap.size 0 cs.length).dZ eS ⟨w.heap.size,cs.length,0,rest.length⟩,by simp[Gh.dZ],⟨?_,⟨_,rfl,by simp[Gh.dZ];rfl,fun id cK=>by simp only[Gh.dZ];rw[if_neg cK];rfl⟩,fun {G0 H0 w0} e0 Lm=>?_,fun b o hi=>hi.imp id (fun hh=>hh.1),fun b o hi=>.inl hi,p.size,p.UB⟩,
  fun j hj=>⟨(hc j hj).1,(hc j hj).2.1,(hc j hj).2.2.mono (fun id l hl=>?_) (fun b o hi=>⟨hi,rfl⟩)⟩⟩
 · refine hw.GR eS .tok _ EZ cT AM FA (fun id l' hl hv=>.inl (Ne.symm (Nat.ne_of_lt (h.mP hl hv)))) (fun j _ hi=>?_) (fun MJ aAc xU=>by cases xU) (fun _=>?_) (fun xU=>by cases xU)
   · rcases hi with hi|⟨_,_,hi⟩
     · obtain⟨v,hv⟩:=h.iR _ _ hi;have :=wF hv;simp at this
     simp at hi;omega
   exact⟨_,el,fz,Kr,by simp[hlen],fun j hj=>by rw[qP Kr];exact Zx _ (by simp at hj;simp;omega)⟩
 · exact(e0.trans he).GR eS .tok _ EZ cT AM Lm (.inl e0.size)
 simp only[Gh.dZ];rw[if_neg (fun he=>by rw[he,EZ] at hl;cases hl)];exact hl
theorem WR.aHa {g:bB} {G:Gh} {H:aA} {w w':World} (h:WR g G H w) (cs:List AV) (vs rest:List Value) (hv:iF G w cs vs)
 {el:TypeId} {fz:Nat×Nat} (Zx:Clear (vs++rest).toArray fz) (p:iH w w' (.cells (vs++rest).toArray el fz)):
 ∃G',G'.loc H.next=some ⟨w.heap.size,cs.length,0,rest.length⟩/\WR g G' (H.alloc .tok) w'/\Ext G H w G' (H.alloc .tok) w'/\
  ∀j,j<cs.length->G'.gV w.heap.size (0+j)/\w'.cell? ⟨w.heap.size,0+j,none⟩=some (vs.getD j undef)/\VR G' w' (cs.getD j aD) (vs.getD j undef):=by
 have cZ:G.loc H.next=none:=by
  cases hl:G.loc H.next with
  |none=>rfl
  |some l'=>exact absurd (h.lt _ _ hl) (Ff _)
 obtain⟨G',h1,h2,h3⟩:=h.Rl H.next cZ cs vs rest hv (aA.aJ H _) (Gq _) (Ez _) Zx p;exact⟨G',h1,h2.rel,h2.ext (Ext.refl G H w) (Ak _),h3⟩
section
def JE:Value->Option AV
 |.bool b=>some (.bool b)
 |.int k n=>some (.int k n)
 |.string s=>some (.str s.data.toList)
 |.pointer none=>some .LD
 |.slice none 0 0=>some .aS
 |.nilFunc=>some .AX
 |.nilIface=>some .wZ
 |.map none=>some .rX
 |_=>none
def jO:List Value->Option (List AV)
 |[]=>some []
 |v::r=>match JE v,jO r with
  |some a,some b=>some (a::b)
  |_,_=>none
def ofConst:Value->Option AV
 |.agg cs=>(jO cs.toList).map .agg
 |v=>JE v
theorem Lt {v:Value} {a:AV} (h:JE v=some a) (G:Gh) (w:World):VR G w a v/\a.one=true:=by
 unfold JE at h
 split at h<;>first
  |(cases h;done)
  |(obtain rfl:=Aa h;exact⟨by constructor,rfl⟩)
theorem iF.cons {G:Gh} {w:World} {x:AV} {v:Value} {xs:List AV} {vs:List Value} (h:VR G w x v) (hs:iF G w xs vs):iF G w (x::xs) (v::vs):=
 ⟨by simp[hs.1],fun j hj=>by
   cases j with
   |zero=>simpa using h
   |succ j=>simpa using hs.2 j (by simpa using hj)⟩
theorem VR.cons {G:Gh} {w:World} {x:AV} {v:Value} {xs:List AV} {vs:List Value} (h:VR G w x v) (hs:iF G w xs vs):iF G w (x::xs) (v::vs):=
 iF.cons h hs
theorem lX:∀{vs:List Value} {cs:List AV},jO vs=some cs->∀(G:Gh) (w:World),iF G w cs vs/\∀c∈cs,c.one=true
 |[],cs,h,G,w=>by obtain rfl:=Aa h;exact⟨iF.nil G w,fun c hc=>by cases hc⟩
 |v::r,cs,h,G,w=>by
  unfold jO at h;split at h
  · rename_i a b ha hb;obtain rfl:=Aa h;have h1:=Lt ha G w;have h2:=lX hb G w
    exact⟨h1.1.cons h2.1,fun c hc=>by
     rcases Ap.1 hc with rfl|hc
     · exact h1.2
     exact h2.2 c hc⟩
  cases h
theorem VR.XH {G:Gh} {w:World} {cs:List AV} {vs:List Value} (h:iF G w cs vs) (h1:∀c∈cs,c.one=true):VR G w (.agg cs) (.agg vs.toArray):=
 .agg cs vs h.1 h1 h.2
theorem FH {v:Value} {a:AV} (h:ofConst v=some a) (G:Gh) (w:World):VR G w a v:=by
 unfold ofConst at h;split at h
 · rename_i cs
   cases hc:jO cs.toList with
   |none=>simp[hc] at h
   |some b=>simp[hc] at h;subst h;have :=lX hc G w;simpa using VR.XH this.1 this.2
 exact(Lt h G w).1
theorem VR.cellsOf {G:Gh} {w:World} {a:AV} {v:Value} (h:VR G w a v) (ht:a.AS=false):iF G w a.cells v.cells.toList/\∀c∈a.cells,c.one=true:=by
 cases h with
 |agg cs vs hl h1 hv=>exact⟨⟨by simpa [AV.cells,Value.cells] using hl,by simpa [AV.cells,Value.cells] using hv⟩,h1⟩
 |jR cs vs hl hv=>simp[AV.AS] at ht
 |_=>exact⟨iF.cons (by constructor<;>assumption) (iF.nil G w),fun c hc=>by
   simp only[AV.cells,Bn] at hc;subst hc
   rfl⟩
def bJ (g:bB):Operand->Option Arg
 |.tmp t=>some (.tmp t)
 |.const v=>(ofConst v).map .const
 |.global n=>if(g n).isSome then some (.jA n) else none
 |.func f=>some (.const (.func (.func f) [] []))
def SR (G:Gh) (w:World) (s:List AV) (a:Act):Prop:=iF G w s a.tmps.toList
theorem SR.getD {G:Gh} {w:World} {s:List AV} {a:Act} (h:SR G w s a) (t:Nat):VR G w (s.getD t aD) (a.tmps.getD t undef):=by
 have hlen:=h.1;by_cases ht:t<s.length
 · have :=h.2 t ht
   have e:a.tmps.getD t undef=a.tmps.toList.getD t undef:=by simp[List.getD,Bo]
   rw[e];exact this
 have e1:s.getD t aD=aD:=by simp[List.getD,Bs (Io ht)]
 have e2:a.tmps.getD t undef=undef:=by
  have :¬t<a.tmps.size:=by simp at hlen;omega
  simp[Array.getD,this]
 rw[e1,e2];exact VR.oH G w
theorem bH {g:bB} {G:Gh} {H:aA} {w:World} {s:List AV} {a:Act} (hw:WR g G H w) (hs:SR G w s a) {x:Operand} {y:Arg} (h:bJ g x=some y):
 VR G w (y.eval g s) (a.eval x):=by
 cases x with
 |tmp t=>obtain rfl:=Aa h;exact hs.getD t
 |const v=>simp only[bJ,Ag] at h;obtain⟨c,hc,rfl⟩:=h;exact FH hc G w
 |global n=>
  simp only[bJ] at h;split at h
  · rename_i hg;obtain rfl:=Aa h;obtain⟨cs,CR⟩:=Option.isSome_iff_exists.1 hg;simp only[Arg.eval,CR,Act.eval];exact hw.jA n cs CR
  cases h
 |func f=>obtain rfl:=Aa h;exact VR.func _ [] [] [] [] rfl rfl (fun j hj=>absurd hj (As j)) (fun j hj=>absurd hj (As j))
def nV (g:bB):List Operand->Option (List Arg)
 |[]=>some []
 |x::r=>match bJ g x,nV g r with
  |some a,some b=>some (a::b)
  |_,_=>none
theorem tK {g:bB} {G:Gh} {H:aA} {w:World} {s:List AV} {a:Act} (hw:WR g G H w) (hs:SR G w s a):∀{xs:List Operand} {ys:List Arg},nV g xs=some ys->
 iF G w (ys.map (Arg.eval g s)) (xs.map a.eval)
 |[],ys,h=>by obtain rfl:=Aa h;exact iF.nil G w
 |x::r,ys,h=>by
  unfold nV at h;split at h
  · rename_i y b hy hb;obtain rfl:=Aa h;exact(bH hw hs hy).cons (tK hw hs hb)
  cases h
def mV (g:bB):Option Operand->Option (Option Arg)
 |none=>some none
 |some x=>(bJ g x).map some
def fT (P:Program) (t:TypeId):Option Bool:=
 match P.underlying t with
 |some (.struct _)|some (.array _ _)=>some true
 |some _=>some false
 |none=>none
theorem qN {P:Program} {t:TypeId} {b:Bool} (h:fT P t=some b) (w:World):(isAgg t).run P w=.ok b w:=by
 unfold fT at h;unfold isAgg;split at h
 · rename_i fs hu;obtain rfl:=Aa h;simp[run_underlying hu w]
 · rename_i n e hu;obtain rfl:=Aa h;simp[run_underlying hu w]
 · rename_i d h1 h2 hu;obtain rfl:=Aa h;simp only[Sem.run_bind,run_underlying hu w,Result.andThen_ok];rfl
 cases h
def kD (P:Program) (t:TypeId):Option Nat:=(P.info? t).map (·.size)
theorem eJ {P:Program} {t:TypeId} {n:Nat} (h:kD P t=some n) (w:World):(sizeOf t).run P w=.ok n w:=by simp only[kD,Ag] at h;obtain⟨i,hi,rfl⟩:=h;simp[sizeOf,typeInfo,program,Sem.run,hi]
def lL (P:Program) (t:TypeId):Option Value:=(P.info? t).bind (·.zero)
theorem lA {P:Program} {t:TypeId} {v:Value} (h:lL P t=some v) (w:World):(zeroValue t).run P w=.ok v w:=by simp only[lL,Option.bind_eq_some_iff] at h;obtain⟨i,hi,hz⟩:=h;simp[zeroValue,typeInfo,program,Sem.run,hi,hz]
def Qb (n:Next) (u:Value):Prop:=n=.value u\/(n=.skip/\u=undef)
def cP (P:Program) (g:bB) (o:Oper) (r:eC):Prop:=
 ∀(s:List AV) (a:Act) (G:Gh) (H:aA) (w:World) (v:AV) (H':aA),WR g G H w->SR G w s a->cX (Arg.eval g s) H r=some (v,H')->
  ∃n u w' G',(execOp a.eval o).run P w=.ok n w'/\Qb n u/\WR g G' H' w'/\Ext G H w G' H' w'/\VR G' w' v u
theorem cP.pure' {P:Program} {g:bB} {o:Oper} {G:Gh} {H:aA} {w:World} {v:AV} {a:Act} {u:Value} (hw:WR g G H w)
 (hr:(execOp a.eval o).run P w=.ok (.value u) w) (hv:VR G w v u):
 ∃n u w' G',(execOp a.eval o).run P w=.ok n w'/\Qb n u/\WR g G' H w'/\Ext G H w G' H w'/\VR G' w' v u:=
 ⟨_,u,w,G,hr,.inl rfl,hw,Ext.refl G H w,hv⟩
def CY (P:Program) (g:bB) (o:Oper) (r:eC):Prop:=
 ∀(s:List AV) (a:Act) (G:Gh) (H H':aA) (w:World) (ob:fE) (val:Nat->AV) (eS:Nat),WR g G H w->SR G w s a->xK (Arg.eval g s) r=some (ob,val)->
  G.loc eS=none->(∀m,H'.get m=if m=eS then some ob else H.get m)->H.next<=H'.next->eS<H'.next->
  ∃u w' G',(execOp a.eval o).run P w=.ok (.value u) w'/\Made g G H w eS ob G' H' w'/\VR G' w' (val eS) u
theorem CY.op {P:Program} {g:bB} {o:Oper} {r:eC} (h:CY P g o r) (hr:∀ev H,cX ev H r=(xK ev r).map fun p=>(p.2 H.next,H.alloc p.1)):cP P g o r:=by
 intro s a G H w v H' hw hs ha;rw[hr] at ha;simp only[Ag,Ah] at ha;obtain⟨⟨ob,val⟩,hf,rfl,rfl⟩:=ha
 have cZ:G.loc H.next=none:=by
  cases hl:G.loc H.next with
  |none=>rfl
  |some l'=>exact absurd (hw.lt _ _ hl) (Ff _)
 obtain⟨u,w',G',h1,h2,h3⟩:=h s a G H (H.alloc ob) w ob val H.next hw hs hf cZ (aA.aJ H _) (Gq _) (Ez _);exact⟨_,u,w',G',h1,.inl rfl,h2.rel,h2.ext (Ext.refl G H w) (Ak _),h3⟩
section
variable {P:Program} {g:bB} {o:Oper}
theorem cu {x:Operand} {y:Arg} (ho:o.op=.move x\/o.op=.assign x) (hx:bJ g x=some y):cP P g o (.TM y):=by
 intro s a G H w v H' hw hs h;simp only[cX,Ad,Ah] at h;obtain⟨rfl,rfl⟩:=h;refine cP.pure' hw (u:=a.eval x) ?_ (bH hw hs hx)
 rcases ho with ho|ho<;>simp[execOp,ho]
theorem aGh {c x y:Operand} {c' x' y':Arg} (ho:o.op=.pick c x y) (hc:bJ g c=some c') (hx:bJ g x=some x') (hy:bJ g y=some y'):cP P g o (.pick c' x' y'):=by
 intro s a G H w v H' hw hs h;have vc:=bH hw hs hc;have vx:=bH hw hs hx;have vy:=bH hw hs hy;simp only[cX] at h;split at h
 · rename_i t ht;rw[ht] at vc;simp only[Ad,Ah] at h;obtain⟨rfl,rfl⟩:=h
   cases hcv:a.eval c with
   |bool b=>rw[hcv] at vc;cases vc;refine cP.pure' hw (u:=if t then a.eval x else a.eval y) ?_ (by cases t<;>simpa);simp[execOp,ho,hcv,asBool]
   |_=>rw[hcv] at vc;cases vc
 cases h
theorem RB {t:TypeId} {z:Value} {zs:List AV} (ho:o.op=.alloc t) (hz:lL P t=some z) (CC:jO z.cells.toList=some zs):CY P g o (.alloc zs):=by
 intro s a G H H' w ob val eS hw hs h cZ cT AM eZ;simp only[xK,Ad,Ah] at h;obtain⟨rfl,rfl⟩:=h;have hc:=lX CC G w;have hp:iH w {w with heap:=w.heap.push (.cells z.cells t)} (.cells (z.cells.toList++[]).toArray t (0,0)):=⟨by simp,.now⟩;have hm:=hw.xB eS cZ zs z.cells.toList [] hc.1 hc.2 false (fun _=>rfl) cT AM eZ (Clear.zero _) hp;refine⟨.pointer (some ⟨w.heap.size,0,none⟩),_,_,?_,hm,?_⟩
 · simp[execOp,ho,Instr.alloc,lA hz w,newVar,newRow,newObj,Sem.run]
 exact VR.ref eS 0 ⟨w.heap.size,0,zs.length,(z.cells.toList++[]).length⟩ (by simp only[Gh.dZ,if_true])
theorem zp {t:TypeId} {z:Value} {zs:List AV} (ho:o.op=.alloc t) (hz:lL P t=some z) (CC:jO z.cells.toList=some zs):cP P g o (.alloc zs):=
 (RB ho hz CC).op fun _ _=>rfl
theorem Zl {t:TypeId} {x:Operand} {x':Arg} (ho:o.op=.box t x) (hx:bJ g x=some x'):CY P g o (.box x'):=by
 intro s a G H H' w ob val eS hw hs h cZ cT AM eZ;simp only[xK] at h;split at h
 · cases h
 rename_i ht;simp only[Ad,Ah] at h;obtain⟨rfl,rfl⟩:=h;have hc:=(bH hw hs hx).cellsOf (by simpa using ht);have hp:iH w {w with heap:=w.heap.push (.cells (a.eval x).cells t)} (.cells ((a.eval x).cells.toList++[]).toArray t (0,0)):=⟨by simp,.now⟩;have hm:=hw.xB eS cZ _ _ [] hc.1 hc.2 false (fun _=>rfl) cT AM eZ (Clear.zero _) hp;refine⟨.pointer (some ⟨w.heap.size,0,none⟩),_,_,?_,hm,?_⟩
 · simp[execOp,ho,Instr.box,newVar,newRow,newObj,Sem.run]
 exact VR.ref eS 0 ⟨w.heap.size,0,(x'.eval g s).cells.length,((a.eval x).cells.toList++[]).length⟩ (by simp only[Gh.dZ,if_true])
theorem aSe {t:TypeId} {x:Operand} {x':Arg} (ho:o.op=.box t x) (hx:bJ g x=some x'):cP P g o (.box x'):=
 (Zl ho hx).op fun _ _=>rfl
theorem aGg {t:TypeId} {x:Operand} {x':Arg} (ho:o.op=.makeInterface t x) (hx:bJ g x=some x')
 (ht:(match P.underlying t with|some (.interface _)=>false|some _=>true|none=>false)=true):cP P g o (.YO t x'):=by
 intro s a G H w v H' hw hs h;simp only[cX,Ad,Ah] at h;obtain⟨rfl,rfl⟩:=h;refine cP.pure' hw (u:=.iface t (a.eval x)) ?_ (.iface t _ _ (bH hw hs hx));split at ht
 · cases ht
 · rename_i d hd hu;simp only[execOp,ho,Instr.makeInterface,Sem.run_bind,run_underlying hu w,Result.andThen_ok];rfl
 cases ht
theorem aGf {fn:Fn} {fs cs:Array Operand} {fs' MJ:List Arg} (ho:o.op=.makeFunc fn fs cs) (hf:nV g fs.toList=some fs') (hc:nV g cs.toList=some MJ):cP P g o (.YN fn fs' MJ):=by intro s a G H w v H' hw hs h;simp only[cX,Ad,Ah] at h;obtain⟨rfl,rfl⟩:=h;have h1:=tK hw hs hf;have h2:=tK hw hs hc;refine cP.pure' hw (u:=.func fn (fs.toList.map a.eval).toArray (cs.toList.map a.eval).toArray) ?_ (.func fn _ _ _ _ h1.1 h2.1 h1.2 h2.2);simp only[execOp,ho,Instr.makeFunc,Sem.run_bind,Sem.run_pure,Result.andThen_ok];congr 3<;>(apply Fm;simp)
theorem aFx {x:Operand} {x':Arg} {i:Nat} (ho:o.op=.extract x i) (hx:bJ g x=some x'):cP P g o (.Xe x' i):=by
 intro s a G H w v H' hw hs h;have vx:=bH hw hs hx;simp only[cX] at h;split at h
 · rename_i vs lH;rw[lH] at vx;split at h
   · rename_i hi;simp only[Ad,Ah] at h;obtain⟨rfl,rfl⟩:=h
     cases eG:a.eval x with
     |tuple us=>
      rw[eG] at vx
      cases vx with
      |jR _ us' hl hv=>refine cP.pure' hw (u:=us'.getD i undef) ?_ (hv i hi);have gR:i<us'.length:=(by omega);simp only[execOp,ho,eG,Instr.extract,Eb,qI us' undef i gR,Sem.run_bind,Sem.run_pure,Result.andThen_ok]
     |_=>rw[eG] at vx;cases vx
   cases h
 cases h
theorem VR.iQ {G:Gh} {w:World} {k:IntKind} {n:Int} {u:Value} (h:VR G w (.int k n) u):u=.int k n:=by cases h;rfl
theorem VR.jU {G:Gh} {w:World} {b:Bool} {u:Value} (h:VR G w (.bool b) u):u=.bool b:=by cases h;rfl
theorem VR.lK {G:Gh} {w:World} {s:List UInt8} {u:Value} (h:VR G w (.str s) u):u=.string ⟨s.toArray⟩:=by cases h;rfl
theorem VR.ZB (G:Gh) (w:World) (s:List UInt8):VR G w (.str s) (.string ⟨s.toArray⟩):=by have :=VR.str (G:=G) (w:=w) ⟨s.toArray⟩;simpa using this
theorem tL {G:Gh} {w:World} {a:AV} {u:Value} {n:Nat} (h:asNat a=some n) (hv:VR G w a u):∃k,a=.int k n/\u=.int k n:=by
 cases a<;>simp only[asNat] at h<;>try (cases h;done)
 rename_i k m;split at h
 · rename_i hm;obtain rfl:=Aa h;refine⟨k,by rw[Kf hm],by rw[Kf hm];exact hv.iQ⟩
 cases h
end
end
section
theorem getD_eq {α:Type} (l:List α) (d:α) (j:Nat):l.getD j d=(l[j]?).getD d:=rfl
theorem eV {α:Type} (l:List α) (d:α) (o n j:Nat) (h:j<n):((l.drop o).take n).getD j d=l.getD (o+j) d:=by simp only[getD_eq];rw[Hu,if_pos h,Fx]
theorem BY {α:Type} (l:List α) (d:α) (o j:Nat):(l.drop o).getD j d=l.getD (o+j) d:=by simp only[getD_eq,Fx]
theorem getD_take {α:Type} (l:List α) (d:α) (n j:Nat) (h:j<n):(l.take n).getD j d=l.getD j d:=by simp only[getD_eq];rw[Hu,if_pos h]
theorem qT (cs:List AV) (off:Nat) (vs:List AV) (h:off+vs.length<=cs.length):(fY cs off vs).length=cs.length:=by simp[fY];omega
theorem Lj (cs:List AV) (off:Nat) (vs:List AV) (d:AV) (h:off+vs.length<=cs.length) (j:Nat):
 (fY cs off vs).getD j d=if off<=j/\j<off+vs.length then vs.getD (j -off) d else cs.getD j d:=by
 simp only[getD_eq,fY];rw[Dh];simp only[Au,Cq];have hm:min off cs.length=off:=by omega
 rw[hm];by_cases h1:j<off+vs.length
 · rw[if_pos h1,Dh];simp only[Cq,hm];by_cases h2:j<off
   · rw[if_pos h2,if_neg (by omega),Hu,if_pos h2]
   rw[if_neg h2,if_pos (by omega)]
 rw[if_neg h1,if_neg (by omega),Fx];congr 2;omega
theorem OZ {cs:List AV} {off:Nat} {vs:List AV} {c:AV} (h:c∈fY cs off vs):c∈cs\/c∈vs:=by
 simp only[fY,An] at h
 rcases h with (h|h)|h
 · exact .inl (By h)
 · exact .inr h
 exact .inl (Du h)
theorem JA {cs:List AV} {j:Nat} (h:j<cs.length):cs.getD j aD∈cs:=by rw[getD_eq,Ab h];exact Ac h
theorem NR {G:Gh} {w:World} {b o n:Nat} {cs:List AV} (h:∀j,j<n->∃u,w.cell? ⟨b,o+j,none⟩=some u/\VR G w (cs.getD j aD) u):
 ∃us:List Value,us.length=n/\(∀j,j<n->w.cell? ⟨b,o+j,none⟩=some (us.getD j undef))/\∀j,j<n->VR G w (cs.getD j aD) (us.getD j undef):=by
 have hd:∀j,j<n->((List.range n).map fun j=>(w.cell? ⟨b,o+j,none⟩).getD undef).getD j undef=(w.cell? ⟨b,o+j,none⟩).getD undef:=fun j hj=>by simp[getD_eq,Iy hj]
 refine⟨(List.range n).map fun j=>(w.cell? ⟨b,o+j,none⟩).getD undef,by simp,fun j hj=>?_,fun j hj=>?_⟩
 · rw[hd j hj];obtain⟨u,hu,_⟩:=h j hj;rw[hu];rfl
 rw[hd j hj];obtain⟨u,hu,hv⟩:=h j hj;rw[hu];exact hv
theorem JN {P:Program} {G:Gh} {w:World} {t:TypeId} {agg:Bool} {n b o:Nat} {cs:List AV} (hag:fT P t=some agg) (lE:kD P t=some n)
 (hlen:n=cs.length) (h1:∀c∈cs,c.one=true) (hn:agg=false->n=1)
 (h:∀j,j<n->∃u,w.cell? ⟨b,o+j,none⟩=some u/\VR G w (cs.getD j aD) u):
 ∃u,(loadVar t ⟨b,o,none⟩).run P w=.ok u w/\VR G w (if agg then .agg cs else cs.getD 0 aD) u:=by
 obtain⟨us,hl,hc,hv⟩:=NR h
 cases agg with
 |true=>refine⟨.agg us.toArray,?_,.agg cs us (by omega) h1 (fun j hj=>hv j (by omega))⟩;have hr:=vB P w b o us (fun j hj=>hc j (by omega));rw[hl] at hr;simp[loadVar,qN hag w,eJ lE w,hr]
 |false=>have h1':=hn rfl;have jz:=hc 0 (by omega);have Pf:=hv 0 (by omega);refine⟨us.getD 0 undef,?_,Pf⟩;simp only[Cy] at jz;simp only[loadVar,Sem.run_bind,qN hag w,Result.andThen_ok,Be,Cm,run_load,jz]
theorem WR.store {g:bB} {G:Gh} {H:aA} {w w':World} (h:WR g G H w) {id:Nat} {l:Loc} {cs:List AV} {eI:Bool} (hl:G.loc id=some l) (hg:H.get id=some (.cells cs eI))
 {off:Nat} {xs:List AV} {vs:List Value} (hv:iF G w xs vs) (h1:∀c∈xs,c.one=true) (gG:off+xs.length<=cs.length) (u:Tu w w' l.cY (l.base+off) vs):
 WR g G (H.set id (.cells (fY cs off xs) eI)) w'/\Ext G H w G (H.set id (.cells (fY cs off xs) eI)) w':=by
 have lG:H.live id:=⟨_,hg,rfl⟩;obtain⟨a1,a2,a3,a4,a5⟩:=h.cells id l cs eI hl hg;obtain⟨c,el,fz,b1,b2,b3⟩:=h.room id l hl (.inl ⟨cs,eI,hg⟩);have hlen:=hv.1
 have pF:∀j,j<vs.length->¬G.gV l.cY (l.base+off+j):=fun j hj=>by rw[Bm];exact h.jY id l hl lG (off+j) (by omega)
 have tU:∀kG l',kG≠id->G.loc kG=some l'->H.live kG->l.cY≠l'.cY\/l.base+l.ext<=l'.base\/l'.base+l'.ext<=l.base:=
  fun kG l' cK oU mS=>h.kT id kG l l' (Ne.symm cK) hl oU lG mS
 have hk:=h.kill id
 have Pg:=hk.write u pF (fun kG l' oU mS=>by
  rcases aA.kV.1 mS with ⟨_,hh⟩|⟨cK,mS⟩
  · cases hh
  rcases tU kG l' cK oU mS with hd|hd|hd
  · exact .inl (Ne.symm hd)
  · exact .inr (.inr (by omega))
  exact .inr (.inl (by omega))) ⟨c,el,fz,b1⟩
 have xV:=((Ext.refl G H w).write u pF h.iR (.inr ⟨id,l,hl,lG,rfl⟩)).aHl id (.cells (fY cs off xs) eI) lG;have yT:∀{a:AV} {x:Value},VR G w a x->VR G w' a x:=fun hx=>hx.mono (fun _ _ h=>h) (fun b o hi=>⟨hi,(xV.gV b o hi).2⟩);obtain⟨c',d1,d2,d3,d4⟩:=u.row c el fz b1;refine⟨Pg.aSs _ l hl tU (fun j hj=>h.jY id l hl lG j hj) (fun MJ aAc he=>?_) (fun _=>⟨c',el,fz,d1,by omega,fun j hj=>by rw[u.frozen b1];exact b3 j hj⟩) (fun he=>by cases he),xV⟩;cases he;refine⟨by rw[qT _ _ _ gG];exact a1,a2,a3,fun x hx=>(OZ hx).elim (a4 x) (h1 x),fun j hj=>?_⟩;rw[qT _ _ _ gG] at hj;rw[Lj _ _ _ _ gG];by_cases Mj:off<=j/\j<off+xs.length
 · rw[if_pos Mj];refine⟨vs.getD (j -off) undef,?_,yT (hv.2 (j -off) (by omega))⟩;have :=d4 (j -off) (by omega) (by omega);rw[lS d1,<-this];congr 1;omega
 rw[if_neg Mj];obtain⟨x,hx,hvx⟩:=a5 j hj;exact⟨x,u.cell (.inr (by omega)) hx,yT hvx⟩
theorem aA.oX {H:aA} {id:Nat} {cs:List AV} (h:H.eW id=some cs):∃eI,H.get id=some (.cells cs eI):=by
 unfold aA.eW at h;split at h
 · rename_i MJ eI hg;obtain rfl:=Aa h;exact⟨eI,hg⟩
 cases h
theorem LJ {g:bB} {G:Gh} {H:aA} {w:World} (hw:WR g G H w) {id off n:Nat} {l:Loc} {cs:List AV} {eI:Bool} (hl:G.loc id=some l) (hg:H.get id=some (.cells cs eI))
 (gG:off+n<=cs.length):∀j,j<n->∃u,w.cell? ⟨l.cY,l.base+off+j,none⟩=some u/\VR G w (((cs.drop off).take n).getD j aD) u:=fun j hj=>by
 obtain⟨u,hu,hv⟩:=(hw.cells id l cs eI hl hg).2.2.2.2 (off+j) (by omega);refine⟨u,by rw[Bm];exact hu,?_⟩;rw[eV _ _ _ _ _ hj];exact hv
section
variable {P:Program} {g:bB} {o:Oper}
theorem aGc {t:TypeId} {x:Operand} {x':Arg} {agg:Bool} {n:Nat} (ho:o.op=.load t x) (hx:bJ g x=some x') (hag:fT P t=some agg) (lE:kD P t=some n):
 cP P g o (.load agg n x'):=by
 intro s a G H w v H' hw hs h;have vx:=bH hw hs hx
 have fin:∀(b o':Nat) (cs:List AV),a.eval x=.pointer (some ⟨b,o',none⟩)->n=cs.length->(∀c∈cs,c.one=true)->(agg=false->n=1)->
  (∀j,j<n->∃u,w.cell? ⟨b,o'+j,none⟩=some u/\VR G w (cs.getD j aD) u)->
  ∃n u w' G',(execOp a.eval o).run P w=.ok n w'/\Qb n u/\WR g G' H w'/\Ext G H w G' H w'/\VR G' w' (if agg then .agg cs else cs.getD 0 aD) u:=by
  intro b o' cs he hl h1 hn hc;obtain⟨u,hr,hv⟩:=JN (P:=P) hag lE hl h1 hn hc;refine cP.pure' hw (u:=u) ?_ hv;simp[execOp,ho,he,Instr.loadAt,Instr.sureAddr,hr]
 simp only[cX] at h;split at h
 · rename_i id off cZ;rw[cZ] at vx;split at h
   · rename_i cs CR;obtain⟨eI,hg⟩:=aA.oX CR;split at h
     · rename_i gG
       cases eG:a.eval x with
       |pointer p=>
        rw[eG] at vx
        cases vx with
        |ref _ _ l hl=>
         have h4:=(hw.cells id l cs eI hl hg).2.2.2.1;have kF:=LJ hw hl hg gG;have hlen:n=((cs.drop off).take n).length:=(by simp;omega);have xX:∀c∈(cs.drop off).take n,c.one=true:=fun c hc=>h4 c (Du (By hc));split at h
         · rename_i rD;simp only[Ad,Ah] at h;obtain⟨rfl,rfl⟩:=h;have :=fin _ _ _ eG hlen xX (fun hf=>by rw[rD] at hf;cases hf) kF
           rwa [if_pos rD] at this
         rename_i rD;split at h
         · rename_i hn;simp only[Ad,Ah] at h;obtain⟨rfl,rfl⟩:=h;have :=fin _ _ _ eG hlen xX (fun _=>hn) kF
           rwa [if_neg rD,eV _ _ _ _ _ (by omega),Cy] at this
         cases h
       |_=>rw[eG] at vx;cases vx
     cases h
   cases h
 · rename_i cs cZ;rw[cZ] at vx;split at h
   · rename_i gG
     cases eG:a.eval x with
     |pointer p=>
      rw[eG] at vx
      cases vx with
      |pl _ b o' us hh hv=>
       have kF:∀j,j<n->∃u,w.cell? ⟨b,o'+j,none⟩=some u/\VR G w ((cs.take n).getD j aD) u:=fun j hj=>by rw[getD_take _ _ _ _ hj];exact⟨us j,(hh j (by omega)).2.1,hv j (by omega)⟩
       have hlen:n=(cs.take n).length:=by simp;omega
       have xX:∀c∈cs.take n,c.one=true:=fun c hc=>by obtain⟨j,hj,rfl⟩:=Hd.1 (By hc);have :=(hh j hj).2.2;simpa [getD_eq,Ab hj] using this
       split at h
       · rename_i rD;simp only[Ad,Ah] at h;obtain⟨rfl,rfl⟩:=h;have :=fin _ _ _ eG hlen xX (fun hf=>by rw[rD] at hf;cases hf) kF
         rwa [if_pos rD] at this
       rename_i rD;split at h
       · rename_i hn;simp only[Ad,Ah] at h;obtain⟨rfl,rfl⟩:=h;have :=fin _ _ _ eG hlen xX (fun _=>hn) kF
         rwa [if_neg rD,getD_take _ _ _ _ (by omega)] at this
       cases h
     |_=>rw[eG] at vx;cases vx
   cases h
 cases h
theorem oO {G:Gh} {w:World} {xs:List AV} {vs:List Value} (hv:iF G w xs vs) (h1:∀c∈xs,c.one=true):∀v∈vs,aAb v=true:=by
 intro v mS;obtain⟨j,hj,rfl⟩:=Hd.1 mS;have GA:j<xs.length:=by have :=hv.1;omega
 have :=(hv.2 j GA).one;rw[h1 _ (JA GA)] at this;simpa [getD_eq,Ab hj] using this.symm
theorem z8 {t:TypeId} {x y:Operand} {x' y':Arg} {n:Nat} (ho:o.op=.store t x y) (hx:bJ g x=some x') (hy:bJ g y=some y') (lE:kD P t=some n):
 cP P g o (.store n x' y'):=by
 intro s a G H w v H' hw hs h;have vx:=bH hw hs hx;have vy:=bH hw hs hy;simp only[cX] at h;split at h
 · rename_i id off cZ;rw[cZ] at vx;split at h
   · rename_i cs eI hg;split at h
     · rename_i hc;obtain⟨Sv,uP,xc⟩:=hc;simp only[Ad,Ah] at h;obtain⟨rfl,rfl⟩:=h;obtain⟨lH,xX⟩:=vy.cellsOf xc
       cases eG:a.eval x with
       |pointer p=>
        rw[eG] at vx
        cases vx with
        |ref _ _ l hl=>
         obtain⟨a1,a2,_,_,_⟩:=hw.cells id l cs eI hl hg;obtain⟨c,el,fz,b1,b2,b3⟩:=hw.room id l hl (.inl ⟨cs,eI,hg⟩);have hlen:=lH.1
         obtain⟨w',hr,hu⟩:=fD P l.cY (l.base+off) (a.eval y).cells.toList 0 w ⟨c,el,fz,b1,by omega⟩
          (fun j hj=>by rw[Cy,Bm];exact b3 (off+j) (by omega)) (oO lH xX)
         obtain⟨r1,r2⟩:=hw.store hl hg lH xX (by omega) hu;refine⟨.skip,undef,w',G,?_,.inr ⟨rfl,rfl⟩,r1,r2,VR.oH G w'⟩;have VN:(a.eval y).cells.size=n:=(by simpa [Sv] using hlen);simp[execOp,ho,eG,Instr.storeAt,Instr.sureAddr,storeVar,eJ lE w,VN,hr]
       |_=>rw[eG] at vx;cases vx
     cases h
   cases h
 cases h
def Xh (P:Program) (t:TypeId) (i:Nat):Option (Nat×Nat×Bool):=
 match P.underlying t with
 |some (.struct fs)=>match fs[i]? with
  |some f=>match kD P f.type,fT P f.type with
   |some n,some b=>if n=0 then none else some (f.offset,n,b)
   |_,_=>none
  |none=>none
 |_=>none
theorem aFy {t:TypeId} {x:Operand} {x':Arg} {i:Nat} {off n:Nat} {b:Bool} (ho:o.op=.fieldAddr t x i) (hx:bJ g x=some x') (hf:Xh P t i=some (off,n,b)):
 cP P g o (.Xf off x'):=by
 intro s a G H w v H' hw hs h;have vx:=bH hw hs hx;unfold Xh at hf;split at hf
 · rename_i fs hu;split at hf
   · rename_i f hfi;split at hf
     · rename_i n' b' hn hb;split at hf
       · cases hf
       rename_i Xx;simp only[Ad,Ah] at hf;obtain⟨rfl,rfl,rfl⟩:=hf
       have jB:∀bl o',a.eval x=.pointer (some ⟨bl,o',none⟩)->(execOp a.eval o).run P w=.ok (.value (.pointer (some ⟨bl,o'+f.offset,none⟩))) w:=fun bl o' he=>by simp[execOp,ho,he,Instr.fieldAt,run_underlying hu w,hfi,Instr.sureAddr,fieldPlace,eJ hn w,Xx,jT]
       simp only[cX] at h;split at h
       · rename_i id o' cZ;rw[cZ] at vx;simp only[Ad,Ah] at h;obtain⟨rfl,rfl⟩:=h
         cases eG:a.eval x with
         |pointer p=>
          rw[eG] at vx
          cases vx with
          |ref _ _ l hl=>exact cP.pure' hw (jB _ _ eG) (by rw[Bm];exact .ref id (o'+f.offset) l hl)
         |_=>rw[eG] at vx;cases vx
       · rename_i cs cZ;rw[cZ] at vx;simp only[Ad,Ah] at h;obtain⟨rfl,rfl⟩:=h
         cases eG:a.eval x with
         |pointer p=>
          rw[eG] at vx
          cases vx with
          |pl _ bl o' us hh hv=>
           refine cP.pure' hw (jB _ _ eG) (.pl _ bl (o'+f.offset) (fun j=>us (f.offset+j)) (fun j hj=>?_) (fun j hj=>?_))
           · simp at hj;rw[Bm,BY];exact hh (f.offset+j) (by omega)
           simp at hj;rw[BY];exact hv (f.offset+j) (by omega)
         |_=>rw[eG] at vx;cases vx
       cases h
     cases hf
   cases hf
 cases hf
theorem WL {t:TypeId} {n:Nat} {b:Bool} (hn:kD P t=some n) (hb:fT P t=some b) {G:Gh} {w:World} {cs:List AV} {us:List Value} {off:Nat}
 (hl:us.length=cs.length) (h1:∀c∈cs,c.one=true) (hv:∀j,j<cs.length->VR G w (cs.getD j aD) (us.getD j undef)) (gG:off+n<=cs.length) (Kq:b=false->n=1):
 ∃u,(part t us.toArray off).run P w=.ok u w/\VR G w (if b then .agg ((cs.drop off).take n) else cs.getD off aD) u:=by
 cases b with
 |true=>
  refine⟨.agg ((us.drop off).take n).toArray,?_,?_⟩
  · simp only[part,Sem.run_bind,qN hb w,Result.andThen_ok,if_true,eJ hn w,Sem.run_pure];congr 2;apply Fm;simp[Hk]
  simp only[if_true];refine .agg _ _ (by simp;omega) (fun c hc=>h1 c (Du (By hc))) (fun j hj=>?_);simp at hj;rw[eV _ _ _ _ _ (by omega),eV _ _ _ _ _ (by omega)];exact hv _ (by omega)
 |false=>have :=Kq rfl;refine⟨us.getD off undef,?_,hv off (by omega)⟩;simp only[part,Sem.run_bind,qN hb w,Result.andThen_ok,Be,Cm,Eb,qI us undef off (by omega)];rfl
theorem VR.uT {G:Gh} {w:World} {cs:List AV} {u:Value} (h:VR G w (.agg cs) u):∃us:List Value,u=.agg us.toArray/\us.length=cs.length/\(∀c∈cs,c.one=true)/\
 ∀j,j<cs.length->VR G w (cs.getD j aD) (us.getD j undef):=by
 cases h with
 |agg _ us hl h1 hv=>exact⟨us,rfl,hl,h1,hv⟩
end
end
section
theorem xT {els:List (List AV)} {sz:Nat} (hu:∀e∈els,e.length=sz):∀{i j:Nat},i<els.length->j<sz->els.flatten.getD (i*sz+j) aD=(els.getD i []).getD j aD:=by
 induction els with
 |nil=>intro i j hi;simp at hi
 |cons e r ih=>
  intro i j hi hj;have he:e.length=sz:=hu e (by simp)
  cases i with
  |zero=>simp only[getD_eq,Bx,Ja,Cv,Gg,Bi];rw[Ex (by omega)]
  |succ i=>have :=ih (fun e he=>hu e (by simp[he])) (i:=i) (j:=j) (by simpa using hi) hj;simp only[getD_eq,Bx,Gi] at this ⊢;rw[Fy (by rw[he,Em];omega)];rw[show(i+1)*sz+j -e.length=i*sz+j by rw[he,Em];omega];exact this
theorem length_flatten {els:List (List AV)} {sz:Nat} (hu:∀e∈els,e.length=sz):els.flatten.length=els.length*sz:=by
 induction els with
 |nil=>simp
 |cons e r ih=>simp only[Bx,Au,Aq,Em];rw[ih (fun e he=>hu e (by simp[he])),hu e (by simp)];omega
section
variable {P:Program} {g:bB} {o:Oper}
def zX (P:Program) (t:TypeId):Option (Nat×Nat×Bool):=
 match P.underlying t with
 |some (.array n e)=>match kD P e,fT P e with
  |some sz,some b=>some (n,sz,b)
  |_,_=>none
 |_=>none
def mZ (P:Program) (t:TypeId):Option (TypeId×Nat):=
 match P.underlying t with
 |some (.slice e)=>match kD P e with
  |some sz=>some (e,sz)
  |none=>none
 |_=>none
theorem zY {t:TypeId} {n sz:Nat} {b:Bool} (h:zX P t=some (n,sz,b)):∃e,P.underlying t=some (.array n e)/\kD P e=some sz/\fT P e=some b:=by
 unfold zX at h;split at h
 · rename_i n' e hu;split at h
   · rename_i eO b' h1 h2;simp only[Ad,Ah] at h;obtain⟨rfl,rfl,rfl⟩:=h;exact⟨e,hu,h1,h2⟩
   cases h
 cases h
theorem kH {t e:TypeId} {sz:Nat} (h:mZ P t=some (e,sz)):P.underlying t=some (.slice e)/\kD P e=some sz:=by
 unfold mZ at h;split at h
 · rename_i e' hu;split at h
   · rename_i eO h1;simp only[Ad,Ah] at h;obtain⟨rfl,rfl⟩:=h;exact⟨hu,h1⟩
   cases h
 cases h
theorem Vj {t:TypeId} {x i:Operand} {x' i':Arg} {n sz:Nat} {b:Bool} (ho:o.op=.indexAddr t x i) (hx:bJ g x=some x') (hi:bJ g i=some i') (ht:zX P t=some (n,sz,b)):
 cP P g o (.TG (some n) sz x' i'):=by
 intro s a G H w v H' hw hs h;have vx:=bH hw hs hx;have vi:=bH hw hs hi;obtain⟨e,hu,he,hb⟩:=zY ht;simp only[cX] at h;split at h
 · rename_i k hk;obtain⟨kk,Lo,hkv⟩:=tL hk vi
   have jB:∀bl o',a.eval x=.pointer (some ⟨bl,o',none⟩)->k<n->(execOp a.eval o).run P w=.ok (.value (.pointer (some ⟨bl,o'+k*sz,none⟩))) w:=fun bl o' hxe eZ=>by have h0:(0:Int)<=(k:Int)/\(k:Int)<(n:Int):=(by omega);simp[execOp,ho,Instr.indexAt,hkv,asIntOf,run_underlying hu w,hxe,Instr.sureAddr,h0,eJ he w,jT];intro Lm;omega
   split at h
   · rename_i n' id off hn cZ;cases hn;rw[cZ] at vx;split at h
     · rename_i eZ;simp only[Ad,Ah] at h;obtain⟨rfl,rfl⟩:=h
       cases eG:a.eval x with
       |pointer p=>
        rw[eG] at vx
        cases vx with
        |ref _ _ l hl=>exact cP.pure' hw (jB _ _ eG eZ) (by rw[Bm];exact .ref id (off+k*sz) l hl)
       |_=>rw[eG] at vx;cases vx
     cases h
   · rename_i n' cs hn cZ;cases hn;rw[cZ] at vx;split at h
     · rename_i eZ;simp only[Ad,Ah] at h;obtain⟨rfl,rfl⟩:=h
       cases eG:a.eval x with
       |pointer p=>
        rw[eG] at vx
        cases vx with
        |pl _ bl o' us hh hv=>
         refine cP.pure' hw (jB _ _ eG eZ) (.pl _ bl (o'+k*sz) (fun j=>us (k*sz+j)) (fun j hj=>?_) (fun j hj=>?_))
         · simp at hj;rw[Bm,BY];exact hh (k*sz+j) (by omega)
         simp at hj;rw[BY];exact hv (k*sz+j) (by omega)
       |_=>rw[eG] at vx;cases vx
     cases h
   · rename_i hn _;cases hn
   · rename_i hn _;cases hn
   cases h
 cases h
theorem YS {t e:TypeId} {x i:Operand} {x' i':Arg} {sz:Nat} (ho:o.op=.indexAddr t x i) (hx:bJ g x=some x') (hi:bJ g i=some i') (ht:mZ P t=some (e,sz)):
 cP P g o (.TG none sz x' i'):=by
 intro s a G H w v H' hw hs h;have vx:=bH hw hs hx;have vi:=bH hw hs hi;obtain⟨hu,he⟩:=kH ht;simp only[cX] at h;split at h
 · rename_i k hk;obtain⟨kk,Lo,hkv⟩:=tL hk vi
   have jB:∀bl o' n cap,a.eval x=.slice (some ⟨bl,o',none⟩) n cap->k<n->(execOp a.eval o).run P w=.ok (.value (.pointer (some ⟨bl,o'+k*sz,none⟩))) w:=fun bl o' n cap hxe eZ=>by have h0:(0:Int)<=(k:Int)/\(k:Int)<(n:Int):=(by omega);simp[execOp,ho,Instr.indexAt,hkv,asIntOf,run_underlying hu w,hxe,Instr.sureAddr,h0,eJ he w,jT];intro Lm;omega
   split at h
   · rename_i hn _;cases hn
   · rename_i hn _;cases hn
   · rename_i tag eO els hn cZ;rw[cZ] at vx;split at h
     · rename_i hc;obtain⟨rfl,eZ⟩:=hc;simp only[Ad,Ah] at h;obtain⟨rfl,rfl⟩:=h
       cases eG:a.eval x with
       |slice p n cap=>
        rw[eG] at vx
        cases vx with
        |vP=>exact absurd eZ (As _)
        |aU _ _ _ bl o' _ us IG hh hv rW=>
         have Sw:(els.getD k []).length=eO:=by rw[getD_eq,Ab eZ];exact IG _ (Ac eZ)
         have vN:=length_flatten IG
         have gG:∀j,j<eO->k*eO+j<els.flatten.length:=fun j hj=>by
          rw[vN]
          calc k*eO+j<k*eO+eO:=by omega
           _=(k+1)*eO:=by rw[Em]
           _<=els.length*eO:=Dd _ eZ
         refine cP.pure' hw (jB _ _ _ _ eG eZ) (.pl _ bl (o'+k*eO) (fun j=>us (k*eO+j)) (fun j hj=>?_) (fun j hj=>?_))
         · rw[Sw] at hj;rw[Bm,<-xT IG eZ hj];exact hh _ (gG j hj)
         rw[Sw] at hj;rw[<-xT IG eZ hj];exact hv _ (gG j hj)
       |_=>rw[eG] at vx;cases vx
     cases h
   · rename_i id eO off len cap hn cZ;rw[cZ] at vx;split at h
     · rename_i hc;obtain⟨rfl,eZ⟩:=hc;simp only[Ad,Ah] at h;obtain⟨rfl,rfl⟩:=h
       cases eG:a.eval x with
       |slice p n cap=>
        rw[eG] at vx
        cases vx with
        |sl _ _ _ _ _ _ l hl hlen gG qJ=>exact cP.pure' hw (jB _ _ _ _ eG eZ) (by rw[Bm];exact .ref id (off+k*eO) l hl)
       |_=>rw[eG] at vx;cases vx
     cases h
   cases h
 cases h
theorem aSj {t:TypeId} {x i:Operand} {x' i':Arg} {n sz:Nat} {b:Bool} (ho:o.op=.index t x i) (hx:bJ g x=some x') (hi:bJ g i=some i') (ht:zX P t=some (n,sz,b)):
 cP P g o (.idx n sz b x' i'):=by
 intro s a G H w v H' hw hs h;have vx:=bH hw hs hx;have vi:=bH hw hs hi;obtain⟨e,hu,he,hb⟩:=zY ht;simp only[cX] at h;split at h
 · rename_i k cs hk cZ;rw[cZ] at vx;obtain⟨kk,Lo,hkv⟩:=tL hk vi;obtain⟨us,eG,hl,h1,hv⟩:=vx.uT;split at h
   · rename_i hc;obtain⟨eZ,gG⟩:=hc
     have jB:∀u,(part e us.toArray (k*sz)).run P w=.ok u w->(execOp a.eval o).run P w=.ok (.value u) w:=fun u hr=>by have h0:(0:Int)<=(k:Int)/\(k:Int)<(n:Int):=(by omega);simp[execOp,ho,eG,Instr.index,hkv,asIntOf,run_underlying hu w,h0,eJ he w,hr];intro Lm;omega
     split at h
     · rename_i rD;simp only[Ad,Ah] at h;obtain⟨rfl,rfl⟩:=h;obtain⟨u,hr,MS⟩:=WL (P:=P) he hb hl h1 hv gG (fun hf=>by rw[rD] at hf;cases hf);rw[if_pos rD] at MS;exact cP.pure' hw (jB u hr) MS
     rename_i rD;split at h
     · rename_i Kq;simp only[Ad,Ah] at h;obtain⟨rfl,rfl⟩:=h;obtain⟨u,hr,MS⟩:=WL (P:=P) he hb hl h1 hv gG (fun _=>Kq);rw[if_neg rD,Kq,Dt] at MS;rw[Kq,Dt] at hr;exact cP.pure' hw (jB u (by rw[Kq,Dt];exact hr)) MS
     cases h
   cases h
 cases h
theorem aFz {t:TypeId} {x i:Operand} {x' i':Arg} (ho:o.op=.index t x i) (hx:bJ g x=some x') (hi:bJ g i=some i') (ht:P.underlying t=some .string):
 cP P g o (.idxs x' i'):=by
 intro s a G H w v H' hw hs h;have vx:=bH hw hs hx;have vi:=bH hw hs hi;simp only[cX] at h;split at h
 · rename_i k str hk cZ;rw[cZ] at vx;obtain⟨kk,Lo,hkv⟩:=tL hk vi;have eG:=vx.lK;split at h
   · rename_i b hb;simp only[Ad,Ah] at h;obtain⟨rfl,rfl⟩:=h;refine cP.pure' hw (u:=.int .u8 b.toNat) ?_ (.int _ _);have eZ:=(Bl.1 hb).1
     have Lm:(⟨str.toArray⟩:ByteArray)[k]?=some b:=by have bDo:k<(⟨str.toArray⟩:ByteArray).size:=(by simpa [ByteArray.size] using eZ);rw[getElem?_pos (⟨str.toArray⟩:ByteArray) k bDo];have :=(Bl.1 hb).2;simpa [ByteArray.getElem_eq_getElem_data] using this
     simp[execOp,ho,Instr.index,hkv,asIntOf,run_underlying ht w,eG,Lm]
   cases h
 cases h
theorem aGb {c:Call} {x:Operand} {x':Arg} {t:TypeId} (ho:o.op=.call c) (hc:c.callee=.builtin .len) (ha:c.args= #[x]) (hx:bJ g x=some x') (QC:c.argTypes[0]?=some t)
 (ht:P.underlying t=some .string):cP P g o (.lens x'):=by
 intro s a G H w v H' hw hs h;have vx:=bH hw hs hx;simp only[cX] at h;split at h
 · rename_i str cZ;rw[cZ] at vx;simp only[Ad,Ah] at h;obtain⟨rfl,rfl⟩:=h;have eG:=vx.lK;refine cP.pure' hw (u:=.int .i64 str.length) ?_ (.int _ _);have lE:(⟨str.toArray⟩:ByteArray).size=str.length:=by simp[ByteArray.size]
   simp[execOp,ho,resolve,hc,ha,invoke,builtin,Builtin.len_,QC,run_underlying ht w,eG,goInt];exact Bc (fun n:Nat=>(n:Int)) lE
 cases h
theorem aGd {c:Call} {x y:Operand} {x' y':Arg} (ho:o.op=.call c) (hc:c.callee=.builtin .max) (ha:c.args= #[x,y]) (hx:bJ g x=some x') (hy:bJ g y=some y'):cP P g o (.Vc x' y'):=by
 intro s a G H w v H' hw hs h;have vx:=bH hw hs hx;have vy:=bH hw hs hy;simp only[cX] at h;split at h
 · rename_i k m k' n h1 h2;rw[h1] at vx;rw[h2] at vy;simp only[Ad,Ah] at h;obtain⟨rfl,rfl⟩:=h;have eG:=vx.iQ;have hyv:=vy.iQ;refine cP.pure' hw (u:=.int k (if n>m then n else m)) ?_ (.int _ _);simp[execOp,ho,resolve,hc,ha,invoke,builtin,Builtin.max_,Builtin.max2,eG,hyv]
 cases h
theorem aGe {c:Call} {x y:Operand} {x' y':Arg} (ho:o.op=.call c) (hc:c.callee=.builtin .min) (ha:c.args= #[x,y]) (hx:bJ g x=some x') (hy:bJ g y=some y'):cP P g o (.Ve x' y'):=by
 intro s a G H w v H' hw hs h;have vx:=bH hw hs hx;have vy:=bH hw hs hy;simp only[cX] at h;split at h
 · rename_i k m k' n h1 h2;rw[h1] at vx;rw[h2] at vy;simp only[Ad,Ah] at h;obtain⟨rfl,rfl⟩:=h;have eG:=vx.iQ;have hyv:=vy.iQ;refine cP.pure' hw (u:=.int k (if n<m then n else m)) ?_ (.int _ _);simp[execOp,ho,resolve,hc,ha,invoke,builtin,Builtin.min_,Builtin.min2,eG,hyv]
 cases h
theorem aGa {c:Call} {x:Operand} {x':Arg} {t e:TypeId} (ho:o.op=.call c) (hc:c.callee=.builtin .len) (ha:c.args= #[x]) (hx:bJ g x=some x') (QC:c.argTypes[0]?=some t)
 (ht:P.underlying t=some (.slice e)):cP P g o (.OQ x'):=by
 intro s a G H w v H' hw hs h;have vx:=bH hw hs hx
 have jB:∀p n cap,a.eval x=.slice p n cap->(execOp a.eval o).run P w=.ok (.value (.int .i64 n)) w:=fun p n cap eG=>by simp[execOp,ho,resolve,hc,ha,invoke,builtin,Builtin.len_,QC,run_underlying ht w,eG,goInt]
 simp only[cX] at h;split at h
 · rename_i cZ;rw[cZ] at vx;simp only[Ad,Ah] at h;obtain⟨rfl,rfl⟩:=h;generalize eG:a.eval x=u at vx;cases vx;exact cP.pure' hw (jB _ _ _ eG) (.int _ _)
 · rename_i tag sz els cZ;rw[cZ] at vx;simp only[Ad,Ah] at h;obtain⟨rfl,rfl⟩:=h;generalize eG:a.eval x=u at vx
   cases vx<;>
    exact cP.pure' hw (jB _ _ _ eG) (.int _ _)
 · rename_i id sz off len cap cZ;rw[cZ] at vx;simp only[Ad,Ah] at h;obtain⟨rfl,rfl⟩:=h;generalize eG:a.eval x=u at vx;cases vx;exact cP.pure' hw (jB _ _ _ eG) (.int _ _)
 cases h
theorem uF {op:BinOp} {t:TypeId} {x y:Operand} {u v:Value} (w:World) (h:∀c,u≠ .agg c) (h':u≠ .nilIface):(eqGuard op t x y u v).run P w=.ok () w:=by
 unfold eqGuard
 cases u<;>first
  |exact absurd rfl h'
  |exact absurd rfl (h _)
  |(cases op<;>rfl)
theorem aFu {op:BinOp} {k k':IntKind} {m n:Int} {v:AV} {t:TypeId} (h:qA op k m k' n=some v) (w:World):
 ∃u,(Go.binOp op t (.int k m) (.int k' n)).run P w=.ok u w/\∀G,VR G w v u:=by
 have key:∀{k:IntKind} {z:Int},∀G,VR G w (.int k z) (.int k z):=fun G=>.int _ _;have aRz:∀{z:Bool},∀G,VR G w (.bool z) (.bool z):=fun G=>.bool _;cases op<;>simp only[qA] at h
 all_goals first
  |(split at h<;>first
     |(cases h;done)
     |(rename_i hk
       first
        |(subst hk
          first
           |(obtain rfl:=Aa h
             refine⟨_,?_,key⟩;simp[Go.binOp,Op.intArith]
             done)
           |(obtain rfl:=Aa h
             refine⟨_,?_,aRz⟩;simp[Go.binOp,Op.intCmp]
             done)
           |(simp only[GX] at h
             obtain rfl:=Aa h;refine⟨_,?_,key⟩;simp[Go.binOp,Op.intBits]
             done)
           |(split at h
             · cases h
             rename_i h0;obtain rfl:=Aa h;refine⟨_,?_,key⟩
             simp[Go.binOp,Op.intDiv,h0]))
        |(obtain rfl:=Aa h
          refine⟨_,?_,key⟩;simp[Go.binOp,Op.shift,hk]
          done)))
theorem aFv {op:BinOp} {x y:List UInt8} {v:AV} {t:TypeId} (h:tt op x y=some v) (w:World):
 ∃u,(Go.binOp op t (.string ⟨x.toArray⟩) (.string ⟨y.toArray⟩)).run P w=.ok u w/\∀G,VR G w v u:=by
 have aRz:∀{z:Bool},∀G,VR G w (.bool z) (.bool z):=fun G=>.bool _;have e1:(⟨x.toArray⟩:ByteArray).toList=x:=ByteArray.toList_mk x;have e2:(⟨y.toArray⟩:ByteArray).toList=y:=ByteArray.toList_mk y;cases op<;>simp only[tt] at h
 case add=>
  split at h
  · rename_i hle;obtain rfl:=Aa h;refine⟨.string (⟨x.toArray⟩++⟨y.toArray⟩),?_,fun G=>?_⟩
    · have h1:(⟨x.toArray⟩:ByteArray).size=x.length:=(by simp[ByteArray.size]);have h2:(⟨y.toArray⟩:ByteArray).size=y.length:=by simp[ByteArray.size]
      have hm:¬(((⟨x.toArray⟩:ByteArray).size+(⟨y.toArray⟩:ByteArray).size:Nat):Int)>IntKind.i64.max:=by rw[h1,h2];have :IntKind.i64.max=9223372036854775807:=(by decide);omega
      simp only[Go.binOp,Op.stringOp,if_neg hm];rfl
    have :(⟨x.toArray⟩++⟨y.toArray⟩:ByteArray)=⟨(x++y).toArray⟩:=by apply ByteArray.ext;simp
    rw[this];exact VR.ZB G w _
  cases h
 all_goals first
  |(cases h;done)
  |(obtain rfl:=Aa h
    refine⟨_,?_,aRz⟩;simp only[Go.binOp,Op.stringOp,e1,e2]
    rfl)
theorem zt {op:BinOp} {t t2:TypeId} {x y:Operand} {x' y':Arg} (ho:o.op=.binOp op t x y t2) (hx:bJ g x=some x') (hy:bJ g y=some y'):cP P g o (.bin op x' y'):=by
 intro s a G H w v H' hw hs h;have vx:=bH hw hs hx;have vy:=bH hw hs hy;simp only[cX] at h;split at h
 · rename_i k m k' n h1 h2;rw[h1] at vx;rw[h2] at vy;have e1:=vx.iQ;have e2:=vy.iQ;simp only[Ag,Ah] at h;obtain⟨v',mS,rfl,rfl⟩:=h;obtain⟨u,hr,hv⟩:=aFu (P:=P) (t:=t) mS w;refine cP.pure' hw (u:=u) ?_ (hv G);have Pb:=uF (P:=P) (op:=op) (t:=t) (x:=x) (y:=y) (u:=.int k m) (v:=.int k' n) w (fun c=>by simp) (by simp);simp[execOp,ho,e1,e2,Pb,hr]
 · rename_i m n h1 h2;rw[h1] at vx;rw[h2] at vy;have e1:=vx.lK;have e2:=vy.lK;simp only[Ag,Ah] at h;obtain⟨v',mS,rfl,rfl⟩:=h;obtain⟨u,hr,hv⟩:=aFv (P:=P) (t:=t) mS w;refine cP.pure' hw (u:=u) ?_ (hv G);have Pb:=uF (P:=P) (op:=op) (t:=t) (x:=x) (y:=y) (u:=.string ⟨m.toArray⟩) (v:=.string ⟨n.toArray⟩) w (fun c=>by simp) (by simp);simp[execOp,ho,e1,e2,Pb,hr]
 cases h
theorem HI (d:Nat) {t:TypeId} (ht:P.underlying t=some .bool) (w:World) (m n:Bool):(Op.equalIn (d+1) t (.bool m) (.bool n)).run P w=.ok (m==n) w:=by rw[Op.equalIn];simp only[Sem.run_bind,run_underlying ht w,Result.andThen_ok];rfl
theorem aSg {op:BinOp} {neg:Bool} {t t2:TypeId} {x y:Operand} {x' y':Arg} (ho:o.op=.binOp op t x y t2) (fP:op=if neg then .neq else .eql) (ht:P.underlying t=some .bool)
 (hx:bJ g x=some x') (hy:bJ g y=some y'):cP P g o (.eqb neg x' y'):=by
 intro s a G H w v H' hw hs h;have vx:=bH hw hs hx;have vy:=bH hw hs hy;simp only[cX] at h;split at h
 · rename_i m n h1 h2;rw[h1] at vx;rw[h2] at vy;have e1:=vx.jU;have e2:=vy.jU;simp only[Ad,Ah] at h;obtain⟨rfl,rfl⟩:=h;refine cP.pure' hw (u:=.bool (if neg then !(m==n) else(m==n))) ?_ (.bool _);have Pb:=uF (P:=P) (op:=op) (t:=t) (x:=x) (y:=y) (u:=.bool m) (v:=.bool n) w (fun c=>by simp) (by simp)
   have heq:(Op.equal t (.bool m) (.bool n)).run P w=.ok (m==n) w:=by exact HI 9999 ht w m n
   subst fP;cases neg<;>simp only[Be,Cm,if_true] at ho Pb<;>simp[execOp,ho,e1,e2,Pb,Go.binOp,heq]
 cases h
theorem bBk {op:UnOp} {t:TypeId} {x:Operand} {x':Arg} (ho:o.op=.unOp op t x) (hx:bJ g x=some x'):cP P g o (.un op x'):=by
 intro s a G H w v H' hw hs h;have vx:=bH hw hs hx;simp only[cX,Ag,Ah] at h;obtain⟨v',mS,rfl,rfl⟩:=h;unfold unA at mS;split at mS
 · rename_i k n h1;rw[h1] at vx;have e1:=vx.iQ;split at mS
   · obtain rfl:=Aa mS;exact cP.pure' hw (u:=.int k (k.wrap (0 -n))) (by simp[execOp,ho,e1,Op.unary,Op.intArith]) (.int _ _)
   · simp only[GX] at mS;obtain rfl:=Aa mS;exact cP.pure' hw (u:=.int k _) (by simp[execOp,ho,e1,Op.unary,Op.intBits]) (.int _ _)
   cases mS
 · rename_i b h1;rw[h1] at vx;have e1:=vx.jU;split at mS
   · obtain rfl:=Aa mS;exact cP.pure' hw (u:=.bool !b) (by simp[execOp,ho,e1,Op.unary]) (.bool _)
   cases mS
 cases mS
theorem zu {src dst:TypeId} {k:IntKind} {d:TypeDesc} {x:Operand} {x':Arg} (ho:o.op=.convert src dst x) (hx:bJ g x=some x') (FE:P.underlying src=some d)
 (hd:P.underlying dst=some (.int k)):cP P g o (.NX k x'):=by
 intro s a G H w v H' hw hs h;have vx:=bH hw hs hx;simp only[cX] at h;split at h
 · rename_i k' n h1;rw[h1] at vx;have e1:=vx.iQ;simp only[Ad,Ah] at h;obtain⟨rfl,rfl⟩:=h;refine cP.pure' hw (u:=.int k (k.wrap n)) ?_ (.int _ _);simp only[execOp,ho,e1,Go.convert,Sem.run_bind,run_underlying FE w,run_underlying hd w,Result.andThen_ok,Conv.intToInt];rfl
 cases h
theorem aGk {t ti:TypeId} {ok:Bool} {d:TypeDesc} {z:AV} {zv:Value} {x:Operand} {x':Arg} (ho:o.op=.typeAssert x ti t ok) (hx:bJ g x=some x')
 (hd:P.underlying t=some d) (hni:∀ms,d≠ .interface ms) (hz:lL P t=some zv) (hzc:ofConst zv=some z):cP P g o (.ZF t ok z x'):=by
 intro s a G H w v H' hw hs h;have vx:=bH hw hs hx;have hzero:=lA hz w;have hzr:=FH hzc G w
 have two:∀{p q:AV} {u1 u2:Value},VR G w p u1->VR G w q u2->VR G w (.jR [p,q]) (.tuple #[u1,u2]):=fun h1 h2=>.jR [_,_] [_,_] rfl (h1.cons (h2.cons (iF.nil G w))).2
 have hh:∀(y:Value) (r:Value),(Instr.typeAssert y ti t ok).run P w=.ok r w->a.eval x=y->(execOp a.eval o).run P w=.ok (.value r) w:=fun y r hr he=>by simp[execOp,ho,he,hr]
 have rV:∀(ms:Array (String×TypeId)),d=TypeDesc.interface ms->False:=fun ms he=>hni ms he;simp only[cX] at h;split at h
 · rename_i t' y h1;rw[h1] at vx;generalize eG:a.eval x=u at vx
   cases vx with
   |iface _ _ yv hy=>
    split at h
    · rename_i htt;subst htt;simp only[Ad,Ah] at h;obtain⟨rfl,rfl⟩:=h;refine cP.pure' hw (u:=if ok then .tuple #[yv,.bool true] else yv) (hh _ _ ?_ eG) (by cases ok<;>simp <;>first|exact hy|exact two hy (.bool true));unfold Instr.typeAssert;simp only[Sem.run_bind,run_underlying hd w,Result.andThen_ok]
      cases d<;>first|exact absurd rfl (hni _)|simp
    rename_i htt;split at h
    · rename_i pG;simp only[Ad,Ah] at h;obtain⟨rfl,rfl⟩:=h;refine cP.pure' hw (u:=.tuple #[zv,.bool false]) (hh _ _ ?_ eG) (two hzr (.bool false));unfold Instr.typeAssert;simp only[Sem.run_bind,run_underlying hd w,Result.andThen_ok]
      cases d<;>first|exact absurd rfl (hni _)|simp[htt,pG,hzero]
    cases h
 · rename_i h1;rw[h1] at vx;generalize eG:a.eval x=u at vx;cases vx;split at h
   · rename_i pG;simp only[Ad,Ah] at h;obtain⟨rfl,rfl⟩:=h;refine cP.pure' hw (u:=.tuple #[zv,.bool false]) (hh _ _ ?_ eG) (two hzr (.bool false));unfold Instr.typeAssert;simp only[Sem.run_bind,run_underlying hd w,Result.andThen_ok]
     cases d<;>first|exact absurd rfl (hni _)|simp[pG,hzero]
   cases h
 cases h
end
end
end Go.Av
