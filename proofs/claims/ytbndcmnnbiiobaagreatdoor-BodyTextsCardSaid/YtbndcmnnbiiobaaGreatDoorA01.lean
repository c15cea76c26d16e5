/-
  Part of the proof of statement 5
-/
import Derived.Calls
import Derived.Orders
import Derived.Laws.Sem
import Derived.Laws.Cells
import Derived.Laws.Entries
import Derived.Laws.Strings
set_option linter.unusedVariables false
set_option linter.unusedSimpArgs false
set_option linter.defProp false
namespace Go
def Aa:=@Option.some.inj
def Ab:=@List.getElem?_eq_getElem
def Ac:=@Option.some.injEq
def Ad:=@List.length_map
def Ae:=@decide_eq_false
def Af:=@Nat.le_of_ble_eq_true
def Ag:=@Option.map_eq_some_iff
def Ah:=@List.length_cons
def Ai:=@List.getElem_mem
def Aj:=@Prod.mk.injEq
def Ak:=@Nat.le_refl
def Al:=@decide_eq_true
def Am:=@Bool.and_eq_true
def An:=@List.length_append
def Ao:=@congrArg
def Ap:=@List.take_add_one
def Aq:=@List.mem_cons
def Ar:=@List.take_length
def As:=@List.mem_append
def Au:=@List.mem_cons_self
def Aw:=@List.mem_cons_of_mem
def Ax:=@Nat.not_lt_zero
def Ay:=@List.length_nil
def Az:=@decide_eq_decide
def Ba:=@List.all_eq_true
def Bb:=@Nat.zero_le
def Bc:=@Option.getD_some
def Bd:=@Option.isSome_some
def Be:=@List.getElem?_eq_some_iff
def Bf:=@List.mem_map
def Bg:=@Nat.eq_of_beq_eq_true
def Bh:=@decide_eq_true_eq
def Bi:=@List.mem_range
def Bj:=@Bool.false_eq_true
def Bk:=@List.take_of_length_le
def Bl:=@List.drop_of_length_le
def Bm:=@Nat.add_assoc
def Bn:=@Array.getD_eq_getD_getElem?
def Bo:=@List.getElem?_map
def Bp:=@List.flatten_cons
def Bq:=@List.mem_singleton
def Br:=@Nat.le_trans
def Bs:=@List.length_range
def Bt:=@Option.map_some
def Bu:=@Option.isSome_none
def Bv:=@Nat.mul_le_mul
def Bw:=@List.getElem?_eq_none
def Bx:=@List.not_mem_nil
def By:=@List.map_cons
def Bz:=@List.append_nil
def Ca:=@beq_eq_false_iff_ne
def Cb:=@List.length_take
def Cc:=@decide_eq_false_iff_not
def Cd:=@Array.getElem?_eq_some_iff
def Ce:=@Nat.add_mul
def Cf:=@Nat.lt_of_lt_of_le
def Cg:=@Nat.lt_trans
def Ch:=@List.map_append
def Ci:=@List.getD_cons_zero
def Cj:=@Nat.mul_le_mul_right
def Ck:=@List.getD_eq_getElem?_getD
def Cl:=@List.flatMap_cons
def Cm:=@if_false
def Cn:=@Nat.mod_eq_of_lt
def Co:=@List.getElem_map
def Cp:=@Classical.byContradiction
def Cq:=@Bool.true_and
def Cr:=@List.pairwise_cons
def Cs:=@List.eq_nil_of_length_eq_zero
def Ct:=@Bool.not_eq_true'
def Cu:=@Int.tmod_eq_emod_of_nonneg
def Cv:=@List.getElem_of_mem
def Cw:=@List.append_assoc
def Cx:=@List.mem_of_mem_take
def Cy:=@List.drop_zero
def Cz:=@List.any_eq_true
def Da:=@Nat.mul_comm
def Db:=@List.take_append_of_le_length
def Dc:=@beq_iff_eq
def Dd:=@Nat.pow_succ
def De:=@Nat.mod_lt
def Df:=@Nat.zero_add
def Dg:=@Option.getD_none
def Dh:=@Array.length_toList
def Di:=@Nat.add_zero
def Dj:=@List.length_filter_le
def Dk:=@List.nil_append
def Dl:=@Nat.mul_one
def Dm:=@List.drop_eq_getElem_cons
def Dn:=@List.take_succ_cons
def Dp:=@List.map_map
def Dq:=@Nat.pow_le_pow_right
def Dr:=@List.getElem?_append
def Ds:=@Bool.and_self
def Dt:=@Bool.or_eq_true
def Du:=@Bool.eq_iff_iff
def Dv:=@List.replicate_succ
def Dw:=@List.getD_cons_succ
def Dx:=@Array.getElem?_eq_getElem
def Dy:=@List.length_drop
def Ea:=@of_decide_eq_true
def Eb:=@List.take_zero
def Ec:=@Option.toList_some
def Ed:=@Nat.div_lt_iff_lt_mul
def Ee:=@List.map_eq_nil_iff
def Ef:=@List.map_congr_left
def Eg:=@List.length_set
def Eh:=@Nat.div_eq_of_lt
def Ei:=@List.cons_append
def Ej:=@Nat.mul_add
def Ek:=@of_decide_eq_false
def El:=@bne_iff_ne
def Em:=@or_false
def En:=@List.mem_flatMap
def Eo:=@Int.gcd_dvd_right
def Ep:=@List.getElem?_cons_zero
def Er:=@Nat.lt_of_le_of_lt
def Es:=@List.mem_of_mem_drop
def Et:=@List.exists_cons_of_ne_nil
def Eu:=@Int.tdiv_eq_ediv_of_nonneg
def Ev:=@Nat.mul_assoc
def Ew:=@Nat.lt_succ_self
def Ex:=@List.getElem?_append_left
def Ey:=@Nat.mul_le_mul_left
def Ez:=@List.flatten_append
def Fa:=@List.flatMap_append
def Fb:=@Int.mul_le_mul_of_nonneg_left
def Fc:=@List.getElem?_toArray
def Fe:=@Nat.lt_irrefl
def Ff:=@List.eq_of_mem_replicate
def Fg:=@Nat.succ_mul
def Fh:=@Nat.div_add_mod
def Fj:=@List.range_succ
def Fk:=@Int.natAbs_natCast
def Fl:=@Int.lt_or_eq_of_le
def Fm:=@decide_false
def Fo:=@List.any_eq_false
def Fp:=@Int.lt_trichotomy
def Fq:=@Array.ext'
def Fs:=@Decidable.byContradiction
def Ft:=@List.getElem?_drop
def Fu:=@List.eq_nil_iff_forall_not_mem
def Fv:=@Bool.not_false
def Fx:=@bne_self_eq_false
def Fy:=@List.length_eq_zero_iff
def Fz:=@List.getElem?_replicate
def Ga:=@List.mem_filter
def Gb:=@Array.getElem?_setIfInBounds
def Gc:=@Nat.div_div_eq_div_mul
def Gd:=@Bool.and_true
def Ge:=@List.ext_getElem
def Gf:=@Int.gcd_dvd_left
def Gg:=@Bool.not_eq_true
def Gi:=@Nat.eq_zero_or_pos
def Gj:=@List.getElem?_take
def Gk:=@List.take_append_drop
def Gl:=@List.length_replicate
def Gm:=@Bool.beq_eq_decide_eq
def Gn:=@List.pairwise_iff_getElem
def Gp:=@decide_true
def Gq:=@Nat.one_mul
def Gr:=@List.size_toArray
def Gs:=@List.getElem?_set_ne
def Gt:=@List.foldl_append
def Gu:=@List.ext_getElem?
def Gv:=@Nat.blt_eq
def Gw:=@List.getElem?_range
def Gx:=@List.drop_succ_cons
def Gy:=@List.getElem?_cons_succ
def Gz:=@List.countP_cons
def Ha:=@Int.natAbs_mul
def Hb:=@Nat.le_succ
def Hc:=@List.map_id
def Hd:=@decide_not
def Hg:=@Nat.lt_or_ge
def Hh:=@Nat.add_comm
def Hi:=@List.mem_filterMap
def Hj:=@List.getElem?_set_self
def Hk:=@Int.mul_zero
def Hl:=@List.cons.injEq
def Hn:=@List.all_append
def Ho:=@Int.dvd_trans
def Hq:=@Bool.not_true
def Hr:=@Array.getElem?_modify
def Ht:=@List.getElem?_set
def Hu:=@List.all_eq_false
def Hv:=@List.Pairwise.imp
def Hw:=@Int.mul_lt_mul_of_pos_right
def Hz:=@Nat.add_mul_div_left
def Ia:=@List.mem_iff_getElem
def Ib:=@List.getElem?_append_right
def Ic:=@Nat.zero_mul
def Ie:=@Nat.sub_zero
def Ig:=@Nat.le_add_right
def Ih:=@List.drop_append
def Ii:=@List.extract_eq_take_drop
def Ij:=@List.length_pos_iff
def Ik:=@List.all_cons
def Il:=@List.count_cons
def Im:=@List.getElem_range
def Io:=@List.find?_eq_none
def Ip:=@Nat.add_left_cancel_iff
def Iq:=@Int.tdiv_eq_ediv_of_dvd
def Ir:=@List.set_eq_take_append_cons_drop
def Is:=@not_false_eq_true
def It:=@Nat.lt_trichotomy
def Iu:=@Nat.le_mul_of_pos_left
def Iv:=@List.pairwise_map
def Iw:=@List.map_nil
def Ix:=@List.drop_drop
def Iy:=@List.singleton_append
def Iz:=@List.filterMap_append
def Ja:=@List.eq_nil_or_concat
def Jb:=@Classical.choose_spec
def Jc:=@beq_self_eq_true
def Jd:=@Nat.le_of_not_lt
def Je:=@List.take_append
def Jf:=@Array.toList_map
def Jg:=@List.mem_of_getElem?
def Jh:=@List.drop_append_of_le_length
def Ji:=@Int.neg_mul
def Jj:=@Int.mul_pos
def Jk:=@Nat.min_eq_left
def Jl:=@Nat.div_le_self
def Jm:=@List.foldl_cons
def Jn:=@List.any_append
def Jo:=@Int.ne_of_gt
def Jp:=@UInt8.toNat_ofNat'
def Jq:=@Nat.add_sub_cancel
def Jr:=@List.filter_append
def Js:=@Int.fdiv_eq_ediv_of_nonneg
def Jt:=@Bool.false_and
def Ju:=@List.mem_or_eq_of_mem_set
def Jv:=@Int.eq_of_mul_eq_mul_left
def Jw:=@List.Pairwise.imp_of_mem
def Jx:=@true_and
def Jy:=@Option.bind_some
def Jz:=@List.flatMap_nil
def Ka:=@List.filter_cons
def Kb:=@List.drop_length
def Kc:=@Nat.sub_self
def Kd:=@Nat.pow_zero
def Ke:=@Nat.mul_zero
def Kf:=@List.pairwise_lt_range
def Kg:=@Int.lt_asymm
def Kh:=@Array.toList_replicate
def Ki:=@Array.getElem?_eq_none
def Kj:=@List.nodup_cons
def Kk:=@List.filter_nil
def Kl:=@Int.mul_eq_zero
def Km:=@List.sizeOf_lt_of_mem
def Kn:=@Bool.and_eq_false_iff
def Ko:=@Array.getElem?_toList
def Kq:=@and_true
def Kr:=@Nat.pow_pos
def Ks:=@Nat.pow_add
def Ku:=@Nat.div_one
def Kv:=@List.range_eq_range'
def Kw:=@List.nodup_nil
def Kx:=@Int.natAbs_neg
def Ky:=@Int.mul_ediv_cancel'
def Kz:=@Bool.or_eq_false_iff
def Lc:=@List.reverse_append
def Ld:=@List.length_reverse
def Le:=@Int.toNat_of_nonneg
def Lf:=@Int.neg_ediv_of_dvd
def Lg:=@Array.toList_append
def Lh:=@Array.getElem?_push
def Li:=@List.drop_nil
def Lj:=@Bool.or_false
end Go
namespace Go.Av
open Go
inductive AV where
 |bool (b:Bool)
 |int (k:IntKind) (n:Int)
 |str (s:List UInt8)
 |Lv
 |ref (id off:Nat)
 |pl (cells:List AV)
 |aS
 |aV (tag sz:Nat) (els:List (List AV))
 |sl (id sz off len cap:Nat)
 |func (fn:Fn) (first captured:List AV)
 |BX
 |iface (t:TypeId) (v:AV)
 |pW
 |agg (cs:List AV)
 |gP (vs:List AV)
 |map (id:Nat)
 |sU
 |yield (id:Nat)
instance:Inhabited AV:=⟨.Lv⟩
def aD:AV:=.gP []
def AV.one:AV->Bool
 |.agg _|.gP _=>false
 |_=>true
def AV.EV:AV->Bool
 |.gP _=>true
 |_=>false
def AV.cells:AV->List AV
 |.agg cs=>cs
 |v=>[v]
inductive Arg where
 |tmp (t:Nat)
 |const (v:AV)
 |iF (g:Nat)
inductive Sk where
 |b|i|s
 |f (sh:List Sk)
inductive Nk where
 |ptr|ifc|sli|mp|fn
 deriving DecidableEq
inductive dX where
 |Ni (x:Arg)
 |pick (c a b:Arg)
 |alloc (zero:List AV)
 |box (x:Arg)
 |build (zero:List AV) (parts:List (Nat×Nat×Arg))
 |Pg (sz:Nat) (parts:List Arg)
 |load (agg:Bool) (n:Nat) (a:Arg)
 |store (n:Nat) (a x:Arg)
 |bin (op:BinOp) (x y:Arg)
 |eqb (neg:Bool) (x y:Arg)
 |eqf (neg:Bool) (shape:List Sk) (x y:Arg)
 |eqn (neg:Bool) (k:Nk) (lit:Bool) (x y:Arg)
 |un (op:UnOp) (x:Arg)
 |OZ (k:IntKind) (x:Arg)
 |CO (x:Arg)
 |EL (x:Arg)
 |cj (n:Nat) (x:Arg)
 |Zr (t:TypeId) (x:Arg)
 |Zq (fn:Fn) (first cap:List Arg)
 |AF
 |jE (sz bytes:Nat) (zero:List AV) (l c:Arg)
 |QQ (x:Arg) (lo hi:Option Arg)
 |cm (sz:Nat) (x:Arg) (lo hi mx:Option Arg)
 |FD (n sz:Nat) (x:Arg) (lo hi mx:Option Arg)
 |ZD (off:Nat) (x:Arg)
 |UD (arr:Option Nat) (sz:Nat) (x i:Arg)
 |idx (n sz:Nat) (agg:Bool) (x i:Arg)
 |idxs (x i:Arg)
 |cy (t:TypeId) (ok:Bool) (zero:AV) (x:Arg)
 |ZB (x:Arg) (i:Nat)
 |lens (x:Arg)
 |Zi (x:Arg)
 |Wy (x y:Arg)
 |XA (x y:Arg)
 |clr (sz:Nat) (zero:List AV) (x:Arg)
 |append (sz bytes:Nat) (mu:Bool) (x y:Arg)
 |lookup (kind:Sk) (zero:AV) (ok:Bool) (x i:Arg)
 |Pd (kind:Sk) (m k v:Arg)
 |wG (x:Arg)
 |EW (x:Arg)
 |zC (x:Arg)
 |call (f:Arg) (args:List Arg)
 |panic (x:Arg)
 |jY (f:Arg) (args:List Arg)
structure bC where
 dst:Option Nat
 op:dX
 guard:Option (Nat×Bool)
inductive bV where
 |skip
 |ops (rl:List bC)
 |draw (rl:List bC) (pairs:List (Nat×Nat))
 |seq (a b:bV)
 |cond (c:Arg) (a b:bV)
 |block (id:Nat) (a:bV)
 |loop (a:bV)
 |exit (id:Nat)
 |ret
 |oE (c:Arg) (ps:List Nat) (MK body:bV)
structure LD where
 ps:List Nat
 MK:bV
 body:bV
structure bB where
 val:Nat->Option (List AV)
 lok:LD->Loop->Prop
instance:CoeFun bB (fun _=>Nat->Option (List AV)):=⟨bB.val⟩
def bB.mo (g:bB):Bool:=(g.val 999999999).isNone
def g0:bB:=⟨fun _=>none,fun _ _=>False⟩
inductive LEx where
 |ret
 |exit (id:Nat)
inductive LSt where
 |ready
 |busy
 |done (e:LEx)
 |over (e:Option LEx)
inductive dY where
 |cells (cs:List AV) (opn:Bool)
 |tok
 |map (es:List (AV×AV))
 |tK (es:List (AV×AV)) (bs:List Nat) (c mb:Nat)
 |iter (m mb c:Nat) (seen:List Nat)
 |loop (k:LD) (sn:List AV) (st:LSt)
 |MO
 |dfx
 |dead
def dY.cS:dY->Bool
 |.map _|.tK _ _ _ _|.iter _ _ _ _|.loop _ _ _|.MO|.dfx=>true
 |_=>false
def LEx.code:LEx->Code
 |.ret=>.ret
 |.exit id=>.exit id
def nA (r:Loop):LSt->Loop
 |.ready=>{r with state:=.ready,pending:=none}
 |.busy=>{r with state:=.busy,pending:=none}
 |.done e=>{r with state:=.done,pending:=some e.code}
 |.over e=>{r with state:=.exhausted,pending:=e.map LEx.code}
def dY.live:dY->Bool
 |.dead=>false
 |_=>true
inductive Tr where
 |nil
 |node (o:Option dY) (l r:Tr)
def Tr.get:Tr->Nat->Option dY
 |.nil,_=>none
 |.node o l r,n=>if n=0 then o else if n%2=1 then l.get (n / 2) else r.get (n / 2 -1)
def Tr.root:Tr->Option dY
 |.nil=>none
 |.node o _ _=>o
def Tr.left:Tr->Tr
 |.nil=>.nil
 |.node _ l _=>l
def Tr.right:Tr->Tr
 |.nil=>.nil
 |.node _ _ r=>r
def Tr.CK:Nat->Tr->Nat->dY->Tr
 |0,t,_,o=>.node (some o) t.left t.right
 |f+1,t,n,o=>
  if n=0 then .node (some o) t.left t.right
  else if n%2=1 then .node t.root (Tr.CK f t.left (n / 2) o) t.right
  else .node t.root t.left (Tr.CK f t.right (n / 2 -1) o)
def Tr.set (t:Tr) (n:Nat) (o:dY):Tr:=Tr.CK n t n o
theorem Tr.fp (t:Tr) (n:Nat):t.get n=if n=0 then t.root else if n%2=1 then t.left.get (n / 2) else t.right.get (n / 2 -1):=by
 cases t with
 |nil=>simp[Tr.get,Tr.root,Tr.left,Tr.right]
 |node o l r=>simp[Tr.get,Tr.root,Tr.left,Tr.right]
theorem Tr.IQ:∀(f:Nat) (t:Tr) (n:Nat) (o:dY) (m:Nat),n<=f->(Tr.CK f t n o).get m=if m=n then some o else t.get m:=by
 intro f
 induction f with
 |zero=>
  intro t n o m hn;obtain rfl:n=0:=by omega
  rw[Tr.fp t m];simp only[Tr.CK,Tr.get];by_cases hm:m=0<;>simp[hm]
 |succ f ih=>
  intro t n o m hn;rw[Tr.fp t m];simp only[Tr.CK];by_cases h0:n=0
  · subst h0;simp only[if_true,Tr.get];by_cases hm:m=0<;>simp[hm]
  by_cases aHj:n%2=1
  · simp only[h0,aHj,if_true,Cm,Tr.get];by_cases hm:m=0
    · have :¬m=n:=(by omega);simp[hm,Ne.symm h0]
    by_cases hmo:m%2=1
    · simp only[hm,hmo,if_true,Cm];rw[ih _ _ _ _ (by omega)];by_cases he:m=n
      · simp[he]
      rw[if_neg he,if_neg (by omega)]
    simp only[hm,hmo,Cm];rw[if_neg (by intro he;subst he;exact hmo aHj)]
  simp only[h0,aHj,Cm,Tr.get];by_cases hm:m=0
  · simp[hm,Ne.symm h0]
  by_cases hmo:m%2=1
  · simp only[hm,hmo,if_true,Cm];rw[if_neg (by intro he;subst he;exact aHj hmo)]
  simp only[hm,hmo,Cm];rw[ih _ _ _ _ (by omega)];by_cases he:m=n
  · simp[he]
  rw[if_neg he,if_neg (by omega)]
structure aA where
 next:Nat
 tr:Tr
def aA.get (H:aA) (id:Nat):Option dY:=H.tr.get id
def aA.set (H:aA) (id:Nat) (o:dY):aA:={H with tr:=H.tr.set id o}
def aA.alloc (H:aA) (o:dY):aA:={next:=H.next+1,tr:=H.tr.set H.next o}
theorem aA.aC (H:aA) (id:Nat) (o:dY) (m:Nat):(H.set id o).get m=if m=id then some o else H.get m:=
 Tr.IQ _ _ _ _ _ (Ak _)
theorem aA.aF (H:aA) (o:dY) (m:Nat):(H.alloc o).get m=if m=H.next then some o else H.get m:=
 Tr.IQ _ _ _ _ _ (Ak _)
@[simp] theorem aA.aX (H:aA) (id:Nat) (o:dY):(H.set id o).next=H.next:=rfl
@[simp] theorem aA.bJ (H:aA) (o:dY):(H.alloc o).next=H.next+1:=rfl
def Arg.eval (g:bB) (s:List AV):Arg->AV
 |.tmp t=>s.getD t aD
 |.const v=>v
 |.iF n=>match g n with
  |some cs=>.pl cs
  |none=>aD
def eR (sz:Nat):Nat->List AV->List (List AV)
 |0,_=>[]
 |n+1,cs=>cs.take sz::eR sz n (cs.drop sz)
def gO (cs:List AV) (off:Nat) (vs:List AV):List AV:=cs.take off++vs++cs.drop (off+vs.length)
def IK (ev:Arg->AV):List AV->List (Nat×Nat×Arg)->Option (List AV)
 |cs,[]=>some cs
 |cs,(off,n,x)::rest=>
  let vs:=(ev x).cells
  if vs.length=n/\off+n<=cs.length/\(ev x).EV=false then IK ev (gO cs off vs) rest else none
def Lt (ev:Arg->AV) (sz:Nat):List Arg->Option (List (List AV))
 |[]=>some []
 |x::rest=>
  let vs:=(ev x).cells
  if vs.length=sz/\(ev x).EV=false then(Lt ev sz rest).map (vs:: ·) else none
def cP:List Sk->List AV->List AV->Option Bool
 |[],[],[]=>some true
 |.b::ks,.bool a::xs,.bool b::ys=>(cP ks xs ys).map ((a==b)&& ·)
 |.i::ks,.int j a::xs,.int k b::ys=>if j=k then(cP ks xs ys).map ((a==b)&& ·) else none
 |.s::ks,.str a::xs,.str b::ys=>(cP ks xs ys).map ((a==b)&& ·)
 |_,_,_=>none
def BS (k:Nk):AV->Option Bool
 |.Lv=>if k=.ptr then some true else none
 |.ref _ _|.pl _=>if k=.ptr then some false else none
 |.aS=>if k=.sli then some true else none
 |.aV _ _ _|.sl _ _ _ _ _=>if k=.sli then some false else none
 |.pW=>if k=.ifc then some true else none
 |.iface _ _=>if k=.ifc then some false else none
 |.BX=>if k=.fn then some true else none
 |.func _ _ _=>if k=.fn then some false else none
 |.sU=>if k=.mp then some true else none
 |.map _=>if k=.mp then some false else none
 |_=>none
def IC (op:BinOp) (k:IntKind) (x y:Int):Option AV:=
 let a:=BitVec.ofInt k.bits x;let b:=BitVec.ofInt k.bits y
 match op with
 |.and=>some (.int k (k.wrap (a&&& b).toNat))
 |.or=>some (.int k (k.wrap (a|||b).toNat))
 |.xor=>some (.int k (k.wrap (a^^^b).toNat))
 |.andNot=>some (.int k (k.wrap (a&&& ~~~b).toNat))
 |_=>none
def qF (op:BinOp) (k:IntKind) (a:Int) (k':IntKind) (b:Int):Option AV:=
 match op with
 |.shl=>if b<0 then none else some (.int k (k.wrap (a*2^(min b.toNat k.bits))))
 |.shr=>if b<0 then none else some (.int k (a.fdiv (2^(min b.toNat k.bits))))
 |.add=>if k=k' then some (.int k (k.wrap (a+b))) else none
 |.sub=>if k=k' then some (.int k (k.wrap (a -b))) else none
 |.mul=>if k=k' then some (.int k (k.wrap (a*b))) else none
 |.quo=>if k=k' then(if b=0 then none else some (.int k (k.wrap (a.tdiv b)))) else none
 |.rem=>if k=k' then(if b=0 then none else some (.int k (a.tmod b))) else none
 |.and|.or|.xor|.andNot=>if k=k' then IC op k a b else none
 |.eql=>if k=k' then some (.bool (a==b)) else none
 |.neq=>if k=k' then some (.bool (a != b)) else none
 |.lss=>if k=k' then some (.bool (a<b)) else none
 |.leq=>if k=k' then some (.bool (a<=b)) else none
 |.gtr=>if k=k' then some (.bool (a>b)) else none
 |.geq=>if k=k' then some (.bool (a≥b)) else none
def qL (op:BinOp) (x y:List UInt8):Option AV:=
 let eq:=x==y;let lt:=Op.bytesLess x y
 match op with
 |.add=>if x.length+y.length<=2^40 then some (.str (x++y)) else none
 |.eql=>some (.bool eq)
 |.neq=>some (.bool !eq)
 |.lss=>some (.bool lt)
 |.leq=>some (.bool (lt||eq))
 |.gtr=>some (.bool !(lt||eq))
 |.geq=>some (.bool !lt)
 |_=>none
def unA (op:UnOp):AV->Option AV
 |.int k n=>match op with
  |.neg=>some (.int k (k.wrap (0 -n)))
  |.xor=>IC .xor k (if k.signed then -1 else k.max) n
  |_=>none
 |.bool b=>match op with
  |.not=>some (.bool !b)
  |_=>none
 |_=>none
def asNat:AV->Option Nat
 |.int _ n=>if 0<=n then some n.toNat else none
 |_=>none
def cZ (ev:Arg->AV):Option Arg->Option (Option Nat)
 |none=>some none
 |some x=>(asNat (ev x)).map some
def Qs (s:List UInt8):List (List AV):=s.map fun b=>[.int .u8 b.toNat]
def bytesOf:List (List AV)->Option (List UInt8)
 |[]=>some []
 |[.int .u8 n]::rest=>(bytesOf rest).map (UInt8.ofNat n.toNat:: ·)
 |_=>none
def aA.eP (H:aA) (id:Nat):Option (List AV):=
 match H.get id with
 |some (.cells cs _)=>some cs
 |_=>none
def dM (H:aA) (sz:Nat):AV->Option (List (List AV))
 |.aS=>some []
 |.aV _ eO els=>if eO=sz then some els else none
 |.str s=>if sz=1 then some (Qs s) else none
 |.sl id eO off len _=>
  if eO=sz then
   match H.eP id with
   |some cs=>if off+len*sz<=cs.length then some (eR sz len (cs.drop off)) else none
   |none=>none
  else none
 |_=>none
def iO (H:aA) (mu:Bool) (sz:Nat) (els:List (List AV)):AV×aA:=
 if mu then(.sl H.next sz 0 els.length els.length,H.alloc (.cells els.flatten true))
 else(.aV (H.next+2) sz els,H.alloc .tok)
def dU (H:aA) (sz bytes:Nat) (mu:Bool) (x:AV) (ys:List (List AV)):Option (AV×aA):=
 if ys.isEmpty then
  match x with
  |.aS|.aV _ _ _|.sl _ _ _ _ _=>some (x,H)
  |_=>none
 else
 match x with
 |.aS=>if ys.length*bytes<=2^40 then some (iO H mu sz ys) else none
 |.aV tag eO els=>
  if eO=sz/\(els.length+ys.length)*bytes<=2^40 then
   match tag with
   |0=>none
   |1=>some (iO H mu sz (els++ys))
   |k+2=>
    match H.get k with
    |some .tok=>some (.aV (H.next+2) sz (els++ys),(H.set k .dead).alloc .tok)
    |_=>none
  else none
 |.sl id eO off len cap=>
  if eO=sz/\(len+ys.length)*bytes<=2^40/\1<=sz then
   match H.get id with
   |some (.cells cs opn)=>
    if len+ys.length<=cap then
     if off+cap*sz<=cs.length then
      some (.sl id sz off (len+ys.length) cap,H.set id (.cells (gO cs (off+len*sz) ys.flatten) opn))
     else none
    else if off+len*sz<=cs.length/\(opn=false\/off+cap*sz<cs.length) then
     some (iO H mu sz (eR sz len (cs.drop off)++ys))
    else if mu=true/\off=0/\len=cap/\cs.length=len*sz then
     some (.sl H.next sz 0 (len+ys.length) (len+ys.length),(H.set id .dead).alloc (.cells (cs++ys.flatten) true))
    else none
   |_=>none
  else none
 |_=>none
def iY (sz:Nat) (x:AV) (lo hi mx:Option Nat):Option AV:=
 match x with
 |.aS=>if lo.getD 0=0/\hi.getD 0=0/\mx.getD 0=0 then some .aS else none
 |.aV tag eO els=>
  let l:=lo.getD 0;let h:=hi.getD els.length
  if eO=sz/\l<=h/\h<=els.length then
   match mx with
   |some m=>
    if h<=m/\m<=els.length then
     some (.aV (if m=h then 1 else 0) sz ((els.drop l).take (h -l)))
    else none
   |none=>
    if h=els.length/\(l<h\/tag<2) then some (.aV tag sz (els.drop l))
    else some (.aV 0 sz ((els.drop l).take (h -l)))
  else none
 |.sl id eO off len cap=>
  let l:=lo.getD 0;let h:=hi.getD len
  if eO=sz/\l<=h then
   match mx with
   |some m=>
    if h<=m/\m<=cap then
     if m=l then some (.sl id sz off 0 0) else some (.sl id sz (off+l*sz) (h -l) (m -l))
    else none
   |none=>
    if h<=cap then
     if l=cap then some (.aV 0 sz []) else some (.sl id sz (off+l*sz) (h -l) (cap -l))
    else none
  else none
 |_=>none
def tU (H:aA) (n sz:Nat) (x:AV) (lo hi mx:Option Nat):Option AV:=
 let l:=lo.getD 0;let m:=mx.getD n;let h:=hi.getD n
 if l<=h/\h<=m/\m<=n/\(mx.isSome->hi.isSome) then
  match x with
  |.ref id o=>
   match H.eP id with
   |some cs=>if o+n*sz<=cs.length then(if m=l then some (.sl id sz o 0 0) else some (.sl id sz (o+l*sz) (h -l) (m -l))) else none
   |none=>none
  |.pl cs=>if n*sz<=cs.length then some (.aV (if m=h then 1 else 0) sz ((eR sz n cs).drop l |>.take (h -l))) else none
  |_=>none
 else none
def sameKey (k:Sk):AV->AV->Option Bool
 |.int j a,.int j' b=>match k with
  |.i=>if j=j' then some (a==b) else none
  |_=>none
 |.str a,.str b=>match k with
  |.s=>some (a==b)
  |_=>none
 |.bool a,.bool b=>match k with
  |.b=>some (a==b)
  |_=>none
 |.agg xs,.agg ys=>match k with
  |.f sh=>cP sh xs ys
  |_=>none
 |_,_=>none
def lZ (k:Sk) (x:AV):List (AV×AV)->Nat->Option (Option (Nat×AV))
 |[],_=>some none
 |(y,v)::es,i=>
  match sameKey k x y with
  |some true=>some (some (i,v))
  |some false=>lZ k x es (i+1)
  |none=>none
def PS (k:Sk):AV->Bool
 |.int _ _=>match k with|.i=>true|_=>false
 |.str _=>match k with|.s=>true|_=>false
 |.bool _=>match k with|.b=>true|_=>false
 |.agg xs=>match k with|.f sh=>decide (xs.length=sh.length)|_=>false
 |_=>false
def yQ (ev:Arg->AV):dX->Option (dY×(Nat->AV))
 |.alloc zero=>some (.cells zero false,fun id=>.ref id 0)
 |.box x=>if(ev x).EV then none else some (.cells (ev x).cells false,fun id=>.ref id 0)
 |.AF=>some (.map [],fun id=>.map id)
 |.jE sz bytes zero l c=>match asNat (ev l),asNat (ev c) with
  |some l,some c=>if l<=c/\bytes*c<=2^40/\zero.length=sz then some (.cells (List.replicate c zero).flatten false,fun id=>.sl id sz 0 l c) else none
  |_,_=>none
 |.CO x=>match ev x with
  |.str s=>some (.tok,fun id=>.aV (id+2) 1 (Qs s))
  |_=>none
 |_=>none
def dK (ev:Arg->AV) (H:aA):dX->Option (AV×aA)
 |.Ni x=>some (ev x,H)
 |.pick c a b=>match ev c with
  |.bool t=>some (if t then ev a else ev b,H)
  |_=>none
 |.alloc zero=>(yQ ev (.alloc zero)).map fun p=>(p.2 H.next,H.alloc p.1)
 |.box x=>(yQ ev (.box x)).map fun p=>(p.2 H.next,H.alloc p.1)
 |.build zero parts=>(IK ev zero parts).map fun cs=>(.agg cs,H)
 |.Pg sz parts=>(Lt ev sz parts).map fun els=>(.aV 1 sz els,H)
 |.load agg n a=>match ev a with
  |.ref id off=>match H.eP id with
   |some cs=>if off+n<=cs.length then(if agg then some (.agg ((cs.drop off).take n),H) else if n=1 then some (cs.getD off aD,H) else none) else none
   |none=>none
  |.pl cs=>if n<=cs.length then(if agg then some (.agg (cs.take n),H) else if n=1 then some (cs.getD 0 aD,H) else none) else none
  |_=>none
 |.store n a x=>match ev a with
  |.ref id off=>match H.get id with
   |some (.cells cs opn)=>
    let vs:=(ev x).cells
    if vs.length=n/\off+n<=cs.length/\(ev x).EV=false then some (aD,H.set id (.cells (gO cs off vs) opn)) else none
   |_=>none
  |_=>none
 |.bin op x y=>match ev x,ev y with
  |.int k a,.int k' b=>(qF op k a k' b).map (·,H)
  |.str a,.str b=>(qL op a b).map (·,H)
  |_,_=>none
 |.eqb neg x y=>match ev x,ev y with
  |.bool a,.bool b=>some (.bool (if neg then !(a==b) else(a==b)),H)
  |_,_=>none
 |.eqf neg shape x y=>match ev x,ev y with
  |.agg xs,.agg ys=>(cP shape xs ys).map fun e=>(.bool (if neg then !e else e),H)
  |_,_=>none
 |.eqn neg k lit x y=>match BS k (ev x),BS k (ev y) with
  |some a,some b=>if(a||b)&&(k != .ifc|| !(a&&b)||lit) then some (.bool (if neg then !(a&&b) else(a&&b)),H) else none
  |_,_=>none
 |.un op x=>(unA op (ev x)).map (·,H)
 |.OZ k x=>match ev x with
  |.int _ n=>some (.int k (k.wrap n),H)
  |_=>none
 |.CO x=>(yQ ev (.CO x)).map fun p=>(p.2 H.next,H.alloc p.1)
 |.EL x=>match ev x with
  |.str _=>none
  |v=>match dM H 1 v with
   |some els=>(bytesOf els).map fun s=>(.str s,H)
   |none=>none
 |.cj n x=>match ev x with
  |.aV _ _ els=>if n<=els.length/\1<=els.length then some (.pl els.flatten,H) else none
  |.sl id _ off len _=>if n<=len then some (.ref id off,H) else none
  |_=>none
 |.Zr t x=>some (.iface t (ev x),H)
 |.Zq fn first cap=>some (.func fn (first.map ev) (cap.map ev),H)
 |.AF=>(yQ ev .AF).map fun p=>(p.2 H.next,H.alloc p.1)
 |.jE sz bytes zero l c=>(yQ ev (.jE sz bytes zero l c)).map fun p=>(p.2 H.next,H.alloc p.1)
 |.QQ x lo hi=>match ev x,cZ ev lo,cZ ev hi with
  |.str s,some lo,some hi=>
   let l:=lo.getD 0;let h:=hi.getD s.length
   if l<=h/\h<=s.length then some (.str ((s.drop l).take (h -l)),H) else none
  |_,_,_=>none
 |.cm sz x lo hi mx=>match cZ ev lo,cZ ev hi,cZ ev mx with
  |some lo,some hi,some mx=>if mx.isSome->hi.isSome then(iY sz (ev x) lo hi mx).map (·,H) else none
  |_,_,_=>none
 |.FD n sz x lo hi mx=>match cZ ev lo,cZ ev hi,cZ ev mx with
  |some lo,some hi,some mx=>(tU H n sz (ev x) lo hi mx).map (·,H)
  |_,_,_=>none
 |.ZD off x=>match ev x with
  |.ref id o=>some (.ref id (o+off),H)
  |.pl cs=>some (.pl (cs.drop off),H)
  |_=>none
 |.UD arr sz x i=>match asNat (ev i) with
  |some i=>match arr,ev x with
   |some n,.ref id o=>if i<n then some (.ref id (o+i*sz),H) else none
   |some n,.pl cs=>if i<n then some (.pl (cs.drop (i*sz)),H) else none
   |none,.aV _ eO els=>if eO=sz/\i<els.length then some (.pl (els.getD i []),H) else none
   |none,.sl id eO off len _=>if eO=sz/\i<len then some (.ref id (off+i*sz),H) else none
   |_,_=>none
  |none=>none
 |.idx n sz agg x i=>match asNat (ev i),ev x with
  |some i,.agg cs=>if i<n/\i*sz+sz<=cs.length then(if agg then some (.agg ((cs.drop (i*sz)).take sz),H) else if sz=1 then some (cs.getD i aD,H) else none) else none
  |_,_=>none
 |.idxs x i=>match asNat (ev i),ev x with
  |some i,.str s=>match s[i]? with
   |some b=>some (.int .u8 b.toNat,H)
   |none=>none
  |_,_=>none
 |.cy t ok zero x=>match ev x with
  |.iface t' v=>if t'=t then some (if ok then .gP [v,.bool true] else v,H) else if ok then some (.gP [zero,.bool false],H) else none
  |.pW=>if ok then some (.gP [zero,.bool false],H) else none
  |_=>none
 |.ZB x i=>match ev x with
  |.gP vs=>if i<vs.length then some (vs.getD i aD,H) else none
  |_=>none
 |.lens x=>match ev x with
  |.str s=>some (.int .i64 s.length,H)
  |_=>none
 |.Zi x=>match ev x with
  |.aS=>some (.int .i64 0,H)
  |.aV _ _ els=>some (.int .i64 els.length,H)
  |.sl _ _ _ len _=>some (.int .i64 len,H)
  |_=>none
 |.Wy x y=>match ev x,ev y with
  |.int k a,.int _ b=>some (.int k (if b>a then b else a),H)
  |_,_=>none
 |.XA x y=>match ev x,ev y with
  |.int k a,.int _ b=>some (.int k (if b<a then b else a),H)
  |_,_=>none
 |.clr sz zero x=>match ev x with
  |.aS|.aV _ _ []|.sl _ _ _ 0 _=>some (aD,H)
  |.sl id eO off len _=>if eO=sz/\zero.length=sz then
    match H.get id with
    |some (.cells cs opn)=>if off+len*sz<=cs.length then some (aD,H.set id (.cells (gO cs off (List.replicate len zero).flatten) opn)) else none
    |_=>none
   else none
  |_=>none
 |.append sz bytes mu x y=>match dM H sz (ev y) with
  |some ys=>dU H sz bytes mu (ev x) ys
  |none=>none
 |.lookup kind zero ok x i=>if PS kind (ev i) then
   match ev x with
   |.sU=>some (if ok then .gP [zero,.bool false] else zero,H)
   |.map id=>match H.get id with
    |some (.map es)=>match lZ kind (ev i) es 0 with
     |some (some (_,v))=>some (if ok then .gP [v,.bool true] else v,H)
     |some none=>some (if ok then .gP [zero,.bool false] else zero,H)
     |none=>none
    |_=>none
   |_=>none
  else none
 |.Pd kind m k v=>if PS kind (ev k) then
   match ev m with
   |.map id=>match H.get id with
    |some (.map es)=>match lZ kind (ev k) es 0 with
     |some (some (i,_))=>some (aD,H.set id (.map (es.set i (ev k,ev v))))
     |some none=>some (aD,H.set id (.map (es++[(ev k,ev v)])))
     |none=>none
    |_=>none
   |_=>none
  else none
 |.call _ _|.panic _|.jY _ _|.wG _|.EW _|.zC _=>none
structure Loc where
 cS:Nat
 base:Nat
 VP:Nat
 ext:Nat
structure Gh where
 loc:Nat->Option Loc
 gJ:Nat->Nat->Prop
 mo:Bool
def aKn (G:Gh) (tag b e sz len cap:Nat):Prop:=
 len<=cap/\match tag with
 |0=>True
 |1=>cap=len
 |k+2=>∃l,G.loc k=some l/\l.cS=b/\l.base=e/\l.VP=0/\l.ext=(cap -len)*sz
inductive VR (G:Gh) (w:World):AV->Value->Prop
 |bool (b:Bool):VR G w (.bool b) (.bool b)
 |int (k:IntKind) (n:Int):VR G w (.int k n) (.int k n)
 |str (s:ByteArray):VR G w (.str s.data.toList) (.string s)
 |Lv:VR G w .Lv (.pointer none)
 |ref (id off:Nat) (l:Loc) (h:G.loc id=some l):VR G w (.ref id off) (.pointer (some ⟨l.cS,l.base+off,none⟩))
 |pl (cells:List AV) (b o:Nat) (us:Nat->Value)
   (h:∀j,j<cells.length->G.gJ b (o+j)/\w.cell? ⟨b,o+j,none⟩=some (us j)/\(cells.getD j aD).one=true)
   (hv:∀j,j<cells.length->VR G w (cells.getD j aD) (us j)):VR G w (.pl cells) (.pointer (some ⟨b,o,none⟩))
 |aS:VR G w .aS (.slice none 0 0)
 |aV (tag sz:Nat) (els:List (List AV)) (b o cap:Nat) (us:Nat->Value)
   (hu:∀e∈els,e.length=sz)
   (h:∀j,j<els.flatten.length->G.gJ b (o+j)/\w.cell? ⟨b,o+j,none⟩=some (us j)/\(els.flatten.getD j aD).one=true)
   (hv:∀j,j<els.flatten.length->VR G w (els.flatten.getD j aD) (us j))
   (ht:aKn G tag b (o+els.length*sz) sz els.length cap):VR G w (.aV tag sz els) (.slice (some ⟨b,o,none⟩) els.length cap)
 |vA (tag sz b o s:Nat) (ht:tag<2):VR G w (.aV tag sz []) (.slice (some ⟨b,o,some s⟩) 0 0)
 |sl (id sz off len cap iT:Nat) (l:Loc) (h:G.loc id=some l) (hlen:len<=cap) (gD:off+cap*sz<=l.VP)
   (mY:iT=cap\/(off+cap*sz=l.VP/\cap<=iT/\off+iT*sz=l.ext)):
   VR G w (.sl id sz off len cap) (.slice (some ⟨l.cS,l.base+off,none⟩) len iT)
 |func (fn:Fn) (fs cs:List AV) (azs bs:List Value) (ha:azs.length=fs.length) (hb:bs.length=cs.length)
   (hav:∀j,j<fs.length->VR G w (fs.getD j aD) (azs.getD j undef)) (hbv:∀j,j<cs.length->VR G w (cs.getD j aD) (bs.getD j undef)):
   VR G w (.func fn fs cs) (.func fn azs.toArray bs.toArray)
 |BX:VR G w .BX .nilFunc
 |iface (t:TypeId) (a:AV) (v:Value) (h:VR G w a v):VR G w (.iface t a) (.iface t v)
 |pW:VR G w .pW .nilIface
 |agg (cs:List AV) (vs:List Value) (hl:vs.length=cs.length) (h1:∀c∈cs,c.one=true)
   (hv:∀j,j<cs.length->VR G w (cs.getD j aD) (vs.getD j undef)):VR G w (.agg cs) (.agg vs.toArray)
 |gP (cs:List AV) (vs:List Value) (hl:vs.length=cs.length)
   (hv:∀j,j<cs.length->VR G w (cs.getD j aD) (vs.getD j undef)):VR G w (.gP cs) (.tuple vs.toArray)
 |map (id:Nat) (l:Loc) (h:G.loc id=some l):VR G w (.map id) (.map (some l.cS))
 |sU:VR G w .sU (.map none)
 |yield (id:Nat) (l:Loc) (h:G.loc id=some l):VR G w (.yield id) (.func (.yield l.cS) #[] #[])
def gI (G:Gh) (w:World) (xs:List AV) (vs:List Value):Prop:=
 vs.length=xs.length/\∀j,j<xs.length->VR G w (xs.getD j aD) (vs.getD j undef)
theorem VR.nD (G:Gh) (w:World):VR G w aD Go.undef:=VR.gP [] [] rfl (fun j hj=>absurd hj (Ax j))
theorem VR.mono {G G':Gh} {w w':World} {a:AV} {u:Value} (h:VR G w a u) (hl:∀id l,G.loc id=some l->G'.loc id=some l)
 (hi:∀b o,G.gJ b o->G'.gJ b o/\w'.cell? ⟨b,o,none⟩=w.cell? ⟨b,o,none⟩):VR G' w' a u:=by
 induction h with
 |bool b=>exact .bool b
 |int k n=>exact .int k n
 |str s=>exact .str s
 |Lv=>exact .Lv
 |ref id off l h=>exact .ref id off l (hl _ _ h)
 |pl cells b o us h hv ih=>exact .pl cells b o us (fun j hj=>⟨(hi _ _ (h j hj).1).1,by rw[(hi _ _ (h j hj).1).2];exact(h j hj).2.1,(h j hj).2.2⟩) ih
 |aS=>exact .aS
 |aV tag sz els b o cap us hu h hv ht ih=>
  refine .aV tag sz els b o cap us hu (fun j hj=>⟨(hi _ _ (h j hj).1).1,by rw[(hi _ _ (h j hj).1).2];exact(h j hj).2.1,(h j hj).2.2⟩) ih ?_;refine⟨ht.1,?_⟩;have h2:=ht.2
  match tag,h2 with
  |0,_=>trivial
  |1,h2=>exact h2
  |k+2,⟨l,h1,h2⟩=>exact⟨l,hl _ _ h1,h2⟩
 |vA tag sz b o s ht=>exact .vA tag sz b o s ht
 |sl id sz off len cap iT l h hlen gD mY=>exact .sl id sz off len cap iT l (hl _ _ h) hlen gD mY
 |func fn fs cs azs bs ha hb hav hbv rG uW=>exact .func fn fs cs azs bs ha hb rG uW
 |BX=>exact .BX
 |iface t a v h ih=>exact .iface t a v ih
 |pW=>exact .pW
 |agg cs vs oS h1 hv ih=>exact .agg cs vs oS h1 ih
 |gP cs vs oS hv ih=>exact .gP cs vs oS ih
 |map id l h=>exact .map id l (hl _ _ h)
 |sU=>exact .sU
 |yield id l h=>exact .yield id l (hl _ _ h)
def aDb:Value->Bool
 |.agg _|.tuple _=>false
 |_=>true
theorem VR.one {G:Gh} {w:World} {a:AV} {u:Value} (h:VR G w a u):a.one=aDb u:=by cases h<;>rfl
def aA.live (H:aA) (id:Nat):Prop:=∃o,H.get id=some o/\o.live=true
def VV (ents:Array MapEntry) (clock:Nat):Prop:=
 (∀i,i<ents.size->(ents.getD i default).born<clock)/\∀i j,i<ents.size->j<ents.size->(ents.getD i default).born=(ents.getD j default).born->i=j
def LG (g:bB) (G:Gh) (w:World) (l:Loc):dY->Prop
 |.map es=>∃ents clock,w.heap[l.cS]?=some (.map ents clock)/\ents.size=es.length/\VV ents clock/\
   ∀j,j<es.length->VR G w (es.getD j (aD,aD)).1 (ents.getD j default).key/\VR G w (es.getD j (aD,aD)).2 (ents.getD j default).val
 |.tK es bs c mb=>l.cS=mb/\bs.Nodup/\(∀b∈bs,b<c)/\∃ents:Array MapEntry,w.heap[l.cS]?=some (.map ents c)/\ents.toList.map (·.born)=bs/\bs.length=es.length/\
   ∀j,j<es.length->VR G w (es.getD j (aD,aD)).1 (ents.getD j default).key/\VR G w (es.getD j (aD,aD)).2 (ents.getD j default).val
 |.iter m mb c seen=>w.heap[l.cS]?=some (.mapIter (some mb) c seen.toArray c)/\VR G w (.map m) (.map (some mb))
 |.loop k sn st=>∃r,g.lok k r/\w.heap[l.cS]?=some (.loop (nA r st))/\gI G w sn r.tmps.toList
 |.MO=>w.heap[l.cS]?=some (.deferred (some []))
 |.dfx=>w.heap[l.cS]?=some (.deferred none)
 |_=>True
theorem LG.mono {g:bB} {G G':Gh} {w w':World} {l:Loc} {o:dY} (h:LG g G w l o) (hb:w'.heap[l.cS]?=w.heap[l.cS]?) (hv:∀a u,VR G w a u->VR G' w' a u):LG g G' w' l o:=by
 cases o with
 |map es=>obtain⟨ents,clock,a1,a2,a3,a4⟩:=h;exact⟨ents,clock,by rw[hb];exact a1,a2,a3,fun j hj=>⟨hv _ _ (a4 j hj).1,hv _ _ (a4 j hj).2⟩⟩
 |tK es bs c mb=>obtain⟨a1,a2,a3,ents,a4,a5,a6,a7⟩:=h;exact⟨a1,a2,a3,ents,hb.trans a4,a5,a6,fun j hj=>⟨hv _ _ (a7 j hj).1,hv _ _ (a7 j hj).2⟩⟩
 |iter m mb c seen=>exact⟨hb.trans h.1,hv _ _ h.2⟩
 |loop k sn st=>obtain⟨r,h0,h1,h2⟩:=h;exact⟨r,h0,hb.trans h1,h2.1,fun j hj=>hv _ _ (h2.2 j hj)⟩
 |MO=>exact hb.trans h
 |dfx=>exact hb.trans h
 |_=>trivial
theorem LG.lt {g:bB} {G:Gh} {w:World} {l:Loc} {o:dY} (ho:o.cS=true) (h:LG g G w l o):l.cS<w.heap.size:=by
 cases o with
 |map es=>obtain⟨ents,clock,a1,_⟩:=h;exact(Cd.1 a1).1
 |tK es bs c mb=>obtain⟨_,_,_,ents,a1,_⟩:=h;exact(Cd.1 a1).1
 |iter m mb c seen=>exact(Cd.1 h.1).1
 |loop k sn st=>obtain⟨r,_,h1,_⟩:=h;exact(Cd.1 h1).1
 |MO=>exact(Cd.1 (show w.heap[l.cS]?=some _ from h)).1
 |dfx=>exact(Cd.1 (show w.heap[l.cS]?=some _ from h)).1
 |_=>cases ho
theorem PX {o:dY} (h:o.cS=true):o.live=true:=by cases o<;>first|rfl|cases h
theorem LG.BY {g:bB} {G:Gh} {w:World} {l:Loc} {o:dY} (ho:o.cS=true) (h:LG g G w l o) {c:Array Value} {el:TypeId} {fz:Nat×Nat}:w.heap[l.cS]?≠some (.cells c el fz):=by
 intro hc
 cases o with
 |map es=>obtain⟨ents,clock,a1,_⟩:=h;rw[hc] at a1;cases a1
 |tK es bs c mb=>obtain⟨_,_,_,ents,a1,_⟩:=h;rw[hc] at a1;cases a1
 |iter m mb c seen=>have h:=h.1;rw[hc] at h;cases h
 |loop k sn st=>obtain⟨r,_,h,_⟩:=h;rw[hc] at h;cases h
 |MO=>have h:w.heap[l.cS]?=some _:=h;rw[hc] at h;cases h
 |dfx=>have h:w.heap[l.cS]?=some _:=h;rw[hc] at h;cases h
 |_=>cases ho
structure WR (g:bB) (G:Gh) (H:aA) (w:World):Prop where
 cells:∀id l cs opn,G.loc id=some l->H.get id=some (.cells cs opn)->
  l.VP=cs.length/\l.VP<=l.ext/\(opn=false->l.VP=l.ext)/\(∀c∈cs,c.one=true)/\
  ∀j,j<cs.length->∃u,w.cell? ⟨l.cS,l.base+j,none⟩=some u/\VR G w (cs.getD j aD) u
 room:∀id l,G.loc id=some l->((∃cs opn,H.get id=some (.cells cs opn))\/H.get id=some .tok)->
  ∃c el fz,w.heap[l.cS]?=some (.cells c el fz)/\l.base+l.ext<=c.size/\∀j,j<l.ext->w.frozen? ⟨l.cS,l.base+j,none⟩=false
 kT:∀id jU l l',id≠jU->G.loc id=some l->G.loc jU=some l'->H.live id->H.live jU->
  l.cS≠l'.cS\/l.base+l.ext<=l'.base\/l'.base+l'.ext<=l.base
 jM:∀id l,G.loc id=some l->H.live id->∀j,j<l.ext->¬G.gJ l.cS (l.base+j)
 gZ:∀id l o,G.loc id=some l->H.get id=some o->o.cS=true->l.base=0/\l.ext=1/\LG g G w l o
 lt:∀id l,G.loc id=some l->id<H.next
 gN:∀b o,G.gJ b o->∃v,w.cell? ⟨b,o,none⟩=some v
 iF:∀n cs,g n=some cs->VR G w (.pl cs) (.pointer (some ⟨n,0,none⟩))
 BL:∀n cs,g n=some cs->cs≠[]->∃c el fz,w.heap[n]?=some (.cells c el fz)/\c.size=cs.length
 mo:G.mo=g.mo
structure AS (w w':World):Prop where
 os:w'.os=w.os
 output:w'.output=w.output
 tape:w'.tape=w.tape
 drawn:w.drawn<=w'.drawn
theorem AS.now {w w':World} (h1:w'.os=w.os:=by rfl) (h2:w'.output=w.output:=by rfl) (h3:w'.tape=w.tape:=by rfl) (h4:w.drawn<=w'.drawn:=by first|exact Ak _|exact Hb _|exact Ig _ _):AS w w':=⟨h1,h2,h3,h4⟩
theorem AS.trans {w w' w'':World} (h:AS w w') (h':AS w' w''):AS w w'':=⟨h'.os.trans h.os,h'.output.trans h.output,h'.tape.trans h.tape,Br h.drawn h'.drawn⟩
structure OE (b:Bool) (w w':World):Prop where
 os:w'.os=w.os
 output:w'.output=w.output
 tape:w'.tape=w.tape
 drawn:b=true->w.drawn<=w'.drawn
theorem AS.toB {w w':World} (h:AS w w') (b:Bool):OE b w w':=⟨h.os,h.output,h.tape,fun _=>h.drawn⟩
theorem OE.trans {b:Bool} {w w' w'':World} (h:OE b w w') (h':OE b w' w''):OE b w w'':=⟨h'.os.trans h.os,h'.output.trans h.output,h'.tape.trans h.tape,fun hb=>Br (h.drawn hb) (h'.drawn hb)⟩
structure Ext (G:Gh) (H:aA) (w:World) (G':Gh) (H':aA) (w':World):Prop where
 loc:∀id l,G.loc id=some l->G'.loc id=some l
 gJ:∀b o,G.gJ b o->G'.gJ b o/\w'.cell? ⟨b,o,none⟩=w.cell? ⟨b,o,none⟩
 size:w.heap.size<=w'.heap.size
 frame:∀b,b<w.heap.size->(∀id l,G.loc id=some l->H.live id->l.cS≠b)->w'.heap[b]?=w.heap[b]?
 lO:∀id l,G'.loc id=some l->H'.live id->w.heap.size<=l.cS\/∃eJ l0,G.loc eJ=some l0/\H.live eJ/\l0.cS=l.cS
 pA:∀b o,G'.gJ b o->G.gJ b o\/w.heap.size<=b\/∃eJ l0,G.loc eJ=some l0/\H.live eJ/\l0.cS=b
 next:H.next<=H'.next
 news:∀id l,G'.loc id=some l->G.loc id=none->H.next<=id
 dead:∀id l,G.loc id=some l->H'.live id->H.live id
 mo:G'.mo=G.mo
 same:OE G.mo w w'
theorem Ext.refl (G:Gh) (H:aA) (w:World):Ext G H w G H w where
 loc:=fun _ _ h=>h
 gJ:=fun _ _ h=>⟨h,rfl⟩
 size:=Ak _
 frame:=fun _ _ _=>rfl
 lO:=fun id l h hl=>.inr ⟨id,l,h,hl,rfl⟩
 pA:=fun _ _ h=>.inl h
 next:=Ak _
 news:=fun _ _ h h'=>by rw[h] at h';cases h'
 dead:=fun _ _ _ h=>h
 mo:=rfl
 same:=AS.toB .now _
theorem Ext.trans {G G' G'':Gh} {H H' HU:aA} {w w' w'':World} (h:Ext G H w G' H' w') (h':Ext G' H' w' G'' HU w''):Ext G H w G'' HU w'' where
 loc:=fun id l hl=>h'.loc _ _ (h.loc _ _ hl)
 gJ:=fun b o hi=>⟨(h'.gJ _ _ (h.gJ _ _ hi).1).1,((h'.gJ _ _ (h.gJ _ _ hi).1).2).trans (h.gJ _ _ hi).2⟩
 size:=Br h.size h'.size
 frame:=fun b hb hn=>by
  rw[h'.frame b (Cf hb h.size) (fun id l hl hv=>?_),h.frame b hb hn]
  rcases h.lO id l hl hv with Mg|⟨eJ,l0,NN,Qq,he⟩
  · omega
  rw[<-he];exact hn eJ l0 NN Qq
 lO:=fun id l hl hv=>by
  rcases h'.lO id l hl hv with Mg|⟨eJ,l0,NN,Qq,he⟩
  · exact .inl (Br h.size Mg)
  rcases h.lO eJ l0 NN Qq with Mg|⟨id1,l1,xE,sR,VG⟩
  · exact .inl (by omega)
  exact .inr ⟨id1,l1,xE,sR,VG.trans he⟩
 pA:=fun b o hi=>by
  rcases h'.pA b o hi with hi|Mg|⟨eJ,l0,NN,Qq,he⟩
  · exact h.pA b o hi
  · exact .inr (.inl (Br h.size Mg))
  rcases h.lO eJ l0 NN Qq with Mg|⟨id1,l1,xE,sR,VG⟩
  · exact .inr (.inl (by omega))
  exact .inr (.inr ⟨id1,l1,xE,sR,VG.trans he⟩)
 next:=Br h.next h'.next
 news:=fun id l hl hn=>by
  cases h1:G'.loc id with
  |none=>exact Br h.next (h'.news id l hl h1)
  |some l1=>exact h.news id l1 h1 hn
 dead:=fun id l hl hv=>h.dead id l hl (h'.dead id l (h.loc _ _ hl) hv)
 mo:=h'.mo.trans h.mo
 same:=h.same.trans (h.mo▸h'.same)
theorem VR.ext {G G':Gh} {H H':aA} {w w':World} {a:AV} {u:Value} (h:VR G w a u) (e:Ext G H w G' H' w'):VR G' w' a u:=
 h.mono e.loc e.gJ
theorem gI.ext {G G':Gh} {H H':aA} {w w':World} {xs:List AV} {vs:List Value} (h:gI G w xs vs) (e:Ext G H w G' H' w'):gI G' w' xs vs:=
 ⟨h.1,fun j hj=>(h.2 j hj).ext e⟩
theorem aA.lA {H:aA} {id:Nat} {o:dY} {m:Nat}:(H.set id o).live m↔(m=id/\o.live=true)\/(m≠id/\H.live m):=by
 unfold aA.live;rw[aA.aC];by_cases h:m=id
 · subst h;simp
 simp[h]
theorem lS {w:World} {b o:Nat} {c:Array Value} {el:TypeId} {fz:Nat×Nat} (h:w.heap[b]?=some (.cells c el fz)):
 w.cell? ⟨b,o,none⟩=c[o]?:=by
 unfold World.cell?;simp[h]
theorem rF {w:World} {b o:Nat} {c:Array Value} {el:TypeId} {fz:Nat×Nat} (h:w.heap[b]?=some (.cells c el fz)):
 w.frozen? ⟨b,o,none⟩=(decide (fz.1<=o)&&decide (o<fz.2)):=by
 unfold World.frozen?;simp[h]
theorem vF {w:World} {b o:Nat} {v:Value} (h:w.cell? ⟨b,o,none⟩=some v):∃c el fz,w.heap[b]?=some (.cells c el fz)/\c[o]?=some v:=by
 unfold World.cell? at h;split at h
 · rename_i c el fz hc;exact⟨c,el,fz,hc,by simpa using h⟩
 cases h
theorem fE {w w':World} {b o:Nat} (h:w'.heap[b]?=w.heap[b]?):w'.cell? ⟨b,o,none⟩=w.cell? ⟨b,o,none⟩:=by unfold World.cell?;simp[h]
theorem lE {w w':World} {b o:Nat} (h:w'.heap[b]?=w.heap[b]?):w'.frozen? ⟨b,o,none⟩=w.frozen? ⟨b,o,none⟩:=by unfold World.frozen?;simp[h]
theorem WR.of_heap {g:bB} {G:Gh} {H:aA} {w w':World} (h:WR g G H w) (hw:w'.heap=w.heap):WR g G H w':=by
 have hb:∀b:Nat,w'.heap[b]?=w.heap[b]?:=fun b=>by rw[hw]
 have hc:∀b o,w'.cell? ⟨b,o,none⟩=w.cell? ⟨b,o,none⟩:=fun b o=>fE (hb b);have hm:∀{a u},VR G w a u->VR G w' a u:=fun hv=>hv.mono (fun _ _ h=>h) (fun b o hi=>⟨hi,hc b o⟩)
 exact {
  cells:=fun id l cs opn h1 h2=>by obtain⟨a1,a2,a3,a4,a5⟩:=h.cells id l cs opn h1 h2;refine⟨a1,a2,a3,a4,fun j hj=>?_⟩;obtain⟨u,hu,hv⟩:=a5 j hj;exact⟨u,by rw[hc];exact hu,hm hv⟩
  room:=fun id l h1 h2=>by obtain⟨c,el,fz,a1,a2,a3⟩:=h.room id l h1 h2;exact⟨c,el,fz,by rw[hb];exact a1,a2,fun j hj=>by rw[lE (hb _)];exact a3 j hj⟩
  kT:=h.kT
  jM:=h.jM
  gZ:=fun id l o h1 h2 hk=>let⟨a1,a2,a3⟩:=h.gZ id l o h1 h2 hk;⟨a1,a2,a3.mono (hb _) fun _ _=>hm⟩
  lt:=h.lt
  gN:=fun b o hi=>by rw[hc];exact h.gN b o hi
  iF:=fun n cs hn=>hm (h.iF n cs hn)
  BL:=fun n cs hn h0=>by rw[hb];exact h.BL n cs hn h0
  mo:=h.mo}
theorem Ext.of_heap {G:Gh} {H:aA} {w w':World} (hw:w'.heap=w.heap) (hs:AS w w'):Ext G H w G H w' where
 loc:=fun _ _ h=>h
 gJ:=fun b o h=>⟨h,fE (by rw[hw])⟩
 size:=by rw[hw];exact Ak _
 frame:=fun _ _ _=>by rw[hw]
 lO:=fun id l h hl=>.inr ⟨id,l,h,hl,rfl⟩
 pA:=fun _ _ h=>.inl h
 next:=Ak _
 news:=fun _ _ h h'=>by rw[h] at h';cases h'
 dead:=fun _ _ _ h=>h
 mo:=rfl
 same:=hs.toB _
theorem IP {α:Type} (a:Array α) (x:α) {b:Nat} (h:b<a.size):(a.push x)[b]?=a[b]?:=by rw[Lh];rw[if_neg (by omega)]
theorem EA {α:Type} (a:Array α) (x:α):(a.push x)[a.size]?=some x:=by simp
theorem pJ {w:World} {b o:Nat} {v:Value} (h:w.cell? ⟨b,o,none⟩=some v):b<w.heap.size:=by obtain⟨c,el,fz,h1,_⟩:=vF h;exact(Cd.1 h1).1
def Gh.nV (G:Gh) (b lo n:Nat):Gh:={G with gJ:=fun b' o=>G.gJ b' o\/(b'=b/\lo<=o/\o<lo+n)}
def Gh.dS (G:Gh) (id:Nat) (l:Loc):Gh:={G with loc:=fun i=>if i=id then some l else G.loc i}
theorem WR.mR {g:bB} {G:Gh} {H:aA} {w:World} (h:WR g G H w) {id:Nat} {l:Loc} (hl:G.loc id=some l) (hv:H.live id):l.cS<w.heap.size:=by
 obtain⟨o,ho,lM⟩:=hv
 have :∃x,w.heap[l.cS]?=some x:=by
  cases o with
  |cells cs opn=>obtain⟨c,el,fz,h1,_⟩:=h.room id l hl (.inl ⟨cs,opn,ho⟩);exact⟨_,h1⟩
  |tok=>obtain⟨c,el,fz,h1,_⟩:=h.room id l hl (.inr ho);exact⟨_,h1⟩
  |dead=>cases lM
  |_=>have :=(h.gZ id l _ hl ho rfl).2.2.lt rfl;exact⟨_,Dx this⟩
 obtain⟨x,hx⟩:=this;exact(Cd.1 hx).1
theorem WR.grow {g:bB} {G:Gh} {H:aA} {w w':World} (h:WR g G H w)
 (hb:∀b,b<w.heap.size->w'.heap[b]?=w.heap[b]?):WR g G H w':=by
 have hc:∀b o,G.gJ b o->w'.cell? ⟨b,o,none⟩=w.cell? ⟨b,o,none⟩:=fun b o hi=>by obtain⟨v,hv⟩:=h.gN b o hi;exact fE (hb b (pJ hv))
 have hm:∀{a u},VR G w a u->VR G w' a u:=fun hv=>hv.mono (fun _ _ h=>h) (fun b o hi=>⟨hi,hc b o hi⟩)
 exact {
  cells:=fun id l cs opn h1 h2=>by obtain⟨a1,a2,a3,a4,a5⟩:=h.cells id l cs opn h1 h2;refine⟨a1,a2,a3,a4,fun j hj=>?_⟩;obtain⟨u,hu,hv⟩:=a5 j hj;exact⟨u,by rw[fE (hb _ (h.mR h1 ⟨_,h2,rfl⟩))];exact hu,hm hv⟩
  room:=fun id l h1 h2=>by obtain⟨c,el,fz,a1,a2,a3⟩:=h.room id l h1 h2;have eQ:=(Cd.1 a1).1;exact⟨c,el,fz,by rw[hb _ eQ];exact a1,a2,fun j hj=>by rw[lE (hb _ eQ)];exact a3 j hj⟩
  kT:=h.kT
  jM:=h.jM
  gZ:=fun id l o h1 h2 hk=>let⟨a1,a2,a3⟩:=h.gZ id l o h1 h2 hk;⟨a1,a2,a3.mono (hb _ (a3.lt hk)) fun _ _=>hm⟩
  lt:=h.lt
  gN:=fun b o hi=>by rw[hc b o hi];exact h.gN b o hi
  iF:=fun n cs hn=>hm (h.iF n cs hn)
  BL:=fun n cs hn h0=>let⟨c,el,fz,a1,a2⟩:=h.BL n cs hn h0;⟨c,el,fz,by rw[hb _ (Cd.1 a1).1];exact a1,a2⟩
  mo:=h.mo}
theorem Ext.grow {G:Gh} {H:aA} {w w':World} (oD:∀b o,G.gJ b o->∃v,w.cell? ⟨b,o,none⟩=some v)
 (hb:∀b,b<w.heap.size->w'.heap[b]?=w.heap[b]?) (jA:w.heap.size<=w'.heap.size) (hs:AS w w'):Ext G H w G H w' where
 loc:=fun _ _ h=>h
 gJ:=fun b o hi=>⟨hi,by obtain⟨v,hv⟩:=oD b o hi;exact fE (hb b (pJ hv))⟩
 size:=jA
 frame:=fun b eQ _=>hb b eQ
 lO:=fun id l h hl=>.inr ⟨id,l,h,hl,rfl⟩
 pA:=fun _ _ h=>.inl h
 next:=Ak _
 news:=fun _ _ h h'=>by rw[h] at h';cases h'
 dead:=fun _ _ _ h=>h
 mo:=rfl
 same:=hs.toB _
theorem WR.nV {g:bB} {G:Gh} {H:aA} {w:World} (h:WR g G H w) (b lo n:Nat)
 (hex:∀j,j<n->∃v,w.cell? ⟨b,lo+j,none⟩=some v)
 (uF:∀id l,G.loc id=some l->H.live id->l.cS≠b\/l.base+l.ext<=lo\/lo+n<=l.base):WR g (G.nV b lo n) H w:=by
 have hm:∀{a u},VR G w a u->VR (G.nV b lo n) w a u:=fun hv=>hv.mono (fun _ _ h=>h) (fun b o hi=>⟨.inl hi,rfl⟩)
 exact {
  cells:=fun id l cs opn h1 h2=>by obtain⟨a1,a2,a3,a4,a5⟩:=h.cells id l cs opn h1 h2;refine⟨a1,a2,a3,a4,fun j hj=>?_⟩;obtain⟨u,hu,hv⟩:=a5 j hj;exact⟨u,hu,hm hv⟩
  room:=h.room
  kT:=h.kT
  jM:=fun id l hl hv j hj hi=>by
   rcases hi with hi|⟨h1,h2,h3⟩
   · exact h.jM id l hl hv j hj hi
   rcases uF id l hl hv with hd|hd|hd
   · exact hd h1
   · omega
   omega
  gZ:=fun id l o h1 h2 hk=>let⟨a1,a2,a3⟩:=h.gZ id l o h1 h2 hk;⟨a1,a2,a3.mono rfl fun _ _=>hm⟩
  lt:=h.lt
  gN:=fun b' o hi=>by
   rcases hi with hi|⟨rfl,h2,h3⟩
   · exact h.gN b' o hi
   have :=hex (o -lo) (by omega)
   rwa [show lo+(o -lo)=o by omega] at this
  iF:=fun n cs hn=>hm (h.iF n cs hn)
  BL:=h.BL
  mo:=h.mo}
theorem Ext.nV {G G':Gh} {H H':aA} {w w':World} (e:Ext G H w G' H' w') (b lo n:Nat)
 (hb:w.heap.size<=b\/∃eJ l0,G.loc eJ=some l0/\H.live eJ/\l0.cS=b):Ext G H w (G'.nV b lo n) H' w' where
 loc:=e.loc
 gJ:=fun b' o hi=>⟨.inl (e.gJ b' o hi).1,(e.gJ b' o hi).2⟩
 size:=e.size
 frame:=e.frame
 lO:=e.lO
 pA:=fun b' o hi=>by
  rcases hi with hi|⟨rfl,_,_⟩
  · exact e.pA b' o hi
  exact .inr hb
 next:=e.next
 news:=e.news
 dead:=e.dead
 mo:=e.mo
 same:=e.same
theorem WR.IA {g:bB} {G:Gh} {H H':aA} {w:World} (h:WR g G H w) (eJ:Nat) (o:dY) (l:Loc) (hid:G.loc eJ=none)
 (cG:∀m,H'.get m=if m=eJ then some o else H.get m) (xG:H.next<=H'.next) (BO:eJ<H'.next)
 (uF:∀id l',G.loc id=some l'->H.live id->l.cS≠l'.cS\/l.base+l.ext<=l'.base\/l'.base+l'.ext<=l.base)
 (oD:∀j,j<l.ext->¬G.gJ l.cS (l.base+j))
 (Ov:∀cs opn,o=.cells cs opn->l.VP=cs.length/\l.VP<=l.ext/\(opn=false->l.VP=l.ext)/\(∀c∈cs,c.one=true)/\
   ∀j,j<cs.length->∃u,w.cell? ⟨l.cS,l.base+j,none⟩=some u/\VR G w (cs.getD j aD) u)
 (xH:((∃cs opn,o=.cells cs opn)\/o=.tok)->∃c el fz,w.heap[l.cS]?=some (.cells c el fz)/\l.base+l.ext<=c.size/\∀j,j<l.ext->w.frozen? ⟨l.cS,l.base+j,none⟩=false)
 (Tt:o.cS=true->l.base=0/\l.ext=1/\LG g G w l o):
 WR g (G.dS eJ l) H' w:=by
 have bN:∀{id l'},G.loc id=some l'->id≠eJ:=fun hl he=>by rw[he,hid] at hl;cases hl
 have hm:∀{a u},VR G w a u->VR (G.dS eJ l) w a u:=fun hv=>hv.mono (fun id l' hl=>by simp only[Gh.dS];rw[if_neg (bN hl)];exact hl) (fun b o hi=>⟨hi,rfl⟩)
 have qI:∀{id l'},(G.dS eJ l).loc id=some l'->(id=eJ/\l'=l)\/(id≠eJ/\G.loc id=some l'):=fun {id l'} hl=>by
  simp only[Gh.dS] at hl;split at hl
  · exact .inl ⟨by assumption,by cases hl;rfl⟩
  exact .inr ⟨by assumption,hl⟩
 have qG:∀{id},id≠eJ->H'.live id->H.live id:=fun hn ⟨x,hx,Wh⟩=>⟨x,by rw[cG,if_neg hn] at hx;exact hx,Wh⟩
 exact {
  cells:=fun id l' cs opn h1 h2=>by
   rw[cG] at h2
   rcases qI h1 with ⟨rfl,rfl⟩|⟨hn,h1⟩
   · rw[if_pos rfl] at h2;obtain⟨a1,a2,a3,a4,a5⟩:=Ov cs opn (Aa h2);refine⟨a1,a2,a3,a4,fun j hj=>?_⟩;obtain⟨u,hu,hv⟩:=a5 j hj;exact⟨u,hu,hm hv⟩
   rw[if_neg hn] at h2;obtain⟨a1,a2,a3,a4,a5⟩:=h.cells id l' cs opn h1 h2;refine⟨a1,a2,a3,a4,fun j hj=>?_⟩;obtain⟨u,hu,hv⟩:=a5 j hj;exact⟨u,hu,hm hv⟩
  room:=fun id l' h1 h2=>by
   simp only[cG] at h2
   rcases qI h1 with ⟨rfl,rfl⟩|⟨hn,h1⟩
   · simp only[if_true] at h2;refine xH (h2.imp (fun⟨cs,opn,hh⟩=>⟨cs,opn,Aa hh⟩) (fun hh=>Aa hh))
   simp only[if_neg hn] at h2;exact h.room id l' h1 h2
  kT:=fun id jU l1 l2 aWv h1 h2 sR nJ=>by
   rcases qI h1 with ⟨e1,vu⟩|⟨hn,k1⟩
   · rcases qI h2 with ⟨e2,e2'⟩|⟨DK,k2⟩
     · exact absurd (e1.trans e2.symm) aWv
     rw[vu];exact uF jU l2 k2 (qG DK nJ)
   rcases qI h2 with ⟨e2,e2'⟩|⟨DK,k2⟩
   · rw[e2']
     rcases uF id l1 k1 (qG hn sR) with hd|hd|hd
     · exact .inl (Ne.symm hd)
     · exact .inr (.inr hd)
     exact .inr (.inl hd)
   exact h.kT id jU l1 l2 aWv k1 k2 (qG hn sR) (qG DK nJ)
  jM:=fun id l' h1 hv j hj=>by
   rcases qI h1 with ⟨rfl,rfl⟩|⟨hn,h1⟩
   · exact oD j hj
   exact h.jM id l' h1 (qG hn hv) j hj
  gZ:=fun id l' ob h1 h2 hk=>by
   rw[cG] at h2
   rcases qI h1 with ⟨rfl,rfl⟩|⟨hn,h1⟩
   · rw[if_pos rfl] at h2;obtain rfl:=Aa h2;obtain⟨a1,a2,a3⟩:=Tt hk;exact⟨a1,a2,a3.mono rfl fun _ _=>hm⟩
   rw[if_neg hn] at h2;obtain⟨a1,a2,a3⟩:=h.gZ id l' ob h1 h2 hk;exact⟨a1,a2,a3.mono rfl fun _ _=>hm⟩
  lt:=fun id l' h1=>by
   rcases qI h1 with ⟨rfl,rfl⟩|⟨hn,h1⟩
   · exact BO
   exact Cf (h.lt id l' h1) xG
  gN:=h.gN
  iF:=fun n cs hn=>hm (h.iF n cs hn)
  BL:=h.BL
  mo:=h.mo}
theorem WR.OJ {g:bB} {G:Gh} {H:aA} {w:World} (h:WR g G H w) (o:dY) (l:Loc)
 (uF:∀id l',G.loc id=some l'->H.live id->l.cS≠l'.cS\/l.base+l.ext<=l'.base\/l'.base+l'.ext<=l.base)
 (oD:∀j,j<l.ext->¬G.gJ l.cS (l.base+j))
 (Ov:∀cs opn,o=.cells cs opn->l.VP=cs.length/\l.VP<=l.ext/\(opn=false->l.VP=l.ext)/\(∀c∈cs,c.one=true)/\
   ∀j,j<cs.length->∃u,w.cell? ⟨l.cS,l.base+j,none⟩=some u/\VR G w (cs.getD j aD) u)
 (xH:((∃cs opn,o=.cells cs opn)\/o=.tok)->∃c el fz,w.heap[l.cS]?=some (.cells c el fz)/\l.base+l.ext<=c.size/\∀j,j<l.ext->w.frozen? ⟨l.cS,l.base+j,none⟩=false)
 (Tt:o.cS=true->l.base=0/\l.ext=1/\LG g G w l o):
 WR g (G.dS H.next l) (H.alloc o) w:=
 h.IA H.next o l (by
  cases hl:G.loc H.next with
  |none=>rfl
  |some l'=>exact absurd (h.lt _ _ hl) (Fe _)) (aA.aF H o) (Hb _) (Ew _) uF oD Ov xH Tt
theorem Ext.IA {G G':Gh} {H H' HU:aA} {w w':World} (e:Ext G H w G' H' w') (eJ:Nat) (o:dY) (l:Loc) (hid:G'.loc eJ=none)
 (cG:∀m,HU.get m=if m=eJ then some o else H'.get m) (xG:H'.next<=HU.next) (Mg:H.next<=eJ)
 (hb:w.heap.size<=l.cS\/∃eJ l0,G.loc eJ=some l0/\H.live eJ/\l0.cS=l.cS):Ext G H w (G'.dS eJ l) HU w' where
 loc:=fun id l' hl=>by have h1:=e.loc id l' hl;simp only[Gh.dS];rw[if_neg (fun he=>by rw[he,hid] at h1;cases h1)];exact h1
 gJ:=e.gJ
 size:=e.size
 frame:=e.frame
 lO:=fun id l' hl hv=>by
  simp only[Gh.dS] at hl;split at hl
  · cases hl;exact hb
  rename_i hn;obtain⟨x,hx,Wh⟩:=hv;rw[cG,if_neg hn] at hx;exact e.lO id l' hl ⟨x,hx,Wh⟩
 pA:=e.pA
 next:=Br e.next xG
 news:=fun id l' hl hn=>by
  simp only[Gh.dS] at hl;split at hl
  · rename_i he;rw[he];exact Mg
  exact e.news id l' hl hn
 dead:=fun id l' hl hv=>by have h1:=e.loc id l' hl;obtain⟨x,hx,Wh⟩:=hv;rw[cG,if_neg (fun he=>by rw[he,hid] at h1;cases h1)] at hx;exact e.dead id l' hl ⟨x,hx,Wh⟩
 mo:=e.mo
 same:=e.same
theorem Ext.OJ {G G':Gh} {H H':aA} {w w':World} (e:Ext G H w G' H' w') (o:dY) (l:Loc) (eQ:∀id l',G'.loc id=some l'->id<H'.next)
 (hb:w.heap.size<=l.cS\/∃eJ l0,G.loc eJ=some l0/\H.live eJ/\l0.cS=l.cS):Ext G H w (G'.dS H'.next l) (H'.alloc o) w':=
 e.IA H'.next o l (by
  cases hl:G'.loc H'.next with
  |none=>rfl
  |some l'=>exact absurd (eQ _ _ hl) (Fe _)) (aA.aF H' o) (Hb _) e.next hb
theorem WR.kill {g:bB} {G:Gh} {H:aA} {w:World} (h:WR g G H w) (id:Nat):WR g G (H.set id .dead) w where
 cells:=fun i l cs opn h1 h2=>by
  rw[aA.aC] at h2;split at h2
  · cases h2
  exact h.cells i l cs opn h1 h2
 room:=fun i l h1 h2=>by
  simp only[aA.aC] at h2;split at h2
  · rcases h2 with ⟨_,_,h2⟩|h2<;>cases h2
  exact h.room i l h1 h2
 kT:=fun i i' l l' bN h1 h2 sR nJ=>by
  rcases aA.lA.1 sR with ⟨_,hh⟩|⟨_,sR⟩
  · cases hh
  rcases aA.lA.1 nJ with ⟨_,hh⟩|⟨_,nJ⟩
  · cases hh
  exact h.kT i i' l l' bN h1 h2 sR nJ
 jM:=fun i l h1 hv=>by
  rcases aA.lA.1 hv with ⟨_,hh⟩|⟨_,hv⟩
  · cases hh
  exact h.jM i l h1 hv
 gZ:=fun i l ob h1 h2 hk=>by
  rw[aA.aC] at h2;split at h2
  · cases h2;cases hk
  exact h.gZ i l ob h1 h2 hk
 lt:=h.lt
 gN:=h.gN
 iF:=h.iF
 BL:=h.BL
 mo:=h.mo
theorem Ext.kill {G G':Gh} {H H':aA} {w w':World} (e:Ext G H w G' H' w') (id:Nat):Ext G H w G' (H'.set id .dead) w' where
 loc:=e.loc
 gJ:=e.gJ
 size:=e.size
 frame:=e.frame
 lO:=fun i l hl hv=>by
  rcases aA.lA.1 hv with ⟨_,hh⟩|⟨_,hv⟩
  · cases hh
  exact e.lO i l hl hv
 pA:=e.pA
 next:=e.next
 news:=e.news
 dead:=fun i l hl hv=>by
  rcases aA.lA.1 hv with ⟨_,hh⟩|⟨_,hv⟩
  · cases hh
  exact e.dead i l hl hv
 mo:=e.mo
 same:=e.same
structure VB (w w':World) (b lo:Nat) (vs:List Value):Prop where
 size:w'.heap.size=w.heap.size
 other:∀b',b'≠b->w'.heap[b']?=w.heap[b']?
 row:∀c el fz,w.heap[b]?=some (.cells c el fz)->∃c',w'.heap[b]?=some (.cells c' el fz)/\c'.size=c.size/\
  (∀o,(o<lo\/lo+vs.length<=o)->c'[o]?=c[o]?)/\(∀j,j<vs.length->lo+j<c.size->c'[lo+j]?=some (vs.getD j undef))
 same:AS w w'
theorem VB.cell {w w':World} {b lo:Nat} {vs:List Value} (u:VB w w' b lo vs) {b' o:Nat} (h:b'≠b\/o<lo\/lo+vs.length<=o) {v:Value}
 (hc:w.cell? ⟨b',o,none⟩=some v):w'.cell? ⟨b',o,none⟩=some v:=by
 by_cases hb:b'=b
 · subst hb;obtain⟨c,el,fz,h1,h2⟩:=vF hc;obtain⟨c',h3,h4,h5,_⟩:=u.row c el fz h1;rw[lS h3,h5 o (h.resolve_left (fun bN=>bN rfl))];exact h2
 rw[fE (u.other b' hb)];exact hc
theorem VB.frozen {w w':World} {b lo:Nat} {vs:List Value} (u:VB w w' b lo vs) {b' o:Nat} {c:Array Value} {el:TypeId} {fz:Nat×Nat}
 (hc:w.heap[b']?=some (.cells c el fz)):w'.frozen? ⟨b',o,none⟩=w.frozen? ⟨b',o,none⟩:=by
 by_cases hb:b'=b
 · subst hb;obtain⟨c',h3,_⟩:=u.row c el fz hc;rw[rF h3,rF hc]
 exact lE (u.other b' hb)
theorem WR.write {g:bB} {G:Gh} {H:aA} {w w':World} (h:WR g G H w) {b lo:Nat} {vs:List Value} (u:VB w w' b lo vs)
 (oD:∀j,j<vs.length->¬G.gJ b (lo+j))
 (uF:∀id l,G.loc id=some l->H.live id->l.cS≠b\/l.base+l.ext<=lo\/lo+vs.length<=l.base)
 (kY:∃c el fz,w.heap[b]?=some (.cells c el fz)):WR g G H w':=by
 have hc:∀b' o,G.gJ b' o->w'.cell? ⟨b',o,none⟩=w.cell? ⟨b',o,none⟩:=fun b' o hi=>by
  obtain⟨v,hv⟩:=h.gN b' o hi;rw[hv];refine u.cell ?_ hv;by_cases hb:b'=b
  · subst hb;by_cases h1:o<lo
    · exact .inr (.inl h1)
    refine .inr (.inr (Jd fun h2=>oD (o -lo) (by omega) ?_))
    rwa [show lo+(o -lo)=o by omega]
  exact .inl hb
 have hm:∀{a u},VR G w a u->VR G w' a u:=fun hv=>hv.mono (fun _ _ h=>h) (fun b o hi=>⟨hi,hc b o hi⟩)
 exact {
  cells:=fun id l cs opn h1 h2=>by
   obtain⟨a1,a2,a3,a4,a5⟩:=h.cells id l cs opn h1 h2;refine⟨a1,a2,a3,a4,fun j hj=>?_⟩;obtain⟨x,hx,hv⟩:=a5 j hj;refine⟨x,u.cell ?_ hx,hm hv⟩
   rcases uF id l h1 ⟨_,h2,rfl⟩ with hd|hd|hd
   · exact .inl hd
   · exact .inr (.inl (by omega))
   exact .inr (.inr (by omega))
  room:=fun id l h1 h2=>by
   obtain⟨c,el,fz,a1,a2,a3⟩:=h.room id l h1 h2;by_cases hb:l.cS=b
   · subst hb;obtain⟨c',h3,h4,_⟩:=u.row c el fz a1;exact⟨c',el,fz,h3,by omega,fun j hj=>by rw[u.frozen a1];exact a3 j hj⟩
   exact⟨c,el,fz,by rw[u.other _ hb];exact a1,a2,fun j hj=>by rw[u.frozen a1];exact a3 j hj⟩
  kT:=h.kT
  jM:=h.jM
  gZ:=fun id l ob h1 h2 hk=>by
   obtain⟨a1,a2,a3⟩:=h.gZ id l ob h1 h2 hk
   have hb:l.cS≠b:=fun hb=>by obtain⟨c,el,fz,hr⟩:=kY;rw[<-hb] at hr;exact a3.BY hk hr
   exact⟨a1,a2,a3.mono (u.other _ hb) fun _ _=>hm⟩
  lt:=h.lt
  gN:=fun b o hi=>by rw[hc b o hi];exact h.gN b o hi
  iF:=fun n cs hn=>hm (h.iF n cs hn)
  BL:=fun n cs hn h0=>by
   obtain⟨c,el,fz,a1,a2⟩:=h.BL n cs hn h0;by_cases hb:n=b
   · subst hb;obtain⟨c',h3,h4,_⟩:=u.row c el fz a1;exact⟨c',el,fz,h3,by omega⟩
   exact⟨c,el,fz,by rw[u.other _ hb];exact a1,a2⟩
  mo:=h.mo}
theorem Ext.write {G G':Gh} {H H':aA} {w w1 w':World} (e:Ext G H w G' H' w1) {b lo:Nat} {vs:List Value} (u:VB w1 w' b lo vs)
 (oD:∀j,j<vs.length->¬G'.gJ b (lo+j)) (hex:∀b o,G'.gJ b o->∃v,w1.cell? ⟨b,o,none⟩=some v)
 (hb:w.heap.size<=b\/∃eJ l0,G.loc eJ=some l0/\H.live eJ/\l0.cS=b):Ext G H w G' H' w' where
 loc:=e.loc
 gJ:=fun b' o hi=>by
  have h1:=e.gJ b' o hi;refine⟨h1.1,?_⟩;rw[<-h1.2];obtain⟨v,hv⟩:=hex b' o h1.1;rw[hv];refine u.cell ?_ hv;by_cases hbb:b'=b
  · subst hbb;by_cases h2:o<lo
    · exact .inr (.inl h2)
    refine .inr (.inr (Jd fun h3=>oD (o -lo) (by omega) ?_));rw[show lo+(o -lo)=o by omega];exact h1.1
  exact .inl hbb
 size:=by rw[u.size];exact e.size
 frame:=fun b' eQ hn=>by
  have bN:b'≠b:=fun he=>by
   subst he
   rcases hb with hb|⟨eJ,l0,h1,h2,h3⟩
   · omega
   exact hn eJ l0 h1 h2 h3
  rw[u.other b' bN];exact e.frame b' eQ hn
 lO:=e.lO
 pA:=e.pA
 next:=e.next
 news:=e.news
 dead:=e.dead
 mo:=e.mo
 same:=e.same.trans (u.same.toB _)
theorem WR.aUy {g:bB} {G:Gh} {H:aA} {w:World} {id:Nat} (h:WR g G (H.set id .dead) w) (o:dY) (l:Loc) (hl:G.loc id=some l)
 (uF:∀jU l',jU≠id->G.loc jU=some l'->H.live jU->l.cS≠l'.cS\/l.base+l.ext<=l'.base\/l'.base+l'.ext<=l.base)
 (oD:∀j,j<l.ext->¬G.gJ l.cS (l.base+j))
 (Ov:∀cs opn,o=.cells cs opn->l.VP=cs.length/\l.VP<=l.ext/\(opn=false->l.VP=l.ext)/\(∀c∈cs,c.one=true)/\
   ∀j,j<cs.length->∃u,w.cell? ⟨l.cS,l.base+j,none⟩=some u/\VR G w (cs.getD j aD) u)
 (xH:((∃cs opn,o=.cells cs opn)\/o=.tok)->∃c el fz,w.heap[l.cS]?=some (.cells c el fz)/\l.base+l.ext<=c.size/\∀j,j<l.ext->w.frozen? ⟨l.cS,l.base+j,none⟩=false)
 (Tt:o.cS=true->l.base=0/\l.ext=1/\LG g G w l o):
 WR g G (H.set id o) w:=by
 have cG:∀{m},m≠id->(H.set id o).get m=(H.set id .dead).get m:=fun hm=>by rw[aA.aC,aA.aC,if_neg hm,if_neg hm]
 have rT:∀{l'},G.loc id=some l'->l'=l:=fun h'=>Aa (h'.symm.trans hl)
 have qG:∀{m},m≠id->(H.set id o).live m->(H.set id .dead).live m:=fun hm hv=>by obtain⟨x,hx,Wh⟩:=hv;exact⟨x,by rw[<-cG hm];exact hx,Wh⟩
 have aLh:∀{m},m≠id->(H.set id o).live m->H.live m:=fun hm hv=>by
  rcases aA.lA.1 hv with ⟨he,_⟩|⟨_,hv⟩
  · exact absurd he hm
  exact hv
 exact {
  cells:=fun i l' cs opn h1 h2=>by
   by_cases hi:i=id
   · subst hi;rw[aA.aC,if_pos rfl] at h2;obtain rfl:=rT h1;exact Ov cs opn (Aa h2)
   rw[cG hi] at h2;exact h.cells i l' cs opn h1 h2
  room:=fun i l' h1 h2=>by
   by_cases hi:i=id
   · subst hi;simp only[aA.aC,if_true] at h2;obtain rfl:=rT h1;exact xH (h2.imp (fun⟨cs,opn,hh⟩=>⟨cs,opn,Aa hh⟩) (fun hh=>Aa hh))
   simp only[cG hi] at h2;exact h.room i l' h1 h2
  kT:=fun i i' l1 l2 bN h1 h2 sR nJ=>by
   by_cases hi:i=id
   · subst hi;obtain rfl:=rT h1;exact uF i' l2 (Ne.symm bN) h2 (aLh (Ne.symm bN) nJ)
   by_cases oY:i'=id
   · subst oY;obtain rfl:=rT h2
     rcases uF i l1 bN h1 (aLh bN sR) with hd|hd|hd
     · exact .inl (Ne.symm hd)
     · exact .inr (.inr hd)
     exact .inr (.inl hd)
   exact h.kT i i' l1 l2 bN h1 h2 (qG hi sR) (qG oY nJ)
  jM:=fun i l' h1 hv=>by
   by_cases hi:i=id
   · subst hi;obtain rfl:=rT h1;exact oD
   exact h.jM i l' h1 (qG hi hv)
  gZ:=fun i l' ob h1 h2 hk=>by
   by_cases hi:i=id
   · subst hi;rw[aA.aC,if_pos rfl] at h2;obtain rfl:=Aa h2;obtain rfl:=rT h1;exact Tt hk
   rw[cG hi] at h2;exact h.gZ i l' ob h1 h2 hk
  lt:=h.lt
  gN:=h.gN
  iF:=h.iF
  BL:=h.BL
  mo:=h.mo}
theorem Ext.aJp {G G':Gh} {H H':aA} {w w':World} (e:Ext G H w G' H' w') (id:Nat) (o:dY) (hv:H'.live id):Ext G H w G' (H'.set id o) w' where
 loc:=e.loc
 gJ:=e.gJ
 size:=e.size
 frame:=e.frame
 lO:=fun i l hl lP=>by
  rcases aA.lA.1 lP with ⟨he,_⟩|⟨_,lP⟩
  · subst he;exact e.lO i l hl hv
  exact e.lO i l hl lP
 pA:=e.pA
 next:=e.next
 news:=e.news
 dead:=fun i l hl lP=>by
  rcases aA.lA.1 lP with ⟨he,_⟩|⟨_,lP⟩
  · subst he;exact e.dead i l hl hv
  exact e.dead i l hl lP
 mo:=e.mo
 same:=e.same
theorem jH (b o i:Nat):(⟨b,o,none⟩:Addr).add i=⟨b,o+i,none⟩:=by
 unfold Addr.add;split
 · rename_i h;subst h;rfl
 rfl
theorem qS {α:Type} (l:List α) (d:α) (j:Nat) (h:j<l.length):l[j]?=some (l.getD j d):=by simp[List.getD,Ab h]
theorem vN (P:Program) (w:World) (b o:Nat) (us:List Value) (h:∀j,j<us.length->w.cell? ⟨b,o+j,none⟩=some (us.getD j undef)):
 (loadCells ⟨b,o,none⟩ us.length).run P w=.ok us.toArray w:=
 run_loadCells_list w ⟨b,o,none⟩ us (fun j v hj=>by
  have eQ:=(Be.1 hj).1;rw[jH,h j eQ];rw[qS us undef j eQ] at hj
  exact hj)
theorem Xh {w:World} {b o:Nat} {v:Value}:VB w (w.setCell ⟨b,o,none⟩ v) b o [v] where
 size:=by simp[World.setCell]
 other:=fun b' hb=>by simp only[World.setCell,Hr];rw[if_neg (Ne.symm hb)]
 row:=fun c el fz h=>by
  refine⟨c.setIfInBounds o v,?_,by simp,fun o' ho=>?_,fun j hj eQ=>?_⟩
  · simp[World.setCell,Hr,h]
  · rw[Array.getElem?_setIfInBounds_ne];simp at ho;omega
  simp at hj;subst hj;simp at eQ;simp[eQ]
 same:=.now
theorem VB.refl (w:World) (b lo:Nat):VB w w b lo [] where
 size:=rfl
 other:=fun _ _=>rfl
 row:=fun c el fz h=>⟨c,h,rfl,fun _ _=>rfl,fun j hj=>absurd hj (Ax j)⟩
 same:=.now
theorem VB.cons {w w1 w2:World} {b lo:Nat} {v:Value} {vs:List Value} (h1:VB w w1 b lo [v]) (h2:VB w1 w2 b (lo+1) vs):VB w w2 b lo (v::vs) where
 size:=h2.size.trans h1.size
 other:=fun b' hb=>(h2.other b' hb).trans (h1.other b' hb)
 row:=fun c el fz h=>by
  obtain⟨c1,a1,a2,a3,a4⟩:=h1.row c el fz h;obtain⟨c2,b1,b2,b3,b4⟩:=h2.row c1 el fz a1;refine⟨c2,b1,b2.trans a2,fun o ho=>?_,fun j hj eQ=>?_⟩
  · simp only[Ah] at ho;rw[b3 o (by omega),a3 o (by simp;omega)]
  cases j with
  |zero=>rw[b3 _ (by omega)];have :=a4 0 (by simp) (by omega);simpa using this
  |succ j=>have :=b4 j (by simpa using hj) (by omega);rw[show lo+(j+1)=lo+1+j by omega,this];simp
 same:=h1.same.trans h2.same
theorem RX (P:Program) (w:World) (b o:Nat) (v:Value) (u:Value) (hc:w.cell? ⟨b,o,none⟩=some u) (hf:w.frozen? ⟨b,o,none⟩=false) (h1:aDb v=true):
 (store ⟨b,o,none⟩ v).run P w=.ok () (w.setCell ⟨b,o,none⟩ v):=by
 cases v<;>first
  |(simp[aDb] at h1;done)
  |simp[store,Sem.run,hc,hf]
theorem fQ (P:Program) (b o:Nat):∀(vs:List Value) (i:Nat) (w:World),(∃c el fz,w.heap[b]?=some (.cells c el fz)/\o+i+vs.length<=c.size)->
 (∀j,j<vs.length->w.frozen? ⟨b,o+i+j,none⟩=false)->(∀v∈vs,aDb v=true)->
 ∃w',(storeCells ⟨b,o,none⟩ vs i).run P w=.ok () w'/\VB w w' b (o+i) vs
 |[],i,w,_,_,_=>⟨w,rfl,VB.refl w b _⟩
 |v::r,i,w,⟨c,el,fz,kY,jA⟩,hf,h1=>by
  simp only[Ah] at jA;have iB:w.cell? ⟨b,o+i,none⟩=some c[o+i]:=by rw[lS kY,Dx (by omega)]
  have HJ:=RX P w b (o+i) v _ iB (by simpa using hf 0 (by simp)) (h1 v (by simp));have hu:VB w (w.setCell ⟨b,o+i,none⟩ v) b (o+i) [v]:=Xh;obtain⟨c1,a1,a2,_,_⟩:=hu.row c el fz kY
  obtain⟨w',hr,hu'⟩:=fQ P b o r (i+1) (w.setCell ⟨b,o+i,none⟩ v) ⟨c1,el,fz,a1,by omega⟩
   (fun j hj=>by
     rw[hu.frozen kY];have :=hf (j+1) (by simpa using hj)
     rwa [show o+(i+1)+j=o+i+(j+1) by omega]) (fun x hx=>h1 x (by simp[hx]))
  refine⟨w',?_,hu.cons (by rwa [show o+i+1=o+(i+1) by omega])⟩;simp only[storeCells,Sem.run_bind,jH,HJ,Result.andThen_ok];exact hr
structure gV (w w':World) (o:Go.Obj):Prop where
 heap:w'.heap=w.heap.push o
 same:AS w w'
theorem gV.VN {w w':World} {o:Go.Obj} (p:gV w w' o) (b:Nat) (h:b<w.heap.size):w'.heap[b]?=w.heap[b]?:=by rw[p.heap];exact IP _ _ h
theorem gV.new {w w':World} {o:Go.Obj} (p:gV w w' o):w'.heap[w.heap.size]?=some o:=by rw[p.heap];simp
theorem gV.size {w w':World} {o:Go.Obj} (p:gV w w' o):w'.heap.size=w.heap.size+1:=by rw[p.heap];simp
theorem WR.GQ {g:bB} {G:Gh} {H:aA} {w w':World} {o:Go.Obj} (h:WR g G H w) (p:gV w w' o):WR g G H w':=
 h.grow p.VN
theorem Ext.GQ {g:bB} {G:Gh} {H:aA} {w w':World} {o:Go.Obj} (h:WR g G H w) (p:gV w w' o):Ext G H w G H w':=
 Ext.grow h.gN p.VN (by rw[p.size];omega) p.same
theorem gI.nil (G:Gh) (w:World):gI G w [] []:=⟨rfl,fun j hj=>absurd hj (Ax j)⟩
def Clear (arr:Array Value) (fz:Nat×Nat):Prop:=∀o,o<arr.size->(decide (fz.1<=o)&&decide (o<fz.2))=false
theorem Clear.zero (arr:Array Value):Clear arr (0,0):=fun o _=>by simp
structure Made (g:bB) (G:Gh) (H:aA) (w:World) (eJ:Nat) (o:dY) (G':Gh) (H':aA) (w':World):Prop where
 rel:WR g G' H' w'
 bIw:∃l,l.cS=w.heap.size/\G'.loc eJ=some l/\∀id,id≠eJ->G'.loc id=G.loc id
 ext:∀{G0:Gh} {H0:aA} {w0:World},Ext G0 H0 w0 G H w->H0.next<=eJ->Ext G0 H0 w0 G' H' w'
 pA:∀b o,G'.gJ b o->G.gJ b o\/b=w.heap.size
 bGp:∀b o,G.gJ b o->G'.gJ b o
 size:w'.heap.size=w.heap.size+1
 VN:∀b,b<w.heap.size->w'.heap[b]?=w.heap[b]?
theorem WR.xT {g:bB} {G:Gh} {H H':aA} {w w':World} (h:WR g G H w) (eJ:Nat) (hid:G.loc eJ=none) (cs:List AV) (vs rest:List Value) (hv:gI G w cs vs) (h1:∀c∈cs,c.one=true)
 (opn:Bool) (ho:opn=false->rest=[]) (cG:∀m,H'.get m=if m=eJ then some (.cells cs opn) else H.get m) (xG:H.next<=H'.next) (BO:eJ<H'.next)
 {el:TypeId} {fz:Nat×Nat} (fy:Clear (vs++rest).toArray fz) (p:gV w w' (.cells (vs++rest).toArray el fz)):
 Made g G H w eJ (.cells cs opn) (G.dS eJ ⟨w.heap.size,0,cs.length,(vs++rest).length⟩) H' w':=by
 have hp:=h.GQ p;have he:=Ext.GQ h p;have Ln:=p.new
 refine⟨hp.IA eJ _ _ hid cG xG BO (fun id l' hl hv=>.inl (Ne.symm (Nat.ne_of_lt (h.mR hl hv)))) (fun j _ hi=>?_) (fun CY aDc yT=>?_) (fun _=>?_) (fun yT=>by cases yT),
  ⟨⟨w.heap.size,0,cs.length,(vs++rest).length⟩,rfl,by simp only[Gh.dS,if_true],fun id bN=>by simp only[Gh.dS];rw[if_neg bN]⟩,fun {G0 H0 w0} e0 Mg=>(e0.trans he).IA eJ _ _ hid cG xG Mg (.inl ?_),fun b o hi=>.inl hi,fun b o hi=>hi,p.size,p.VN⟩
 · obtain⟨v,hv⟩:=h.gN _ _ hi;have :=pJ hv;simp at this
 · cases yT;have hlen:=hv.1;refine⟨rfl,by simp[hlen],fun fF=>by simp[ho fF,hlen],h1,fun j hj=>⟨vs.getD j undef,?_,(hv.2 j hj).mono he.loc he.gJ⟩⟩;rw[lS Ln];have HH:j<vs.length:=by omega
   rw[Fc];simp only[Df];rw[Ex HH,qS vs undef j HH]
 · exact⟨_,el,fz,Ln,by simp,fun j hj=>by rw[rF Ln];exact fy _ (by simpa using hj)⟩
 exact e0.size
theorem WR.aJe {g:bB} {G:Gh} {H:aA} {w w':World} (h:WR g G H w) (cs:List AV) (vs rest:List Value) (hv:gI G w cs vs) (h1:∀c∈cs,c.one=true)
 (opn:Bool) (ho:opn=false->rest=[]) {el:TypeId} {fz:Nat×Nat} (fy:Clear (vs++rest).toArray fz) (p:gV w w' (.cells (vs++rest).toArray el fz)):
 WR g (G.dS H.next ⟨w.heap.size,0,cs.length,(vs++rest).length⟩) (H.alloc (.cells cs opn)) w'/\
  Ext G H w (G.dS H.next ⟨w.heap.size,0,cs.length,(vs++rest).length⟩) (H.alloc (.cells cs opn)) w':=by
 have hid:G.loc H.next=none:=by
  cases hl:G.loc H.next with
  |none=>rfl
  |some l'=>exact absurd (h.lt _ _ hl) (Fe _)
 have :=h.xT H.next hid cs vs rest hv h1 opn ho (aA.aF H _) (Hb _) (Ew _) fy p;exact⟨this.rel,this.ext (Ext.refl G H w) (Ak _)⟩
theorem WR.ju {g:bB} {G:Gh} {H:aA} {w w':World} (h:WR g G H w) (cs:List AV) (vs rest:List Value) (hv:gI G w cs vs)
 {el:TypeId} {fz:Nat×Nat} (p:gV w w' (.cells (vs++rest).toArray el fz)):
 WR g (G.nV w.heap.size 0 cs.length) H w'/\Ext G H w (G.nV w.heap.size 0 cs.length) H w'/\
  ∀j,j<cs.length->(G.nV w.heap.size 0 cs.length).gJ w.heap.size (0+j)/\w'.cell? ⟨w.heap.size,0+j,none⟩=some (vs.getD j undef)/\
   VR (G.nV w.heap.size 0 cs.length) w' (cs.getD j aD) (vs.getD j undef):=by
 have hp:=h.GQ p;have he:=Ext.GQ h p;have Ln:=p.new;have hlen:=hv.1
 have iB:∀j,j<cs.length->w'.cell? ⟨w.heap.size,0+j,none⟩=some (vs.getD j undef):=fun j hj=>by
  have HH:j<vs.length:=by omega
  rw[lS Ln];rw[Fc];simp only[Df];rw[Ex HH,qS vs undef j HH]
 have yT:=he.nV w.heap.size 0 cs.length (.inl (Ak _));refine⟨hp.nV _ _ _ (fun j hj=>⟨_,iB j hj⟩) (fun id l hl hv=>.inl (Nat.ne_of_lt (h.mR hl hv))),yT,fun j hj=>⟨.inr ⟨rfl,by omega,by omega⟩,iB j hj,(hv.2 j hj).mono yT.loc yT.gJ⟩⟩
theorem WR.Sv {g:bB} {G:Gh} {H H':aA} {w w':World} (h:WR g G H w) (eJ:Nat) (hid:G.loc eJ=none) (cs:List AV) (vs rest:List Value) (hv:gI G w cs vs)
 (cG:∀m,H'.get m=if m=eJ then some .tok else H.get m) (xG:H.next<=H'.next) (BO:eJ<H'.next)
 {el:TypeId} {fz:Nat×Nat} (fy:Clear (vs++rest).toArray fz) (p:gV w w' (.cells (vs++rest).toArray el fz)):
 ∃G',G'.loc eJ=some ⟨w.heap.size,cs.length,0,rest.length⟩/\Made g G H w eJ .tok G' H' w'/\
  ∀j,j<cs.length->G'.gJ w.heap.size (0+j)/\w'.cell? ⟨w.heap.size,0+j,none⟩=some (vs.getD j undef)/\VR G' w' (cs.getD j aD) (vs.getD j undef):=by
 obtain⟨hw,he,hc⟩:=h.ju cs vs rest hv p;have Ln:=p.new;have hlen:=hv.1;have GD:(G.nV w.heap.size 0 cs.length).loc eJ=none:=hid
 refine⟨(G.nV w.heap.size 0 cs.length).dS eJ ⟨w.heap.size,cs.length,0,rest.length⟩,by simp[Gh.dS],⟨?_,⟨_,rfl,by simp[Gh.dS];rfl,fun id bN=>by simp only[Gh.dS];rw[if_neg bN];rfl⟩,fun {G0 H0 w0} e0 Mg=>?_,fun b o hi=>hi.imp id (fun hh=>hh.1),fun b o hi=>.inl hi,p.size,p.VN⟩,
  fun j hj=>⟨(hc j hj).1,(hc j hj).2.1,(hc j hj).2.2.mono (fun id l hl=>?_) (fun b o hi=>⟨hi,rfl⟩)⟩⟩
 · refine hw.IA eJ .tok _ GD cG xG BO (fun id l' hl hv=>.inl (Ne.symm (Nat.ne_of_lt (h.mR hl hv)))) (fun j _ hi=>?_) (fun CY aDc yT=>by cases yT) (fun _=>?_) (fun yT=>by cases yT)
   · rcases hi with hi|⟨_,_,hi⟩
     · obtain⟨v,hv⟩:=h.gN _ _ hi;have :=pJ hv;simp at this
     simp at hi;omega
   exact⟨_,el,fz,Ln,by simp[hlen],fun j hj=>by rw[rF Ln];exact fy _ (by simp at hj;simp;omega)⟩
 · exact(e0.trans he).IA eJ .tok _ GD cG xG Mg (.inl e0.size)
 simp only[Gh.dS];rw[if_neg (fun he=>by rw[he,GD] at hl;cases hl)];exact hl
theorem WR.aJf {g:bB} {G:Gh} {H:aA} {w w':World} (h:WR g G H w) (cs:List AV) (vs rest:List Value) (hv:gI G w cs vs)
 {el:TypeId} {fz:Nat×Nat} (fy:Clear (vs++rest).toArray fz) (p:gV w w' (.cells (vs++rest).toArray el fz)):
 ∃G',G'.loc H.next=some ⟨w.heap.size,cs.length,0,rest.length⟩/\WR g G' (H.alloc .tok) w'/\Ext G H w G' (H.alloc .tok) w'/\
  ∀j,j<cs.length->G'.gJ w.heap.size (0+j)/\w'.cell? ⟨w.heap.size,0+j,none⟩=some (vs.getD j undef)/\VR G' w' (cs.getD j aD) (vs.getD j undef):=by
 have hid:G.loc H.next=none:=by
  cases hl:G.loc H.next with
  |none=>rfl
  |some l'=>exact absurd (h.lt _ _ hl) (Fe _)
 obtain⟨G',h1,h2,h3⟩:=h.Sv H.next hid cs vs rest hv (aA.aF H _) (Hb _) (Ew _) fy p;exact⟨G',h1,h2.rel,h2.ext (Ext.refl G H w) (Ak _),h3⟩
section
def JT:Value->Option AV
 |.bool b=>some (.bool b)
 |.int k n=>some (.int k n)
 |.string s=>some (.str s.data.toList)
 |.pointer none=>some .Lv
 |.slice none 0 0=>some .aS
 |.nilFunc=>some .BX
 |.nilIface=>some .pW
 |.map none=>some .sU
 |_=>none
def jC:List Value->Option (List AV)
 |[]=>some []
 |v::r=>match JT v,jC r with
  |some a,some b=>some (a::b)
  |_,_=>none
def ofConst:Value->Option AV
 |.agg cs=>(jC cs.toList).map .agg
 |v=>JT v
theorem Mv {v:Value} {a:AV} (h:JT v=some a) (G:Gh) (w:World):VR G w a v/\a.one=true:=by
 unfold JT at h
 split at h<;>first
  |(cases h;done)
  |(obtain rfl:=Aa h;exact⟨by constructor,rfl⟩)
theorem gI.cons {G:Gh} {w:World} {x:AV} {v:Value} {xs:List AV} {vs:List Value} (h:VR G w x v) (hs:gI G w xs vs):gI G w (x::xs) (v::vs):=
 ⟨by simp[hs.1],fun j hj=>by
   cases j with
   |zero=>simpa using h
   |succ j=>simpa using hs.2 j (by simpa using hj)⟩
theorem VR.cons {G:Gh} {w:World} {x:AV} {v:Value} {xs:List AV} {vs:List Value} (h:VR G w x v) (hs:gI G w xs vs):gI G w (x::xs) (v::vs):=
 gI.cons h hs
theorem lV:∀{vs:List Value} {cs:List AV},jC vs=some cs->∀(G:Gh) (w:World),gI G w cs vs/\∀c∈cs,c.one=true
 |[],cs,h,G,w=>by obtain rfl:=Aa h;exact⟨gI.nil G w,fun c hc=>by cases hc⟩
 |v::r,cs,h,G,w=>by
  unfold jC at h;split at h
  · rename_i a b ha hb;obtain rfl:=Aa h;have h1:=Mv ha G w;have h2:=lV hb G w
    exact⟨h1.1.cons h2.1,fun c hc=>by
     rcases Aq.1 hc with rfl|hc
     · exact h1.2
     exact h2.2 c hc⟩
  cases h
theorem VR.Yc {G:Gh} {w:World} {cs:List AV} {vs:List Value} (h:gI G w cs vs) (h1:∀c∈cs,c.one=true):VR G w (.agg cs) (.agg vs.toArray):=
 .agg cs vs h.1 h1 h.2
theorem GN {v:Value} {a:AV} (h:ofConst v=some a) (G:Gh) (w:World):VR G w a v:=by
 unfold ofConst at h;split at h
 · rename_i cs
   cases hc:jC cs.toList with
   |none=>simp[hc] at h
   |some b=>simp[hc] at h;subst h;have :=lV hc G w;simpa using VR.Yc this.1 this.2
 exact(Mv h G w).1
theorem VR.cellsOf {G:Gh} {w:World} {a:AV} {v:Value} (h:VR G w a v) (ht:a.EV=false):gI G w a.cells v.cells.toList/\∀c∈a.cells,c.one=true:=by
 cases h with
 |agg cs vs hl h1 hv=>exact⟨⟨by simpa [AV.cells,Value.cells] using hl,by simpa [AV.cells,Value.cells] using hv⟩,h1⟩
 |gP cs vs hl hv=>simp[AV.EV] at ht
 |_=>exact⟨gI.cons (by constructor<;>assumption) (gI.nil G w),fun c hc=>by
   simp only[AV.cells,Bq] at hc;subst hc
   rfl⟩
def bE (g:bB):Operand->Option Arg
 |.tmp t=>some (.tmp t)
 |.const v=>(ofConst v).map .const
 |.global n=>if(g n).isSome then some (.iF n) else none
 |.func f=>some (.const (.func (.func f) [] []))
def SR (G:Gh) (w:World) (s:List AV) (a:Act):Prop:=gI G w s a.tmps.toList
theorem SR.getD {G:Gh} {w:World} {s:List AV} {a:Act} (h:SR G w s a) (t:Nat):VR G w (s.getD t aD) (a.tmps.getD t undef):=by
 have hlen:=h.1;by_cases ht:t<s.length
 · have :=h.2 t ht
   have e:a.tmps.getD t undef=a.tmps.toList.getD t undef:=by simp[List.getD,Bn]
   rw[e];exact this
 have e1:s.getD t aD=aD:=by simp[List.getD,Bw (Jd ht)]
 have e2:a.tmps.getD t undef=undef:=by
  have :¬t<a.tmps.size:=by simp at hlen;omega
  simp[Array.getD,this]
 rw[e1,e2];exact VR.nD G w
theorem bD {g:bB} {G:Gh} {H:aA} {w:World} {s:List AV} {a:Act} (hw:WR g G H w) (hs:SR G w s a) {x:Operand} {y:Arg} (h:bE g x=some y):
 VR G w (y.eval g s) (a.eval x):=by
 cases x with
 |tmp t=>obtain rfl:=Aa h;exact hs.getD t
 |const v=>simp only[bE,Ag] at h;obtain⟨c,hc,rfl⟩:=h;exact GN hc G w
 |global n=>
  simp only[bE] at h;split at h
  · rename_i hg;obtain rfl:=Aa h;obtain⟨cs,KT⟩:=Option.isSome_iff_exists.1 hg;simp only[Arg.eval,KT,Act.eval];exact hw.iF n cs KT
  cases h
 |func f=>obtain rfl:=Aa h;exact VR.func _ [] [] [] [] rfl rfl (fun j hj=>absurd hj (Ax j)) (fun j hj=>absurd hj (Ax j))
def nX (g:bB):List Operand->Option (List Arg)
 |[]=>some []
 |x::r=>match bE g x,nX g r with
  |some a,some b=>some (a::b)
  |_,_=>none
theorem uB {g:bB} {G:Gh} {H:aA} {w:World} {s:List AV} {a:Act} (hw:WR g G H w) (hs:SR G w s a):∀{xs:List Operand} {ys:List Arg},nX g xs=some ys->
 gI G w (ys.map (Arg.eval g s)) (xs.map a.eval)
 |[],ys,h=>by obtain rfl:=Aa h;exact gI.nil G w
 |x::r,ys,h=>by
  unfold nX at h;split at h
  · rename_i y b hy hb;obtain rfl:=Aa h;exact(bD hw hs hy).cons (uB hw hs hb)
  cases h
def nB (g:bB):Option Operand->Option (Option Arg)
 |none=>some none
 |some x=>(bE g x).map some
def fG (P:Program) (t:TypeId):Option Bool:=
 match P.underlying t with
 |some (.struct _)|some (.array _ _)=>some true
 |some _=>some false
 |none=>none
theorem rC {P:Program} {t:TypeId} {b:Bool} (h:fG P t=some b) (w:World):(isAgg t).run P w=.ok b w:=by
 unfold fG at h;unfold isAgg;split at h
 · rename_i fs hu;obtain rfl:=Aa h;simp[run_underlying hu w]
 · rename_i n e hu;obtain rfl:=Aa h;simp[run_underlying hu w]
 · rename_i d h1 h2 hu;obtain rfl:=Aa h;simp only[Sem.run_bind,run_underlying hu w,Result.andThen_ok];rfl
 cases h
def jV (P:Program) (t:TypeId):Option Nat:=(P.info? t).map (·.size)
theorem eG {P:Program} {t:TypeId} {n:Nat} (h:jV P t=some n) (w:World):(sizeOf t).run P w=.ok n w:=by simp only[jV,Ag] at h;obtain⟨i,hi,rfl⟩:=h;simp[sizeOf,typeInfo,program,Sem.run,hi]
def lN (P:Program) (t:TypeId):Option Value:=(P.info? t).bind (·.zero)
theorem lH {P:Program} {t:TypeId} {v:Value} (h:lN P t=some v) (w:World):(zeroValue t).run P w=.ok v w:=by simp only[lN,Option.bind_eq_some_iff] at h;obtain⟨i,hi,hz⟩:=h;simp[zeroValue,typeInfo,program,Sem.run,hi,hz]
def Rf (n:Next) (u:Value):Prop:=n=.value u\/(n=.skip/\u=undef)
def cJ (P:Program) (g:bB) (o:Oper) (r:dX):Prop:=
 ∀(s:List AV) (a:Act) (G:Gh) (H:aA) (w:World) (v:AV) (H':aA),WR g G H w->SR G w s a->dK (Arg.eval g s) H r=some (v,H')->
  ∃n u w' G',(execOp a.eval o).run P w=.ok n w'/\Rf n u/\WR g G' H' w'/\Ext G H w G' H' w'/\VR G' w' v u
theorem cJ.pure' {P:Program} {g:bB} {o:Oper} {G:Gh} {H:aA} {w:World} {v:AV} {a:Act} {u:Value} (hw:WR g G H w)
 (hr:(execOp a.eval o).run P w=.ok (.value u) w) (hv:VR G w v u):
 ∃n u w' G',(execOp a.eval o).run P w=.ok n w'/\Rf n u/\WR g G' H w'/\Ext G H w G' H w'/\VR G' w' v u:=
 ⟨_,u,w,G,hr,.inl rfl,hw,Ext.refl G H w,hv⟩
def EJ (P:Program) (g:bB) (o:Oper) (r:dX):Prop:=
 ∀(s:List AV) (a:Act) (G:Gh) (H H':aA) (w:World) (ob:dY) (val:Nat->AV) (eJ:Nat),WR g G H w->SR G w s a->yQ (Arg.eval g s) r=some (ob,val)->
  G.loc eJ=none->(∀m,H'.get m=if m=eJ then some ob else H.get m)->H.next<=H'.next->eJ<H'.next->
  ∃u w' G',(execOp a.eval o).run P w=.ok (.value u) w'/\Made g G H w eJ ob G' H' w'/\VR G' w' (val eJ) u
theorem EJ.op {P:Program} {g:bB} {o:Oper} {r:dX} (h:EJ P g o r) (hr:∀ev H,dK ev H r=(yQ ev r).map fun p=>(p.2 H.next,H.alloc p.1)):cJ P g o r:=by
 intro s a G H w v H' hw hs ha;rw[hr] at ha;simp only[Ag,Aj] at ha;obtain⟨⟨ob,val⟩,hf,rfl,rfl⟩:=ha
 have hid:G.loc H.next=none:=by
  cases hl:G.loc H.next with
  |none=>rfl
  |some l'=>exact absurd (hw.lt _ _ hl) (Fe _)
 obtain⟨u,w',G',h1,h2,h3⟩:=h s a G H (H.alloc ob) w ob val H.next hw hs hf hid (aA.aF H _) (Hb _) (Ew _);exact⟨_,u,w',G',h1,.inl rfl,h2.rel,h2.ext (Ext.refl G H w) (Ak _),h3⟩
section
variable {P:Program} {g:bB} {o:Oper}
theorem jj {x:Operand} {y:Arg} (ho:o.op=.move x\/o.op=.assign x) (hx:bE g x=some y):cJ P g o (.Ni y):=by
 intro s a G H w v H' hw hs h;simp only[dK,Ac,Aj] at h;obtain⟨rfl,rfl⟩:=h;refine cJ.pure' hw (u:=a.eval x) ?_ (bD hw hs hx)
 rcases ho with ho|ho<;>simp[execOp,ho]
theorem aIl {c x y:Operand} {c' x' y':Arg} (ho:o.op=.pick c x y) (hc:bE g c=some c') (hx:bE g x=some x') (hy:bE g y=some y'):cJ P g o (.pick c' x' y'):=by
 intro s a G H w v H' hw hs h;have vc:=bD hw hs hc;have vx:=bD hw hs hx;have vy:=bD hw hs hy;simp only[dK] at h;split at h
 · rename_i t ht;rw[ht] at vc;simp only[Ac,Aj] at h;obtain⟨rfl,rfl⟩:=h
   cases hcv:a.eval c with
   |bool b=>rw[hcv] at vc;cases vc;refine cJ.pure' hw (u:=if t then a.eval x else a.eval y) ?_ (by cases t<;>simpa);simp[execOp,ho,hcv,asBool]
   |_=>rw[hcv] at vc;cases vc
 cases h
theorem SB {t:TypeId} {z:Value} {zs:List AV} (ho:o.op=.alloc t) (hz:lN P t=some z) (DL:jC z.cells.toList=some zs):EJ P g o (.alloc zs):=by
 intro s a G H H' w ob val eJ hw hs h hid cG xG eQ;simp only[yQ,Ac,Aj] at h;obtain⟨rfl,rfl⟩:=h;have hc:=lV DL G w;have hp:gV w {w with heap:=w.heap.push (.cells z.cells t)} (.cells (z.cells.toList++[]).toArray t (0,0)):=⟨by simp,.now⟩;have hm:=hw.xT eJ hid zs z.cells.toList [] hc.1 hc.2 false (fun _=>rfl) cG xG eQ (Clear.zero _) hp;refine⟨.pointer (some ⟨w.heap.size,0,none⟩),_,_,?_,hm,?_⟩
 · simp[execOp,ho,Instr.alloc,lH hz w,newVar,newRow,newObj,Sem.run]
 exact VR.ref eJ 0 ⟨w.heap.size,0,zs.length,(z.cells.toList++[]).length⟩ (by simp only[Gh.dS,if_true])
theorem aCs {t:TypeId} {z:Value} {zs:List AV} (ho:o.op=.alloc t) (hz:lN P t=some z) (DL:jC z.cells.toList=some zs):cJ P g o (.alloc zs):=
 (SB ho hz DL).op fun _ _=>rfl
theorem fm {t:TypeId} {x:Operand} {x':Arg} (ho:o.op=.box t x) (hx:bE g x=some x'):EJ P g o (.box x'):=by
 intro s a G H H' w ob val eJ hw hs h hid cG xG eQ;simp only[yQ] at h;split at h
 · cases h
 rename_i ht;simp only[Ac,Aj] at h;obtain⟨rfl,rfl⟩:=h;have hc:=(bD hw hs hx).cellsOf (by simpa using ht);have hp:gV w {w with heap:=w.heap.push (.cells (a.eval x).cells t)} (.cells ((a.eval x).cells.toList++[]).toArray t (0,0)):=⟨by simp,.now⟩;have hm:=hw.xT eJ hid _ _ [] hc.1 hc.2 false (fun _=>rfl) cG xG eQ (Clear.zero _) hp;refine⟨.pointer (some ⟨w.heap.size,0,none⟩),_,_,?_,hm,?_⟩
 · simp[execOp,ho,Instr.box,newVar,newRow,newObj,Sem.run]
 exact VR.ref eJ 0 ⟨w.heap.size,0,(x'.eval g s).cells.length,((a.eval x).cells.toList++[]).length⟩ (by simp only[Gh.dS,if_true])
theorem aUj {t:TypeId} {x:Operand} {x':Arg} (ho:o.op=.box t x) (hx:bE g x=some x'):cJ P g o (.box x'):=
 (fm ho hx).op fun _ _=>rfl
theorem aIk {t:TypeId} {x:Operand} {x':Arg} (ho:o.op=.makeInterface t x) (hx:bE g x=some x')
 (ht:(match P.underlying t with|some (.interface _)=>false|some _=>true|none=>false)=true):cJ P g o (.Zr t x'):=by
 intro s a G H w v H' hw hs h;simp only[dK,Ac,Aj] at h;obtain⟨rfl,rfl⟩:=h;refine cJ.pure' hw (u:=.iface t (a.eval x)) ?_ (.iface t _ _ (bD hw hs hx));split at ht
 · cases ht
 · rename_i d hd hu;simp only[execOp,ho,Instr.makeInterface,Sem.run_bind,run_underlying hu w,Result.andThen_ok];rfl
 cases ht
theorem aIj {fn:Fn} {fs cs:Array Operand} {fs' CY:List Arg} (ho:o.op=.makeFunc fn fs cs) (hf:nX g fs.toList=some fs') (hc:nX g cs.toList=some CY):cJ P g o (.Zq fn fs' CY):=by intro s a G H w v H' hw hs h;simp only[dK,Ac,Aj] at h;obtain⟨rfl,rfl⟩:=h;have h1:=uB hw hs hf;have h2:=uB hw hs hc;refine cJ.pure' hw (u:=.func fn (fs.toList.map a.eval).toArray (cs.toList.map a.eval).toArray) ?_ (.func fn _ _ _ _ h1.1 h2.1 h1.2 h2.2);simp only[execOp,ho,Instr.makeFunc,Sem.run_bind,Sem.run_pure,Result.andThen_ok];congr 3<;>(apply Fq;simp)
theorem aIb {x:Operand} {x':Arg} {i:Nat} (ho:o.op=.extract x i) (hx:bE g x=some x'):cJ P g o (.ZB x' i):=by
 intro s a G H w v H' hw hs h;have vx:=bD hw hs hx;simp only[dK] at h;split at h
 · rename_i vs fP;rw[fP] at vx;split at h
   · rename_i hi;simp only[Ac,Aj] at h;obtain⟨rfl,rfl⟩:=h
     cases eB:a.eval x with
     |tuple us=>
      rw[eB] at vx
      cases vx with
      |gP _ us' hl hv=>refine cJ.pure' hw (u:=us'.getD i undef) ?_ (hv i hi);have oY:i<us'.length:=(by omega);simp only[execOp,ho,eB,Instr.extract,Fc,qS us' undef i oY,Sem.run_bind,Sem.run_pure,Result.andThen_ok]
     |_=>rw[eB] at vx;cases vx
   cases h
 cases h
theorem VR.fV {G:Gh} {w:World} {k:IntKind} {n:Int} {u:Value} (h:VR G w (.int k n) u):u=.int k n:=by cases h;rfl
theorem VR.jJ {G:Gh} {w:World} {b:Bool} {u:Value} (h:VR G w (.bool b) u):u=.bool b:=by cases h;rfl
theorem VR.fB {G:Gh} {w:World} {s:List UInt8} {u:Value} (h:VR G w (.str s) u):u=.string ⟨s.toArray⟩:=by cases h;rfl
theorem VR.MF (G:Gh) (w:World) (s:List UInt8):VR G w (.str s) (.string ⟨s.toArray⟩):=by have :=VR.str (G:=G) (w:=w) ⟨s.toArray⟩;simpa using this
theorem uC {G:Gh} {w:World} {a:AV} {u:Value} {n:Nat} (h:asNat a=some n) (hv:VR G w a u):∃k,a=.int k n/\u=.int k n:=by
 cases a<;>simp only[asNat] at h<;>try (cases h;done)
 rename_i k m;split at h
 · rename_i hm;obtain rfl:=Aa h;refine⟨k,by rw[Le hm],by rw[Le hm];exact hv.fV⟩
 cases h
end
end
section
theorem getD_eq {α:Type} (l:List α) (d:α) (j:Nat):l.getD j d=(l[j]?).getD d:=rfl
theorem eM {α:Type} (l:List α) (d:α) (o n j:Nat) (h:j<n):((l.drop o).take n).getD j d=l.getD (o+j) d:=by simp only[getD_eq];rw[Gj,if_pos h,Ft]
theorem DG {α:Type} (l:List α) (d:α) (o j:Nat):(l.drop o).getD j d=l.getD (o+j) d:=by simp only[getD_eq,Ft]
theorem getD_take {α:Type} (l:List α) (d:α) (n j:Nat) (h:j<n):(l.take n).getD j d=l.getD j d:=by simp only[getD_eq];rw[Gj,if_pos h]
theorem rI (cs:List AV) (off:Nat) (vs:List AV) (h:off+vs.length<=cs.length):(gO cs off vs).length=cs.length:=by simp[gO];omega
theorem MY (cs:List AV) (off:Nat) (vs:List AV) (d:AV) (h:off+vs.length<=cs.length) (j:Nat):
 (gO cs off vs).getD j d=if off<=j/\j<off+vs.length then vs.getD (j -off) d else cs.getD j d:=by
 simp only[getD_eq,gO];rw[Dr];simp only[An,Cb];have hm:min off cs.length=off:=by omega
 rw[hm];by_cases h1:j<off+vs.length
 · rw[if_pos h1,Dr];simp only[Cb,hm];by_cases h2:j<off
   · rw[if_pos h2,if_neg (by omega),Gj,if_pos h2]
   rw[if_neg h2,if_pos (by omega)]
 rw[if_neg h1,if_neg (by omega),Ft];congr 2;omega
theorem Pe {cs:List AV} {off:Nat} {vs:List AV} {c:AV} (h:c∈gO cs off vs):c∈cs\/c∈vs:=by
 simp only[gO,As] at h
 rcases h with (h|h)|h
 · exact .inl (Cx h)
 · exact .inr h
 exact .inl (Es h)
theorem JO {cs:List AV} {j:Nat} (h:j<cs.length):cs.getD j aD∈cs:=by rw[getD_eq,Ab h];exact Ai h
theorem OR {G:Gh} {w:World} {b o n:Nat} {cs:List AV} (h:∀j,j<n->∃u,w.cell? ⟨b,o+j,none⟩=some u/\VR G w (cs.getD j aD) u):
 ∃us:List Value,us.length=n/\(∀j,j<n->w.cell? ⟨b,o+j,none⟩=some (us.getD j undef))/\∀j,j<n->VR G w (cs.getD j aD) (us.getD j undef):=by
 have hd:∀j,j<n->((List.range n).map fun j=>(w.cell? ⟨b,o+j,none⟩).getD undef).getD j undef=(w.cell? ⟨b,o+j,none⟩).getD undef:=fun j hj=>by simp[getD_eq,Gw hj]
 refine⟨(List.range n).map fun j=>(w.cell? ⟨b,o+j,none⟩).getD undef,by simp,fun j hj=>?_,fun j hj=>?_⟩
 · rw[hd j hj];obtain⟨u,hu,_⟩:=h j hj;rw[hu];rfl
 rw[hd j hj];obtain⟨u,hu,hv⟩:=h j hj;rw[hu];exact hv
theorem KG {P:Program} {G:Gh} {w:World} {t:TypeId} {agg:Bool} {n b o:Nat} {cs:List AV} (hag:fG P t=some agg) (jA:jV P t=some n)
 (hlen:n=cs.length) (h1:∀c∈cs,c.one=true) (hn:agg=false->n=1)
 (h:∀j,j<n->∃u,w.cell? ⟨b,o+j,none⟩=some u/\VR G w (cs.getD j aD) u):
 ∃u,(loadVar t ⟨b,o,none⟩).run P w=.ok u w/\VR G w (if agg then .agg cs else cs.getD 0 aD) u:=by
 obtain⟨us,hl,hc,hv⟩:=OR h
 cases agg with
 |true=>refine⟨.agg us.toArray,?_,.agg cs us (by omega) h1 (fun j hj=>hv j (by omega))⟩;have hr:=vN P w b o us (fun j hj=>hc j (by omega));rw[hl] at hr;simp[loadVar,rC hag w,eG jA w,hr]
 |false=>have h1':=hn rfl;have hc0:=hc 0 (by omega);have Qq:=hv 0 (by omega);refine⟨us.getD 0 undef,?_,Qq⟩;simp only[Di] at hc0;simp only[loadVar,Sem.run_bind,rC hag w,Result.andThen_ok,Bj,Cm,run_load,hc0]
theorem WR.store {g:bB} {G:Gh} {H:aA} {w w':World} (h:WR g G H w) {id:Nat} {l:Loc} {cs:List AV} {opn:Bool} (hl:G.loc id=some l) (hg:H.get id=some (.cells cs opn))
 {off:Nat} {xs:List AV} {vs:List Value} (hv:gI G w xs vs) (h1:∀c∈xs,c.one=true) (gD:off+xs.length<=cs.length) (u:VB w w' l.cS (l.base+off) vs):
 WR g G (H.set id (.cells (gO cs off xs) opn)) w'/\Ext G H w G (H.set id (.cells (gO cs off xs) opn)) w':=by
 have lM:H.live id:=⟨_,hg,rfl⟩;obtain⟨a1,a2,a3,a4,a5⟩:=h.cells id l cs opn hl hg;obtain⟨c,el,fz,b1,b2,b3⟩:=h.room id l hl (.inl ⟨cs,opn,hg⟩);have hlen:=hv.1
 have oD:∀j,j<vs.length->¬G.gJ l.cS (l.base+off+j):=fun j hj=>by rw[Bm];exact h.jM id l hl lM (off+j) (by omega)
 have uF:∀jU l',jU≠id->G.loc jU=some l'->H.live jU->l.cS≠l'.cS\/l.base+l.ext<=l'.base\/l'.base+l'.ext<=l.base:=
  fun jU l' bN oS lP=>h.kT id jU l l' (Ne.symm bN) hl oS lM lP
 have hk:=h.kill id
 have Nd:=hk.write u oD (fun jU l' oS lP=>by
  rcases aA.lA.1 lP with ⟨_,hh⟩|⟨bN,lP⟩
  · cases hh
  rcases uF jU l' bN oS lP with hd|hd|hd
  · exact .inl (Ne.symm hd)
  · exact .inr (.inr (by omega))
  exact .inr (.inl (by omega))) ⟨c,el,fz,b1⟩
 have yU:=((Ext.refl G H w).write u oD h.gN (.inr ⟨id,l,hl,lM,rfl⟩)).aJp id (.cells (gO cs off xs) opn) lM;have xF:∀{a:AV} {x:Value},VR G w a x->VR G w' a x:=fun hx=>hx.mono (fun _ _ h=>h) (fun b o hi=>⟨hi,(yU.gJ b o hi).2⟩);obtain⟨c',d1,d2,d3,d4⟩:=u.row c el fz b1;refine⟨Nd.aUy _ l hl uF (fun j hj=>h.jM id l hl lM j hj) (fun CY aDc he=>?_) (fun _=>⟨c',el,fz,d1,by omega,fun j hj=>by rw[u.frozen b1];exact b3 j hj⟩) (fun he=>by cases he),yU⟩;cases he;refine⟨by rw[rI _ _ _ gD];exact a1,a2,a3,fun x hx=>(Pe hx).elim (a4 x) (h1 x),fun j hj=>?_⟩;rw[rI _ _ _ gD] at hj;rw[MY _ _ _ _ gD];by_cases EF:off<=j/\j<off+xs.length
 · rw[if_pos EF];refine⟨vs.getD (j -off) undef,?_,xF (hv.2 (j -off) (by omega))⟩;have :=d4 (j -off) (by omega) (by omega);rw[lS d1,<-this];congr 1;omega
 rw[if_neg EF];obtain⟨x,hx,hvx⟩:=a5 j hj;exact⟨x,u.cell (.inr (by omega)) hx,xF hvx⟩
theorem aA.pK {H:aA} {id:Nat} {cs:List AV} (h:H.eP id=some cs):∃opn,H.get id=some (.cells cs opn):=by
 unfold aA.eP at h;split at h
 · rename_i CY opn hg;obtain rfl:=Aa h;exact⟨opn,hg⟩
 cases h
theorem Lz {g:bB} {G:Gh} {H:aA} {w:World} (hw:WR g G H w) {id off n:Nat} {l:Loc} {cs:List AV} {opn:Bool} (hl:G.loc id=some l) (hg:H.get id=some (.cells cs opn))
 (gD:off+n<=cs.length):∀j,j<n->∃u,w.cell? ⟨l.cS,l.base+off+j,none⟩=some u/\VR G w (((cs.drop off).take n).getD j aD) u:=fun j hj=>by
 obtain⟨u,hu,hv⟩:=(hw.cells id l cs opn hl hg).2.2.2.2 (off+j) (by omega);refine⟨u,by rw[Bm];exact hu,?_⟩;rw[eM _ _ _ _ _ hj];exact hv
section
variable {P:Program} {g:bB} {o:Oper}
theorem aIg {t:TypeId} {x:Operand} {x':Arg} {agg:Bool} {n:Nat} (ho:o.op=.load t x) (hx:bE g x=some x') (hag:fG P t=some agg) (jA:jV P t=some n):
 cJ P g o (.load agg n x'):=by
 intro s a G H w v H' hw hs h;have vx:=bD hw hs hx
 have fin:∀(b o':Nat) (cs:List AV),a.eval x=.pointer (some ⟨b,o',none⟩)->n=cs.length->(∀c∈cs,c.one=true)->(agg=false->n=1)->
  (∀j,j<n->∃u,w.cell? ⟨b,o'+j,none⟩=some u/\VR G w (cs.getD j aD) u)->
  ∃n u w' G',(execOp a.eval o).run P w=.ok n w'/\Rf n u/\WR g G' H w'/\Ext G H w G' H w'/\VR G' w' (if agg then .agg cs else cs.getD 0 aD) u:=by
  intro b o' cs he hl h1 hn hc;obtain⟨u,hr,hv⟩:=KG (P:=P) hag jA hl h1 hn hc;refine cJ.pure' hw (u:=u) ?_ hv;simp[execOp,ho,he,Instr.loadAt,Instr.sureAddr,hr]
 simp only[dK] at h;split at h
 · rename_i id off hid;rw[hid] at vx;split at h
   · rename_i cs KT;obtain⟨opn,hg⟩:=aA.pK KT;split at h
     · rename_i gD
       cases eB:a.eval x with
       |pointer p=>
        rw[eB] at vx
        cases vx with
        |ref _ _ l hl=>
         have h4:=(hw.cells id l cs opn hl hg).2.2.2.1;have iB:=Lz hw hl hg gD;have hlen:n=((cs.drop off).take n).length:=(by simp;omega);have sP:∀c∈(cs.drop off).take n,c.one=true:=fun c hc=>h4 c (Es (Cx hc));split at h
         · rename_i rQ;simp only[Ac,Aj] at h;obtain⟨rfl,rfl⟩:=h;have :=fin _ _ _ eB hlen sP (fun hf=>by rw[rQ] at hf;cases hf) iB
           rwa [if_pos rQ] at this
         rename_i rQ;split at h
         · rename_i hn;simp only[Ac,Aj] at h;obtain⟨rfl,rfl⟩:=h;have :=fin _ _ _ eB hlen sP (fun _=>hn) iB
           rwa [if_neg rQ,eM _ _ _ _ _ (by omega),Di] at this
         cases h
       |_=>rw[eB] at vx;cases vx
     cases h
   cases h
 · rename_i cs hid;rw[hid] at vx;split at h
   · rename_i gD
     cases eB:a.eval x with
     |pointer p=>
      rw[eB] at vx
      cases vx with
      |pl _ b o' us hh hv=>
       have iB:∀j,j<n->∃u,w.cell? ⟨b,o'+j,none⟩=some u/\VR G w ((cs.take n).getD j aD) u:=fun j hj=>by rw[getD_take _ _ _ _ hj];exact⟨us j,(hh j (by omega)).2.1,hv j (by omega)⟩
       have hlen:n=(cs.take n).length:=by simp;omega
       have sP:∀c∈cs.take n,c.one=true:=fun c hc=>by obtain⟨j,hj,rfl⟩:=Ia.1 (Cx hc);have :=(hh j hj).2.2;simpa [getD_eq,Ab hj] using this
       split at h
       · rename_i rQ;simp only[Ac,Aj] at h;obtain⟨rfl,rfl⟩:=h;have :=fin _ _ _ eB hlen sP (fun hf=>by rw[rQ] at hf;cases hf) iB
         rwa [if_pos rQ] at this
       rename_i rQ;split at h
       · rename_i hn;simp only[Ac,Aj] at h;obtain⟨rfl,rfl⟩:=h;have :=fin _ _ _ eB hlen sP (fun _=>hn) iB
         rwa [if_neg rQ,getD_take _ _ _ _ (by omega)] at this
       cases h
     |_=>rw[eB] at vx;cases vx
   cases h
 cases h
theorem sA {G:Gh} {w:World} {xs:List AV} {vs:List Value} (hv:gI G w xs vs) (h1:∀c∈xs,c.one=true):∀v∈vs,aDb v=true:=by
 intro v lP;obtain⟨j,hj,rfl⟩:=Ia.1 lP;have HH:j<xs.length:=by have :=hv.1;omega
 have :=(hv.2 j HH).one;rw[h1 _ (JO HH)] at this;simpa [getD_eq,Ab hj] using this.symm
theorem aCz {t:TypeId} {x y:Operand} {x' y':Arg} {n:Nat} (ho:o.op=.store t x y) (hx:bE g x=some x') (hy:bE g y=some y') (jA:jV P t=some n):
 cJ P g o (.store n x' y'):=by
 intro s a G H w v H' hw hs h;have vx:=bD hw hs hx;have vy:=bD hw hs hy;simp only[dK] at h;split at h
 · rename_i id off hid;rw[hid] at vx;split at h
   · rename_i cs opn hg;split at h
     · rename_i hc;obtain⟨wb,AB,hc3⟩:=hc;simp only[Ac,Aj] at h;obtain⟨rfl,rfl⟩:=h;obtain⟨fP,sP⟩:=vy.cellsOf hc3
       cases eB:a.eval x with
       |pointer p=>
        rw[eB] at vx
        cases vx with
        |ref _ _ l hl=>
         obtain⟨a1,a2,_,_,_⟩:=hw.cells id l cs opn hl hg;obtain⟨c,el,fz,b1,b2,b3⟩:=hw.room id l hl (.inl ⟨cs,opn,hg⟩);have hlen:=fP.1
         obtain⟨w',hr,hu⟩:=fQ P l.cS (l.base+off) (a.eval y).cells.toList 0 w ⟨c,el,fz,b1,by omega⟩
          (fun j hj=>by rw[Di,Bm];exact b3 (off+j) (by omega)) (sA fP sP)
         obtain⟨r1,r2⟩:=hw.store hl hg fP sP (by omega) hu;refine⟨.skip,undef,w',G,?_,.inr ⟨rfl,rfl⟩,r1,r2,VR.nD G w'⟩;have Wg:(a.eval y).cells.size=n:=(by simpa [wb] using hlen);simp[execOp,ho,eB,Instr.storeAt,Instr.sureAddr,storeVar,eG jA w,Wg,hr]
       |_=>rw[eB] at vx;cases vx
     cases h
   cases h
 cases h
def ZG (P:Program) (t:TypeId) (i:Nat):Option (Nat×Nat×Bool):=
 match P.underlying t with
 |some (.struct fs)=>match fs[i]? with
  |some f=>match jV P f.type,fG P f.type with
   |some n,some b=>if n=0 then none else some (f.offset,n,b)
   |_,_=>none
  |none=>none
 |_=>none
theorem aIc {t:TypeId} {x:Operand} {x':Arg} {i:Nat} {off n:Nat} {b:Bool} (ho:o.op=.fieldAddr t x i) (hx:bE g x=some x') (hf:ZG P t i=some (off,n,b)):
 cJ P g o (.ZD off x'):=by
 intro s a G H w v H' hw hs h;have vx:=bD hw hs hx;unfold ZG at hf;split at hf
 · rename_i fs hu;split at hf
   · rename_i f hfi;split at hf
     · rename_i n' b' hn hb;split at hf
       · cases hf
       rename_i Wb;simp only[Ac,Aj] at hf;obtain⟨rfl,rfl,rfl⟩:=hf
       have iK:∀bl o',a.eval x=.pointer (some ⟨bl,o',none⟩)->(execOp a.eval o).run P w=.ok (.value (.pointer (some ⟨bl,o'+f.offset,none⟩))) w:=fun bl o' he=>by simp[execOp,ho,he,Instr.fieldAt,run_underlying hu w,hfi,Instr.sureAddr,fieldPlace,eG hn w,Wb,jH]
       simp only[dK] at h;split at h
       · rename_i id o' hid;rw[hid] at vx;simp only[Ac,Aj] at h;obtain⟨rfl,rfl⟩:=h
         cases eB:a.eval x with
         |pointer p=>
          rw[eB] at vx
          cases vx with
          |ref _ _ l hl=>exact cJ.pure' hw (iK _ _ eB) (by rw[Bm];exact .ref id (o'+f.offset) l hl)
         |_=>rw[eB] at vx;cases vx
       · rename_i cs hid;rw[hid] at vx;simp only[Ac,Aj] at h;obtain⟨rfl,rfl⟩:=h
         cases eB:a.eval x with
         |pointer p=>
          rw[eB] at vx
          cases vx with
          |pl _ bl o' us hh hv=>
           refine cJ.pure' hw (iK _ _ eB) (.pl _ bl (o'+f.offset) (fun j=>us (f.offset+j)) (fun j hj=>?_) (fun j hj=>?_))
           · simp at hj;rw[Bm,DG];exact hh (f.offset+j) (by omega)
           simp at hj;rw[DG];exact hv (f.offset+j) (by omega)
         |_=>rw[eB] at vx;cases vx
       cases h
     cases hf
   cases hf
 cases hf
theorem Xg {t:TypeId} {n:Nat} {b:Bool} (hn:jV P t=some n) (hb:fG P t=some b) {G:Gh} {w:World} {cs:List AV} {us:List Value} {off:Nat}
 (hl:us.length=cs.length) (h1:∀c∈cs,c.one=true) (hv:∀j,j<cs.length->VR G w (cs.getD j aD) (us.getD j undef)) (gD:off+n<=cs.length) (DJ:b=false->n=1):
 ∃u,(part t us.toArray off).run P w=.ok u w/\VR G w (if b then .agg ((cs.drop off).take n) else cs.getD off aD) u:=by
 cases b with
 |true=>
  refine⟨.agg ((us.drop off).take n).toArray,?_,?_⟩
  · simp only[part,Sem.run_bind,rC hb w,Result.andThen_ok,if_true,eG hn w,Sem.run_pure];congr 2;apply Fq;simp[Ii]
  simp only[if_true];refine .agg _ _ (by simp;omega) (fun c hc=>h1 c (Es (Cx hc))) (fun j hj=>?_);simp at hj;rw[eM _ _ _ _ _ (by omega),eM _ _ _ _ _ (by omega)];exact hv _ (by omega)
 |false=>have :=DJ rfl;refine⟨us.getD off undef,?_,hv off (by omega)⟩;simp only[part,Sem.run_bind,rC hb w,Result.andThen_ok,Bj,Cm,Fc,qS us undef off (by omega)];rfl
theorem VR.vD {G:Gh} {w:World} {cs:List AV} {u:Value} (h:VR G w (.agg cs) u):∃us:List Value,u=.agg us.toArray/\us.length=cs.length/\(∀c∈cs,c.one=true)/\
 ∀j,j<cs.length->VR G w (cs.getD j aD) (us.getD j undef):=by
 cases h with
 |agg _ us hl h1 hv=>exact⟨us,rfl,hl,h1,hv⟩
end
end
section
theorem IN {els:List (List AV)} {sz:Nat} (hu:∀e∈els,e.length=sz):∀{i j:Nat},i<els.length->j<sz->els.flatten.getD (i*sz+j) aD=(els.getD i []).getD j aD:=by
 induction els with
 |nil=>intro i j hi;simp at hi
 |cons e r ih=>
  intro i j hi hj;have he:e.length=sz:=hu e (by simp)
  cases i with
  |zero=>simp only[getD_eq,Bp,Ic,Df,Ep,Bc];rw[Ex (by omega)]
  |succ i=>have :=ih (fun e he=>hu e (by simp[he])) (i:=i) (j:=j) (by simpa using hi) hj;simp only[getD_eq,Bp,Gy] at this ⊢;rw[Ib (by rw[he,Fg];omega)];rw[show(i+1)*sz+j -e.length=i*sz+j by rw[he,Fg];omega];exact this
theorem length_flatten {els:List (List AV)} {sz:Nat} (hu:∀e∈els,e.length=sz):els.flatten.length=els.length*sz:=by
 induction els with
 |nil=>simp
 |cons e r ih=>simp only[Bp,An,Ah,Fg];rw[ih (fun e he=>hu e (by simp[he])),hu e (by simp)];omega
section
variable {P:Program} {g:bB} {o:Oper}
def AY (P:Program) (t:TypeId):Option (Nat×Nat×Bool):=
 match P.underlying t with
 |some (.array n e)=>match jV P e,fG P e with
  |some sz,some b=>some (n,sz,b)
  |_,_=>none
 |_=>none
def oI (P:Program) (t:TypeId):Option (TypeId×Nat):=
 match P.underlying t with
 |some (.slice e)=>match jV P e with
  |some sz=>some (e,sz)
  |none=>none
 |_=>none
theorem AZ {t:TypeId} {n sz:Nat} {b:Bool} (h:AY P t=some (n,sz,b)):∃e,P.underlying t=some (.array n e)/\jV P e=some sz/\fG P e=some b:=by
 unfold AY at h;split at h
 · rename_i n' e hu;split at h
   · rename_i eO b' h1 h2;simp only[Ac,Aj] at h;obtain⟨rfl,rfl,rfl⟩:=h;exact⟨e,hu,h1,h2⟩
   cases h
 cases h
theorem mH {t e:TypeId} {sz:Nat} (h:oI P t=some (e,sz)):P.underlying t=some (.slice e)/\jV P e=some sz:=by
 unfold oI at h;split at h
 · rename_i e' hu;split at h
   · rename_i eO h1;simp only[Ac,Aj] at h;obtain⟨rfl,rfl⟩:=h;exact⟨hu,h1⟩
   cases h
 cases h
theorem XE {t:TypeId} {x i:Operand} {x' i':Arg} {n sz:Nat} {b:Bool} (ho:o.op=.indexAddr t x i) (hx:bE g x=some x') (hi:bE g i=some i') (ht:AY P t=some (n,sz,b)):
 cJ P g o (.UD (some n) sz x' i'):=by
 intro s a G H w v H' hw hs h;have vx:=bD hw hs hx;have vi:=bD hw hs hi;obtain⟨e,hu,he,hb⟩:=AZ ht;simp only[dK] at h;split at h
 · rename_i k hk;obtain⟨kk,Mi,hkv⟩:=uC hk vi
   have iK:∀bl o',a.eval x=.pointer (some ⟨bl,o',none⟩)->k<n->(execOp a.eval o).run P w=.ok (.value (.pointer (some ⟨bl,o'+k*sz,none⟩))) w:=fun bl o' hxe eQ=>by have h0:(0:Int)<=(k:Int)/\(k:Int)<(n:Int):=(by omega);simp[execOp,ho,Instr.indexAt,hkv,asIntOf,run_underlying hu w,hxe,Instr.sureAddr,h0,eG he w,jH];intro Mg;omega
   split at h
   · rename_i n' id off hn hid;cases hn;rw[hid] at vx;split at h
     · rename_i eQ;simp only[Ac,Aj] at h;obtain⟨rfl,rfl⟩:=h
       cases eB:a.eval x with
       |pointer p=>
        rw[eB] at vx
        cases vx with
        |ref _ _ l hl=>exact cJ.pure' hw (iK _ _ eB eQ) (by rw[Bm];exact .ref id (off+k*sz) l hl)
       |_=>rw[eB] at vx;cases vx
     cases h
   · rename_i n' cs hn hid;cases hn;rw[hid] at vx;split at h
     · rename_i eQ;simp only[Ac,Aj] at h;obtain⟨rfl,rfl⟩:=h
       cases eB:a.eval x with
       |pointer p=>
        rw[eB] at vx
        cases vx with
        |pl _ bl o' us hh hv=>
         refine cJ.pure' hw (iK _ _ eB eQ) (.pl _ bl (o'+k*sz) (fun j=>us (k*sz+j)) (fun j hj=>?_) (fun j hj=>?_))
         · simp at hj;rw[Bm,DG];exact hh (k*sz+j) (by omega)
         simp at hj;rw[DG];exact hv (k*sz+j) (by omega)
       |_=>rw[eB] at vx;cases vx
     cases h
   · rename_i hn _;cases hn
   · rename_i hn _;cases hn
   cases h
 cases h
theorem Zu {t e:TypeId} {x i:Operand} {x' i':Arg} {sz:Nat} (ho:o.op=.indexAddr t x i) (hx:bE g x=some x') (hi:bE g i=some i') (ht:oI P t=some (e,sz)):
 cJ P g o (.UD none sz x' i'):=by
 intro s a G H w v H' hw hs h;have vx:=bD hw hs hx;have vi:=bD hw hs hi;obtain⟨hu,he⟩:=mH ht;simp only[dK] at h;split at h
 · rename_i k hk;obtain⟨kk,Mi,hkv⟩:=uC hk vi
   have iK:∀bl o' n cap,a.eval x=.slice (some ⟨bl,o',none⟩) n cap->k<n->(execOp a.eval o).run P w=.ok (.value (.pointer (some ⟨bl,o'+k*sz,none⟩))) w:=fun bl o' n cap hxe eQ=>by have h0:(0:Int)<=(k:Int)/\(k:Int)<(n:Int):=(by omega);simp[execOp,ho,Instr.indexAt,hkv,asIntOf,run_underlying hu w,hxe,Instr.sureAddr,h0,eG he w,jH];intro Mg;omega
   split at h
   · rename_i hn _;cases hn
   · rename_i hn _;cases hn
   · rename_i tag eO els hn hid;rw[hid] at vx;split at h
     · rename_i hc;obtain⟨rfl,eQ⟩:=hc;simp only[Ac,Aj] at h;obtain⟨rfl,rfl⟩:=h
       cases eB:a.eval x with
       |slice p n cap=>
        rw[eB] at vx
        cases vx with
        |vA=>exact absurd eQ (Ax _)
        |aV _ _ _ bl o' _ us PE hh hv sQ=>
         have Oy:(els.getD k []).length=eO:=by rw[getD_eq,Ab eQ];exact PE _ (Ai eQ)
         have tS:=length_flatten PE
         have gD:∀j,j<eO->k*eO+j<els.flatten.length:=fun j hj=>by
          rw[tS]
          calc k*eO+j<k*eO+eO:=by omega
           _=(k+1)*eO:=by rw[Fg]
           _<=els.length*eO:=Cj _ eQ
         refine cJ.pure' hw (iK _ _ _ _ eB eQ) (.pl _ bl (o'+k*eO) (fun j=>us (k*eO+j)) (fun j hj=>?_) (fun j hj=>?_))
         · rw[Oy] at hj;rw[Bm,<-IN PE eQ hj];exact hh _ (gD j hj)
         rw[Oy] at hj;rw[<-IN PE eQ hj];exact hv _ (gD j hj)
       |_=>rw[eB] at vx;cases vx
     cases h
   · rename_i id eO off len cap hn hid;rw[hid] at vx;split at h
     · rename_i hc;obtain⟨rfl,eQ⟩:=hc;simp only[Ac,Aj] at h;obtain⟨rfl,rfl⟩:=h
       cases eB:a.eval x with
       |slice p n cap=>
        rw[eB] at vx
        cases vx with
        |sl _ _ _ _ _ _ l hl hlen gD mY=>exact cJ.pure' hw (iK _ _ _ _ eB eQ) (by rw[Bm];exact .ref id (off+k*eO) l hl)
       |_=>rw[eB] at vx;cases vx
     cases h
   cases h
 cases h
theorem aUo {t:TypeId} {x i:Operand} {x' i':Arg} {n sz:Nat} {b:Bool} (ho:o.op=.index t x i) (hx:bE g x=some x') (hi:bE g i=some i') (ht:AY P t=some (n,sz,b)):
 cJ P g o (.idx n sz b x' i'):=by
 intro s a G H w v H' hw hs h;have vx:=bD hw hs hx;have vi:=bD hw hs hi;obtain⟨e,hu,he,hb⟩:=AZ ht;simp only[dK] at h;split at h
 · rename_i k cs hk hid;rw[hid] at vx;obtain⟨kk,Mi,hkv⟩:=uC hk vi;obtain⟨us,eB,hl,h1,hv⟩:=vx.vD;split at h
   · rename_i hc;obtain⟨eQ,gD⟩:=hc
     have iK:∀u,(part e us.toArray (k*sz)).run P w=.ok u w->(execOp a.eval o).run P w=.ok (.value u) w:=fun u hr=>by have h0:(0:Int)<=(k:Int)/\(k:Int)<(n:Int):=(by omega);simp[execOp,ho,eB,Instr.index,hkv,asIntOf,run_underlying hu w,h0,eG he w,hr];intro Mg;omega
     split at h
     · rename_i rQ;simp only[Ac,Aj] at h;obtain⟨rfl,rfl⟩:=h;obtain⟨u,hr,KU⟩:=Xg (P:=P) he hb hl h1 hv gD (fun hf=>by rw[rQ] at hf;cases hf);rw[if_pos rQ] at KU;exact cJ.pure' hw (iK u hr) KU
     rename_i rQ;split at h
     · rename_i DJ;simp only[Ac,Aj] at h;obtain⟨rfl,rfl⟩:=h;obtain⟨u,hr,KU⟩:=Xg (P:=P) he hb hl h1 hv gD (fun _=>DJ);rw[if_neg rQ,DJ,Dl] at KU;rw[DJ,Dl] at hr;exact cJ.pure' hw (iK u (by rw[DJ,Dl];exact hr)) KU
     cases h
   cases h
 cases h
theorem aId {t:TypeId} {x i:Operand} {x' i':Arg} (ho:o.op=.index t x i) (hx:bE g x=some x') (hi:bE g i=some i') (ht:P.underlying t=some .string):
 cJ P g o (.idxs x' i'):=by
 intro s a G H w v H' hw hs h;have vx:=bD hw hs hx;have vi:=bD hw hs hi;simp only[dK] at h;split at h
 · rename_i k str hk hid;rw[hid] at vx;obtain⟨kk,Mi,hkv⟩:=uC hk vi;have eB:=vx.fB;split at h
   · rename_i b hb;simp only[Ac,Aj] at h;obtain⟨rfl,rfl⟩:=h;refine cJ.pure' hw (u:=.int .u8 b.toNat) ?_ (.int _ _);have eQ:=(Be.1 hb).1
     have Mg:(⟨str.toArray⟩:ByteArray)[k]?=some b:=by have bFi:k<(⟨str.toArray⟩:ByteArray).size:=(by simpa [ByteArray.size] using eQ);rw[getElem?_pos (⟨str.toArray⟩:ByteArray) k bFi];have :=(Be.1 hb).2;simpa [ByteArray.getElem_eq_getElem_data] using this
     simp[execOp,ho,Instr.index,hkv,asIntOf,run_underlying ht w,eB,Mg]
   cases h
 cases h
theorem aIf {c:Call} {x:Operand} {x':Arg} {t:TypeId} (ho:o.op=.call c) (hc:c.callee=.builtin .len) (ha:c.args= #[x]) (hx:bE g x=some x') (MZ:c.argTypes[0]?=some t)
 (ht:P.underlying t=some .string):cJ P g o (.lens x'):=by
 intro s a G H w v H' hw hs h;have vx:=bD hw hs hx;simp only[dK] at h;split at h
 · rename_i str hid;rw[hid] at vx;simp only[Ac,Aj] at h;obtain⟨rfl,rfl⟩:=h;have eB:=vx.fB;refine cJ.pure' hw (u:=.int .i64 str.length) ?_ (.int _ _);have jA:(⟨str.toArray⟩:ByteArray).size=str.length:=by simp[ByteArray.size]
   simp[execOp,ho,resolve,hc,ha,invoke,builtin,Builtin.len_,MZ,run_underlying ht w,eB,goInt];exact Ao (fun n:Nat=>(n:Int)) jA
 cases h
theorem aIh {c:Call} {x y:Operand} {x' y':Arg} (ho:o.op=.call c) (hc:c.callee=.builtin .max) (ha:c.args= #[x,y]) (hx:bE g x=some x') (hy:bE g y=some y'):cJ P g o (.Wy x' y'):=by
 intro s a G H w v H' hw hs h;have vx:=bD hw hs hx;have vy:=bD hw hs hy;simp only[dK] at h;split at h
 · rename_i k m k' n h1 h2;rw[h1] at vx;rw[h2] at vy;simp only[Ac,Aj] at h;obtain⟨rfl,rfl⟩:=h;have eB:=vx.fV;have hyv:=vy.fV;refine cJ.pure' hw (u:=.int k (if n>m then n else m)) ?_ (.int _ _);simp[execOp,ho,resolve,hc,ha,invoke,builtin,Builtin.max_,Builtin.max2,eB,hyv]
 cases h
theorem aIi {c:Call} {x y:Operand} {x' y':Arg} (ho:o.op=.call c) (hc:c.callee=.builtin .min) (ha:c.args= #[x,y]) (hx:bE g x=some x') (hy:bE g y=some y'):cJ P g o (.XA x' y'):=by
 intro s a G H w v H' hw hs h;have vx:=bD hw hs hx;have vy:=bD hw hs hy;simp only[dK] at h;split at h
 · rename_i k m k' n h1 h2;rw[h1] at vx;rw[h2] at vy;simp only[Ac,Aj] at h;obtain⟨rfl,rfl⟩:=h;have eB:=vx.fV;have hyv:=vy.fV;refine cJ.pure' hw (u:=.int k (if n<m then n else m)) ?_ (.int _ _);simp[execOp,ho,resolve,hc,ha,invoke,builtin,Builtin.min_,Builtin.min2,eB,hyv]
 cases h
theorem aIe {c:Call} {x:Operand} {x':Arg} {t e:TypeId} (ho:o.op=.call c) (hc:c.callee=.builtin .len) (ha:c.args= #[x]) (hx:bE g x=some x') (MZ:c.argTypes[0]?=some t)
 (ht:P.underlying t=some (.slice e)):cJ P g o (.Zi x'):=by
 intro s a G H w v H' hw hs h;have vx:=bD hw hs hx
 have iK:∀p n cap,a.eval x=.slice p n cap->(execOp a.eval o).run P w=.ok (.value (.int .i64 n)) w:=fun p n cap eB=>by simp[execOp,ho,resolve,hc,ha,invoke,builtin,Builtin.len_,MZ,run_underlying ht w,eB,goInt]
 simp only[dK] at h;split at h
 · rename_i hid;rw[hid] at vx;simp only[Ac,Aj] at h;obtain⟨rfl,rfl⟩:=h;generalize eB:a.eval x=u at vx;cases vx;exact cJ.pure' hw (iK _ _ _ eB) (.int _ _)
 · rename_i tag sz els hid;rw[hid] at vx;simp only[Ac,Aj] at h;obtain⟨rfl,rfl⟩:=h;generalize eB:a.eval x=u at vx
   cases vx<;>
    exact cJ.pure' hw (iK _ _ _ eB) (.int _ _)
 · rename_i id sz off len cap hid;rw[hid] at vx;simp only[Ac,Aj] at h;obtain⟨rfl,rfl⟩:=h;generalize eB:a.eval x=u at vx;cases vx;exact cJ.pure' hw (iK _ _ _ eB) (.int _ _)
 cases h
theorem uR {op:BinOp} {t:TypeId} {x y:Operand} {u v:Value} (w:World) (h:∀c,u≠ .agg c) (h':u≠ .nilIface):(eqGuard op t x y u v).run P w=.ok () w:=by
 unfold eqGuard
 cases u<;>first
  |exact absurd rfl h'
  |exact absurd rfl (h _)
  |(cases op<;>rfl)
theorem aHz {op:BinOp} {k k':IntKind} {m n:Int} {v:AV} {t:TypeId} (h:qF op k m k' n=some v) (w:World):
 ∃u,(Go.binOp op t (.int k m) (.int k' n)).run P w=.ok u w/\∀G,VR G w v u:=by
 have key:∀{k:IntKind} {z:Int},∀G,VR G w (.int k z) (.int k z):=fun G=>.int _ _;have aUb:∀{z:Bool},∀G,VR G w (.bool z) (.bool z):=fun G=>.bool _;cases op<;>simp only[qF] at h
 all_goals first
  |(split at h<;>first
     |(cases h;done)
     |(rename_i hk
       first
        |(subst hk
          first
           |(obtain rfl:=Aa h
             refine⟨_,?_,key⟩;simp[Go.binOp,Op.intArith]
             done)
           |(obtain rfl:=Aa h
             refine⟨_,?_,aUb⟩;simp[Go.binOp,Op.intCmp]
             done)
           |(simp only[IC] at h
             obtain rfl:=Aa h;refine⟨_,?_,key⟩;simp[Go.binOp,Op.intBits]
             done)
           |(split at h
             · cases h
             rename_i h0;obtain rfl:=Aa h;refine⟨_,?_,key⟩
             simp[Go.binOp,Op.intDiv,h0]))
        |(obtain rfl:=Aa h
          refine⟨_,?_,key⟩;simp[Go.binOp,Op.shift,hk]
          done)))
theorem aIa {op:BinOp} {x y:List UInt8} {v:AV} {t:TypeId} (h:qL op x y=some v) (w:World):
 ∃u,(Go.binOp op t (.string ⟨x.toArray⟩) (.string ⟨y.toArray⟩)).run P w=.ok u w/\∀G,VR G w v u:=by
 have aUb:∀{z:Bool},∀G,VR G w (.bool z) (.bool z):=fun G=>.bool _;have e1:(⟨x.toArray⟩:ByteArray).toList=x:=ByteArray.toList_mk x;have e2:(⟨y.toArray⟩:ByteArray).toList=y:=ByteArray.toList_mk y;cases op<;>simp only[qL] at h
 case add=>
  split at h
  · rename_i hle;obtain rfl:=Aa h;refine⟨.string (⟨x.toArray⟩++⟨y.toArray⟩),?_,fun G=>?_⟩
    · have h1:(⟨x.toArray⟩:ByteArray).size=x.length:=(by simp[ByteArray.size]);have h2:(⟨y.toArray⟩:ByteArray).size=y.length:=by simp[ByteArray.size]
      have hm:¬(((⟨x.toArray⟩:ByteArray).size+(⟨y.toArray⟩:ByteArray).size:Nat):Int)>IntKind.i64.max:=by rw[h1,h2];have :IntKind.i64.max=9223372036854775807:=(by decide);omega
      simp only[Go.binOp,Op.stringOp,if_neg hm];rfl
    have :(⟨x.toArray⟩++⟨y.toArray⟩:ByteArray)=⟨(x++y).toArray⟩:=by apply ByteArray.ext;simp
    rw[this];exact VR.MF G w _
  cases h
 all_goals first
  |(cases h;done)
  |(obtain rfl:=Aa h
    refine⟨_,?_,aUb⟩;simp only[Go.binOp,Op.stringOp,e1,e2]
    rfl)
theorem aCu {op:BinOp} {t t2:TypeId} {x y:Operand} {x' y':Arg} (ho:o.op=.binOp op t x y t2) (hx:bE g x=some x') (hy:bE g y=some y'):cJ P g o (.bin op x' y'):=by
 intro s a G H w v H' hw hs h;have vx:=bD hw hs hx;have vy:=bD hw hs hy;simp only[dK] at h;split at h
 · rename_i k m k' n h1 h2;rw[h1] at vx;rw[h2] at vy;have e1:=vx.fV;have e2:=vy.fV;simp only[Ag,Aj] at h;obtain⟨v',lP,rfl,rfl⟩:=h;obtain⟨u,hr,hv⟩:=aHz (P:=P) (t:=t) lP w;refine cJ.pure' hw (u:=u) ?_ (hv G);have Mf:=uR (P:=P) (op:=op) (t:=t) (x:=x) (y:=y) (u:=.int k m) (v:=.int k' n) w (fun c=>by simp) (by simp);simp[execOp,ho,e1,e2,Mf,hr]
 · rename_i m n h1 h2;rw[h1] at vx;rw[h2] at vy;have e1:=vx.fB;have e2:=vy.fB;simp only[Ag,Aj] at h;obtain⟨v',lP,rfl,rfl⟩:=h;obtain⟨u,hr,hv⟩:=aIa (P:=P) (t:=t) lP w;refine cJ.pure' hw (u:=u) ?_ (hv G);have Mf:=uR (P:=P) (op:=op) (t:=t) (x:=x) (y:=y) (u:=.string ⟨m.toArray⟩) (v:=.string ⟨n.toArray⟩) w (fun c=>by simp) (by simp);simp[execOp,ho,e1,e2,Mf,hr]
 cases h
theorem IH (d:Nat) {t:TypeId} (ht:P.underlying t=some .bool) (w:World) (m n:Bool):(Op.equalIn (d+1) t (.bool m) (.bool n)).run P w=.ok (m==n) w:=by rw[Op.equalIn];simp only[Sem.run_bind,run_underlying ht w,Result.andThen_ok];rfl
theorem aUl {op:BinOp} {neg:Bool} {t t2:TypeId} {x y:Operand} {x' y':Arg} (ho:o.op=.binOp op t x y t2) (fF:op=if neg then .neq else .eql) (ht:P.underlying t=some .bool)
 (hx:bE g x=some x') (hy:bE g y=some y'):cJ P g o (.eqb neg x' y'):=by
 intro s a G H w v H' hw hs h;have vx:=bD hw hs hx;have vy:=bD hw hs hy;simp only[dK] at h;split at h
 · rename_i m n h1 h2;rw[h1] at vx;rw[h2] at vy;have e1:=vx.jJ;have e2:=vy.jJ;simp only[Ac,Aj] at h;obtain⟨rfl,rfl⟩:=h;refine cJ.pure' hw (u:=.bool (if neg then !(m==n) else(m==n))) ?_ (.bool _);have Mf:=uR (P:=P) (op:=op) (t:=t) (x:=x) (y:=y) (u:=.bool m) (v:=.bool n) w (fun c=>by simp) (by simp)
   have heq:(Op.equal t (.bool m) (.bool n)).run P w=.ok (m==n) w:=by exact IH 9999 ht w m n
   subst fF;cases neg<;>simp only[Bj,Cm,if_true] at ho Mf<;>simp[execOp,ho,e1,e2,Mf,Go.binOp,heq]
 cases h
theorem bCy {op:UnOp} {t:TypeId} {x:Operand} {x':Arg} (ho:o.op=.unOp op t x) (hx:bE g x=some x'):cJ P g o (.un op x'):=by
 intro s a G H w v H' hw hs h;have vx:=bD hw hs hx;simp only[dK,Ag,Aj] at h;obtain⟨v',lP,rfl,rfl⟩:=h;unfold unA at lP;split at lP
 · rename_i k n h1;rw[h1] at vx;have e1:=vx.fV;split at lP
   · obtain rfl:=Aa lP;exact cJ.pure' hw (u:=.int k (k.wrap (0 -n))) (by simp[execOp,ho,e1,Op.unary,Op.intArith]) (.int _ _)
   · simp only[IC] at lP;obtain rfl:=Aa lP;exact cJ.pure' hw (u:=.int k _) (by simp[execOp,ho,e1,Op.unary,Op.intBits]) (.int _ _)
   cases lP
 · rename_i b h1;rw[h1] at vx;have e1:=vx.jJ;split at lP
   · obtain rfl:=Aa lP;exact cJ.pure' hw (u:=.bool !b) (by simp[execOp,ho,e1,Op.unary]) (.bool _)
   cases lP
 cases lP
theorem aCv {src dst:TypeId} {k:IntKind} {d:TypeDesc} {x:Operand} {x':Arg} (ho:o.op=.convert src dst x) (hx:bE g x=some x') (EG:P.underlying src=some d)
 (hd:P.underlying dst=some (.int k)):cJ P g o (.OZ k x'):=by
 intro s a G H w v H' hw hs h;have vx:=bD hw hs hx;simp only[dK] at h;split at h
 · rename_i k' n h1;rw[h1] at vx;have e1:=vx.fV;simp only[Ac,Aj] at h;obtain⟨rfl,rfl⟩:=h;refine cJ.pure' hw (u:=.int k (k.wrap n)) ?_ (.int _ _);simp only[execOp,ho,e1,Go.convert,Sem.run_bind,run_underlying EG w,run_underlying hd w,Result.andThen_ok,Conv.intToInt];rfl
 cases h
theorem aIo {t ti:TypeId} {ok:Bool} {d:TypeDesc} {z:AV} {zv:Value} {x:Operand} {x':Arg} (ho:o.op=.typeAssert x ti t ok) (hx:bE g x=some x')
 (hd:P.underlying t=some d) (hni:∀ms,d≠ .interface ms) (hz:lN P t=some zv) (hzc:ofConst zv=some z):cJ P g o (.cy t ok z x'):=by
 intro s a G H w v H' hw hs h;have vx:=bD hw hs hx;have hzero:=lH hz w;have hzr:=GN hzc G w
 have two:∀{p q:AV} {u1 u2:Value},VR G w p u1->VR G w q u2->VR G w (.gP [p,q]) (.tuple #[u1,u2]):=fun h1 h2=>.gP [_,_] [_,_] rfl (h1.cons (h2.cons (gI.nil G w))).2
 have hh:∀(y:Value) (r:Value),(Instr.typeAssert y ti t ok).run P w=.ok r w->a.eval x=y->(execOp a.eval o).run P w=.ok (.value r) w:=fun y r hr he=>by simp[execOp,ho,he,hr]
 have rR:∀(ms:Array (String×TypeId)),d=TypeDesc.interface ms->False:=fun ms he=>hni ms he;simp only[dK] at h;split at h
 · rename_i t' y h1;rw[h1] at vx;generalize eB:a.eval x=u at vx
   cases vx with
   |iface _ _ yv hy=>
    split at h
    · rename_i htt;subst htt;simp only[Ac,Aj] at h;obtain⟨rfl,rfl⟩:=h;refine cJ.pure' hw (u:=if ok then .tuple #[yv,.bool true] else yv) (hh _ _ ?_ eB) (by cases ok<;>simp <;>first|exact hy|exact two hy (.bool true));unfold Instr.typeAssert;simp only[Sem.run_bind,run_underlying hd w,Result.andThen_ok]
      cases d<;>first|exact absurd rfl (hni _)|simp
    rename_i htt;split at h
    · rename_i HI;simp only[Ac,Aj] at h;obtain⟨rfl,rfl⟩:=h;refine cJ.pure' hw (u:=.tuple #[zv,.bool false]) (hh _ _ ?_ eB) (two hzr (.bool false));unfold Instr.typeAssert;simp only[Sem.run_bind,run_underlying hd w,Result.andThen_ok]
      cases d<;>first|exact absurd rfl (hni _)|simp[htt,HI,hzero]
    cases h
 · rename_i h1;rw[h1] at vx;generalize eB:a.eval x=u at vx;cases vx;split at h
   · rename_i HI;simp only[Ac,Aj] at h;obtain⟨rfl,rfl⟩:=h;refine cJ.pure' hw (u:=.tuple #[zv,.bool false]) (hh _ _ ?_ eB) (two hzr (.bool false));unfold Instr.typeAssert;simp only[Sem.run_bind,run_underlying hd w,Result.andThen_ok]
     cases d<;>first|exact absurd rfl (hni _)|simp[HI,hzero]
   cases h
 cases h
end
end
end Go.Av
