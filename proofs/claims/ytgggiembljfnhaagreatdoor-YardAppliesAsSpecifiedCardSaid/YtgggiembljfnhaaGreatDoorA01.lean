/-
  Part of the proof of statement 11
-/
import Derived.Calls
import Derived.Orders
import Derived.Laws.Sem
import Derived.Laws.Cells
import Derived.Laws.Entries
import Derived.Laws.Strings
set_option linter.unusedVariables false
set_option linter.unusedSimpArgs false
set_option linter.defProp false
namespace Go
def Aa:=@Option.some.inj
def Ab:=@Nat.le_refl
def Ac:=@List.getElem_mem
def Ad:=@List.getElem?_eq_getElem
def Ae:=@Option.some.injEq
def Af:=@List.length_map
def Ag:=@decide_eq_false
def Ah:=@Option.map_eq_some_iff
def Ai:=@Prod.mk.injEq
def Aj:=@decide_eq_true
def Ak:=@Nat.le_of_ble_eq_true
def Al:=@Bool.and_eq_true
def Am:=@List.mem_cons
def An:=@Nat.not_lt_zero
def Ao:=@List.take_add_one
def Ap:=@List.mem_append
def Aq:=@List.length_cons
def Ar:=@List.mem_cons_self
def As:=@List.take_of_length_le
def Au:=@List.mem_range
def Aw:=@List.mem_cons_of_mem
def Ax:=@List.all_eq_true
def Ay:=@List.take_length
def Az:=@Nat.zero_le
def Ba:=@List.length_append
def Bb:=@Bool.false_eq_true
def Bc:=@Option.isSome_some
def Bd:=@decide_eq_true_eq
def Be:=@Nat.eq_of_beq_eq_true
def Bf:=@List.getD_eq_getElem?_getD
def Bg:=@List.not_mem_nil
def Bh:=@decide_eq_false_iff_not
def Bi:=@Option.getD_some
def Bj:=@List.mem_map
def Bk:=@List.getElem?_eq_some_iff
def Bl:=@beq_eq_false_iff_ne
def Bm:=@List.length_nil
def Bn:=@congrArg
def Bo:=@Array.getD_eq_getD_getElem?
def Bp:=@List.flatten_cons
def Bq:=@if_false
def Br:=@Nat.add_assoc
def Bs:=@decide_eq_decide
def Bt:=@Nat.mul_le_mul
def Bu:=@List.getElem?_eq_none
def Bv:=@List.length_range
def Bw:=@List.any_eq_true
def Bx:=@Option.map_some
def By:=@List.length_set
def Bz:=@List.mem_of_mem_take
def Ca:=@beq_iff_eq
def Cb:=@List.mem_singleton
def Cc:=@List.drop_of_length_le
def Cd:=@List.map_cons
def Ce:=@Nat.le_trans
def Cf:=@Array.getElem?_eq_some_iff
def Cg:=@Bool.eq_iff_iff
def Ch:=@List.append_nil
def Ci:=@Option.isSome_none
def Cj:=@Nat.lt_of_lt_of_le
def Ck:=@List.pairwise_cons
def Cl:=@List.take_append_of_le_length
def Cm:=@List.eq_nil_of_length_eq_zero
def Cn:=@Bool.not_eq_true'
def Co:=@Bool.true_and
def Cp:=@of_decide_eq_true
def Cq:=@Classical.byContradiction
def Cr:=@Nat.add_mul
def Cs:=@Nat.zero_add
def Ct:=@List.any_eq_false
def Cu:=@Array.length_toList
def Cv:=@Bool.and_self
def Cw:=@List.getElem?_map
def Cx:=@List.map_append
def Cy:=@Nat.add_zero
def Cz:=@Nat.mul_le_mul_right
def Da:=@Bool.or_eq_false_iff
def Db:=@List.length_take
def Dc:=@List.nil_append
def Dd:=@or_false
def De:=@bne_iff_ne
def Df:=@Nat.lt_trans
def Dg:=@Nat.mul_comm
def Dh:=@List.length_filter_le
def Di:=@Nat.mod_lt
def Dk:=@List.drop_eq_getElem_cons
def Dl:=@Nat.mod_eq_of_lt
def Dm:=@Bool.or_eq_true
def Dn:=@of_decide_eq_false
def Dp:=@List.take_succ_cons
def Dq:=@List.getElem_map
def Dr:=@Int.toNat_natCast
def Ds:=@Nat.pow_le_pow_right
def Dt:=@List.mem_of_mem_drop
def Du:=@List.getElem?_append
def Dv:=@Array.getElem?_eq_getElem
def Dw:=@List.getD_cons_zero
def Dx:=@Nat.div_lt_iff_lt_mul
def Dy:=@List.getElem?_toArray
def Ea:=@Nat.succ_mul
def Eb:=@List.append_assoc
def Ec:=@Int.gcd_dvd_right
def Ed:=@Nat.mul_one
def Ee:=@Option.getD_none
def Ef:=@Nat.pow_succ
def Eg:=@Nat.div_eq_of_lt
def Eh:=@Bool.not_eq_true
def Ei:=@List.getElem_of_mem
def Ej:=@List.all_eq_false
def Ek:=@Int.mul_le_mul_of_nonneg_left
def El:=@List.drop_zero
def Em:=@Int.natAbs_natCast
def En:=@Int.lt_or_eq_of_le
def Eo:=@Nat.mul_add
def Ep:=@List.cons_append
def Er:=@List.set_eq_take_append_cons_drop
def Es:=@Int.tmod_eq_emod_of_nonneg
def Et:=@Nat.mul_le_mul_left
def Eu:=@List.getElem?_append_left
def Ev:=@Decidable.byContradiction
def Ew:=@Nat.lt_succ_self
def Ex:=@List.length_drop
def Ey:=@List.eq_nil_iff_forall_not_mem
def Ez:=@Nat.lt_irrefl
def Fa:=@Bool.and_true
def Fb:=@List.take_zero
def Fc:=@List.flatMap_cons
def Fe:=@Nat.div_add_mod
def Ff:=@List.range_succ
def Fg:=@List.mem_filter
def Fh:=@Array.getElem?_setIfInBounds
def Fj:=@Array.ext'
def Fk:=@List.replicate_succ
def Fl:=@List.map_congr_left
def Fm:=@List.flatten_append
def Fo:=@Nat.add_comm
def Fp:=@List.map_nil
def Fq:=@List.mem_flatMap
def Fs:=@List.ext_getElem
def Ft:=@Int.gcd_dvd_left
def Fu:=@Option.toList_some
def Fv:=@List.getElem?_drop
def Fx:=@List.getElem?_append_right
def Fy:=@List.exists_cons_of_ne_nil
def Fz:=@Int.tdiv_eq_ediv_of_nonneg
def Ga:=@Int.natAbs_mul
def Gb:=@Bool.not_false
def Gc:=@List.pairwise_iff_getElem
def Gd:=@List.ext_getElem?
def Ge:=@Int.lt_trichotomy
def Gf:=@Bool.or_true
def Gg:=@List.getD_cons_succ
def Gi:=@List.getElem?_replicate
def Gj:=@List.getElem?_cons_zero
def Gk:=@List.getElem?_cons_succ
def Gl:=@List.countP_cons
def Gm:=@decide_true
def Gn:=@Nat.le_succ
def Gp:=@Nat.lt_or_ge
def Gq:=@Nat.blt_eq
def Gr:=@List.map_map
def Gs:=@Int.mul_zero
def Gt:=@Nat.mul_assoc
def Gu:=@Int.dvd_trans
def Gv:=@Bool.not_true
def Gw:=@Array.getElem?_modify
def Gx:=@Nat.gcd_zero_left
def Gy:=@List.size_toArray
def Gz:=@List.getElem?_set
def Ha:=@List.Pairwise.imp
def Hb:=@Int.mul_lt_mul_of_pos_right
def Hc:=@Nat.add_mul_div_left
def Hd:=@List.mem_iff_getElem
def Hg:=@Nat.le_add_right
def Hh:=@List.drop_length
def Hi:=@List.mem_take_iff_getElem
def Hj:=@List.extract_eq_take_drop
def Hk:=@List.eq_of_mem_replicate
def Hl:=@List.foldl_cons
def Hn:=@Nat.eq_zero_or_pos
def Ho:=@List.getElem_range
def Hq:=@List.getElem?_take
def Hr:=@List.find?_eq_none
def Ht:=@Nat.one_mul
def Hu:=@List.length_eq_zero_iff
def Hv:=@Int.tdiv_eq_ediv_of_dvd
def Hw:=@not_false_eq_true
def Hx:=@Nat.gcd_comm
def Hy:=@Nat.div_div_eq_div_mul
def Hz:=@List.map_set
def Ia:=@List.drop_eq_nil_of_le
def Ib:=@Decidable.not_not
def Ic:=@List.take_append_drop
def Ie:=@Classical.choose_spec
def Ig:=@Nat.le_of_not_lt
def Ih:=@List.mem_flatten
def Ii:=@List.drop_append
def Ij:=@Array.toList_map
def Ik:=@List.all_cons
def Il:=@List.drop_append_of_le_length
def Im:=@Int.neg_mul
def Io:=@Int.mul_pos
def Ip:=@List.cons.injEq
def Iq:=@List.any_append
def Ir:=@List.map_eq_nil_iff
def Is:=@List.getElem?_range
def It:=@List.flatMap_append
def Iu:=@List.drop_succ_cons
def Iv:=@decide_false
def Iw:=@Nat.zero_mul
def Ix:=@Nat.sub_zero
def Iy:=@List.drop_length_add_append
def Iz:=@Nat.lt_of_le_of_lt
def Ja:=@List.filter_append
def Jb:=@List.drop_drop
def Jc:=@Int.fdiv_eq_ediv_of_nonneg
def Jd:=@Bool.false_and
def Je:=@Int.eq_of_mul_eq_mul_left
def Jf:=@Nat.lt_trichotomy
def Jg:=@List.pairwise_map
def Jh:=@List.foldl_append
def Ji:=@List.Pairwise.imp_of_mem
def Jj:=@beq_self_eq_true
def Jk:=@List.filter_cons
def Jl:=@decide_not
def Jm:=@Nat.le_mul_of_pos_left
def Jn:=@List.pairwise_lt_range
def Jo:=@List.find?_cons_of_pos
def Jp:=@Int.ne_of_gt
def Jq:=@Array.getElem?_eq_none
def Jr:=@Nat.div_le_self
def Js:=@List.nodup_cons
def Jt:=@List.filter_nil
def Ju:=@Int.mul_eq_zero
def Jv:=@List.sizeOf_lt_of_mem
def Jw:=@Bool.and_eq_false_iff
def Jx:=@true_and
def Jy:=@and_true
def Jz:=@Nat.pow_add
def Ka:=@List.nodup_nil
def Kb:=@List.map_id
def Kc:=@Int.natAbs_neg
def Kd:=@Int.mul_ediv_cancel'
def Ke:=@Int.toNat_of_nonneg
def Kf:=@Int.neg_ediv_of_dvd
def Kg:=@Array.getElem?_push
def Kh:=@List.drop_nil
def Ki:=@Bool.or_false
def Kj:=@Bool.false_or
theorem Zaa{p:Prop}(h:p:=by
 all_goals exfalso
 all_goals (try unfold pV at h)
 all_goals (try unfold jW at h)
 all_goals (try unfold mF at h)
 all_goals (try unfold nI at h)
 all_goals (try unfold pW at h)
 all_goals (try unfold iI at h)
 all_goals repeat' (split at h)
 all_goals first
  |(cases h;done)
  |(simp only[Ah] at h;obtain⟨_,_,h⟩:=h;cases h;done)):p:=h
theorem Zab{p:Prop}(h:p:=by apply bW;clear bW K2;refine Tz ?_;refine Rx ?_;rw[eW rfl];rfl):p:=h
theorem Zac{p:Prop}(h:p:=by simp[eE.args]):p:=h
theorem Zad{p:Prop}(h:p:=by exact⟨rfl,_,by simp only[↓zP,zR,seval];rfl,rfl⟩):p:=h
theorem Zae{p:Prop}(h:p:=by
 refine⟨H1.next,H2.next,H3.next,H4.next,H5.next,r1.dH (by omega) (by omega) fun j h1 h2=>?_,r2.dH (by omega) (by omega) fun j h1 h2=>?_,r3.dH (by omega) (by omega) fun j h1 h2=>?_,r4.dH (by omega) (by omega) fun j h1 h2=>?_,r5.dH (by omega) (by omega) fun j h1 h2=>?_,r6.dH (by omega) (by rw[aA.bC];omega) fun j h1 h2=>?_,by rw[aA.bC];omega⟩
 . rw[st _ (by omega),k6 _ (by omega),k5 _ (by omega),k4 _ (by omega),k3 _ (by omega),k2 _ (by omega)]
 . rw[st _ (by omega),k6 _ (by omega),k5 _ (by omega),k4 _ (by omega),k3 _ (by omega)]
 . rw[st _ (by omega),k6 _ (by omega),k5 _ (by omega),k4 _ (by omega)]
 . rw[st _ (by omega),k6 _ (by omega),k5 _ (by omega)]
 . rw[st _ (by omega),k6 _ (by omega)]
 rw[st _ (by omega)]):p:=h
theorem Zaf{p:Prop}(h:p:=by exact tB (by omega)):p:=h
theorem Zag{p:Prop}(h:p:=by simp only[aA.aS];omega):p:=h
theorem Zah{p:Prop}(h:p:=by simp only[sf]):p:=h
theorem Zai{p:Prop}(h:p:=by simp;omega):p:=h
theorem Zaj{p:Prop}(h:p:=by simp only[↓zP,zJ,seval,SH,XI,g2,g3,mC,JI,oL JI];refine⟨rfl,_,by simp only[↓zP,zR,seval,SH,XI,mC,oL (mC _)];rfl,?_⟩;rw[Zf];rfl):p:=h
theorem Zak{p:Prop}(h:p:=by
 dsimp only;have hd:=DK ha hb xn hx1 MQ hy1 hy;have la:=ha.len;have lb:=hb.len;have JI:(AV.bool false::AV.bool false::wC zs).length=18:=by simp[dM];rfl
 have mC:∀z,(cI z).length=18:=fun z=>dY z;generalize EP x y=d at *;refine bQ ?_;refine Ty ?_;refine bR ?_;simp only[↓zP,zJ,seval,oL la,oL lb];refine bZ (hd _) ?_;simp only[↓zP,zJ,seval,mC,JI,oL JI,oL (mC _)];refine⟨rfl,_,by simp only[↓zP,zR,seval,mC,oL (mC _)];rfl,?_⟩;rfl):p:=h
theorem Zal{p:Prop}(h:p:=by subst hX;rw[aA.aD,if_pos rfl]):p:=h
theorem Zam{p:Prop}(h:p:=by simp only[sf,cS]):p:=h
theorem Zan{p:Prop}(h:p:=by
 split
 . rename_i hw;rw[if_pos hw] at h;split
   . rename_i hf;rw[if_pos hf] at h;obtain⟨ob,val,h1,h2,h3⟩:=h;exact⟨ob,val,h1,h2,ih hq h3⟩
   rename_i hf;rw[if_neg hf] at h;split
   . rename_i he;rw[if_pos he] at h;obtain⟨v,H',h1,h2,h3,h4⟩:=h;exact⟨v,H',h1,h2,h3,ih hq h4⟩
   rename_i he;rw[if_neg he] at h;obtain⟨v,h1,h2,h3⟩:=h;exact⟨v,h1,h2,ih hq h3⟩
 rename_i hw;rw[if_neg hw] at h;exact ih hq h):p:=h
theorem Zao{p:Prop}(h:p:=by simp only[↓zP,zJ,seval,zD,w4,w5,w7,g1,g2,lo,o0,ls,t4,aB,bT,gD,vJ,gU];apply bW;clear bW K2;refine Tz ?_;refine Rx ?_;exact fin E):p:=h
theorem Zap{p:Prop}(h:p:=by
 dsimp only
 rcases h with ⟨rfl,rfl⟩|rfl
 . simp only[↓zP,zJ,seval,rS,Gf,Cv];refine Rx ?_;exact⟨rfl,rfl⟩
 simp only[↓zP,zJ,seval,rS,Gf,Fa,rY,cL,ha];refine Rx ?_;exact⟨rfl,rfl⟩):p:=h
theorem Zaq{p:Prop}(h:p:=by simp only[↓zP,zJ,seval,zD];exact key _ (by simp only[zB,seval];exact v1) (by simp only[zB,seval];exact v5) (by simp only[zB,seval];exact v6) (by simp only[zB,seval];rw[<-hB];rfl)):p:=h
theorem Zar{p:Prop}(h:p:=by
 rw[Ao,Ap] at hv
 rcases hv with h|h
 . exact .inl h
 simp[hi] at h;exact .inr h):p:=h
theorem Zas{p:Prop}(h:p:=by
 by_cases e:k=i
 . subst e;exact h
 exact bV k (by omega)):p:=h
theorem Zat{p:Prop}(h:p:=by
 refine bQ ?_;simp only[↓zP,zJ,seval,f3,g1];refine bZ (GF _) ?_;refine Tz ?_;refine fD ?_;simp only[↓zP,zJ,seval,f3,g1];refine bR ?_;refine aJ fun K hK=>?_;generalize eC:decide (n≥0)=b1 at *;generalize fV:decide (n<nU)=b2 at *;cases b1<;>
 . simp only[↓zP,zJ,seval,f2,f3,g0,g1,lu,eC,fV];refine Rx ?_;rw[hN];rfl):p:=h
theorem Zau{p:Prop}(h:p:=by
 refine⟨_,2,rfl,fun nw=>?_⟩
 rcases qo with ⟨rfl,h⟩|⟨k,rfl,h1,h2⟩
 . rw[h];rfl
 have cP:¬cJ (iF C S L)=[]:=fun h=>by have :=qe (by simpa [cJ] using h);cases this
 rw[show lB 3 (cJ (iF C S L))=.bB 0 3 (cJ (iF C S L)) from if_neg cP];have MK:dR (cJ (iF C S L))=true:=eJ cS _;simp[fT,IG,jH,MK,JD,nZ,AV.free]):p:=h
theorem Zav{p:Prop}(h:p:=by simp only[sf,dG]):p:=h
theorem Zaw{p:Prop}(h:p:=by rw[show iZ l C S L=(.aR,1) from (if_neg SL).trans (if_pos (Pg (by omega)))];exact⟨_,2,rfl,fun nw=>rfl⟩):p:=h
theorem Zax{p:Prop}(h:p:=by subst hV;exact⟨s,hs,⟨rfl,rfl,rfl,rfl,rfl,rfl⟩,hW⟩):p:=h
theorem Zay{p:Prop}(h:p:=by subst hX;simp only[aA.bC,aA.aS];omega):p:=h
theorem Zaz{p:Prop}(h:p:=by rw[aO];exact hi):p:=h
theorem ZaA{p:Prop}(h:p:=by
 refine bQ ?_;simp only[↓zP,zJ,seval,f3,g1];refine bZ (GF _) ?_;refine Tz ?_;refine bR ?_;refine aJ fun K hK=>?_;generalize eC:decide (n≥0)=b1 at *;generalize fV:decide (n<nR)=b2 at *;cases b1<;>
 . simp only[↓zP,zJ,seval,f2,f3,g0,g1,lr,eC,fV];refine Rx ?_;rw[hN];rfl):p:=h
theorem ZaB{p:Prop}(h:p:=by simp only[sf,ha.free,hb.free]):p:=h
theorem ZaC{p:Prop}(h:p:=by simpa using hj):p:=h
theorem ZaD{p:Prop}(h:p:=by apply bW;clear bW K2;refine Tz ?_;exact⟨trivial,fQ rfl⟩):p:=h
theorem ZaE{p:Prop}(h:p:=by refine Rx ?_;rw[eW (by omega)];rfl):p:=h
theorem ZaF{p:Prop}(h:p:=by
 refine aJ fun K hK=>?_;simp only[↓zP,zJ,seval,f3,g1];refine bZ (GF _) ?_;generalize eC:decide (n≥1)=b1 at *;generalize fV:decide (n<=nT)=b2 at *;cases b1<;>
 . simp only[↓zP,zJ,seval,f2,f3,g0,g1,lt,eC,fV];refine Rx ?_;rw[hN];rfl):p:=h
theorem ZaG{p:Prop}(h:p:=by subst mM;simp only[zB,seval]):p:=h
theorem ZaH{p:Prop}(h:p:=by simp only[zB,seval];exact f3):p:=h
theorem ZaI{p:Prop}(h:p:=by simp only[zB,seval];exact f2):p:=h
theorem ZaJ{p:Prop}(h:p:=by simp only[sf,dK ht]):p:=h
theorem ZaK{p:Prop}(h:p:=by simp only[AV.free,dG]):p:=h
theorem ZaL{p:Prop}(h:p:=by
 refine key _ ?_ ?_ ?_ ?_ ?_ ?_
 . simp only[zB,seval];exact k0
 . simp only[zB,seval];exact k2
 . simp only[zB,seval];exact k4
 . simp only[zB,seval];exact k10
 . simp only[zB,seval];rw[v7,e1]
 simp only[zB,seval];exact v8):p:=h
theorem ZaM{p:Prop}(h:p:=by
 exact Di _ (by omega)
 simp only[↓zP,zJ,seval,h1,eC];refine aL ?_;simp only[↓zP,zG,seval,h0,h1];rw[if_neg MQ];simp only[zG,seval];exact⟨_,fF,trivial,y,x.tmod y,by simp only[seval],hy,by omega,rfl,by rw[Ng,hg]⟩):p:=h
theorem ZaN{p:Prop}(h:p:=by simp only[sm,zB,seval]):p:=h
theorem ZaO{p:Prop}(h:p:=by rw[aA.aD,if_pos rfl,nH,Hz,Er,if_pos (by rw[Af];exact hn)];simp):p:=h
theorem ZaP{p:Prop}(h:p:=by refine Rx ?_;exact⟨rfl,by omega,fun j hj _=>gk j hj,mB⟩):p:=h
theorem ZaQ{p:Prop}(h:p:=by refine Rx ?_;rw[Uf rfl];rfl):p:=h
end Go
namespace Go.Av
open Go
inductive AV where
 |bool (b:Bool)
 |int (k:IntKind) (n:Int)
 |str (s:List UInt8)
 |KV
 |ref (id off:Nat)
 |pl (cells:List AV)
 |aR
 |bB (tag sz:Nat) (aY:List (List AV))
 |sl (id sz off len cap:Nat)
 |func (fn:Fn) (first captured:List AV)
 |AU
 |iface (t:TypeId) (v:AV)
 |wV
 |agg (cs:List AV)
 |iA (vs:List AV)
 |map (id:Nat)
 |rT
 |yield (id:Nat)
instance:Inhabited AV:=⟨.KV⟩
def aC:AV:=.iA []
def AV.one:AV->Bool
 |.agg _|.iA _=>false
 |_=>true
def AV.yP:AV->Bool
 |.iA _=>true
 |_=>false
def AV.cells:AV->List AV
 |.agg cs=>cs
 |v=>[v]
inductive Arg where
 |tmp (t:Nat)
 |const (v:AV)
 |jD (g:Nat)
inductive Sk where
 |b|i|s
 |f (sh:List Sk)
inductive Nk where
 |ptr|ifc|sli|mp|fn
 deriving DecidableEq
inductive eE where
 |Sv (x:Arg)
 |pick (c a b:Arg)
 |alloc (zero:List AV)
 |box (x:Arg)
 |build (zero:List AV) (parts:List (Nat×Nat×Arg))
 |OP (sz:Nat) (parts:List Arg)
 |load (agg:Bool) (n:Nat) (a:Arg)
 |store (n:Nat) (a x:Arg)
 |OQ (x:Arg)
 |bin (op:BinOp) (x y:Arg)
 |eqb (neg:Bool) (x y:Arg)
 |eqf (neg:Bool) (shape:List Sk) (x y:Arg)
 |tt (neg:Bool) (k:Nk) (lit:Bool) (x y:Arg)
 |un (op:UnOp) (x:Arg)
 |NN (k:IntKind) (x:Arg)
 |BK (x:Arg)
 |DJ (x:Arg)
 |Yf (n:Nat) (x:Arg)
 |Xq (t:TypeId) (x:Arg)
 |Xp (fn:Fn) (first cap:List Arg)
 |yQ
 |jQ (sz bytes:Nat) (zero:List AV) (l c:Arg)
 |Ow (x:Arg) (lo hi:Option Arg)
 |Yi (sz:Nat) (x:Arg) (lo hi mx:Option Arg)
 |EA (n sz:Nat) (x:Arg) (lo hi mx:Option Arg)
 |XJ (off:Nat) (x:Arg)
 |Sh (arr:Option Nat) (sz:Nat) (x i:Arg)
 |idx (n sz:Nat) (agg:Bool) (x i:Arg)
 |idxs (x i:Arg)
 |Yp (t:TypeId) (ok:Bool) (zero:AV) (x:Arg)
 |XH (x:Arg) (i:Nat)
 |lens (x:Arg)
 |OD (x:Arg)
 |VE (x y:Arg)
 |VH (x y:Arg)
 |clr (sz:Nat) (zero:List AV) (x:Arg)
 |append (sz bytes:Nat) (mu:Bool) (x y:Arg)
 |copy (sz:Nat) (d s:Arg)
 |lookup (kind:Sk) (zero:AV) (ok:Bool) (x i:Arg)
 |OM (kind:Sk) (m k v:Arg)
 |vM (x:Arg)
 |DT (x:Arg)
 |xZ (x:Arg)
 |call (f:Arg) (args:List Arg)
 |panic (x:Arg)
 |kY (f:Arg) (args:List Arg)
structure bK where
 dst:Option Nat
 op:eE
 guard:Option (Nat×Bool)
inductive cG where
 |skip
 |ops (rl:List bK)
 |draw (rl:List bK) (pairs:List (Nat×Nat))
 |seq (a b:cG)
 |cond (c:Arg) (a b:cG)
 |block (id:Nat) (a:cG)
 |loop (a:cG)
 |exit (id:Nat)
 |ret
 |nY (c:Arg) (ps:List Nat) (PJ body:cG)
structure Mo where
 ps:List Nat
 PJ:cG
 body:cG
structure bG where
 val:Nat->Option (List AV)
 lok:Mo->Loop->Prop
instance:CoeFun bG (fun _=>Nat->Option (List AV)):=⟨bG.val⟩
def bG.mo (g:bG):Bool:=(g.val 999999999).isNone
def g0:bG:=⟨fun _=>none,fun _ _=>False⟩
inductive LEx where
 |ret
 |exit (id:Nat)
inductive LSt where
 |ready
 |busy
 |done (e:LEx)
 |over (e:Option LEx)
inductive fC where
 |cells (cs:List AV) (eM:Bool)
 |tok
 |map (es:List (AV×AV))
 |sK (es:List (AV×AV)) (bs:List Nat) (c mb:Nat)
 |iter (m mb c:Nat) (seen:List Nat)
 |loop (k:Mo) (sn:List AV) (st:LSt)
 |SD
 |dfx
 |dead
def fC.cZ:fC->Bool
 |.map _|.sK _ _ _ _|.iter _ _ _ _|.loop _ _ _|.SD|.dfx=>true
 |_=>false
def LEx.code:LEx->Code
 |.ret=>.ret
 |.exit id=>.exit id
def mX (r:Loop):LSt->Loop
 |.ready=>{r with state:=.ready,pending:=none}
 |.busy=>{r with state:=.busy,pending:=none}
 |.done e=>{r with state:=.done,pending:=some e.code}
 |.over e=>{r with state:=.exhausted,pending:=e.map LEx.code}
def fC.live:fC->Bool
 |.dead=>false
 |_=>true
inductive Tr where
 |nil
 |node (o:Option fC) (l r:Tr)
def Tr.get:Tr->Nat->Option fC
 |.nil,_=>none
 |.node o l r,n=>if n=0 then o else if n%2=1 then l.get (n / 2) else r.get (n / 2 -1)
def Tr.root:Tr->Option fC
 |.nil=>none
 |.node o _ _=>o
def Tr.left:Tr->Tr
 |.nil=>.nil
 |.node _ l _=>l
def Tr.right:Tr->Tr
 |.nil=>.nil
 |.node _ _ r=>r
def Tr.BI:Nat->Tr->Nat->fC->Tr
 |0,t,_,o=>.node (some o) t.left t.right
 |f+1,t,n,o=>
  if n=0 then .node (some o) t.left t.right
  else if n%2=1 then .node t.root (Tr.BI f t.left (n / 2) o) t.right
  else .node t.root t.left (Tr.BI f t.right (n / 2 -1) o)
def Tr.set (t:Tr) (n:Nat) (o:fC):Tr:=Tr.BI n t n o
theorem Tr.ZW (t:Tr) (n:Nat):t.get n=if n=0 then t.root else if n%2=1 then t.left.get (n / 2) else t.right.get (n / 2 -1):=by
 cases t with
 |nil=>simp[Tr.get,Tr.root,Tr.left,Tr.right]
 |node o l r=>simp[Tr.get,Tr.root,Tr.left,Tr.right]
theorem Tr.HN:∀(f:Nat) (t:Tr) (n:Nat) (o:fC) (m:Nat),n<=f->(Tr.BI f t n o).get m=if m=n then some o else t.get m:=by
 intro f
 induction f with
 |zero=>
  intro t n o m hn;obtain rfl:n=0:=by omega
  rw[Tr.ZW t m];simp only[Tr.BI,Tr.get];by_cases hm:m=0<;>simp[hm]
 |succ f ih=>
  intro t n o m hn;rw[Tr.ZW t m];simp only[Tr.BI];by_cases h0:n=0
  . subst h0;simp only[if_true,Tr.get];by_cases hm:m=0<;>simp[hm]
  by_cases aEt:n%2=1
  . simp only[h0,aEt,if_true,Bq,Tr.get];by_cases hm:m=0
    . have :¬m=n:=(by omega);simp[hm,Ne.symm h0]
    by_cases GF:m%2=1
    . simp only[hm,GF,if_true,Bq];rw[ih _ _ _ _ (by omega)];by_cases he:m=n
      . simp[he]
      rw[if_neg he,if_neg (by omega)]
    simp only[hm,GF,Bq];rw[if_neg (by intro he;subst he;exact GF aEt)]
  simp only[h0,aEt,Bq,Tr.get];by_cases hm:m=0
  . simp[hm,Ne.symm h0]
  by_cases GF:m%2=1
  . simp only[hm,GF,if_true,Bq];rw[if_neg (by intro he;subst he;exact aEt GF)]
  simp only[hm,GF,Bq];rw[ih _ _ _ _ (by omega)];by_cases he:m=n
  . simp[he]
  rw[if_neg he,if_neg (by omega)]
structure aA where
 next:Nat
 tr:Tr
def aA.get (H:aA) (id:Nat):Option fC:=H.tr.get id
def aA.set (H:aA) (id:Nat) (o:fC):aA:={H with tr:=H.tr.set id o}
def aA.alloc (H:aA) (o:fC):aA:={next:=H.next+1,tr:=H.tr.set H.next o}
theorem aA.aD (H:aA) (id:Nat) (o:fC) (m:Nat):(H.set id o).get m=if m=id then some o else H.get m:=
 Tr.HN _ _ _ _ _ (Ab _)
theorem aA.aG (H:aA) (o:fC) (m:Nat):(H.alloc o).get m=if m=H.next then some o else H.get m:=
 Tr.HN _ _ _ _ _ (Ab _)
@[simp] theorem aA.bC (H:aA) (id:Nat) (o:fC):(H.set id o).next=H.next:=rfl
@[simp] theorem aA.aS (H:aA) (o:fC):(H.alloc o).next=H.next+1:=rfl
def Arg.eval (g:bG) (s:List AV):Arg->AV
 |.tmp t=>s.getD t aC
 |.const v=>v
 |.jD n=>match g n with
  |some cs=>.pl cs
  |none=>aC
def fM (sz:Nat):Nat->List AV->List (List AV)
 |0,_=>[]
 |n+1,cs=>cs.take sz::fM sz n (cs.drop sz)
def fW (cs:List AV) (off:Nat) (vs:List AV):List AV:=cs.take off++vs++cs.drop (off+vs.length)
def HF (ev:Arg->AV):List AV->List (Nat×Nat×Arg)->Option (List AV)
 |cs,[]=>some cs
 |cs,(off,n,x)::rest=>
  let vs:=(ev x).cells
  if vs.length=n/\off+n<=cs.length/\(ev x).yP=false then HF ev (fW cs off vs) rest else none
def KS (ev:Arg->AV) (sz:Nat):List Arg->Option (List (List AV))
 |[]=>some []
 |x::rest=>
  let vs:=(ev x).cells
  if vs.length=sz/\(ev x).yP=false then(KS ev sz rest).map (vs:: ·) else none
def cK:List Sk->List AV->List AV->Option Bool
 |[],[],[]=>some true
 |.b::ks,.bool a::xs,.bool b::ys=>(cK ks xs ys).map ((a==b)&& ·)
 |.i::ks,.int j a::xs,.int k b::ys=>if j=k then(cK ks xs ys).map ((a==b)&& ·) else none
 |.s::ks,.str a::xs,.str b::ys=>(cK ks xs ys).map ((a==b)&& ·)
 |_,_,_=>none
def rS (k:Nk):AV->Option Bool
 |.KV=>if k=.ptr then some true else none
 |.ref _ _|.pl _=>if k=.ptr then some false else none
 |.aR=>if k=.sli then some true else none
 |.bB _ _ _|.sl _ _ _ _ _=>if k=.sli then some false else none
 |.wV=>if k=.ifc then some true else none
 |.iface _ _=>if k=.ifc then some false else none
 |.AU=>if k=.fn then some true else none
 |.func _ _ _=>if k=.fn then some false else none
 |.rT=>if k=.mp then some true else none
 |.map _=>if k=.mp then some false else none
 |_=>none
def QL (op:BinOp) (k:IntKind) (x y:Int):Option AV:=
 let a:=BitVec.ofInt k.bits x;let b:=BitVec.ofInt k.bits y
 match op with
 |.and=>some (.int k (k.wrap (a&&& b).toNat))
 |.or=>some (.int k (k.wrap (a|||b).toNat))
 |.xor=>some (.int k (k.wrap (a^^^b).toNat))
 |.andNot=>some (.int k (k.wrap (a&&& ~~~b).toNat))
 |_=>none
def pU (op:BinOp) (k:IntKind) (a:Int) (k':IntKind) (b:Int):Option AV:=
 match op with
 |.shl=>if b<0 then none else some (.int k (k.wrap (a*2^(min b.toNat k.bits))))
 |.shr=>if b<0 then none else some (.int k (a.fdiv (2^(min b.toNat k.bits))))
 |.add=>if k=k' then some (.int k (k.wrap (a+b))) else none
 |.sub=>if k=k' then some (.int k (k.wrap (a -b))) else none
 |.mul=>if k=k' then some (.int k (k.wrap (a*b))) else none
 |.quo=>if k=k' then(if b=0 then none else some (.int k (k.wrap (a.tdiv b)))) else none
 |.rem=>if k=k' then(if b=0 then none else some (.int k (a.tmod b))) else none
 |.and|.or|.xor|.andNot=>if k=k' then QL op k a b else none
 |.eql=>if k=k' then some (.bool (a==b)) else none
 |.neq=>if k=k' then some (.bool (a != b)) else none
 |.lss=>if k=k' then some (.bool (a<b)) else none
 |.leq=>if k=k' then some (.bool (a<=b)) else none
 |.gtr=>if k=k' then some (.bool (a>b)) else none
 |.geq=>if k=k' then some (.bool (a≥b)) else none
def si (op:BinOp) (x y:List UInt8):Option AV:=
 let eq:=x==y;let lt:=Op.bytesLess x y
 match op with
 |.add=>if x.length+y.length<=2^40 then some (.str (x++y)) else none
 |.eql=>some (.bool eq)
 |.neq=>some (.bool !eq)
 |.lss=>some (.bool lt)
 |.leq=>some (.bool (lt||eq))
 |.gtr=>some (.bool !(lt||eq))
 |.geq=>some (.bool !lt)
 |_=>none
def unA (op:UnOp):AV->Option AV
 |.int k n=>match op with
  |.neg=>some (.int k (k.wrap (0 -n)))
  |.xor=>QL .xor k (if k.signed then -1 else k.max) n
  |_=>none
 |.bool b=>match op with
  |.not=>some (.bool !b)
  |_=>none
 |_=>none
def asNat:AV->Option Nat
 |.int _ n=>if 0<=n then some n.toNat else none
 |_=>none
def dZ (ev:Arg->AV):Option Arg->Option (Option Nat)
 |none=>some none
 |some x=>(asNat (ev x)).map some
def WU (s:List UInt8):List (List AV):=s.map fun b=>[.int .u8 b.toNat]
def bytesOf:List (List AV)->Option (List UInt8)
 |[]=>some []
 |[.int .u8 n]::rest=>(bytesOf rest).map (UInt8.ofNat n.toNat:: ·)
 |_=>none
def aA.eY (H:aA) (id:Nat):Option (List AV):=
 match H.get id with
 |some (.cells cs _)=>some cs
 |_=>none
def cL (H:aA) (sz:Nat):AV->Option (List (List AV))
 |.aR=>some []
 |.bB _ eP aY=>if eP=sz then some aY else none
 |.str s=>if sz=1 then some (WU s) else none
 |.sl id eP off len _=>
  if eP=sz then
   match H.eY id with
   |some cs=>if off+len*sz<=cs.length then some (fM sz len (cs.drop off)) else none
   |none=>none
  else none
 |_=>none
def kL (H:aA) (mu:Bool) (sz:Nat) (aY:List (List AV)):AV×aA:=
 if mu then(.sl H.next sz 0 aY.length aY.length,H.alloc (.cells aY.flatten true))
 else(.bB (H.next+2) sz aY,H.alloc .tok)
def eB (H:aA) (sz bytes:Nat) (mu:Bool) (x:AV) (ys:List (List AV)):Option (AV×aA):=
 if ys.isEmpty then
  match x with
  |.aR|.bB _ _ _|.sl _ _ _ _ _=>some (x,H)
  |_=>none
 else
 match x with
 |.aR=>if ys.length*bytes<=2^40 then some (kL H mu sz ys) else none
 |.bB tag eP aY=>
  if eP=sz/\(aY.length+ys.length)*bytes<=2^40 then
   match tag with
   |0=>none
   |1=>some (kL H mu sz (aY++ys))
   |k+2=>
    match H.get k with
    |some .tok=>some (.bB (H.next+2) sz (aY++ys),(H.set k .dead).alloc .tok)
    |_=>none
  else none
 |.sl id eP off len cap=>
  if eP=sz/\(len+ys.length)*bytes<=2^40/\1<=sz then
   match H.get id with
   |some (.cells cs eM)=>
    if len+ys.length<=cap then
     if off+cap*sz<=cs.length then
      some (.sl id sz off (len+ys.length) cap,H.set id (.cells (fW cs (off+len*sz) ys.flatten) eM))
     else none
    else if off+len*sz<=cs.length/\(eM=false\/off+cap*sz<cs.length) then
     some (kL H mu sz (fM sz len (cs.drop off)++ys))
    else if mu=true/\off=0/\len=cap/\cs.length=len*sz then
     some (.sl H.next sz 0 (len+ys.length) (len+ys.length),(H.set id .dead).alloc (.cells (cs++ys.flatten) true))
    else none
   |_=>none
  else none
 |_=>none
def vR (sz:Nat) (x:AV) (lo hi mx:Option Nat):Option AV:=
 match x with
 |.aR=>if lo.getD 0=0/\hi.getD 0=0/\mx.getD 0=0 then some .aR else none
 |.bB tag eP aY=>
  let l:=lo.getD 0;let h:=hi.getD aY.length
  if eP=sz/\l<=h/\h<=aY.length then
   match mx with
   |some m=>
    if h<=m/\m<=aY.length then
     some (.bB (if m=h then 1 else 0) sz ((aY.drop l).take (h -l)))
    else none
   |none=>
    if h=aY.length/\(l<h\/tag<2) then some (.bB tag sz (aY.drop l))
    else some (.bB 0 sz ((aY.drop l).take (h -l)))
  else none
 |.sl id eP off len cap=>
  let l:=lo.getD 0;let h:=hi.getD len
  if eP=sz/\l<=h then
   match mx with
   |some m=>
    if h<=m/\m<=cap then
     if m=l then some (.sl id sz off 0 0) else some (.sl id sz (off+l*sz) (h -l) (m -l))
    else none
   |none=>
    if h<=cap then
     if l=cap then some (.bB 0 sz []) else some (.sl id sz (off+l*sz) (h -l) (cap -l))
    else none
  else none
 |_=>none
def mI (H:aA) (n sz:Nat) (x:AV) (lo hi mx:Option Nat):Option AV:=
 let l:=lo.getD 0;let m:=mx.getD n;let h:=hi.getD n
 if l<=h/\h<=m/\m<=n/\(mx.isSome->hi.isSome) then
  match x with
  |.ref id o=>
   match H.eY id with
   |some cs=>if o+n*sz<=cs.length then(if m=l then some (.sl id sz o 0 0) else some (.sl id sz (o+l*sz) (h -l) (m -l))) else none
   |none=>none
  |.pl cs=>if n*sz<=cs.length then some (.bB (if m=h then 1 else 0) sz ((fM sz n cs).drop l |>.take (h -l))) else none
  |_=>none
 else none
def sameKey (k:Sk):AV->AV->Option Bool
 |.int j a,.int j' b=>match k with
  |.i=>if j=j' then some (a==b) else none
  |_=>none
 |.str a,.str b=>match k with
  |.s=>some (a==b)
  |_=>none
 |.bool a,.bool b=>match k with
  |.b=>some (a==b)
  |_=>none
 |.agg xs,.agg ys=>match k with
  |.f sh=>cK sh xs ys
  |_=>none
 |_,_=>none
def jY (k:Sk) (x:AV):List (AV×AV)->Nat->Option (Option (Nat×AV))
 |[],_=>some none
 |(y,v)::es,i=>
  match sameKey k x y with
  |some true=>some (some (i,v))
  |some false=>jY k x es (i+1)
  |none=>none
def HW (k:Sk):AV->Bool
 |.int _ _=>match k with|.i=>true|_=>false
 |.str _=>match k with|.s=>true|_=>false
 |.bool _=>match k with|.b=>true|_=>false
 |.agg xs=>match k with|.f sh=>decide (xs.length=sh.length)|_=>false
 |_=>false
def xQ (ev:Arg->AV):eE->Option (fC×(Nat->AV))
 |.alloc zero=>some (.cells zero false,fun id=>.ref id 0)
 |.box x=>if(ev x).yP then none else some (.cells (ev x).cells false,fun id=>.ref id 0)
 |.yQ=>some (.map [],fun id=>.map id)
 |.jQ sz bytes zero l c=>match asNat (ev l),asNat (ev c) with
  |some l,some c=>if l<=c/\bytes*c<=2^40/\zero.length=sz then some (.cells (List.replicate c zero).flatten false,fun id=>.sl id sz 0 l c) else none
  |_,_=>none
 |.BK x=>match ev x with
  |.str s=>some (.tok,fun id=>.bB (id+2) 1 (WU s))
  |_=>none
 |_=>none
def dA (ev:Arg->AV) (H:aA):eE->Option (AV×aA)
 |.Sv x=>some (ev x,H)
 |.pick c a b=>match ev c with
  |.bool t=>some (if t then ev a else ev b,H)
  |_=>none
 |.alloc zero=>(xQ ev (.alloc zero)).map fun p=>(p.2 H.next,H.alloc p.1)
 |.box x=>(xQ ev (.box x)).map fun p=>(p.2 H.next,H.alloc p.1)
 |.build zero parts=>(HF ev zero parts).map fun cs=>(.agg cs,H)
 |.OP sz parts=>(KS ev sz parts).map fun aY=>(.bB 1 sz aY,H)
 |.load agg n a=>match ev a with
  |.ref id off=>match H.eY id with
   |some cs=>if off+n<=cs.length then(if agg then some (.agg ((cs.drop off).take n),H) else if n=1 then some (cs.getD off aC,H) else none) else none
   |none=>none
  |.pl cs=>if n<=cs.length then(if agg then some (.agg (cs.take n),H) else if n=1 then some (cs.getD 0 aC,H) else none) else none
  |_=>none
 |.store n a x=>match ev a with
  |.ref id off=>match H.get id with
   |some (.cells cs eM)=>
    let vs:=(ev x).cells
    if vs.length=n/\off+n<=cs.length/\(ev x).yP=false then some (aC,H.set id (.cells (fW cs off vs) eM)) else none
   |_=>none
  |_=>none
 |.OQ x=>match ev x with
  |.ref id off=>some (.ref id off,H)
  |.pl cs=>some (.pl cs,H)
  |.func (.func f) a b=>some (.func (.func f) a b,H)
  |.iface t v=>some (.iface t v,H)
  |_=>none
 |.bin op x y=>match ev x,ev y with
  |.int k a,.int k' b=>(pU op k a k' b).map (·,H)
  |.str a,.str b=>(si op a b).map (·,H)
  |_,_=>none
 |.eqb neg x y=>match ev x,ev y with
  |.bool a,.bool b=>some (.bool (if neg then !(a==b) else(a==b)),H)
  |_,_=>none
 |.eqf neg shape x y=>match ev x,ev y with
  |.agg xs,.agg ys=>(cK shape xs ys).map fun e=>(.bool (if neg then !e else e),H)
  |_,_=>none
 |.tt neg k lit x y=>match rS k (ev x),rS k (ev y) with
  |some a,some b=>if(a||b)&&(k != .ifc|| !(a&&b)||lit) then some (.bool (if neg then !(a&&b) else(a&&b)),H) else none
  |_,_=>none
 |.un op x=>(unA op (ev x)).map (·,H)
 |.NN k x=>match ev x with
  |.int _ n=>some (.int k (k.wrap n),H)
  |_=>none
 |.BK x=>(xQ ev (.BK x)).map fun p=>(p.2 H.next,H.alloc p.1)
 |.DJ x=>match ev x with
  |.str _=>none
  |v=>match cL H 1 v with
   |some aY=>(bytesOf aY).map fun s=>(.str s,H)
   |none=>none
 |.Yf n x=>match ev x with
  |.bB _ _ aY=>if n<=aY.length/\1<=aY.length then some (.pl aY.flatten,H) else none
  |.sl id _ off len _=>if n<=len then some (.ref id off,H) else none
  |_=>none
 |.Xq t x=>some (.iface t (ev x),H)
 |.Xp fn first cap=>some (.func fn (first.map ev) (cap.map ev),H)
 |.yQ=>(xQ ev .yQ).map fun p=>(p.2 H.next,H.alloc p.1)
 |.jQ sz bytes zero l c=>(xQ ev (.jQ sz bytes zero l c)).map fun p=>(p.2 H.next,H.alloc p.1)
 |.Ow x lo hi=>match ev x,dZ ev lo,dZ ev hi with
  |.str s,some lo,some hi=>
   let l:=lo.getD 0;let h:=hi.getD s.length
   if l<=h/\h<=s.length then some (.str ((s.drop l).take (h -l)),H) else none
  |_,_,_=>none
 |.Yi sz x lo hi mx=>match dZ ev lo,dZ ev hi,dZ ev mx with
  |some lo,some hi,some mx=>if mx.isSome->hi.isSome then(vR sz (ev x) lo hi mx).map (·,H) else none
  |_,_,_=>none
 |.EA n sz x lo hi mx=>match dZ ev lo,dZ ev hi,dZ ev mx with
  |some lo,some hi,some mx=>(mI H n sz (ev x) lo hi mx).map (·,H)
  |_,_,_=>none
 |.XJ off x=>match ev x with
  |.ref id o=>some (.ref id (o+off),H)
  |.pl cs=>some (.pl (cs.drop off),H)
  |_=>none
 |.Sh arr sz x i=>match asNat (ev i) with
  |some i=>match arr,ev x with
   |some n,.ref id o=>if i<n then some (.ref id (o+i*sz),H) else none
   |some n,.pl cs=>if i<n then some (.pl (cs.drop (i*sz)),H) else none
   |none,.bB _ eP aY=>if eP=sz/\i<aY.length then some (.pl (aY.getD i []),H) else none
   |none,.sl id eP off len _=>if eP=sz/\i<len then some (.ref id (off+i*sz),H) else none
   |_,_=>none
  |none=>none
 |.idx n sz agg x i=>match asNat (ev i),ev x with
  |some i,.agg cs=>if i<n/\i*sz+sz<=cs.length then(if agg then some (.agg ((cs.drop (i*sz)).take sz),H) else if sz=1 then some (cs.getD i aC,H) else none) else none
  |_,_=>none
 |.idxs x i=>match asNat (ev i),ev x with
  |some i,.str s=>match s[i]? with
   |some b=>some (.int .u8 b.toNat,H)
   |none=>none
  |_,_=>none
 |.Yp t ok zero x=>match ev x with
  |.iface t' v=>if t'=t then some (if ok then .iA [v,.bool true] else v,H) else if ok then some (.iA [zero,.bool false],H) else none
  |.wV=>if ok then some (.iA [zero,.bool false],H) else none
  |_=>none
 |.XH x i=>match ev x with
  |.iA vs=>if i<vs.length then some (vs.getD i aC,H) else none
  |_=>none
 |.lens x=>match ev x with
  |.str s=>some (.int .i64 s.length,H)
  |_=>none
 |.OD x=>match ev x with
  |.aR=>some (.int .i64 0,H)
  |.bB _ _ aY=>some (.int .i64 aY.length,H)
  |.sl _ _ _ len _=>some (.int .i64 len,H)
  |_=>none
 |.VE x y=>match ev x,ev y with
  |.int k a,.int _ b=>some (.int k (if b>a then b else a),H)
  |_,_=>none
 |.VH x y=>match ev x,ev y with
  |.int k a,.int _ b=>some (.int k (if b<a then b else a),H)
  |_,_=>none
 |.clr sz zero x=>match ev x with
  |.aR|.bB _ _ []|.sl _ _ _ 0 _=>some (aC,H)
  |.sl id eP off len _=>if eP=sz/\zero.length=sz then
    match H.get id with
    |some (.cells cs eM)=>if off+len*sz<=cs.length then some (aC,H.set id (.cells (fW cs off (List.replicate len zero).flatten) eM)) else none
    |_=>none
   else none
  |_=>none
 |.append sz bytes mu x y=>match cL H sz (ev y) with
  |some ys=>eB H sz bytes mu (ev x) ys
  |none=>none
 |.copy sz d s=>match cL H sz (ev s),ev d with
  |some ys,.aR=>some (.int .i64 (min ys.length 0:Nat),H)
  |some ys,.sl id eP off len _=>
   let n:=min ys.length len
   if eP=sz then
    match H.get id with
    |some (.cells cs eM)=>if off+n*sz<=cs.length then some (.int .i64 n,H.set id (.cells (fW cs off (ys.take n).flatten) eM)) else none
    |_=>none
   else none
  |_,_=>none
 |.lookup kind zero ok x i=>if HW kind (ev i) then
   match ev x with
   |.rT=>some (if ok then .iA [zero,.bool false] else zero,H)
   |.map id=>match H.get id with
    |some (.map es)=>match jY kind (ev i) es 0 with
     |some (some (_,v))=>some (if ok then .iA [v,.bool true] else v,H)
     |some none=>some (if ok then .iA [zero,.bool false] else zero,H)
     |none=>none
    |_=>none
   |_=>none
  else none
 |.OM kind m k v=>if HW kind (ev k) then
   match ev m with
   |.map id=>match H.get id with
    |some (.map es)=>match jY kind (ev k) es 0 with
     |some (some (i,_))=>some (aC,H.set id (.map (es.set i (ev k,ev v))))
     |some none=>some (aC,H.set id (.map (es++[(ev k,ev v)])))
     |none=>none
    |_=>none
   |_=>none
  else none
 |.call _ _|.panic _|.kY _ _|.vM _|.DT _|.xZ _=>none
structure Loc where
 cZ:Nat
 base:Nat
 Tf:Nat
 ext:Nat
structure Gh where
 loc:Nat->Option Loc
 gZ:Nat->Nat->Prop
 mo:Bool
def aId (G:Gh) (tag b e sz len cap:Nat):Prop:=
 len<=cap/\match tag with
 |0=>True
 |1=>cap=len
 |k+2=>∃l,G.loc k=some l/\l.cZ=b/\l.base=e/\l.Tf=0/\l.ext=(cap -len)*sz
inductive VR (G:Gh) (w:World):AV->Value->Prop
 |bool (b:Bool):VR G w (.bool b) (.bool b)
 |int (k:IntKind) (n:Int):VR G w (.int k n) (.int k n)
 |str (s:ByteArray):VR G w (.str s.data.toList) (.string s)
 |KV:VR G w .KV (.pointer none)
 |ref (id off:Nat) (l:Loc) (h:G.loc id=some l):VR G w (.ref id off) (.pointer (some ⟨l.cZ,l.base+off,none⟩))
 |pl (cells:List AV) (b o:Nat) (us:Nat->Value)
   (h:∀j,j<cells.length->G.gZ b (o+j)/\w.cell? ⟨b,o+j,none⟩=some (us j)/\(cells.getD j aC).one=true)
   (hv:∀j,j<cells.length->VR G w (cells.getD j aC) (us j)):VR G w (.pl cells) (.pointer (some ⟨b,o,none⟩))
 |aR:VR G w .aR (.slice none 0 0)
 |bB (tag sz:Nat) (aY:List (List AV)) (b o cap:Nat) (us:Nat->Value)
   (hu:∀e∈aY,e.length=sz)
   (h:∀j,j<aY.flatten.length->G.gZ b (o+j)/\w.cell? ⟨b,o+j,none⟩=some (us j)/\(aY.flatten.getD j aC).one=true)
   (hv:∀j,j<aY.flatten.length->VR G w (aY.flatten.getD j aC) (us j))
   (ht:aId G tag b (o+aY.length*sz) sz aY.length cap):VR G w (.bB tag sz aY) (.slice (some ⟨b,o,none⟩) aY.length cap)
 |vK (tag sz b o s:Nat) (ht:tag<2):VR G w (.bB tag sz []) (.slice (some ⟨b,o,some s⟩) 0 0)
 |sl (id sz off len cap jV:Nat) (l:Loc) (h:G.loc id=some l) (hlen:len<=cap) (gR:off+cap*sz<=l.Tf)
   (pL:jV=cap\/(off+cap*sz=l.Tf/\cap<=jV/\off+jV*sz=l.ext)):
   VR G w (.sl id sz off len cap) (.slice (some ⟨l.cZ,l.base+off,none⟩) len jV)
 |func (fn:Fn) (fs cs:List AV) (azs bs:List Value) (ha:azs.length=fs.length) (hb:bs.length=cs.length)
   (hav:∀j,j<fs.length->VR G w (fs.getD j aC) (azs.getD j undef)) (hbv:∀j,j<cs.length->VR G w (cs.getD j aC) (bs.getD j undef)):
   VR G w (.func fn fs cs) (.func fn azs.toArray bs.toArray)
 |AU:VR G w .AU .nilFunc
 |iface (t:TypeId) (a:AV) (v:Value) (h:VR G w a v):VR G w (.iface t a) (.iface t v)
 |wV:VR G w .wV .nilIface
 |agg (cs:List AV) (vs:List Value) (hl:vs.length=cs.length) (h1:∀c∈cs,c.one=true)
   (hv:∀j,j<cs.length->VR G w (cs.getD j aC) (vs.getD j undef)):VR G w (.agg cs) (.agg vs.toArray)
 |iA (cs:List AV) (vs:List Value) (hl:vs.length=cs.length)
   (hv:∀j,j<cs.length->VR G w (cs.getD j aC) (vs.getD j undef)):VR G w (.iA cs) (.tuple vs.toArray)
 |map (id:Nat) (l:Loc) (h:G.loc id=some l):VR G w (.map id) (.map (some l.cZ))
 |rT:VR G w .rT (.map none)
 |yield (id:Nat) (l:Loc) (h:G.loc id=some l):VR G w (.yield id) (.func (.yield l.cZ) #[] #[])
def iK (G:Gh) (w:World) (xs:List AV) (vs:List Value):Prop:=
 vs.length=xs.length/\∀j,j<xs.length->VR G w (xs.getD j aC) (vs.getD j undef)
theorem VR.oG (G:Gh) (w:World):VR G w aC Go.undef:=VR.iA [] [] rfl (fun j hj=>absurd hj (An j))
theorem VR.mono {G G':Gh} {w w':World} {a:AV} {u:Value} (h:VR G w a u) (hl:∀id l,G.loc id=some l->G'.loc id=some l)
 (hi:∀b o,G.gZ b o->G'.gZ b o/\w'.cell? ⟨b,o,none⟩=w.cell? ⟨b,o,none⟩):VR G' w' a u:=by
 induction h with
 |bool b=>exact .bool b
 |int k n=>exact .int k n
 |str s=>exact .str s
 |KV=>exact .KV
 |ref id off l h=>exact .ref id off l (hl _ _ h)
 |pl cells b o us h hv ih=>exact .pl cells b o us (fun j hj=>⟨(hi _ _ (h j hj).1).1,by rw[(hi _ _ (h j hj).1).2];exact(h j hj).2.1,(h j hj).2.2⟩) ih
 |aR=>exact .aR
 |bB tag sz aY b o cap us hu h hv ht ih=>
  refine .bB tag sz aY b o cap us hu (fun j hj=>⟨(hi _ _ (h j hj).1).1,by rw[(hi _ _ (h j hj).1).2];exact(h j hj).2.1,(h j hj).2.2⟩) ih ?_;refine⟨ht.1,?_⟩;have h2:=ht.2
  match tag,h2 with
  |0,_=>trivial
  |1,h2=>exact h2
  |k+2,⟨l,h1,h2⟩=>exact⟨l,hl _ _ h1,h2⟩
 |vK tag sz b o s ht=>exact .vK tag sz b o s ht
 |sl id sz off len cap jV l h hlen gR pL=>exact .sl id sz off len cap jV l (hl _ _ h) hlen gR pL
 |func fn fs cs azs bs ha hb hav hbv rR uT=>exact .func fn fs cs azs bs ha hb rR uT
 |AU=>exact .AU
 |iface t a v h ih=>exact .iface t a v ih
 |wV=>exact .wV
 |agg cs vs oU h1 hv ih=>exact .agg cs vs oU h1 ih
 |iA cs vs oU hv ih=>exact .iA cs vs oU ih
 |map id l h=>exact .map id l (hl _ _ h)
 |rT=>exact .rT
 |yield id l h=>exact .yield id l (hl _ _ h)
def zk:Value->Bool
 |.agg _|.tuple _=>false
 |_=>true
theorem VR.one {G:Gh} {w:World} {a:AV} {u:Value} (h:VR G w a u):a.one=zk u:=by cases h<;>rfl
def aA.live (H:aA) (id:Nat):Prop:=∃o,H.get id=some o/\o.live=true
def Tk (ents:Array MapEntry) (clock:Nat):Prop:=
 (∀i,i<ents.size->(ents.getD i default).born<clock)/\∀i j,i<ents.size->j<ents.size->(ents.getD i default).born=(ents.getD j default).born->i=j
def JS (g:bG) (G:Gh) (w:World) (l:Loc):fC->Prop
 |.map es=>∃ents clock,w.heap[l.cZ]?=some (.map ents clock)/\ents.size=es.length/\Tk ents clock/\
   ∀j,j<es.length->VR G w (es.getD j (aC,aC)).1 (ents.getD j default).key/\VR G w (es.getD j (aC,aC)).2 (ents.getD j default).val
 |.sK es bs c mb=>l.cZ=mb/\bs.Nodup/\(∀b∈bs,b<c)/\∃ents:Array MapEntry,w.heap[l.cZ]?=some (.map ents c)/\ents.toList.map (·.born)=bs/\bs.length=es.length/\
   ∀j,j<es.length->VR G w (es.getD j (aC,aC)).1 (ents.getD j default).key/\VR G w (es.getD j (aC,aC)).2 (ents.getD j default).val
 |.iter m mb c seen=>w.heap[l.cZ]?=some (.mapIter (some mb) c seen.toArray c)/\VR G w (.map m) (.map (some mb))
 |.loop k sn st=>∃r,g.lok k r/\w.heap[l.cZ]?=some (.loop (mX r st))/\iK G w sn r.tmps.toList
 |.SD=>w.heap[l.cZ]?=some (.deferred (some []))
 |.dfx=>w.heap[l.cZ]?=some (.deferred none)
 |_=>True
theorem JS.mono {g:bG} {G G':Gh} {w w':World} {l:Loc} {o:fC} (h:JS g G w l o) (hb:w'.heap[l.cZ]?=w.heap[l.cZ]?) (hv:∀a u,VR G w a u->VR G' w' a u):JS g G' w' l o:=by
 cases o with
 |map es=>obtain⟨ents,clock,a1,a2,a3,a4⟩:=h;exact⟨ents,clock,by rw[hb];exact a1,a2,a3,fun j hj=>⟨hv _ _ (a4 j hj).1,hv _ _ (a4 j hj).2⟩⟩
 |sK es bs c mb=>obtain⟨a1,a2,a3,ents,a4,a5,a6,a7⟩:=h;exact⟨a1,a2,a3,ents,hb.trans a4,a5,a6,fun j hj=>⟨hv _ _ (a7 j hj).1,hv _ _ (a7 j hj).2⟩⟩
 |iter m mb c seen=>exact⟨hb.trans h.1,hv _ _ h.2⟩
 |loop k sn st=>obtain⟨r,h0,h1,h2⟩:=h;exact⟨r,h0,hb.trans h1,h2.1,fun j hj=>hv _ _ (h2.2 j hj)⟩
 |SD=>exact hb.trans h
 |dfx=>exact hb.trans h
 |_=>trivial
theorem JS.lt {g:bG} {G:Gh} {w:World} {l:Loc} {o:fC} (ho:o.cZ=true) (h:JS g G w l o):l.cZ<w.heap.size:=by
 cases o with
 |map es=>obtain⟨ents,clock,a1,_⟩:=h;exact(Cf.1 a1).1
 |sK es bs c mb=>obtain⟨_,_,_,ents,a1,_⟩:=h;exact(Cf.1 a1).1
 |iter m mb c seen=>exact(Cf.1 h.1).1
 |loop k sn st=>obtain⟨r,_,h1,_⟩:=h;exact(Cf.1 h1).1
 |SD=>exact(Cf.1 (show w.heap[l.cZ]?=some _ from h)).1
 |dfx=>exact(Cf.1 (show w.heap[l.cZ]?=some _ from h)).1
 |_=>cases ho
theorem OF {o:fC} (h:o.cZ=true):o.live=true:=by cases o<;>first|rfl|cases h
theorem JS.AW {g:bG} {G:Gh} {w:World} {l:Loc} {o:fC} (ho:o.cZ=true) (h:JS g G w l o) {c:Array Value} {el:TypeId} {fz:Nat×Nat}:w.heap[l.cZ]?≠some (.cells c el fz):=by
 intro hc
 cases o with
 |map es=>obtain⟨ents,clock,a1,_⟩:=h;rw[hc] at a1;cases a1
 |sK es bs c mb=>obtain⟨_,_,_,ents,a1,_⟩:=h;rw[hc] at a1;cases a1
 |iter m mb c seen=>have h:=h.1;rw[hc] at h;cases h
 |loop k sn st=>obtain⟨r,_,h,_⟩:=h;rw[hc] at h;cases h
 |SD=>have h:w.heap[l.cZ]?=some _:=h;rw[hc] at h;cases h
 |dfx=>have h:w.heap[l.cZ]?=some _:=h;rw[hc] at h;cases h
 |_=>cases ho
structure WR (g:bG) (G:Gh) (H:aA) (w:World):Prop where
 cells:∀id l cs eM,G.loc id=some l->H.get id=some (.cells cs eM)->
  l.Tf=cs.length/\l.Tf<=l.ext/\(eM=false->l.Tf=l.ext)/\(∀c∈cs,c.one=true)/\
  ∀j,j<cs.length->∃u,w.cell? ⟨l.cZ,l.base+j,none⟩=some u/\VR G w (cs.getD j aC) u
 room:∀id l,G.loc id=some l->((∃cs eM,H.get id=some (.cells cs eM))\/H.get id=some .tok)->
  ∃c el fz,w.heap[l.cZ]?=some (.cells c el fz)/\l.base+l.ext<=c.size/\∀j,j<l.ext->w.frozen? ⟨l.cZ,l.base+j,none⟩=false
 kM:∀id kP l l',id≠kP->G.loc id=some l->G.loc kP=some l'->H.live id->H.live kP->
  l.cZ≠l'.cZ\/l.base+l.ext<=l'.base\/l'.base+l'.ext<=l.base
 jZ:∀id l,G.loc id=some l->H.live id->∀j,j<l.ext->¬G.gZ l.cZ (l.base+j)
 iS:∀id l o,G.loc id=some l->H.get id=some o->o.cZ=true->l.base=0/\l.ext=1/\JS g G w l o
 lt:∀id l,G.loc id=some l->id<H.next
 iX:∀b o,G.gZ b o->∃v,w.cell? ⟨b,o,none⟩=some v
 jD:∀n cs,g n=some cs->VR G w (.pl cs) (.pointer (some ⟨n,0,none⟩))
 BZ:∀n cs,g n=some cs->cs≠[]->∃c el fz,w.heap[n]?=some (.cells c el fz)/\c.size=cs.length
 mo:G.mo=g.mo
structure zH (w w':World):Prop where
 os:w'.os=w.os
 output:w'.output=w.output
 tape:w'.tape=w.tape
 drawn:w.drawn<=w'.drawn
theorem zH.now {w w':World} (h1:w'.os=w.os:=by rfl) (h2:w'.output=w.output:=by rfl) (h3:w'.tape=w.tape:=by rfl) (h4:w.drawn<=w'.drawn:=by first|exact Ab _|exact Gn _|exact Hg _ _):zH w w':=⟨h1,h2,h3,h4⟩
theorem zH.trans {w w' w'':World} (h:zH w w') (h':zH w' w''):zH w w'':=⟨h'.os.trans h.os,h'.output.trans h.output,h'.tape.trans h.tape,Ce h.drawn h'.drawn⟩
structure QH (b:Bool) (w w':World):Prop where
 os:w'.os=w.os
 output:w'.output=w.output
 tape:w'.tape=w.tape
 drawn:b=true->w.drawn<=w'.drawn
theorem zH.toB {w w':World} (h:zH w w') (b:Bool):QH b w w':=⟨h.os,h.output,h.tape,fun _=>h.drawn⟩
theorem QH.trans {b:Bool} {w w' w'':World} (h:QH b w w') (h':QH b w' w''):QH b w w'':=⟨h'.os.trans h.os,h'.output.trans h.output,h'.tape.trans h.tape,fun hb=>Ce (h.drawn hb) (h'.drawn hb)⟩
structure Ext (G:Gh) (H:aA) (w:World) (G':Gh) (H':aA) (w':World):Prop where
 loc:∀id l,G.loc id=some l->G'.loc id=some l
 gZ:∀b o,G.gZ b o->G'.gZ b o/\w'.cell? ⟨b,o,none⟩=w.cell? ⟨b,o,none⟩
 size:w.heap.size<=w'.heap.size
 frame:∀b,b<w.heap.size->(∀id l,G.loc id=some l->H.live id->l.cZ≠b)->w'.heap[b]?=w.heap[b]?
 lL:∀id l,G'.loc id=some l->H'.live id->w.heap.size<=l.cZ\/∃eV l0,G.loc eV=some l0/\H.live eV/\l0.cZ=l.cZ
 pG:∀b o,G'.gZ b o->G.gZ b o\/w.heap.size<=b\/∃eV l0,G.loc eV=some l0/\H.live eV/\l0.cZ=b
 next:H.next<=H'.next
 news:∀id l,G'.loc id=some l->G.loc id=none->H.next<=id
 dead:∀id l,G.loc id=some l->H'.live id->H.live id
 mo:G'.mo=G.mo
 same:QH G.mo w w'
theorem Ext.refl (G:Gh) (H:aA) (w:World):Ext G H w G H w where
 loc:=fun _ _ h=>h
 gZ:=fun _ _ h=>⟨h,rfl⟩
 size:=Ab _
 frame:=fun _ _ _=>rfl
 lL:=fun id l h hl=>.inr ⟨id,l,h,hl,rfl⟩
 pG:=fun _ _ h=>.inl h
 next:=Ab _
 news:=fun _ _ h h'=>by rw[h] at h';cases h'
 dead:=fun _ _ _ h=>h
 mo:=rfl
 same:=zH.toB .now _
theorem Ext.trans {G G' G'':Gh} {H H' GP:aA} {w w' w'':World} (h:Ext G H w G' H' w') (h':Ext G' H' w' G'' GP w''):Ext G H w G'' GP w'' where
 loc:=fun id l hl=>h'.loc _ _ (h.loc _ _ hl)
 gZ:=fun b o hi=>⟨(h'.gZ _ _ (h.gZ _ _ hi).1).1,((h'.gZ _ _ (h.gZ _ _ hi).1).2).trans (h.gZ _ _ hi).2⟩
 size:=Ce h.size h'.size
 frame:=fun b hb hn=>by
  rw[h'.frame b (Cj hb h.size) (fun id l hl hv=>?_),h.frame b hb hn]
  rcases h.lL id l hl hv with LN|⟨eV,l0,Qs,PN,he⟩
  . omega
  rw[<-he];exact hn eV l0 Qs PN
 lL:=fun id l hl hv=>by
  rcases h'.lL id l hl hv with LN|⟨eV,l0,Qs,PN,he⟩
  . exact .inl (Ce h.size LN)
  rcases h.lL eV l0 Qs PN with LN|⟨id1,l1,yY,tR,TY⟩
  . exact .inl (by omega)
  exact .inr ⟨id1,l1,yY,tR,TY.trans he⟩
 pG:=fun b o hi=>by
  rcases h'.pG b o hi with hi|LN|⟨eV,l0,Qs,PN,he⟩
  . exact h.pG b o hi
  . exact .inr (.inl (Ce h.size LN))
  rcases h.lL eV l0 Qs PN with LN|⟨id1,l1,yY,tR,TY⟩
  . exact .inr (.inl (by omega))
  exact .inr (.inr ⟨id1,l1,yY,tR,TY.trans he⟩)
 next:=Ce h.next h'.next
 news:=fun id l hl hn=>by
  cases h1:G'.loc id with
  |none=>exact Ce h.next (h'.news id l hl h1)
  |some l1=>exact h.news id l1 h1 hn
 dead:=fun id l hl hv=>h.dead id l hl (h'.dead id l (h.loc _ _ hl) hv)
 mo:=h'.mo.trans h.mo
 same:=h.same.trans (h.mo▸h'.same)
theorem VR.ext {G G':Gh} {H H':aA} {w w':World} {a:AV} {u:Value} (h:VR G w a u) (e:Ext G H w G' H' w'):VR G' w' a u:=
 h.mono e.loc e.gZ
theorem iK.ext {G G':Gh} {H H':aA} {w w':World} {xs:List AV} {vs:List Value} (h:iK G w xs vs) (e:Ext G H w G' H' w'):iK G' w' xs vs:=
 ⟨h.1,fun j hj=>(h.2 j hj).ext e⟩
theorem aA.kQ {H:aA} {id:Nat} {o:fC} {m:Nat}:(H.set id o).live m↔(m=id/\o.live=true)\/(m≠id/\H.live m):=by
 unfold aA.live;rw[aA.aD];by_cases h:m=id
 . subst h;simp
 simp[h]
theorem lM {w:World} {b o:Nat} {c:Array Value} {el:TypeId} {fz:Nat×Nat} (h:w.heap[b]?=some (.cells c el fz)):
 w.cell? ⟨b,o,none⟩=c[o]?:=by
 unfold World.cell?;simp[h]
theorem qM {w:World} {b o:Nat} {c:Array Value} {el:TypeId} {fz:Nat×Nat} (h:w.heap[b]?=some (.cells c el fz)):
 w.frozen? ⟨b,o,none⟩=(decide (fz.1<=o)&&decide (o<fz.2)):=by
 unfold World.frozen?;simp[h]
theorem zT {w:World} {b o:Nat} {v:Value} (h:w.cell? ⟨b,o,none⟩=some v):∃c el fz,w.heap[b]?=some (.cells c el fz)/\c[o]?=some v:=by
 unfold World.cell? at h;split at h
 . rename_i c el fz hc;exact⟨c,el,fz,hc,by simpa using h⟩
 cases h
theorem gI {w w':World} {b o:Nat} (h:w'.heap[b]?=w.heap[b]?):w'.cell? ⟨b,o,none⟩=w.cell? ⟨b,o,none⟩:=by unfold World.cell?;simp[h]
theorem kT {w w':World} {b o:Nat} (h:w'.heap[b]?=w.heap[b]?):w'.frozen? ⟨b,o,none⟩=w.frozen? ⟨b,o,none⟩:=by unfold World.frozen?;simp[h]
theorem WR.of_heap {g:bG} {G:Gh} {H:aA} {w w':World} (h:WR g G H w) (hw:w'.heap=w.heap):WR g G H w':=by
 have hb:∀b:Nat,w'.heap[b]?=w.heap[b]?:=fun b=>by rw[hw]
 have hc:∀b o,w'.cell? ⟨b,o,none⟩=w.cell? ⟨b,o,none⟩:=fun b o=>gI (hb b);have hm:∀{a u},VR G w a u->VR G w' a u:=fun hv=>hv.mono (fun _ _ h=>h) (fun b o hi=>⟨hi,hc b o⟩)
 exact {
  cells:=fun id l cs eM h1 h2=>by obtain⟨a1,a2,a3,a4,a5⟩:=h.cells id l cs eM h1 h2;refine⟨a1,a2,a3,a4,fun j hj=>?_⟩;obtain⟨u,hu,hv⟩:=a5 j hj;exact⟨u,by rw[hc];exact hu,hm hv⟩
  room:=fun id l h1 h2=>by obtain⟨c,el,fz,a1,a2,a3⟩:=h.room id l h1 h2;exact⟨c,el,fz,by rw[hb];exact a1,a2,fun j hj=>by rw[kT (hb _)];exact a3 j hj⟩
  kM:=h.kM
  jZ:=h.jZ
  iS:=fun id l o h1 h2 hk=>let⟨a1,a2,a3⟩:=h.iS id l o h1 h2 hk;⟨a1,a2,a3.mono (hb _) fun _ _=>hm⟩
  lt:=h.lt
  iX:=fun b o hi=>by rw[hc];exact h.iX b o hi
  jD:=fun n cs hn=>hm (h.jD n cs hn)
  BZ:=fun n cs hn h0=>by rw[hb];exact h.BZ n cs hn h0
  mo:=h.mo}
theorem Ext.of_heap {G:Gh} {H:aA} {w w':World} (hw:w'.heap=w.heap) (hs:zH w w'):Ext G H w G H w' where
 loc:=fun _ _ h=>h
 gZ:=fun b o h=>⟨h,gI (by rw[hw])⟩
 size:=by rw[hw];exact Ab _
 frame:=fun _ _ _=>by rw[hw]
 lL:=fun id l h hl=>.inr ⟨id,l,h,hl,rfl⟩
 pG:=fun _ _ h=>.inl h
 next:=Ab _
 news:=fun _ _ h h'=>by rw[h] at h';cases h'
 dead:=fun _ _ _ h=>h
 mo:=rfl
 same:=hs.toB _
theorem HM {α:Type} (a:Array α) (x:α) {b:Nat} (h:b<a.size):(a.push x)[b]?=a[b]?:=by rw[Kg];rw[if_neg (by omega)]
theorem CU {α:Type} (a:Array α) (x:α):(a.push x)[a.size]?=some x:=by simp
theorem wD {w:World} {b o:Nat} {v:Value} (h:w.cell? ⟨b,o,none⟩=some v):b<w.heap.size:=by obtain⟨c,el,fz,h1,_⟩:=zT h;exact(Cf.1 h1).1
def Gh.nM (G:Gh) (b lo n:Nat):Gh:={G with gZ:=fun b' o=>G.gZ b' o\/(b'=b/\lo<=o/\o<lo+n)}
def Gh.dX (G:Gh) (id:Nat) (l:Loc):Gh:={G with loc:=fun i=>if i=id then some l else G.loc i}
theorem WR.mP {g:bG} {G:Gh} {H:aA} {w:World} (h:WR g G H w) {id:Nat} {l:Loc} (hl:G.loc id=some l) (hv:H.live id):l.cZ<w.heap.size:=by
 obtain⟨o,ho,lD⟩:=hv
 have :∃x,w.heap[l.cZ]?=some x:=by
  cases o with
  |cells cs eM=>obtain⟨c,el,fz,h1,_⟩:=h.room id l hl (.inl ⟨cs,eM,ho⟩);exact⟨_,h1⟩
  |tok=>obtain⟨c,el,fz,h1,_⟩:=h.room id l hl (.inr ho);exact⟨_,h1⟩
  |dead=>cases lD
  |_=>have :=(h.iS id l _ hl ho rfl).2.2.lt rfl;exact⟨_,Dv this⟩
 obtain⟨x,hx⟩:=this;exact(Cf.1 hx).1
theorem WR.grow {g:bG} {G:Gh} {H:aA} {w w':World} (h:WR g G H w)
 (hb:∀b,b<w.heap.size->w'.heap[b]?=w.heap[b]?):WR g G H w':=by
 have hc:∀b o,G.gZ b o->w'.cell? ⟨b,o,none⟩=w.cell? ⟨b,o,none⟩:=fun b o hi=>by obtain⟨v,hv⟩:=h.iX b o hi;exact gI (hb b (wD hv))
 have hm:∀{a u},VR G w a u->VR G w' a u:=fun hv=>hv.mono (fun _ _ h=>h) (fun b o hi=>⟨hi,hc b o hi⟩)
 exact {
  cells:=fun id l cs eM h1 h2=>by obtain⟨a1,a2,a3,a4,a5⟩:=h.cells id l cs eM h1 h2;refine⟨a1,a2,a3,a4,fun j hj=>?_⟩;obtain⟨u,hu,hv⟩:=a5 j hj;exact⟨u,by rw[gI (hb _ (h.mP h1 ⟨_,h2,rfl⟩))];exact hu,hm hv⟩
  room:=fun id l h1 h2=>by obtain⟨c,el,fz,a1,a2,a3⟩:=h.room id l h1 h2;have fF:=(Cf.1 a1).1;exact⟨c,el,fz,by rw[hb _ fF];exact a1,a2,fun j hj=>by rw[kT (hb _ fF)];exact a3 j hj⟩
  kM:=h.kM
  jZ:=h.jZ
  iS:=fun id l o h1 h2 hk=>let⟨a1,a2,a3⟩:=h.iS id l o h1 h2 hk;⟨a1,a2,a3.mono (hb _ (a3.lt hk)) fun _ _=>hm⟩
  lt:=h.lt
  iX:=fun b o hi=>by rw[hc b o hi];exact h.iX b o hi
  jD:=fun n cs hn=>hm (h.jD n cs hn)
  BZ:=fun n cs hn h0=>let⟨c,el,fz,a1,a2⟩:=h.BZ n cs hn h0;⟨c,el,fz,by rw[hb _ (Cf.1 a1).1];exact a1,a2⟩
  mo:=h.mo}
theorem Ext.grow {G:Gh} {H:aA} {w w':World} (pF:∀b o,G.gZ b o->∃v,w.cell? ⟨b,o,none⟩=some v)
 (hb:∀b,b<w.heap.size->w'.heap[b]?=w.heap[b]?) (kZ:w.heap.size<=w'.heap.size) (hs:zH w w'):Ext G H w G H w' where
 loc:=fun _ _ h=>h
 gZ:=fun b o hi=>⟨hi,by obtain⟨v,hv⟩:=pF b o hi;exact gI (hb b (wD hv))⟩
 size:=kZ
 frame:=fun b fF _=>hb b fF
 lL:=fun id l h hl=>.inr ⟨id,l,h,hl,rfl⟩
 pG:=fun _ _ h=>.inl h
 next:=Ab _
 news:=fun _ _ h h'=>by rw[h] at h';cases h'
 dead:=fun _ _ _ h=>h
 mo:=rfl
 same:=hs.toB _
theorem WR.nM {g:bG} {G:Gh} {H:aA} {w:World} (h:WR g G H w) (b lo n:Nat)
 (hex:∀j,j<n->∃v,w.cell? ⟨b,lo+j,none⟩=some v)
 (tP:∀id l,G.loc id=some l->H.live id->l.cZ≠b\/l.base+l.ext<=lo\/lo+n<=l.base):WR g (G.nM b lo n) H w:=by
 have hm:∀{a u},VR G w a u->VR (G.nM b lo n) w a u:=fun hv=>hv.mono (fun _ _ h=>h) (fun b o hi=>⟨.inl hi,rfl⟩)
 exact {
  cells:=fun id l cs eM h1 h2=>by obtain⟨a1,a2,a3,a4,a5⟩:=h.cells id l cs eM h1 h2;refine⟨a1,a2,a3,a4,fun j hj=>?_⟩;obtain⟨u,hu,hv⟩:=a5 j hj;exact⟨u,hu,hm hv⟩
  room:=h.room
  kM:=h.kM
  jZ:=fun id l hl hv j hj hi=>by
   rcases hi with hi|⟨h1,h2,h3⟩
   . exact h.jZ id l hl hv j hj hi
   rcases tP id l hl hv with hd|hd|hd
   . exact hd h1
   . omega
   omega
  iS:=fun id l o h1 h2 hk=>let⟨a1,a2,a3⟩:=h.iS id l o h1 h2 hk;⟨a1,a2,a3.mono rfl fun _ _=>hm⟩
  lt:=h.lt
  iX:=fun b' o hi=>by
   rcases hi with hi|⟨rfl,h2,h3⟩
   . exact h.iX b' o hi
   have :=hex (o -lo) (by omega)
   rwa [show lo+(o -lo)=o by omega] at this
  jD:=fun n cs hn=>hm (h.jD n cs hn)
  BZ:=h.BZ
  mo:=h.mo}
theorem Ext.nM {G G':Gh} {H H':aA} {w w':World} (e:Ext G H w G' H' w') (b lo n:Nat)
 (hb:w.heap.size<=b\/∃eV l0,G.loc eV=some l0/\H.live eV/\l0.cZ=b):Ext G H w (G'.nM b lo n) H' w' where
 loc:=e.loc
 gZ:=fun b' o hi=>⟨.inl (e.gZ b' o hi).1,(e.gZ b' o hi).2⟩
 size:=e.size
 frame:=e.frame
 lL:=e.lL
 pG:=fun b' o hi=>by
  rcases hi with hi|⟨rfl,_,_⟩
  . exact e.pG b' o hi
  exact .inr hb
 next:=e.next
 news:=e.news
 dead:=e.dead
 mo:=e.mo
 same:=e.same
theorem WR.GU {g:bG} {G:Gh} {H H':aA} {w:World} (h:WR g G H w) (eV:Nat) (o:fC) (l:Loc) (dB:G.loc eV=none)
 (cW:∀m,H'.get m=if m=eV then some o else H.get m) (AN:H.next<=H'.next) (FG:eV<H'.next)
 (tP:∀id l',G.loc id=some l'->H.live id->l.cZ≠l'.cZ\/l.base+l.ext<=l'.base\/l'.base+l'.ext<=l.base)
 (pF:∀j,j<l.ext->¬G.gZ l.cZ (l.base+j))
 (No:∀cs eM,o=.cells cs eM->l.Tf=cs.length/\l.Tf<=l.ext/\(eM=false->l.Tf=l.ext)/\(∀c∈cs,c.one=true)/\
   ∀j,j<cs.length->∃u,w.cell? ⟨l.cZ,l.base+j,none⟩=some u/\VR G w (cs.getD j aC) u)
 (wM:((∃cs eM,o=.cells cs eM)\/o=.tok)->∃c el fz,w.heap[l.cZ]?=some (.cells c el fz)/\l.base+l.ext<=c.size/\∀j,j<l.ext->w.frozen? ⟨l.cZ,l.base+j,none⟩=false)
 (Xb:o.cZ=true->l.base=0/\l.ext=1/\JS g G w l o):
 WR g (G.dX eV l) H' w:=by
 have cP:∀{id l'},G.loc id=some l'->id≠eV:=fun hl he=>by rw[he,dB] at hl;cases hl
 have hm:∀{a u},VR G w a u->VR (G.dX eV l) w a u:=fun hv=>hv.mono (fun id l' hl=>by simp only[Gh.dX];rw[if_neg (cP hl)];exact hl) (fun b o hi=>⟨hi,rfl⟩)
 have oN:∀{id l'},(G.dX eV l).loc id=some l'->(id=eV/\l'=l)\/(id≠eV/\G.loc id=some l'):=fun {id l'} hl=>by
  simp only[Gh.dX] at hl;split at hl
  . exact .inl ⟨by assumption,by cases hl;rfl⟩
  exact .inr ⟨by assumption,hl⟩
 have pO:∀{id},id≠eV->H'.live id->H.live id:=fun hn ⟨x,hx,Se⟩=>⟨x,by rw[cW,if_neg hn] at hx;exact hx,Se⟩
 exact {
  cells:=fun id l' cs eM h1 h2=>by
   rw[cW] at h2
   rcases oN h1 with ⟨rfl,rfl⟩|⟨hn,h1⟩
   . rw[if_pos rfl] at h2;obtain⟨a1,a2,a3,a4,a5⟩:=No cs eM (Aa h2);refine⟨a1,a2,a3,a4,fun j hj=>?_⟩;obtain⟨u,hu,hv⟩:=a5 j hj;exact⟨u,hu,hm hv⟩
   rw[if_neg hn] at h2;obtain⟨a1,a2,a3,a4,a5⟩:=h.cells id l' cs eM h1 h2;refine⟨a1,a2,a3,a4,fun j hj=>?_⟩;obtain⟨u,hu,hv⟩:=a5 j hj;exact⟨u,hu,hm hv⟩
  room:=fun id l' h1 h2=>by
   simp only[cW] at h2
   rcases oN h1 with ⟨rfl,rfl⟩|⟨hn,h1⟩
   . simp only[if_true] at h2;refine wM (h2.imp (fun⟨cs,eM,hh⟩=>⟨cs,eM,Aa hh⟩) (fun hh=>Aa hh))
   simp only[if_neg hn] at h2;exact h.room id l' h1 h2
  kM:=fun id kP l1 l2 aVh h1 h2 tR sU=>by
   rcases oN h1 with ⟨e1,e1'⟩|⟨hn,k1⟩
   . rcases oN h2 with ⟨e2,e2'⟩|⟨SQ,k2⟩
     . exact absurd (e1.trans e2.symm) aVh
     rw[e1'];exact tP kP l2 k2 (pO SQ sU)
   rcases oN h2 with ⟨e2,e2'⟩|⟨SQ,k2⟩
   . rw[e2']
     rcases tP id l1 k1 (pO hn tR) with hd|hd|hd
     . exact .inl (Ne.symm hd)
     . exact .inr (.inr hd)
     exact .inr (.inl hd)
   exact h.kM id kP l1 l2 aVh k1 k2 (pO hn tR) (pO SQ sU)
  jZ:=fun id l' h1 hv j hj=>by
   rcases oN h1 with ⟨rfl,rfl⟩|⟨hn,h1⟩
   . exact pF j hj
   exact h.jZ id l' h1 (pO hn hv) j hj
  iS:=fun id l' ob h1 h2 hk=>by
   rw[cW] at h2
   rcases oN h1 with ⟨rfl,rfl⟩|⟨hn,h1⟩
   . rw[if_pos rfl] at h2;obtain rfl:=Aa h2;obtain⟨a1,a2,a3⟩:=Xb hk;exact⟨a1,a2,a3.mono rfl fun _ _=>hm⟩
   rw[if_neg hn] at h2;obtain⟨a1,a2,a3⟩:=h.iS id l' ob h1 h2 hk;exact⟨a1,a2,a3.mono rfl fun _ _=>hm⟩
  lt:=fun id l' h1=>by
   rcases oN h1 with ⟨rfl,rfl⟩|⟨hn,h1⟩
   . exact FG
   exact Cj (h.lt id l' h1) AN
  iX:=h.iX
  jD:=fun n cs hn=>hm (h.jD n cs hn)
  BZ:=h.BZ
  mo:=h.mo}
theorem WR.Mw {g:bG} {G:Gh} {H:aA} {w:World} (h:WR g G H w) (o:fC) (l:Loc)
 (tP:∀id l',G.loc id=some l'->H.live id->l.cZ≠l'.cZ\/l.base+l.ext<=l'.base\/l'.base+l'.ext<=l.base)
 (pF:∀j,j<l.ext->¬G.gZ l.cZ (l.base+j))
 (No:∀cs eM,o=.cells cs eM->l.Tf=cs.length/\l.Tf<=l.ext/\(eM=false->l.Tf=l.ext)/\(∀c∈cs,c.one=true)/\
   ∀j,j<cs.length->∃u,w.cell? ⟨l.cZ,l.base+j,none⟩=some u/\VR G w (cs.getD j aC) u)
 (wM:((∃cs eM,o=.cells cs eM)\/o=.tok)->∃c el fz,w.heap[l.cZ]?=some (.cells c el fz)/\l.base+l.ext<=c.size/\∀j,j<l.ext->w.frozen? ⟨l.cZ,l.base+j,none⟩=false)
 (Xb:o.cZ=true->l.base=0/\l.ext=1/\JS g G w l o):
 WR g (G.dX H.next l) (H.alloc o) w:=
 h.GU H.next o l (by
  cases hl:G.loc H.next with
  |none=>rfl
  |some l'=>exact absurd (h.lt _ _ hl) (Ez _)) (aA.aG H o) (Gn _) (Ew _) tP pF No wM Xb
theorem Ext.GU {G G':Gh} {H H' GP:aA} {w w':World} (e:Ext G H w G' H' w') (eV:Nat) (o:fC) (l:Loc) (dB:G'.loc eV=none)
 (cW:∀m,GP.get m=if m=eV then some o else H'.get m) (AN:H'.next<=GP.next) (LN:H.next<=eV)
 (hb:w.heap.size<=l.cZ\/∃eV l0,G.loc eV=some l0/\H.live eV/\l0.cZ=l.cZ):Ext G H w (G'.dX eV l) GP w' where
 loc:=fun id l' hl=>by have h1:=e.loc id l' hl;simp only[Gh.dX];rw[if_neg (fun he=>by rw[he,dB] at h1;cases h1)];exact h1
 gZ:=e.gZ
 size:=e.size
 frame:=e.frame
 lL:=fun id l' hl hv=>by
  simp only[Gh.dX] at hl;split at hl
  . cases hl;exact hb
  rename_i hn;obtain⟨x,hx,Se⟩:=hv;rw[cW,if_neg hn] at hx;exact e.lL id l' hl ⟨x,hx,Se⟩
 pG:=e.pG
 next:=Ce e.next AN
 news:=fun id l' hl hn=>by
  simp only[Gh.dX] at hl;split at hl
  . rename_i he;rw[he];exact LN
  exact e.news id l' hl hn
 dead:=fun id l' hl hv=>by have h1:=e.loc id l' hl;obtain⟨x,hx,Se⟩:=hv;rw[cW,if_neg (fun he=>by rw[he,dB] at h1;cases h1)] at hx;exact e.dead id l' hl ⟨x,hx,Se⟩
 mo:=e.mo
 same:=e.same
theorem Ext.Mw {G G':Gh} {H H':aA} {w w':World} (e:Ext G H w G' H' w') (o:fC) (l:Loc) (fF:∀id l',G'.loc id=some l'->id<H'.next)
 (hb:w.heap.size<=l.cZ\/∃eV l0,G.loc eV=some l0/\H.live eV/\l0.cZ=l.cZ):Ext G H w (G'.dX H'.next l) (H'.alloc o) w':=
 e.GU H'.next o l (by
  cases hl:G'.loc H'.next with
  |none=>rfl
  |some l'=>exact absurd (fF _ _ hl) (Ez _)) (aA.aG H' o) (Gn _) e.next hb
theorem WR.kill {g:bG} {G:Gh} {H:aA} {w:World} (h:WR g G H w) (id:Nat):WR g G (H.set id .dead) w where
 cells:=fun i l cs eM h1 h2=>by
  rw[aA.aD] at h2;split at h2
  . cases h2
  exact h.cells i l cs eM h1 h2
 room:=fun i l h1 h2=>by
  simp only[aA.aD] at h2;split at h2
  . rcases h2 with ⟨_,_,h2⟩|h2<;>cases h2
  exact h.room i l h1 h2
 kM:=fun i i' l l' cP h1 h2 tR sU=>by
  rcases aA.kQ.1 tR with ⟨_,hh⟩|⟨_,tR⟩
  . cases hh
  rcases aA.kQ.1 sU with ⟨_,hh⟩|⟨_,sU⟩
  . cases hh
  exact h.kM i i' l l' cP h1 h2 tR sU
 jZ:=fun i l h1 hv=>by
  rcases aA.kQ.1 hv with ⟨_,hh⟩|⟨_,hv⟩
  . cases hh
  exact h.jZ i l h1 hv
 iS:=fun i l ob h1 h2 hk=>by
  rw[aA.aD] at h2;split at h2
  . cases h2;cases hk
  exact h.iS i l ob h1 h2 hk
 lt:=h.lt
 iX:=h.iX
 jD:=h.jD
 BZ:=h.BZ
 mo:=h.mo
theorem Ext.kill {G G':Gh} {H H':aA} {w w':World} (e:Ext G H w G' H' w') (id:Nat):Ext G H w G' (H'.set id .dead) w' where
 loc:=e.loc
 gZ:=e.gZ
 size:=e.size
 frame:=e.frame
 lL:=fun i l hl hv=>by
  rcases aA.kQ.1 hv with ⟨_,hh⟩|⟨_,hv⟩
  . cases hh
  exact e.lL i l hl hv
 pG:=e.pG
 next:=e.next
 news:=e.news
 dead:=fun i l hl hv=>by
  rcases aA.kQ.1 hv with ⟨_,hh⟩|⟨_,hv⟩
  . cases hh
  exact e.dead i l hl hv
 mo:=e.mo
 same:=e.same
structure TW (w w':World) (b lo:Nat) (vs:List Value):Prop where
 size:w'.heap.size=w.heap.size
 other:∀b',b'≠b->w'.heap[b']?=w.heap[b']?
 row:∀c el fz,w.heap[b]?=some (.cells c el fz)->∃c',w'.heap[b]?=some (.cells c' el fz)/\c'.size=c.size/\
  (∀o,(o<lo\/lo+vs.length<=o)->c'[o]?=c[o]?)/\(∀j,j<vs.length->lo+j<c.size->c'[lo+j]?=some (vs.getD j undef))
 same:zH w w'
theorem TW.cell {w w':World} {b lo:Nat} {vs:List Value} (u:TW w w' b lo vs) {b' o:Nat} (h:b'≠b\/o<lo\/lo+vs.length<=o) {v:Value}
 (hc:w.cell? ⟨b',o,none⟩=some v):w'.cell? ⟨b',o,none⟩=some v:=by
 by_cases hb:b'=b
 . subst hb;obtain⟨c,el,fz,h1,h2⟩:=zT hc;obtain⟨c',h3,h4,h5,_⟩:=u.row c el fz h1;rw[lM h3,h5 o (h.resolve_left (fun cP=>cP rfl))];exact h2
 rw[gI (u.other b' hb)];exact hc
theorem TW.frozen {w w':World} {b lo:Nat} {vs:List Value} (u:TW w w' b lo vs) {b' o:Nat} {c:Array Value} {el:TypeId} {fz:Nat×Nat}
 (hc:w.heap[b']?=some (.cells c el fz)):w'.frozen? ⟨b',o,none⟩=w.frozen? ⟨b',o,none⟩:=by
 by_cases hb:b'=b
 . subst hb;obtain⟨c',h3,_⟩:=u.row c el fz hc;rw[qM h3,qM hc]
 exact kT (u.other b' hb)
theorem WR.write {g:bG} {G:Gh} {H:aA} {w w':World} (h:WR g G H w) {b lo:Nat} {vs:List Value} (u:TW w w' b lo vs)
 (pF:∀j,j<vs.length->¬G.gZ b (lo+j))
 (tP:∀id l,G.loc id=some l->H.live id->l.cZ≠b\/l.base+l.ext<=lo\/lo+vs.length<=l.base)
 (qY:∃c el fz,w.heap[b]?=some (.cells c el fz)):WR g G H w':=by
 have hc:∀b' o,G.gZ b' o->w'.cell? ⟨b',o,none⟩=w.cell? ⟨b',o,none⟩:=fun b' o hi=>by
  obtain⟨v,hv⟩:=h.iX b' o hi;rw[hv];refine u.cell ?_ hv;by_cases hb:b'=b
  . subst hb;by_cases h1:o<lo
    . exact .inr (.inl h1)
    refine .inr (.inr (Ig fun h2=>pF (o -lo) (by omega) ?_))
    rwa [show lo+(o -lo)=o by omega]
  exact .inl hb
 have hm:∀{a u},VR G w a u->VR G w' a u:=fun hv=>hv.mono (fun _ _ h=>h) (fun b o hi=>⟨hi,hc b o hi⟩)
 exact {
  cells:=fun id l cs eM h1 h2=>by
   obtain⟨a1,a2,a3,a4,a5⟩:=h.cells id l cs eM h1 h2;refine⟨a1,a2,a3,a4,fun j hj=>?_⟩;obtain⟨x,hx,hv⟩:=a5 j hj;refine⟨x,u.cell ?_ hx,hm hv⟩
   rcases tP id l h1 ⟨_,h2,rfl⟩ with hd|hd|hd
   . exact .inl hd
   . exact .inr (.inl (by omega))
   exact .inr (.inr (by omega))
  room:=fun id l h1 h2=>by
   obtain⟨c,el,fz,a1,a2,a3⟩:=h.room id l h1 h2;by_cases hb:l.cZ=b
   . subst hb;obtain⟨c',h3,h4,_⟩:=u.row c el fz a1;exact⟨c',el,fz,h3,by omega,fun j hj=>by rw[u.frozen a1];exact a3 j hj⟩
   exact⟨c,el,fz,by rw[u.other _ hb];exact a1,a2,fun j hj=>by rw[u.frozen a1];exact a3 j hj⟩
  kM:=h.kM
  jZ:=h.jZ
  iS:=fun id l ob h1 h2 hk=>by
   obtain⟨a1,a2,a3⟩:=h.iS id l ob h1 h2 hk
   have hb:l.cZ≠b:=fun hb=>by obtain⟨c,el,fz,hr⟩:=qY;rw[<-hb] at hr;exact a3.AW hk hr
   exact⟨a1,a2,a3.mono (u.other _ hb) fun _ _=>hm⟩
  lt:=h.lt
  iX:=fun b o hi=>by rw[hc b o hi];exact h.iX b o hi
  jD:=fun n cs hn=>hm (h.jD n cs hn)
  BZ:=fun n cs hn h0=>by
   obtain⟨c,el,fz,a1,a2⟩:=h.BZ n cs hn h0;by_cases hb:n=b
   . subst hb;obtain⟨c',h3,h4,_⟩:=u.row c el fz a1;exact⟨c',el,fz,h3,by omega⟩
   exact⟨c,el,fz,by rw[u.other _ hb];exact a1,a2⟩
  mo:=h.mo}
theorem Ext.write {G G':Gh} {H H':aA} {w w1 w':World} (e:Ext G H w G' H' w1) {b lo:Nat} {vs:List Value} (u:TW w1 w' b lo vs)
 (pF:∀j,j<vs.length->¬G'.gZ b (lo+j)) (hex:∀b o,G'.gZ b o->∃v,w1.cell? ⟨b,o,none⟩=some v)
 (hb:w.heap.size<=b\/∃eV l0,G.loc eV=some l0/\H.live eV/\l0.cZ=b):Ext G H w G' H' w' where
 loc:=e.loc
 gZ:=fun b' o hi=>by
  have h1:=e.gZ b' o hi;refine⟨h1.1,?_⟩;rw[<-h1.2];obtain⟨v,hv⟩:=hex b' o h1.1;rw[hv];refine u.cell ?_ hv;by_cases hbb:b'=b
  . subst hbb;by_cases h2:o<lo
    . exact .inr (.inl h2)
    refine .inr (.inr (Ig fun h3=>pF (o -lo) (by omega) ?_));rw[show lo+(o -lo)=o by omega];exact h1.1
  exact .inl hbb
 size:=by rw[u.size];exact e.size
 frame:=fun b' fF hn=>by
  have cP:b'≠b:=fun he=>by
   subst he
   rcases hb with hb|⟨eV,l0,h1,h2,h3⟩
   . omega
   exact hn eV l0 h1 h2 h3
  rw[u.other b' cP];exact e.frame b' fF hn
 lL:=e.lL
 pG:=e.pG
 next:=e.next
 news:=e.news
 dead:=e.dead
 mo:=e.mo
 same:=e.same.trans (u.same.toB _)
theorem WR.aTn {g:bG} {G:Gh} {H:aA} {w:World} {id:Nat} (h:WR g G (H.set id .dead) w) (o:fC) (l:Loc) (hl:G.loc id=some l)
 (tP:∀kP l',kP≠id->G.loc kP=some l'->H.live kP->l.cZ≠l'.cZ\/l.base+l.ext<=l'.base\/l'.base+l'.ext<=l.base)
 (pF:∀j,j<l.ext->¬G.gZ l.cZ (l.base+j))
 (No:∀cs eM,o=.cells cs eM->l.Tf=cs.length/\l.Tf<=l.ext/\(eM=false->l.Tf=l.ext)/\(∀c∈cs,c.one=true)/\
   ∀j,j<cs.length->∃u,w.cell? ⟨l.cZ,l.base+j,none⟩=some u/\VR G w (cs.getD j aC) u)
 (wM:((∃cs eM,o=.cells cs eM)\/o=.tok)->∃c el fz,w.heap[l.cZ]?=some (.cells c el fz)/\l.base+l.ext<=c.size/\∀j,j<l.ext->w.frozen? ⟨l.cZ,l.base+j,none⟩=false)
 (Xb:o.cZ=true->l.base=0/\l.ext=1/\JS g G w l o):
 WR g G (H.set id o) w:=by
 have cW:∀{m},m≠id->(H.set id o).get m=(H.set id .dead).get m:=fun hm=>by rw[aA.aD,aA.aD,if_neg hm,if_neg hm]
 have sI:∀{l'},G.loc id=some l'->l'=l:=fun h'=>Aa (h'.symm.trans hl)
 have pO:∀{m},m≠id->(H.set id o).live m->(H.set id .dead).live m:=fun hm hv=>by obtain⟨x,hx,Se⟩:=hv;exact⟨x,by rw[<-cW hm];exact hx,Se⟩
 have aIv:∀{m},m≠id->(H.set id o).live m->H.live m:=fun hm hv=>by
  rcases aA.kQ.1 hv with ⟨he,_⟩|⟨_,hv⟩
  . exact absurd he hm
  exact hv
 exact {
  cells:=fun i l' cs eM h1 h2=>by
   by_cases hi:i=id
   . subst hi;rw[aA.aD,if_pos rfl] at h2;obtain rfl:=sI h1;exact No cs eM (Aa h2)
   rw[cW hi] at h2;exact h.cells i l' cs eM h1 h2
  room:=fun i l' h1 h2=>by
   by_cases hi:i=id
   . subst hi;simp only[aA.aD,if_true] at h2;obtain rfl:=sI h1;exact wM (h2.imp (fun⟨cs,eM,hh⟩=>⟨cs,eM,Aa hh⟩) (fun hh=>Aa hh))
   simp only[cW hi] at h2;exact h.room i l' h1 h2
  kM:=fun i i' l1 l2 cP h1 h2 tR sU=>by
   by_cases hi:i=id
   . subst hi;obtain rfl:=sI h1;exact tP i' l2 (Ne.symm cP) h2 (aIv (Ne.symm cP) sU)
   by_cases gO:i'=id
   . subst gO;obtain rfl:=sI h2
     rcases tP i l1 cP h1 (aIv cP tR) with hd|hd|hd
     . exact .inl (Ne.symm hd)
     . exact .inr (.inr hd)
     exact .inr (.inl hd)
   exact h.kM i i' l1 l2 cP h1 h2 (pO hi tR) (pO gO sU)
  jZ:=fun i l' h1 hv=>by
   by_cases hi:i=id
   . subst hi;obtain rfl:=sI h1;exact pF
   exact h.jZ i l' h1 (pO hi hv)
  iS:=fun i l' ob h1 h2 hk=>by
   by_cases hi:i=id
   . subst hi;rw[aA.aD,if_pos rfl] at h2;obtain rfl:=Aa h2;obtain rfl:=sI h1;exact Xb hk
   rw[cW hi] at h2;exact h.iS i l' ob h1 h2 hk
  lt:=h.lt
  iX:=h.iX
  jD:=h.jD
  BZ:=h.BZ
  mo:=h.mo}
theorem Ext.aHi {G G':Gh} {H H':aA} {w w':World} (e:Ext G H w G' H' w') (id:Nat) (o:fC) (hv:H'.live id):Ext G H w G' (H'.set id o) w' where
 loc:=e.loc
 gZ:=e.gZ
 size:=e.size
 frame:=e.frame
 lL:=fun i l hl mT=>by
  rcases aA.kQ.1 mT with ⟨he,_⟩|⟨_,mT⟩
  . subst he;exact e.lL i l hl hv
  exact e.lL i l hl mT
 pG:=e.pG
 next:=e.next
 news:=e.news
 dead:=fun i l hl mT=>by
  rcases aA.kQ.1 mT with ⟨he,_⟩|⟨_,mT⟩
  . subst he;exact e.dead i l hl hv
  exact e.dead i l hl mT
 mo:=e.mo
 same:=e.same
theorem jS (b o i:Nat):(⟨b,o,none⟩:Addr).add i=⟨b,o+i,none⟩:=by
 unfold Addr.add;split
 . rename_i h;subst h;rfl
 rfl
theorem qB {α:Type} (l:List α) (d:α) (j:Nat) (h:j<l.length):l[j]?=some (l.getD j d):=by simp[List.getD,Ad h]
theorem uV (P:Program) (w:World) (b o:Nat) (us:List Value) (h:∀j,j<us.length->w.cell? ⟨b,o+j,none⟩=some (us.getD j undef)):
 (loadCells ⟨b,o,none⟩ us.length).run P w=.ok us.toArray w:=
 run_loadCells_list w ⟨b,o,none⟩ us (fun j v hj=>by
  have fF:=(Bk.1 hj).1;rw[jS,h j fF];rw[qB us undef j fF] at hj
  exact hj)
theorem Vp {w:World} {b o:Nat} {v:Value}:TW w (w.setCell ⟨b,o,none⟩ v) b o [v] where
 size:=by simp[World.setCell]
 other:=fun b' hb=>by simp only[World.setCell,Gw];rw[if_neg (Ne.symm hb)]
 row:=fun c el fz h=>by
  refine⟨c.setIfInBounds o v,?_,by simp,fun o' ho=>?_,fun j hj fF=>?_⟩
  . simp[World.setCell,Gw,h]
  . rw[Array.getElem?_setIfInBounds_ne];simp at ho;omega
  simp at hj;subst hj;simp at fF;simp[fF]
 same:=.now
theorem TW.refl (w:World) (b lo:Nat):TW w w b lo [] where
 size:=rfl
 other:=fun _ _=>rfl
 row:=fun c el fz h=>⟨c,h,rfl,fun _ _=>rfl,fun j hj=>absurd hj (An j)⟩
 same:=.now
theorem TW.cons {w w1 w2:World} {b lo:Nat} {v:Value} {vs:List Value} (h1:TW w w1 b lo [v]) (h2:TW w1 w2 b (lo+1) vs):TW w w2 b lo (v::vs) where
 size:=h2.size.trans h1.size
 other:=fun b' hb=>(h2.other b' hb).trans (h1.other b' hb)
 row:=fun c el fz h=>by
  obtain⟨c1,a1,a2,a3,a4⟩:=h1.row c el fz h;obtain⟨c2,b1,b2,b3,b4⟩:=h2.row c1 el fz a1;refine⟨c2,b1,b2.trans a2,fun o ho=>?_,fun j hj fF=>?_⟩
  . simp only[Aq] at ho;rw[b3 o (by omega),a3 o Zai]
  cases j with
  |zero=>rw[b3 _ (by omega)];have :=a4 0 (by simp) (by omega);simpa using this
  |succ j=>have :=b4 j ZaC (by omega);rw[show lo+(j+1)=lo+1+j by omega,this];simp
 same:=h1.same.trans h2.same
theorem Pw (P:Program) (w:World) (b o:Nat) (v:Value) (u:Value) (hc:w.cell? ⟨b,o,none⟩=some u) (hf:w.frozen? ⟨b,o,none⟩=false) (h1:zk v=true):
 (store ⟨b,o,none⟩ v).run P w=.ok () (w.setCell ⟨b,o,none⟩ v):=by
 cases v<;>first
  |(simp[zk] at h1;done)
  |simp[store,Sem.run,hc,hf]
theorem fB (P:Program) (b o:Nat):∀(vs:List Value) (i:Nat) (w:World),(∃c el fz,w.heap[b]?=some (.cells c el fz)/\o+i+vs.length<=c.size)->
 (∀j,j<vs.length->w.frozen? ⟨b,o+i+j,none⟩=false)->(∀v∈vs,zk v=true)->
 ∃w',(storeCells ⟨b,o,none⟩ vs i).run P w=.ok () w'/\TW w w' b (o+i) vs
 |[],i,w,_,_,_=>⟨w,rfl,TW.refl w b _⟩
 |v::r,i,w,⟨c,el,fz,qY,kZ⟩,hf,h1=>by
  simp only[Aq] at kZ;have kE:w.cell? ⟨b,o+i,none⟩=some c[o+i]:=by rw[lM qY,Dv (by omega)]
  have fQ:=Pw P w b (o+i) v _ kE (by simpa using hf 0 (by simp)) (h1 v (by simp));have hu:TW w (w.setCell ⟨b,o+i,none⟩ v) b (o+i) [v]:=Vp;obtain⟨c1,a1,a2,_,_⟩:=hu.row c el fz qY
  obtain⟨w',hr,hu'⟩:=fB P b o r (i+1) (w.setCell ⟨b,o+i,none⟩ v) ⟨c1,el,fz,a1,by omega⟩
   (fun j hj=>by
     rw[hu.frozen qY];have :=hf (j+1) ZaC
     rwa [show o+(i+1)+j=o+i+(j+1) by omega]) (fun x hx=>h1 x (by simp[hx]))
  refine⟨w',?_,hu.cons (by rwa [show o+i+1=o+(i+1) by omega])⟩;simp only[storeCells,Sem.run_bind,jS,fQ,Result.andThen_ok];exact hr
structure iP (w w':World) (o:Go.Obj):Prop where
 heap:w'.heap=w.heap.push o
 same:zH w w'
theorem iP.CI {w w':World} {o:Go.Obj} (p:iP w w' o) (b:Nat) (h:b<w.heap.size):w'.heap[b]?=w.heap[b]?:=by rw[p.heap];exact HM _ _ h
theorem iP.new {w w':World} {o:Go.Obj} (p:iP w w' o):w'.heap[w.heap.size]?=some o:=by rw[p.heap];simp
theorem iP.size {w w':World} {o:Go.Obj} (p:iP w w' o):w'.heap.size=w.heap.size+1:=by rw[p.heap];simp
theorem WR.FU {g:bG} {G:Gh} {H:aA} {w w':World} {o:Go.Obj} (h:WR g G H w) (p:iP w w' o):WR g G H w':=
 h.grow p.CI
theorem Ext.FU {g:bG} {G:Gh} {H:aA} {w w':World} {o:Go.Obj} (h:WR g G H w) (p:iP w w' o):Ext G H w G H w':=
 Ext.grow h.iX p.CI (by rw[p.size];omega) p.same
theorem iK.nil (G:Gh) (w:World):iK G w [] []:=⟨rfl,fun j hj=>absurd hj (An j)⟩
def Clear (arr:Array Value) (fz:Nat×Nat):Prop:=∀o,o<arr.size->(decide (fz.1<=o)&&decide (o<fz.2))=false
theorem Clear.zero (arr:Array Value):Clear arr (0,0):=fun o _=>by simp
structure Made (g:bG) (G:Gh) (H:aA) (w:World) (eV:Nat) (o:fC) (G':Gh) (H':aA) (w':World):Prop where
 rel:WR g G' H' w'
 bHy:∃l,l.cZ=w.heap.size/\G'.loc eV=some l/\∀id,id≠eV->G'.loc id=G.loc id
 ext:∀{G0:Gh} {H0:aA} {w0:World},Ext G0 H0 w0 G H w->H0.next<=eV->Ext G0 H0 w0 G' H' w'
 pG:∀b o,G'.gZ b o->G.gZ b o\/b=w.heap.size
 bGf:∀b o,G.gZ b o->G'.gZ b o
 size:w'.heap.size=w.heap.size+1
 CI:∀b,b<w.heap.size->w'.heap[b]?=w.heap[b]?
theorem WR.wX {g:bG} {G:Gh} {H H':aA} {w w':World} (h:WR g G H w) (eV:Nat) (dB:G.loc eV=none) (cs:List AV) (vs rest:List Value) (hv:iK G w cs vs) (h1:∀c∈cs,c.one=true)
 (eM:Bool) (ho:eM=false->rest=[]) (cW:∀m,H'.get m=if m=eV then some (.cells cs eM) else H.get m) (AN:H.next<=H'.next) (FG:eV<H'.next)
 {el:TypeId} {fz:Nat×Nat} (Zg:Clear (vs++rest).toArray fz) (p:iP w w' (.cells (vs++rest).toArray el fz)):
 Made g G H w eV (.cells cs eM) (G.dX eV ⟨w.heap.size,0,cs.length,(vs++rest).length⟩) H' w':=by
 have hp:=h.FU p;have he:=Ext.FU h p;have KO:=p.new
 refine⟨hp.GU eV _ _ dB cW AN FG (fun id l' hl hv=>.inl (Ne.symm (Nat.ne_of_lt (h.mP hl hv)))) (fun j _ hi=>?_) (fun Lo zm xS=>?_) (fun _=>?_) (fun xS=>by cases xS),
  ⟨⟨w.heap.size,0,cs.length,(vs++rest).length⟩,rfl,by simp only[Gh.dX,if_true],fun id cP=>by simp only[Gh.dX];rw[if_neg cP]⟩,fun {G0 H0 w0} e0 LN=>(e0.trans he).GU eV _ _ dB cW AN LN (.inl ?_),fun b o hi=>.inl hi,fun b o hi=>hi,p.size,p.CI⟩
 . obtain⟨v,hv⟩:=h.iX _ _ hi;have :=wD hv;simp at this
 . cases xS;have hlen:=hv.1;refine⟨rfl,by simp[hlen],fun fL=>by simp[ho fL,hlen],h1,fun j hj=>⟨vs.getD j undef,?_,(hv.2 j hj).mono he.loc he.gZ⟩⟩;rw[lM KO];have FE:j<vs.length:=by omega
   rw[Dy];simp only[Cs];rw[Eu FE,qB vs undef j FE]
 . exact⟨_,el,fz,KO,by simp,fun j hj=>by rw[qM KO];exact Zg _ ZaC⟩
 exact e0.size
theorem WR.aGx {g:bG} {G:Gh} {H:aA} {w w':World} (h:WR g G H w) (cs:List AV) (vs rest:List Value) (hv:iK G w cs vs) (h1:∀c∈cs,c.one=true)
 (eM:Bool) (ho:eM=false->rest=[]) {el:TypeId} {fz:Nat×Nat} (Zg:Clear (vs++rest).toArray fz) (p:iP w w' (.cells (vs++rest).toArray el fz)):
 WR g (G.dX H.next ⟨w.heap.size,0,cs.length,(vs++rest).length⟩) (H.alloc (.cells cs eM)) w'/\
  Ext G H w (G.dX H.next ⟨w.heap.size,0,cs.length,(vs++rest).length⟩) (H.alloc (.cells cs eM)) w':=by
 have dB:G.loc H.next=none:=by
  cases hl:G.loc H.next with
  |none=>rfl
  |some l'=>exact absurd (h.lt _ _ hl) (Ez _)
 have :=h.wX H.next dB cs vs rest hv h1 eM ho (aA.aG H _) (Gn _) (Ew _) Zg p;exact⟨this.rel,this.ext (Ext.refl G H w) (Ab _)⟩
theorem WR.bu {g:bG} {G:Gh} {H:aA} {w w':World} (h:WR g G H w) (cs:List AV) (vs rest:List Value) (hv:iK G w cs vs)
 {el:TypeId} {fz:Nat×Nat} (p:iP w w' (.cells (vs++rest).toArray el fz)):
 WR g (G.nM w.heap.size 0 cs.length) H w'/\Ext G H w (G.nM w.heap.size 0 cs.length) H w'/\
  ∀j,j<cs.length->(G.nM w.heap.size 0 cs.length).gZ w.heap.size (0+j)/\w'.cell? ⟨w.heap.size,0+j,none⟩=some (vs.getD j undef)/\
   VR (G.nM w.heap.size 0 cs.length) w' (cs.getD j aC) (vs.getD j undef):=by
 have hp:=h.FU p;have he:=Ext.FU h p;have KO:=p.new;have hlen:=hv.1
 have kE:∀j,j<cs.length->w'.cell? ⟨w.heap.size,0+j,none⟩=some (vs.getD j undef):=fun j hj=>by
  have FE:j<vs.length:=by omega
  rw[lM KO];rw[Dy];simp only[Cs];rw[Eu FE,qB vs undef j FE]
 have xS:=he.nM w.heap.size 0 cs.length (.inl (Ab _));refine⟨hp.nM _ _ _ (fun j hj=>⟨_,kE j hj⟩) (fun id l hl hv=>.inl (Nat.ne_of_lt (h.mP hl hv))),xS,fun j hj=>⟨.inr ⟨rfl,by omega,by omega⟩,kE j hj,(hv.2 j hj).mono xS.loc xS.gZ⟩⟩
theorem WR.RQ {g:bG} {G:Gh} {H H':aA} {w w':World} (h:WR g G H w) (eV:Nat) (dB:G.loc eV=none) (cs:List AV) (vs rest:List Value) (hv:iK G w cs vs)
 (cW:∀m,H'.get m=if m=eV then some .tok else H.get m) (AN:H.next<=H'.next) (FG:eV<H'.next)
 {el:TypeId} {fz:Nat×Nat} (Zg:Clear (vs++rest).toArray fz) (p:iP w w' (.cells (vs++rest).toArray el fz)):
 ∃G',G'.loc eV=some ⟨w.heap.size,cs.length,0,rest.length⟩/\Made g G H w eV .tok G' H' w'/\
  ∀j,j<cs.length->G'.gZ w.heap.size (0+j)/\w'.cell? ⟨w.heap.size,0+j,none⟩=some (vs.getD j undef)/\VR G' w' (cs.getD j aC) (vs.getD j undef):=by
 obtain⟨hw,he,hc⟩:=h.bu cs vs rest hv p;have KO:=p.new;have hlen:=hv.1;have FD:(G.nM w.heap.size 0 cs.length).loc eV=none:=dB
 refine⟨(G.nM w.heap.size 0 cs.length).dX eV ⟨w.heap.size,cs.length,0,rest.length⟩,by simp[Gh.dX],⟨?_,⟨_,rfl,by simp[Gh.dX];rfl,fun id cP=>by simp only[Gh.dX];rw[if_neg cP];rfl⟩,fun {G0 H0 w0} e0 LN=>?_,fun b o hi=>hi.imp id (fun hh=>hh.1),fun b o hi=>.inl hi,p.size,p.CI⟩,
  fun j hj=>⟨(hc j hj).1,(hc j hj).2.1,(hc j hj).2.2.mono (fun id l hl=>?_) (fun b o hi=>⟨hi,rfl⟩)⟩⟩
 . refine hw.GU eV .tok _ FD cW AN FG (fun id l' hl hv=>.inl (Ne.symm (Nat.ne_of_lt (h.mP hl hv)))) (fun j _ hi=>?_) (fun Lo zm xS=>by cases xS) (fun _=>?_) (fun xS=>by cases xS)
   . rcases hi with hi|⟨_,_,hi⟩
     . obtain⟨v,hv⟩:=h.iX _ _ hi;have :=wD hv;simp at this
     simp at hi;omega
   exact⟨_,el,fz,KO,by simp[hlen],fun j hj=>by rw[qM KO];exact Zg _ (by simp at hj;simp;omega)⟩
 . exact(e0.trans he).GU eV .tok _ FD cW AN LN (.inl e0.size)
 simp only[Gh.dX];rw[if_neg (fun he=>by rw[he,FD] at hl;cases hl)];exact hl
theorem WR.aGy {g:bG} {G:Gh} {H:aA} {w w':World} (h:WR g G H w) (cs:List AV) (vs rest:List Value) (hv:iK G w cs vs)
 {el:TypeId} {fz:Nat×Nat} (Zg:Clear (vs++rest).toArray fz) (p:iP w w' (.cells (vs++rest).toArray el fz)):
 ∃G',G'.loc H.next=some ⟨w.heap.size,cs.length,0,rest.length⟩/\WR g G' (H.alloc .tok) w'/\Ext G H w G' (H.alloc .tok) w'/\
  ∀j,j<cs.length->G'.gZ w.heap.size (0+j)/\w'.cell? ⟨w.heap.size,0+j,none⟩=some (vs.getD j undef)/\VR G' w' (cs.getD j aC) (vs.getD j undef):=by
 have dB:G.loc H.next=none:=by
  cases hl:G.loc H.next with
  |none=>rfl
  |some l'=>exact absurd (h.lt _ _ hl) (Ez _)
 obtain⟨G',h1,h2,h3⟩:=h.RQ H.next dB cs vs rest hv (aA.aG H _) (Gn _) (Ew _) Zg p;exact⟨G',h1,h2.rel,h2.ext (Ext.refl G H w) (Ab _),h3⟩
section
def IN:Value->Option AV
 |.bool b=>some (.bool b)
 |.int k n=>some (.int k n)
 |.string s=>some (.str s.data.toList)
 |.pointer none=>some .KV
 |.slice none 0 0=>some .aR
 |.nilFunc=>some .AU
 |.nilIface=>some .wV
 |.map none=>some .rT
 |_=>none
def jO:List Value->Option (List AV)
 |[]=>some []
 |v::r=>match IN v,jO r with
  |some a,some b=>some (a::b)
  |_,_=>none
def ofConst:Value->Option AV
 |.agg cs=>(jO cs.toList).map .agg
 |v=>IN v
theorem LX {v:Value} {a:AV} (h:IN v=some a) (G:Gh) (w:World):VR G w a v/\a.one=true:=by
 unfold IN at h
 split at h<;>first
  |(cases h;done)
  |(obtain rfl:=Aa h;exact⟨by constructor,rfl⟩)
theorem iK.cons {G:Gh} {w:World} {x:AV} {v:Value} {xs:List AV} {vs:List Value} (h:VR G w x v) (hs:iK G w xs vs):iK G w (x::xs) (v::vs):=
 ⟨by simp[hs.1],fun j hj=>by
   cases j with
   |zero=>simpa using h
   |succ j=>simpa using hs.2 j ZaC⟩
theorem VR.cons {G:Gh} {w:World} {x:AV} {v:Value} {xs:List AV} {vs:List Value} (h:VR G w x v) (hs:iK G w xs vs):iK G w (x::xs) (v::vs):=
 iK.cons h hs
theorem lO:∀{vs:List Value} {cs:List AV},jO vs=some cs->∀(G:Gh) (w:World),iK G w cs vs/\∀c∈cs,c.one=true
 |[],cs,h,G,w=>by obtain rfl:=Aa h;exact⟨iK.nil G w,fun c hc=>by cases hc⟩
 |v::r,cs,h,G,w=>by
  unfold jO at h;split at h
  . rename_i a b ha hb;obtain rfl:=Aa h;have h1:=LX ha G w;have h2:=lO hb G w
    exact⟨h1.1.cons h2.1,fun c hc=>by
     rcases Am.1 hc with rfl|hc
     . exact h1.2
     exact h2.2 c hc⟩
  cases h
theorem VR.Wi {G:Gh} {w:World} {cs:List AV} {vs:List Value} (h:iK G w cs vs) (h1:∀c∈cs,c.one=true):VR G w (.agg cs) (.agg vs.toArray):=
 .agg cs vs h.1 h1 h.2
theorem FO {v:Value} {a:AV} (h:ofConst v=some a) (G:Gh) (w:World):VR G w a v:=by
 unfold ofConst at h;split at h
 . rename_i cs
   cases hc:jO cs.toList with
   |none=>simp[hc] at h
   |some b=>simp[hc] at h;subst h;have :=lO hc G w;simpa using VR.Wi this.1 this.2
 exact(LX h G w).1
theorem VR.cellsOf {G:Gh} {w:World} {a:AV} {v:Value} (h:VR G w a v) (ht:a.yP=false):iK G w a.cells v.cells.toList/\∀c∈a.cells,c.one=true:=by
 cases h with
 |agg cs vs hl h1 hv=>exact⟨⟨by simpa [AV.cells,Value.cells] using hl,by simpa [AV.cells,Value.cells] using hv⟩,h1⟩
 |iA cs vs hl hv=>simp[AV.yP] at ht
 |_=>exact⟨iK.cons (by constructor<;>assumption) (iK.nil G w),fun c hc=>by
   simp only[AV.cells,Cb] at hc;subst hc
   rfl⟩
def bN (g:bG):Operand->Option Arg
 |.tmp t=>some (.tmp t)
 |.const v=>(ofConst v).map .const
 |.global n=>if(g n).isSome then some (.jD n) else none
 |.func f=>some (.const (.func (.func f) [] []))
def SR (G:Gh) (w:World) (s:List AV) (a:Act):Prop:=iK G w s a.tmps.toList
theorem SR.getD {G:Gh} {w:World} {s:List AV} {a:Act} (h:SR G w s a) (t:Nat):VR G w (s.getD t aC) (a.tmps.getD t undef):=by
 have hlen:=h.1;by_cases ht:t<s.length
 . have :=h.2 t ht
   have e:a.tmps.getD t undef=a.tmps.toList.getD t undef:=by simp[List.getD,Bo]
   rw[e];exact this
 have e1:s.getD t aC=aC:=by simp[List.getD,Bu (Ig ht)]
 have e2:a.tmps.getD t undef=undef:=by
  have :¬t<a.tmps.size:=by simp at hlen;omega
  simp[Array.getD,this]
 rw[e1,e2];exact VR.oG G w
theorem bM {g:bG} {G:Gh} {H:aA} {w:World} {s:List AV} {a:Act} (hw:WR g G H w) (hs:SR G w s a) {x:Operand} {y:Arg} (h:bN g x=some y):
 VR G w (y.eval g s) (a.eval x):=by
 cases x with
 |tmp t=>obtain rfl:=Aa h;exact hs.getD t
 |const v=>simp only[bN,Ah] at h;obtain⟨c,hc,rfl⟩:=h;exact FO hc G w
 |global n=>
  simp only[bN] at h;split at h
  . rename_i hg;obtain rfl:=Aa h;obtain⟨cs,MI⟩:=Option.isSome_iff_exists.1 hg;simp only[Arg.eval,MI,Act.eval];exact hw.jD n cs MI
  cases h
 |func f=>obtain rfl:=Aa h;exact VR.func _ [] [] [] [] rfl rfl (fun j hj=>absurd hj (An j)) (fun j hj=>absurd hj (An j))
def nN (g:bG):List Operand->Option (List Arg)
 |[]=>some []
 |x::r=>match bN g x,nN g r with
  |some a,some b=>some (a::b)
  |_,_=>none
theorem tC {g:bG} {G:Gh} {H:aA} {w:World} {s:List AV} {a:Act} (hw:WR g G H w) (hs:SR G w s a):∀{xs:List Operand} {ys:List Arg},nN g xs=some ys->
 iK G w (ys.map (Arg.eval g s)) (xs.map a.eval)
 |[],ys,h=>by obtain rfl:=Aa h;exact iK.nil G w
 |x::r,ys,h=>by
  unfold nN at h;split at h
  . rename_i y b hy hb;obtain rfl:=Aa h;exact(bM hw hs hy).cons (tC hw hs hb)
  cases h
def mY (g:bG):Option Operand->Option (Option Arg)
 |none=>some none
 |some x=>(bN g x).map some
def fO (P:Program) (t:TypeId):Option Bool:=
 match P.underlying t with
 |some (.struct _)|some (.array _ _)=>some true
 |some _=>some false
 |none=>none
theorem qG {P:Program} {t:TypeId} {b:Bool} (h:fO P t=some b) (w:World):(isAgg t).run P w=.ok b w:=by
 unfold fO at h;unfold isAgg;split at h
 . rename_i fs hu;obtain rfl:=Aa h;simp[run_underlying hu w]
 . rename_i n e hu;obtain rfl:=Aa h;simp[run_underlying hu w]
 . rename_i d h1 h2 hu;obtain rfl:=Aa h;simp only[Sem.run_bind,run_underlying hu w,Result.andThen_ok];rfl
 cases h
def kB (P:Program) (t:TypeId):Option Nat:=(P.info? t).map (·.size)
theorem eI {P:Program} {t:TypeId} {n:Nat} (h:kB P t=some n) (w:World):(sizeOf t).run P w=.ok n w:=by simp only[kB,Ah] at h;obtain⟨i,hi,rfl⟩:=h;simp[sizeOf,typeInfo,program,Sem.run,hi]
def lH (P:Program) (t:TypeId):Option Value:=(P.info? t).bind (·.zero)
theorem kV {P:Program} {t:TypeId} {v:Value} (h:lH P t=some v) (w:World):(zeroValue t).run P w=.ok v w:=by simp only[lH,Option.bind_eq_some_iff] at h;obtain⟨i,hi,hz⟩:=h;simp[zeroValue,typeInfo,program,Sem.run,hi,hz]
def QF (n:Next) (u:Value):Prop:=n=.value u\/(n=.skip/\u=undef)
def cN (P:Program) (g:bG) (o:Oper) (r:eE):Prop:=
 ∀(s:List AV) (a:Act) (G:Gh) (H:aA) (w:World) (v:AV) (H':aA),WR g G H w->SR G w s a->dA (Arg.eval g s) H r=some (v,H')->
  ∃n u w' G',(execOp a.eval o).run P w=.ok n w'/\QF n u/\WR g G' H' w'/\Ext G H w G' H' w'/\VR G' w' v u
theorem cN.pure' {P:Program} {g:bG} {o:Oper} {G:Gh} {H:aA} {w:World} {v:AV} {a:Act} {u:Value} (hw:WR g G H w)
 (hr:(execOp a.eval o).run P w=.ok (.value u) w) (hv:VR G w v u):
 ∃n u w' G',(execOp a.eval o).run P w=.ok n w'/\QF n u/\WR g G' H w'/\Ext G H w G' H w'/\VR G' w' v u:=
 ⟨_,u,w,G,hr,.inl rfl,hw,Ext.refl G H w,hv⟩
def DG (P:Program) (g:bG) (o:Oper) (r:eE):Prop:=
 ∀(s:List AV) (a:Act) (G:Gh) (H H':aA) (w:World) (ob:fC) (val:Nat->AV) (eV:Nat),WR g G H w->SR G w s a->xQ (Arg.eval g s) r=some (ob,val)->
  G.loc eV=none->(∀m,H'.get m=if m=eV then some ob else H.get m)->H.next<=H'.next->eV<H'.next->
  ∃u w' G',(execOp a.eval o).run P w=.ok (.value u) w'/\Made g G H w eV ob G' H' w'/\VR G' w' (val eV) u
theorem DG.op {P:Program} {g:bG} {o:Oper} {r:eE} (h:DG P g o r) (hr:∀ev H,dA ev H r=(xQ ev r).map fun p=>(p.2 H.next,H.alloc p.1)):cN P g o r:=by
 intro s a G H w v H' hw hs ha;rw[hr] at ha;simp only[Ah,Ai] at ha;obtain⟨⟨ob,val⟩,hf,rfl,rfl⟩:=ha
 have dB:G.loc H.next=none:=by
  cases hl:G.loc H.next with
  |none=>rfl
  |some l'=>exact absurd (hw.lt _ _ hl) (Ez _)
 obtain⟨u,w',G',h1,h2,h3⟩:=h s a G H (H.alloc ob) w ob val H.next hw hs hf dB (aA.aG H _) (Gn _) (Ew _);exact⟨_,u,w',G',h1,.inl rfl,h2.rel,h2.ext (Ext.refl G H w) (Ab _),h3⟩
section
variable {P:Program} {g:bG} {o:Oper}
theorem bj {x:Operand} {y:Arg} (ho:o.op=.move x\/o.op=.assign x) (hx:bN g x=some y):cN P g o (.Sv y):=by
 intro s a G H w v H' hw hs h;simp only[dA,Ae,Ai] at h;obtain⟨rfl,rfl⟩:=h;refine cN.pure' hw (u:=a.eval x) ?_ (bM hw hs hx)
 rcases ho with ho|ho<;>simp[execOp,ho]
theorem aGf {c x y:Operand} {c' x' y':Arg} (ho:o.op=.pick c x y) (hc:bN g c=some c') (hx:bN g x=some x') (hy:bN g y=some y'):cN P g o (.pick c' x' y'):=by
 intro s a G H w v H' hw hs h;have vc:=bM hw hs hc;have vx:=bM hw hs hx;have vy:=bM hw hs hy;simp only[dA] at h;split at h
 . rename_i t ht;rw[ht] at vc;simp only[Ae,Ai] at h;obtain⟨rfl,rfl⟩:=h
   cases hcv:a.eval c with
   |bool b=>rw[hcv] at vc;cases vc;refine cN.pure' hw (u:=if t then a.eval x else a.eval y) ?_ (by cases t<;>simpa);simp[execOp,ho,hcv,asBool]
   |_=>rw[hcv] at vc;cases vc
 cases h
theorem Qh {t:TypeId} {z:Value} {zs:List AV} (ho:o.op=.alloc t) (hz:lH P t=some z) (CE:jO z.cells.toList=some zs):DG P g o (.alloc zs):=by
 intro s a G H H' w ob val eV hw hs h dB cW AN fF;simp only[xQ,Ae,Ai] at h;obtain⟨rfl,rfl⟩:=h;have hc:=lO CE G w;have hp:iP w {w with heap:=w.heap.push (.cells z.cells t)} (.cells (z.cells.toList++[]).toArray t (0,0)):=⟨by simp,.now⟩;have hm:=hw.wX eV dB zs z.cells.toList [] hc.1 hc.2 false (fun _=>rfl) cW AN fF (Clear.zero _) hp;refine⟨.pointer (some ⟨w.heap.size,0,none⟩),_,_,?_,hm,?_⟩
 . simp[execOp,ho,Instr.alloc,kV hz w,newVar,newRow,newObj,Sem.run]
 exact VR.ref eV 0 ⟨w.heap.size,0,zs.length,(z.cells.toList++[]).length⟩ (by simp only[Gh.dX,if_true])
theorem za {t:TypeId} {z:Value} {zs:List AV} (ho:o.op=.alloc t) (hz:lH P t=some z) (CE:jO z.cells.toList=some zs):cN P g o (.alloc zs):=
 (Qh ho hz CE).op fun _ _=>rfl
theorem ZV {t:TypeId} {x:Operand} {x':Arg} (ho:o.op=.box t x) (hx:bN g x=some x'):DG P g o (.box x'):=by
 intro s a G H H' w ob val eV hw hs h dB cW AN fF;simp only[xQ] at h;split at h
 . cases h
 rename_i ht;simp only[Ae,Ai] at h;obtain⟨rfl,rfl⟩:=h;have hc:=(bM hw hs hx).cellsOf (by simpa using ht);have hp:iP w {w with heap:=w.heap.push (.cells (a.eval x).cells t)} (.cells ((a.eval x).cells.toList++[]).toArray t (0,0)):=⟨by simp,.now⟩;have hm:=hw.wX eV dB _ _ [] hc.1 hc.2 false (fun _=>rfl) cW AN fF (Clear.zero _) hp;refine⟨.pointer (some ⟨w.heap.size,0,none⟩),_,_,?_,hm,?_⟩
 . simp[execOp,ho,Instr.box,newVar,newRow,newObj,Sem.run]
 exact VR.ref eV 0 ⟨w.heap.size,0,(x'.eval g s).cells.length,((a.eval x).cells.toList++[]).length⟩ (by simp only[Gh.dX,if_true])
theorem aSy {t:TypeId} {x:Operand} {x':Arg} (ho:o.op=.box t x) (hx:bN g x=some x'):cN P g o (.box x'):=
 (ZV ho hx).op fun _ _=>rfl
theorem aGe {t:TypeId} {x:Operand} {x':Arg} (ho:o.op=.makeInterface t x) (hx:bN g x=some x')
 (ht:(match P.underlying t with|some (.interface _)=>false|some _=>true|none=>false)=true):cN P g o (.Xq t x'):=by
 intro s a G H w v H' hw hs h;simp only[dA,Ae,Ai] at h;obtain⟨rfl,rfl⟩:=h;refine cN.pure' hw (u:=.iface t (a.eval x)) ?_ (.iface t _ _ (bM hw hs hx));split at ht
 . cases ht
 . rename_i d hd hu;simp only[execOp,ho,Instr.makeInterface,Sem.run_bind,run_underlying hu w,Result.andThen_ok];rfl
 cases ht
theorem aGd {fn:Fn} {fs cs:Array Operand} {fs' Lo:List Arg} (ho:o.op=.makeFunc fn fs cs) (hf:nN g fs.toList=some fs') (hc:nN g cs.toList=some Lo):cN P g o (.Xp fn fs' Lo):=by intro s a G H w v H' hw hs h;simp only[dA,Ae,Ai] at h;obtain⟨rfl,rfl⟩:=h;have h1:=tC hw hs hf;have h2:=tC hw hs hc;refine cN.pure' hw (u:=.func fn (fs.toList.map a.eval).toArray (cs.toList.map a.eval).toArray) ?_ (.func fn _ _ _ _ h1.1 h2.1 h1.2 h2.2);simp only[execOp,ho,Instr.makeFunc,Sem.run_bind,Sem.run_pure,Result.andThen_ok];congr 3<;>(apply Fj;simp)
theorem aFv {x:Operand} {x':Arg} {i:Nat} (ho:o.op=.extract x i) (hx:bN g x=some x'):cN P g o (.XH x' i):=by
 intro s a G H w v H' hw hs h;have vx:=bM hw hs hx;simp only[dA] at h;split at h
 . rename_i vs oP;rw[oP] at vx;split at h
   . rename_i hi;simp only[Ae,Ai] at h;obtain⟨rfl,rfl⟩:=h
     cases eF:a.eval x with
     |tuple us=>
      rw[eF] at vx
      cases vx with
      |iA _ us' hl hv=>refine cN.pure' hw (u:=us'.getD i undef) ?_ (hv i hi);have gO:i<us'.length:=(by omega);simp only[execOp,ho,eF,Instr.extract,Dy,qB us' undef i gO,Sem.run_bind,Sem.run_pure,Result.andThen_ok]
     |_=>rw[eF] at vx;cases vx
   cases h
 cases h
theorem zf {x:Operand} {x':Arg} (ho:o.op=.nilCheck x) (hx:bN g x=some x'):cN P g o (.OQ x'):=by
 intro s a G H w v H' hw hs h;have vx:=bM hw hs hx
 have key:∀{va:AV} {u:Value},VR G w va u->(∃id off,va=.ref id off)\/(∃cs,va=.pl cs)\/(∃f p q,va=.func (.func f) p q)\/(∃t y,va=.iface t y)->a.eval x=u->(execOp a.eval o).run P w=.ok (.value u) w:=by
  intro va u hv oN he
  rcases oN with ⟨id,off,rfl⟩|⟨cs,rfl⟩|⟨f,p,q,rfl⟩|⟨t,y,rfl⟩<;>cases hv<;>simp[execOp,ho,he]
 simp only[dA] at h
 split at h<;>first
  |(cases h;done)
  |(rename_i oP
    simp only[Ae,Ai] at h;obtain⟨rfl,rfl⟩:=h;rw[oP] at vx
    exact cN.pure' hw (key vx (by simp) rfl) vx)
theorem VR.iW {G:Gh} {w:World} {k:IntKind} {n:Int} {u:Value} (h:VR G w (.int k n) u):u=.int k n:=by cases h;rfl
theorem VR.jT {G:Gh} {w:World} {b:Bool} {u:Value} (h:VR G w (.bool b) u):u=.bool b:=by cases h;rfl
theorem VR.lG {G:Gh} {w:World} {s:List UInt8} {u:Value} (h:VR G w (.str s) u):u=.string ⟨s.toArray⟩:=by cases h;rfl
theorem VR.Yl (G:Gh) (w:World) (s:List UInt8):VR G w (.str s) (.string ⟨s.toArray⟩):=by have :=VR.str (G:=G) (w:=w) ⟨s.toArray⟩;simpa using this
theorem tD {G:Gh} {w:World} {a:AV} {u:Value} {n:Nat} (h:asNat a=some n) (hv:VR G w a u):∃k,a=.int k n/\u=.int k n:=by
 cases a<;>simp only[asNat] at h<;>try (cases h;done)
 rename_i k m;split at h
 . rename_i hm;obtain rfl:=Aa h;refine⟨k,by rw[Ke hm],by rw[Ke hm];exact hv.iW⟩
 cases h
end
end
section
theorem getD_eq {α:Type} (l:List α) (d:α) (j:Nat):l.getD j d=(l[j]?).getD d:=rfl
theorem eX {α:Type} (l:List α) (d:α) (o n j:Nat) (h:j<n):((l.drop o).take n).getD j d=l.getD (o+j) d:=by simp only[getD_eq];rw[Hq,if_pos h,Fv]
theorem BX {α:Type} (l:List α) (d:α) (o j:Nat):(l.drop o).getD j d=l.getD (o+j) d:=by simp only[getD_eq,Fv]
theorem getD_take {α:Type} (l:List α) (d:α) (n j:Nat) (h:j<n):(l.take n).getD j d=l.getD j d:=by simp only[getD_eq];rw[Hq,if_pos h]
theorem qO (cs:List AV) (off:Nat) (vs:List AV) (h:off+vs.length<=cs.length):(fW cs off vs).length=cs.length:=by simp[fW];omega
theorem LK (cs:List AV) (off:Nat) (vs:List AV) (d:AV) (h:off+vs.length<=cs.length) (j:Nat):
 (fW cs off vs).getD j d=if off<=j/\j<off+vs.length then vs.getD (j -off) d else cs.getD j d:=by
 simp only[getD_eq,fW];rw[Du];simp only[Ba,Db];have hm:min off cs.length=off:=by omega
 rw[hm];by_cases h1:j<off+vs.length
 . rw[if_pos h1,Du];simp only[Db,hm];by_cases h2:j<off
   . rw[if_pos h2,if_neg (by omega),Hq,if_pos h2]
   rw[if_neg h2,if_pos (by omega)]
 rw[if_neg h1,if_neg (by omega),Fv];congr 2;omega
theorem ON {cs:List AV} {off:Nat} {vs:List AV} {c:AV} (h:c∈fW cs off vs):c∈cs\/c∈vs:=by
 simp only[fW,Ap] at h
 rcases h with (h|h)|h
 . exact .inl (Bz h)
 . exact .inr h
 exact .inl (Dt h)
theorem II {cs:List AV} {j:Nat} (h:j<cs.length):cs.getD j aC∈cs:=by rw[getD_eq,Ad h];exact Ac h
theorem NG {G:Gh} {w:World} {b o n:Nat} {cs:List AV} (h:∀j,j<n->∃u,w.cell? ⟨b,o+j,none⟩=some u/\VR G w (cs.getD j aC) u):
 ∃us:List Value,us.length=n/\(∀j,j<n->w.cell? ⟨b,o+j,none⟩=some (us.getD j undef))/\∀j,j<n->VR G w (cs.getD j aC) (us.getD j undef):=by
 have hd:∀j,j<n->((List.range n).map fun j=>(w.cell? ⟨b,o+j,none⟩).getD undef).getD j undef=(w.cell? ⟨b,o+j,none⟩).getD undef:=fun j hj=>by simp[getD_eq,Is hj]
 refine⟨(List.range n).map fun j=>(w.cell? ⟨b,o+j,none⟩).getD undef,by simp,fun j hj=>?_,fun j hj=>?_⟩
 . rw[hd j hj];obtain⟨u,hu,_⟩:=h j hj;rw[hu];rfl
 rw[hd j hj];obtain⟨u,hu,hv⟩:=h j hj;rw[hu];exact hv
theorem JA {P:Program} {G:Gh} {w:World} {t:TypeId} {agg:Bool} {n b o:Nat} {cs:List AV} (hag:fO P t=some agg) (kZ:kB P t=some n)
 (hlen:n=cs.length) (h1:∀c∈cs,c.one=true) (hn:agg=false->n=1)
 (h:∀j,j<n->∃u,w.cell? ⟨b,o+j,none⟩=some u/\VR G w (cs.getD j aC) u):
 ∃u,(loadVar t ⟨b,o,none⟩).run P w=.ok u w/\VR G w (if agg then .agg cs else cs.getD 0 aC) u:=by
 obtain⟨us,hl,hc,hv⟩:=NG h
 cases agg with
 |true=>refine⟨.agg us.toArray,?_,.agg cs us (by omega) h1 (fun j hj=>hv j (by omega))⟩;have hr:=uV P w b o us (fun j hj=>hc j (by omega));rw[hl] at hr;simp[loadVar,qG hag w,eI kZ w,hr]
 |false=>have h1':=hn rfl;have hc0:=hc 0 (by omega);have PN:=hv 0 (by omega);refine⟨us.getD 0 undef,?_,PN⟩;simp only[Cy] at hc0;simp only[loadVar,Sem.run_bind,qG hag w,Result.andThen_ok,Bb,Bq,run_load,hc0]
theorem WR.store {g:bG} {G:Gh} {H:aA} {w w':World} (h:WR g G H w) {id:Nat} {l:Loc} {cs:List AV} {eM:Bool} (hl:G.loc id=some l) (hg:H.get id=some (.cells cs eM))
 {off:Nat} {xs:List AV} {vs:List Value} (hv:iK G w xs vs) (h1:∀c∈xs,c.one=true) (gR:off+xs.length<=cs.length) (u:TW w w' l.cZ (l.base+off) vs):
 WR g G (H.set id (.cells (fW cs off xs) eM)) w'/\Ext G H w G (H.set id (.cells (fW cs off xs) eM)) w':=by
 have lD:H.live id:=⟨_,hg,rfl⟩;obtain⟨a1,a2,a3,a4,a5⟩:=h.cells id l cs eM hl hg;obtain⟨c,el,fz,b1,b2,b3⟩:=h.room id l hl (.inl ⟨cs,eM,hg⟩);have hlen:=hv.1
 have pF:∀j,j<vs.length->¬G.gZ l.cZ (l.base+off+j):=fun j hj=>by rw[Br];exact h.jZ id l hl lD (off+j) (by omega)
 have tP:∀kP l',kP≠id->G.loc kP=some l'->H.live kP->l.cZ≠l'.cZ\/l.base+l.ext<=l'.base\/l'.base+l'.ext<=l.base:=
  fun kP l' cP oU mT=>h.kM id kP l l' (Ne.symm cP) hl oU lD mT
 have hk:=h.kill id
 have Qx:=hk.write u pF (fun kP l' oU mT=>by
  rcases aA.kQ.1 mT with ⟨_,hh⟩|⟨cP,mT⟩
  . cases hh
  rcases tP kP l' cP oU mT with hd|hd|hd
  . exact .inl (Ne.symm hd)
  . exact .inr (.inr (by omega))
  exact .inr (.inl (by omega))) ⟨c,el,fz,b1⟩
 have xT:=((Ext.refl G H w).write u pF h.iX (.inr ⟨id,l,hl,lD,rfl⟩)).aHi id (.cells (fW cs off xs) eM) lD;have yO:∀{a:AV} {x:Value},VR G w a x->VR G w' a x:=fun hx=>hx.mono (fun _ _ h=>h) (fun b o hi=>⟨hi,(xT.gZ b o hi).2⟩);obtain⟨c',d1,d2,d3,d4⟩:=u.row c el fz b1;refine⟨Qx.aTn _ l hl tP (fun j hj=>h.jZ id l hl lD j hj) (fun Lo zm he=>?_) (fun _=>⟨c',el,fz,d1,by omega,fun j hj=>by rw[u.frozen b1];exact b3 j hj⟩) (fun he=>by cases he),xT⟩;cases he;refine⟨by rw[qO _ _ _ gR];exact a1,a2,a3,fun x hx=>(ON hx).elim (a4 x) (h1 x),fun j hj=>?_⟩;rw[qO _ _ _ gR] at hj;rw[LK _ _ _ _ gR];by_cases MM:off<=j/\j<off+xs.length
 . rw[if_pos MM];refine⟨vs.getD (j -off) undef,?_,yO (hv.2 (j -off) (by omega))⟩;have :=d4 (j -off) (by omega) (by omega);rw[lM d1,<-this];congr 1;omega
 rw[if_neg MM];obtain⟨x,hx,hvx⟩:=a5 j hj;exact⟨x,u.cell (.inr (by omega)) hx,yO hvx⟩
theorem aA.oZ {H:aA} {id:Nat} {cs:List AV} (h:H.eY id=some cs):∃eM,H.get id=some (.cells cs eM):=by
 unfold aA.eY at h;split at h
 . rename_i Lo eM hg;obtain rfl:=Aa h;exact⟨eM,hg⟩
 cases h
theorem KZ {g:bG} {G:Gh} {H:aA} {w:World} (hw:WR g G H w) {id off n:Nat} {l:Loc} {cs:List AV} {eM:Bool} (hl:G.loc id=some l) (hg:H.get id=some (.cells cs eM))
 (gR:off+n<=cs.length):∀j,j<n->∃u,w.cell? ⟨l.cZ,l.base+off+j,none⟩=some u/\VR G w (((cs.drop off).take n).getD j aC) u:=fun j hj=>by
 obtain⟨u,hu,hv⟩:=(hw.cells id l cs eM hl hg).2.2.2.2 (off+j) (by omega);refine⟨u,by rw[Br];exact hu,?_⟩;rw[eX _ _ _ _ _ hj];exact hv
section
variable {P:Program} {g:bG} {o:Oper}
theorem aGa {t:TypeId} {x:Operand} {x':Arg} {agg:Bool} {n:Nat} (ho:o.op=.load t x) (hx:bN g x=some x') (hag:fO P t=some agg) (kZ:kB P t=some n):
 cN P g o (.load agg n x'):=by
 intro s a G H w v H' hw hs h;have vx:=bM hw hs hx
 have fin:∀(b o':Nat) (cs:List AV),a.eval x=.pointer (some ⟨b,o',none⟩)->n=cs.length->(∀c∈cs,c.one=true)->(agg=false->n=1)->
  (∀j,j<n->∃u,w.cell? ⟨b,o'+j,none⟩=some u/\VR G w (cs.getD j aC) u)->
  ∃n u w' G',(execOp a.eval o).run P w=.ok n w'/\QF n u/\WR g G' H w'/\Ext G H w G' H w'/\VR G' w' (if agg then .agg cs else cs.getD 0 aC) u:=by
  intro b o' cs he hl h1 hn hc;obtain⟨u,hr,hv⟩:=JA (P:=P) hag kZ hl h1 hn hc;refine cN.pure' hw (u:=u) ?_ hv;simp[execOp,ho,he,Instr.loadAt,Instr.sureAddr,hr]
 simp only[dA] at h;split at h
 . rename_i id off dB;rw[dB] at vx;split at h
   . rename_i cs MI;obtain⟨eM,hg⟩:=aA.oZ MI;split at h
     . rename_i gR
       cases eF:a.eval x with
       |pointer p=>
        rw[eF] at vx
        cases vx with
        |ref _ _ l hl=>
         have h4:=(hw.cells id l cs eM hl hg).2.2.2.1;have kE:=KZ hw hl hg gR;have hlen:n=((cs.drop off).take n).length:=Zai;have xU:∀c∈(cs.drop off).take n,c.one=true:=fun c hc=>h4 c (Dt (Bz hc));split at h
         . rename_i qW;simp only[Ae,Ai] at h;obtain⟨rfl,rfl⟩:=h;have :=fin _ _ _ eF hlen xU (fun hf=>by rw[qW] at hf;cases hf) kE
           rwa [if_pos qW] at this
         rename_i qW;split at h
         . rename_i hn;simp only[Ae,Ai] at h;obtain⟨rfl,rfl⟩:=h;have :=fin _ _ _ eF hlen xU (fun _=>hn) kE
           rwa [if_neg qW,eX _ _ _ _ _ (by omega),Cy] at this
         cases h
       |_=>rw[eF] at vx;cases vx
     cases h
   cases h
 . rename_i cs dB;rw[dB] at vx;split at h
   . rename_i gR
     cases eF:a.eval x with
     |pointer p=>
      rw[eF] at vx
      cases vx with
      |pl _ b o' us hh hv=>
       have kE:∀j,j<n->∃u,w.cell? ⟨b,o'+j,none⟩=some u/\VR G w ((cs.take n).getD j aC) u:=fun j hj=>by rw[getD_take _ _ _ _ hj];exact⟨us j,(hh j (by omega)).2.1,hv j (by omega)⟩
       have hlen:n=(cs.take n).length:=by simp;omega
       have xU:∀c∈cs.take n,c.one=true:=fun c hc=>by obtain⟨j,hj,rfl⟩:=Hd.1 (Bz hc);have :=(hh j hj).2.2;simpa [getD_eq,Ad hj] using this
       split at h
       . rename_i qW;simp only[Ae,Ai] at h;obtain⟨rfl,rfl⟩:=h;have :=fin _ _ _ eF hlen xU (fun hf=>by rw[qW] at hf;cases hf) kE
         rwa [if_pos qW] at this
       rename_i qW;split at h
       . rename_i hn;simp only[Ae,Ai] at h;obtain⟨rfl,rfl⟩:=h;have :=fin _ _ _ eF hlen xU (fun _=>hn) kE
         rwa [if_neg qW,getD_take _ _ _ _ (by omega)] at this
       cases h
     |_=>rw[eF] at vx;cases vx
   cases h
 cases h
theorem oQ {G:Gh} {w:World} {xs:List AV} {vs:List Value} (hv:iK G w xs vs) (h1:∀c∈xs,c.one=true):∀v∈vs,zk v=true:=by
 intro v mT;obtain⟨j,hj,rfl⟩:=Hd.1 mT;have FE:j<xs.length:=by have :=hv.1;omega
 have :=(hv.2 j FE).one;rw[h1 _ (II FE)] at this;simpa [getD_eq,Ad hj] using this.symm
theorem zi {t:TypeId} {x y:Operand} {x' y':Arg} {n:Nat} (ho:o.op=.store t x y) (hx:bN g x=some x') (hy:bN g y=some y') (kZ:kB P t=some n):
 cN P g o (.store n x' y'):=by
 intro s a G H w v H' hw hs h;have vx:=bM hw hs hx;have vy:=bM hw hs hy;simp only[dA] at h;split at h
 . rename_i id off dB;rw[dB] at vx;split at h
   . rename_i cs eM hg;split at h
     . rename_i hc;obtain⟨SO,AM,hc3⟩:=hc;simp only[Ae,Ai] at h;obtain⟨rfl,rfl⟩:=h;obtain⟨oP,xU⟩:=vy.cellsOf hc3
       cases eF:a.eval x with
       |pointer p=>
        rw[eF] at vx
        cases vx with
        |ref _ _ l hl=>
         obtain⟨a1,a2,_,_,_⟩:=hw.cells id l cs eM hl hg;obtain⟨c,el,fz,b1,b2,b3⟩:=hw.room id l hl (.inl ⟨cs,eM,hg⟩);have hlen:=oP.1
         obtain⟨w',hr,hu⟩:=fB P l.cZ (l.base+off) (a.eval y).cells.toList 0 w ⟨c,el,fz,b1,by omega⟩
          (fun j hj=>by rw[Cy,Br];exact b3 (off+j) (by omega)) (oQ oP xU)
         obtain⟨r1,r2⟩:=hw.store hl hg oP xU (by omega) hu;refine⟨.skip,undef,w',G,?_,.inr ⟨rfl,rfl⟩,r1,r2,VR.oG G w'⟩;have Us:(a.eval y).cells.size=n:=(by simpa [SO] using hlen);simp[execOp,ho,eF,Instr.storeAt,Instr.sureAddr,storeVar,eI kZ w,Us,hr]
       |_=>rw[eF] at vx;cases vx
     cases h
   cases h
 cases h
def XK (P:Program) (t:TypeId) (i:Nat):Option (Nat×Nat×Bool):=
 match P.underlying t with
 |some (.struct fs)=>match fs[i]? with
  |some f=>match kB P f.type,fO P f.type with
   |some n,some b=>if n=0 then none else some (f.offset,n,b)
   |_,_=>none
  |none=>none
 |_=>none
theorem aFw {t:TypeId} {x:Operand} {x':Arg} {i:Nat} {off n:Nat} {b:Bool} (ho:o.op=.fieldAddr t x i) (hx:bN g x=some x') (hf:XK P t i=some (off,n,b)):
 cN P g o (.XJ off x'):=by
 intro s a G H w v H' hw hs h;have vx:=bM hw hs hx;unfold XK at hf;split at hf
 . rename_i fs hu;split at hf
   . rename_i f Ul;split at hf
     . rename_i n' b' hn hb;split at hf
       . cases hf
       rename_i Xc;simp only[Ae,Ai] at hf;obtain⟨rfl,rfl,rfl⟩:=hf
       have jE:∀bl o',a.eval x=.pointer (some ⟨bl,o',none⟩)->(execOp a.eval o).run P w=.ok (.value (.pointer (some ⟨bl,o'+f.offset,none⟩))) w:=fun bl o' he=>by simp[execOp,ho,he,Instr.fieldAt,run_underlying hu w,Ul,Instr.sureAddr,fieldPlace,eI hn w,Xc,jS]
       simp only[dA] at h;split at h
       . rename_i id o' dB;rw[dB] at vx;simp only[Ae,Ai] at h;obtain⟨rfl,rfl⟩:=h
         cases eF:a.eval x with
         |pointer p=>
          rw[eF] at vx
          cases vx with
          |ref _ _ l hl=>exact cN.pure' hw (jE _ _ eF) (by rw[Br];exact .ref id (o'+f.offset) l hl)
         |_=>rw[eF] at vx;cases vx
       . rename_i cs dB;rw[dB] at vx;simp only[Ae,Ai] at h;obtain⟨rfl,rfl⟩:=h
         cases eF:a.eval x with
         |pointer p=>
          rw[eF] at vx
          cases vx with
          |pl _ bl o' us hh hv=>
           refine cN.pure' hw (jE _ _ eF) (.pl _ bl (o'+f.offset) (fun j=>us (f.offset+j)) (fun j hj=>?_) (fun j hj=>?_))
           . simp at hj;rw[Br,BX];exact hh (f.offset+j) (by omega)
           simp at hj;rw[BX];exact hv (f.offset+j) (by omega)
         |_=>rw[eF] at vx;cases vx
       cases h
     cases hf
   cases hf
 cases hf
theorem Vo {t:TypeId} {n:Nat} {b:Bool} (hn:kB P t=some n) (hb:fO P t=some b) {G:Gh} {w:World} {cs:List AV} {us:List Value} {off:Nat}
 (hl:us.length=cs.length) (h1:∀c∈cs,c.one=true) (hv:∀j,j<cs.length->VR G w (cs.getD j aC) (us.getD j undef)) (gR:off+n<=cs.length) (KN:b=false->n=1):
 ∃u,(part t us.toArray off).run P w=.ok u w/\VR G w (if b then .agg ((cs.drop off).take n) else cs.getD off aC) u:=by
 cases b with
 |true=>
  refine⟨.agg ((us.drop off).take n).toArray,?_,?_⟩
  . simp only[part,Sem.run_bind,qG hb w,Result.andThen_ok,if_true,eI hn w,Sem.run_pure];congr 2;apply Fj;simp[Hj]
  simp only[if_true];refine .agg _ _ Zai (fun c hc=>h1 c (Dt (Bz hc))) (fun j hj=>?_);simp at hj;rw[eX _ _ _ _ _ (by omega),eX _ _ _ _ _ (by omega)];exact hv _ (by omega)
 |false=>have :=KN rfl;refine⟨us.getD off undef,?_,hv off (by omega)⟩;simp only[part,Sem.run_bind,qG hb w,Result.andThen_ok,Bb,Bq,Dy,qB us undef off (by omega)];rfl
theorem VR.uL {G:Gh} {w:World} {cs:List AV} {u:Value} (h:VR G w (.agg cs) u):∃us:List Value,u=.agg us.toArray/\us.length=cs.length/\(∀c∈cs,c.one=true)/\
 ∀j,j<cs.length->VR G w (cs.getD j aC) (us.getD j undef):=by
 cases h with
 |agg _ us hl h1 hv=>exact⟨us,rfl,hl,h1,hv⟩
end
end
section
theorem xR {aY:List (List AV)} {sz:Nat} (hu:∀e∈aY,e.length=sz):∀{i j:Nat},i<aY.length->j<sz->aY.flatten.getD (i*sz+j) aC=(aY.getD i []).getD j aC:=by
 induction aY with
 |nil=>intro i j hi;simp at hi
 |cons e r ih=>
  intro i j hi hj;have he:e.length=sz:=hu e (by simp)
  cases i with
  |zero=>simp only[getD_eq,Bp,Iw,Cs,Gj,Bi];rw[Eu (by omega)]
  |succ i=>have :=ih (fun e he=>hu e (by simp[he])) (i:=i) (j:=j) (by simpa using hi) hj;simp only[getD_eq,Bp,Gk] at this ⊢;rw[Fx (by rw[he,Ea];omega)];rw[show(i+1)*sz+j -e.length=i*sz+j by rw[he,Ea];omega];exact this
theorem length_flatten {aY:List (List AV)} {sz:Nat} (hu:∀e∈aY,e.length=sz):aY.flatten.length=aY.length*sz:=by
 induction aY with
 |nil=>simp
 |cons e r ih=>simp only[Bp,Ba,Aq,Ea];rw[ih (fun e he=>hu e (by simp[he])),hu e (by simp)];omega
section
variable {P:Program} {g:bG} {o:Oper}
def zQ (P:Program) (t:TypeId):Option (Nat×Nat×Bool):=
 match P.underlying t with
 |some (.array n e)=>match kB P e,fO P e with
  |some sz,some b=>some (n,sz,b)
  |_,_=>none
 |_=>none
def nA (P:Program) (t:TypeId):Option (TypeId×Nat):=
 match P.underlying t with
 |some (.slice e)=>match kB P e with
  |some sz=>some (e,sz)
  |none=>none
 |_=>none
theorem zS {t:TypeId} {n sz:Nat} {b:Bool} (h:zQ P t=some (n,sz,b)):∃e,P.underlying t=some (.array n e)/\kB P e=some sz/\fO P e=some b:=by
 unfold zQ at h;split at h
 . rename_i n' e hu;split at h
   . rename_i eP b' h1 h2;simp only[Ae,Ai] at h;obtain⟨rfl,rfl,rfl⟩:=h;exact⟨e,hu,h1,h2⟩
   cases h
 cases h
theorem kF {t e:TypeId} {sz:Nat} (h:nA P t=some (e,sz)):P.underlying t=some (.slice e)/\kB P e=some sz:=by
 unfold nA at h;split at h
 . rename_i e' hu;split at h
   . rename_i eP h1;simp only[Ae,Ai] at h;obtain⟨rfl,rfl⟩:=h;exact⟨hu,h1⟩
   cases h
 cases h
theorem VL {t:TypeId} {x i:Operand} {x' i':Arg} {n sz:Nat} {b:Bool} (ho:o.op=.indexAddr t x i) (hx:bN g x=some x') (hi:bN g i=some i') (ht:zQ P t=some (n,sz,b)):
 cN P g o (.Sh (some n) sz x' i'):=by
 intro s a G H w v H' hw hs h;have vx:=bM hw hs hx;have vi:=bM hw hs hi;obtain⟨e,hu,he,hb⟩:=zS ht;simp only[dA] at h;split at h
 . rename_i k hk;obtain⟨kk,LP,hkv⟩:=tD hk vi
   have jE:∀bl o',a.eval x=.pointer (some ⟨bl,o',none⟩)->k<n->(execOp a.eval o).run P w=.ok (.value (.pointer (some ⟨bl,o'+k*sz,none⟩))) w:=fun bl o' hxe fF=>by have h0:(0:Int)<=(k:Int)/\(k:Int)<(n:Int):=(by omega);simp[execOp,ho,Instr.indexAt,hkv,asIntOf,run_underlying hu w,hxe,Instr.sureAddr,h0,eI he w,jS];intro LN;omega
   split at h
   . rename_i n' id off hn dB;cases hn;rw[dB] at vx;split at h
     . rename_i fF;simp only[Ae,Ai] at h;obtain⟨rfl,rfl⟩:=h
       cases eF:a.eval x with
       |pointer p=>
        rw[eF] at vx
        cases vx with
        |ref _ _ l hl=>exact cN.pure' hw (jE _ _ eF fF) (by rw[Br];exact .ref id (off+k*sz) l hl)
       |_=>rw[eF] at vx;cases vx
     cases h
   . rename_i n' cs hn dB;cases hn;rw[dB] at vx;split at h
     . rename_i fF;simp only[Ae,Ai] at h;obtain⟨rfl,rfl⟩:=h
       cases eF:a.eval x with
       |pointer p=>
        rw[eF] at vx
        cases vx with
        |pl _ bl o' us hh hv=>
         refine cN.pure' hw (jE _ _ eF fF) (.pl _ bl (o'+k*sz) (fun j=>us (k*sz+j)) (fun j hj=>?_) (fun j hj=>?_))
         . simp at hj;rw[Br,BX];exact hh (k*sz+j) (by omega)
         simp at hj;rw[BX];exact hv (k*sz+j) (by omega)
       |_=>rw[eF] at vx;cases vx
     cases h
   . rename_i hn _;cases hn
   . rename_i hn _;cases hn
   cases h
 cases h
theorem Xv {t e:TypeId} {x i:Operand} {x' i':Arg} {sz:Nat} (ho:o.op=.indexAddr t x i) (hx:bN g x=some x') (hi:bN g i=some i') (ht:nA P t=some (e,sz)):
 cN P g o (.Sh none sz x' i'):=by
 intro s a G H w v H' hw hs h;have vx:=bM hw hs hx;have vi:=bM hw hs hi;obtain⟨hu,he⟩:=kF ht;simp only[dA] at h;split at h
 . rename_i k hk;obtain⟨kk,LP,hkv⟩:=tD hk vi
   have jE:∀bl o' n cap,a.eval x=.slice (some ⟨bl,o',none⟩) n cap->k<n->(execOp a.eval o).run P w=.ok (.value (.pointer (some ⟨bl,o'+k*sz,none⟩))) w:=fun bl o' n cap hxe fF=>by have h0:(0:Int)<=(k:Int)/\(k:Int)<(n:Int):=(by omega);simp[execOp,ho,Instr.indexAt,hkv,asIntOf,run_underlying hu w,hxe,Instr.sureAddr,h0,eI he w,jS];intro LN;omega
   split at h
   . rename_i hn _;cases hn
   . rename_i hn _;cases hn
   . rename_i tag eP aY hn dB;rw[dB] at vx;split at h
     . rename_i hc;obtain⟨rfl,fF⟩:=hc;simp only[Ae,Ai] at h;obtain⟨rfl,rfl⟩:=h
       cases eF:a.eval x with
       |slice p n cap=>
        rw[eF] at vx
        cases vx with
        |vK=>exact absurd fF (An _)
        |bB _ _ _ bl o' _ us GG hh hv rP=>
         have WJ:(aY.getD k []).length=eP:=by rw[getD_eq,Ad fF];exact GG _ (Ac fF)
         have vI:=length_flatten GG
         have gR:∀j,j<eP->k*eP+j<aY.flatten.length:=fun j hj=>by
          rw[vI]
          calc k*eP+j<k*eP+eP:=by omega
           _=(k+1)*eP:=by rw[Ea]
           _<=aY.length*eP:=Cz _ fF
         refine cN.pure' hw (jE _ _ _ _ eF fF) (.pl _ bl (o'+k*eP) (fun j=>us (k*eP+j)) (fun j hj=>?_) (fun j hj=>?_))
         . rw[WJ] at hj;rw[Br,<-xR GG fF hj];exact hh _ (gR j hj)
         rw[WJ] at hj;rw[<-xR GG fF hj];exact hv _ (gR j hj)
       |_=>rw[eF] at vx;cases vx
     cases h
   . rename_i id eP off len cap hn dB;rw[dB] at vx;split at h
     . rename_i hc;obtain⟨rfl,fF⟩:=hc;simp only[Ae,Ai] at h;obtain⟨rfl,rfl⟩:=h
       cases eF:a.eval x with
       |slice p n cap=>
        rw[eF] at vx
        cases vx with
        |sl _ _ _ _ _ _ l hl hlen gR pL=>exact cN.pure' hw (jE _ _ _ _ eF fF) (by rw[Br];exact .ref id (off+k*eP) l hl)
       |_=>rw[eF] at vx;cases vx
     cases h
   cases h
 cases h
theorem aTd {t:TypeId} {x i:Operand} {x' i':Arg} {n sz:Nat} {b:Bool} (ho:o.op=.index t x i) (hx:bN g x=some x') (hi:bN g i=some i') (ht:zQ P t=some (n,sz,b)):
 cN P g o (.idx n sz b x' i'):=by
 intro s a G H w v H' hw hs h;have vx:=bM hw hs hx;have vi:=bM hw hs hi;obtain⟨e,hu,he,hb⟩:=zS ht;simp only[dA] at h;split at h
 . rename_i k cs hk dB;rw[dB] at vx;obtain⟨kk,LP,hkv⟩:=tD hk vi;obtain⟨us,eF,hl,h1,hv⟩:=vx.uL;split at h
   . rename_i hc;obtain⟨fF,gR⟩:=hc
     have jE:∀u,(part e us.toArray (k*sz)).run P w=.ok u w->(execOp a.eval o).run P w=.ok (.value u) w:=fun u hr=>by have h0:(0:Int)<=(k:Int)/\(k:Int)<(n:Int):=(by omega);simp[execOp,ho,eF,Instr.index,hkv,asIntOf,run_underlying hu w,h0,eI he w,hr];intro LN;omega
     split at h
     . rename_i qW;simp only[Ae,Ai] at h;obtain⟨rfl,rfl⟩:=h;obtain⟨u,hr,Lv⟩:=Vo (P:=P) he hb hl h1 hv gR (fun hf=>by rw[qW] at hf;cases hf);rw[if_pos qW] at Lv;exact cN.pure' hw (jE u hr) Lv
     rename_i qW;split at h
     . rename_i KN;simp only[Ae,Ai] at h;obtain⟨rfl,rfl⟩:=h;obtain⟨u,hr,Lv⟩:=Vo (P:=P) he hb hl h1 hv gR (fun _=>KN);rw[if_neg qW,KN,Ed] at Lv;rw[KN,Ed] at hr;exact cN.pure' hw (jE u (by rw[KN,Ed];exact hr)) Lv
     cases h
   cases h
 cases h
theorem aFx {t:TypeId} {x i:Operand} {x' i':Arg} (ho:o.op=.index t x i) (hx:bN g x=some x') (hi:bN g i=some i') (ht:P.underlying t=some .string):
 cN P g o (.idxs x' i'):=by
 intro s a G H w v H' hw hs h;have vx:=bM hw hs hx;have vi:=bM hw hs hi;simp only[dA] at h;split at h
 . rename_i k str hk dB;rw[dB] at vx;obtain⟨kk,LP,hkv⟩:=tD hk vi;have eF:=vx.lG;split at h
   . rename_i b hb;simp only[Ae,Ai] at h;obtain⟨rfl,rfl⟩:=h;refine cN.pure' hw (u:=.int .u8 b.toNat) ?_ (.int _ _);have fF:=(Bk.1 hb).1
     have LN:(⟨str.toArray⟩:ByteArray)[k]?=some b:=by have bFa:k<(⟨str.toArray⟩:ByteArray).size:=(by simpa [ByteArray.size] using fF);rw[getElem?_pos (⟨str.toArray⟩:ByteArray) k bFa];have :=(Bk.1 hb).2;simpa [ByteArray.getElem_eq_getElem_data] using this
     simp[execOp,ho,Instr.index,hkv,asIntOf,run_underlying ht w,eF,LN]
   cases h
 cases h
theorem aFz {c:Call} {x:Operand} {x':Arg} {t:TypeId} (ho:o.op=.call c) (hc:c.callee=.builtin .len) (ha:c.args= #[x]) (hx:bN g x=some x') (Pf:c.argTypes[0]?=some t)
 (ht:P.underlying t=some .string):cN P g o (.lens x'):=by
 intro s a G H w v H' hw hs h;have vx:=bM hw hs hx;simp only[dA] at h;split at h
 . rename_i str dB;rw[dB] at vx;simp only[Ae,Ai] at h;obtain⟨rfl,rfl⟩:=h;have eF:=vx.lG;refine cN.pure' hw (u:=.int .i64 str.length) ?_ (.int _ _);have kZ:(⟨str.toArray⟩:ByteArray).size=str.length:=by simp[ByteArray.size]
   simp[execOp,ho,resolve,hc,ha,invoke,builtin,Builtin.len_,Pf,run_underlying ht w,eF,goInt];exact Bn (fun n:Nat=>(n:Int)) kZ
 cases h
theorem aGb {c:Call} {x y:Operand} {x' y':Arg} (ho:o.op=.call c) (hc:c.callee=.builtin .max) (ha:c.args= #[x,y]) (hx:bN g x=some x') (hy:bN g y=some y'):cN P g o (.VE x' y'):=by
 intro s a G H w v H' hw hs h;have vx:=bM hw hs hx;have vy:=bM hw hs hy;simp only[dA] at h;split at h
 . rename_i k m k' n h1 h2;rw[h1] at vx;rw[h2] at vy;simp only[Ae,Ai] at h;obtain⟨rfl,rfl⟩:=h;have eF:=vx.iW;have hyv:=vy.iW;refine cN.pure' hw (u:=.int k (if n>m then n else m)) ?_ (.int _ _);simp[execOp,ho,resolve,hc,ha,invoke,builtin,Builtin.max_,Builtin.max2,eF,hyv]
 cases h
theorem aGc {c:Call} {x y:Operand} {x' y':Arg} (ho:o.op=.call c) (hc:c.callee=.builtin .min) (ha:c.args= #[x,y]) (hx:bN g x=some x') (hy:bN g y=some y'):cN P g o (.VH x' y'):=by
 intro s a G H w v H' hw hs h;have vx:=bM hw hs hx;have vy:=bM hw hs hy;simp only[dA] at h;split at h
 . rename_i k m k' n h1 h2;rw[h1] at vx;rw[h2] at vy;simp only[Ae,Ai] at h;obtain⟨rfl,rfl⟩:=h;have eF:=vx.iW;have hyv:=vy.iW;refine cN.pure' hw (u:=.int k (if n<m then n else m)) ?_ (.int _ _);simp[execOp,ho,resolve,hc,ha,invoke,builtin,Builtin.min_,Builtin.min2,eF,hyv]
 cases h
theorem aFy {c:Call} {x:Operand} {x':Arg} {t e:TypeId} (ho:o.op=.call c) (hc:c.callee=.builtin .len) (ha:c.args= #[x]) (hx:bN g x=some x') (Pf:c.argTypes[0]?=some t)
 (ht:P.underlying t=some (.slice e)):cN P g o (.OD x'):=by
 intro s a G H w v H' hw hs h;have vx:=bM hw hs hx
 have jE:∀p n cap,a.eval x=.slice p n cap->(execOp a.eval o).run P w=.ok (.value (.int .i64 n)) w:=fun p n cap eF=>by simp[execOp,ho,resolve,hc,ha,invoke,builtin,Builtin.len_,Pf,run_underlying ht w,eF,goInt]
 simp only[dA] at h;split at h
 . rename_i dB;rw[dB] at vx;simp only[Ae,Ai] at h;obtain⟨rfl,rfl⟩:=h;generalize eF:a.eval x=u at vx;cases vx;exact cN.pure' hw (jE _ _ _ eF) (.int _ _)
 . rename_i tag sz aY dB;rw[dB] at vx;simp only[Ae,Ai] at h;obtain⟨rfl,rfl⟩:=h;generalize eF:a.eval x=u at vx
   cases vx<;>
    exact cN.pure' hw (jE _ _ _ eF) (.int _ _)
 . rename_i id sz off len cap dB;rw[dB] at vx;simp only[Ae,Ai] at h;obtain⟨rfl,rfl⟩:=h;generalize eF:a.eval x=u at vx;cases vx;exact cN.pure' hw (jE _ _ _ eF) (.int _ _)
 cases h
theorem uA {op:BinOp} {t:TypeId} {x y:Operand} {u v:Value} (w:World) (h:∀c,u≠ .agg c) (h':u≠ .nilIface):(eqGuard op t x y u v).run P w=.ok () w:=by
 unfold eqGuard
 cases u<;>first
  |exact absurd rfl h'
  |exact absurd rfl (h _)
  |(cases op<;>rfl)
theorem aFs {op:BinOp} {k k':IntKind} {m n:Int} {v:AV} {t:TypeId} (h:pU op k m k' n=some v) (w:World):
 ∃u,(Go.binOp op t (.int k m) (.int k' n)).run P w=.ok u w/\∀G,VR G w v u:=by
 have key:∀{k:IntKind} {z:Int},∀G,VR G w (.int k z) (.int k z):=fun G=>.int _ _;have aSs:∀{z:Bool},∀G,VR G w (.bool z) (.bool z):=fun G=>.bool _;cases op<;>simp only[pU] at h
 all_goals first
  |(split at h<;>first
     |(cases h;done)
     |(rename_i hk
       first
        |(subst hk
          first
           |(obtain rfl:=Aa h
             refine⟨_,?_,key⟩;simp[Go.binOp,Op.intArith]
             done)
           |(obtain rfl:=Aa h
             refine⟨_,?_,aSs⟩;simp[Go.binOp,Op.intCmp]
             done)
           |(simp only[QL] at h
             obtain rfl:=Aa h;refine⟨_,?_,key⟩;simp[Go.binOp,Op.intBits]
             done)
           |(split at h
             . cases h
             rename_i h0;obtain rfl:=Aa h;refine⟨_,?_,key⟩
             simp[Go.binOp,Op.intDiv,h0]))
        |(obtain rfl:=Aa h
          refine⟨_,?_,key⟩;simp[Go.binOp,Op.shift,hk]
          done)))
theorem aFt {op:BinOp} {x y:List UInt8} {v:AV} {t:TypeId} (h:si op x y=some v) (w:World):
 ∃u,(Go.binOp op t (.string ⟨x.toArray⟩) (.string ⟨y.toArray⟩)).run P w=.ok u w/\∀G,VR G w v u:=by
 have aSs:∀{z:Bool},∀G,VR G w (.bool z) (.bool z):=fun G=>.bool _;have e1:(⟨x.toArray⟩:ByteArray).toList=x:=ByteArray.toList_mk x;have e2:(⟨y.toArray⟩:ByteArray).toList=y:=ByteArray.toList_mk y;cases op<;>simp only[si] at h
 case add=>
  split at h
  . rename_i hle;obtain rfl:=Aa h;refine⟨.string (⟨x.toArray⟩++⟨y.toArray⟩),?_,fun G=>?_⟩
    . have h1:(⟨x.toArray⟩:ByteArray).size=x.length:=(by simp[ByteArray.size]);have h2:(⟨y.toArray⟩:ByteArray).size=y.length:=by simp[ByteArray.size]
      have hm:¬(((⟨x.toArray⟩:ByteArray).size+(⟨y.toArray⟩:ByteArray).size:Nat):Int)>IntKind.i64.max:=by rw[h1,h2];have :IntKind.i64.max=9223372036854775807:=(by decide);omega
      simp only[Go.binOp,Op.stringOp,if_neg hm];rfl
    have :(⟨x.toArray⟩++⟨y.toArray⟩:ByteArray)=⟨(x++y).toArray⟩:=by apply ByteArray.ext;simp
    rw[this];exact VR.Yl G w _
  cases h
 all_goals first
  |(cases h;done)
  |(obtain rfl:=Aa h
    refine⟨_,?_,aSs⟩;simp only[Go.binOp,Op.stringOp,e1,e2]
    rfl)
theorem zc {op:BinOp} {t t2:TypeId} {x y:Operand} {x' y':Arg} (ho:o.op=.binOp op t x y t2) (hx:bN g x=some x') (hy:bN g y=some y'):cN P g o (.bin op x' y'):=by
 intro s a G H w v H' hw hs h;have vx:=bM hw hs hx;have vy:=bM hw hs hy;simp only[dA] at h;split at h
 . rename_i k m k' n h1 h2;rw[h1] at vx;rw[h2] at vy;have e1:=vx.iW;have e2:=vy.iW;simp only[Ah,Ai] at h;obtain⟨v',mT,rfl,rfl⟩:=h;obtain⟨u,hr,hv⟩:=aFs (P:=P) (t:=t) mT w;refine cN.pure' hw (u:=u) ?_ (hv G);have sH:=uA (P:=P) (op:=op) (t:=t) (x:=x) (y:=y) (u:=.int k m) (v:=.int k' n) w (fun c=>by simp) (by simp);simp[execOp,ho,e1,e2,sH,hr]
 . rename_i m n h1 h2;rw[h1] at vx;rw[h2] at vy;have e1:=vx.lG;have e2:=vy.lG;simp only[Ah,Ai] at h;obtain⟨v',mT,rfl,rfl⟩:=h;obtain⟨u,hr,hv⟩:=aFt (P:=P) (t:=t) mT w;refine cN.pure' hw (u:=u) ?_ (hv G);have sH:=uA (P:=P) (op:=op) (t:=t) (x:=x) (y:=y) (u:=.string ⟨m.toArray⟩) (v:=.string ⟨n.toArray⟩) w (fun c=>by simp) (by simp);simp[execOp,ho,e1,e2,sH,hr]
 cases h
theorem HE (d:Nat) {t:TypeId} (ht:P.underlying t=some .bool) (w:World) (m n:Bool):(Op.equalIn (d+1) t (.bool m) (.bool n)).run P w=.ok (m==n) w:=by rw[Op.equalIn];simp only[Sem.run_bind,run_underlying ht w,Result.andThen_ok];rfl
theorem aTa {op:BinOp} {neg:Bool} {t t2:TypeId} {x y:Operand} {x' y':Arg} (ho:o.op=.binOp op t x y t2) (fL:op=if neg then .neq else .eql) (ht:P.underlying t=some .bool)
 (hx:bN g x=some x') (hy:bN g y=some y'):cN P g o (.eqb neg x' y'):=by
 intro s a G H w v H' hw hs h;have vx:=bM hw hs hx;have vy:=bM hw hs hy;simp only[dA] at h;split at h
 . rename_i m n h1 h2;rw[h1] at vx;rw[h2] at vy;have e1:=vx.jT;have e2:=vy.jT;simp only[Ae,Ai] at h;obtain⟨rfl,rfl⟩:=h;refine cN.pure' hw (u:=.bool (if neg then !(m==n) else(m==n))) ?_ (.bool _);have sH:=uA (P:=P) (op:=op) (t:=t) (x:=x) (y:=y) (u:=.bool m) (v:=.bool n) w (fun c=>by simp) (by simp)
   have heq:(Op.equal t (.bool m) (.bool n)).run P w=.ok (m==n) w:=by exact HE 9999 ht w m n
   subst fL;cases neg<;>simp only[Bb,Bq,if_true] at ho sH<;>simp[execOp,ho,e1,e2,sH,Go.binOp,heq]
 cases h
theorem bCw {op:UnOp} {t:TypeId} {x:Operand} {x':Arg} (ho:o.op=.unOp op t x) (hx:bN g x=some x'):cN P g o (.un op x'):=by
 intro s a G H w v H' hw hs h;have vx:=bM hw hs hx;simp only[dA,Ah,Ai] at h;obtain⟨v',mT,rfl,rfl⟩:=h;unfold unA at mT;split at mT
 . rename_i k n h1;rw[h1] at vx;have e1:=vx.iW;split at mT
   . obtain rfl:=Aa mT;exact cN.pure' hw (u:=.int k (k.wrap (0 -n))) (by simp[execOp,ho,e1,Op.unary,Op.intArith]) (.int _ _)
   . simp only[QL] at mT;obtain rfl:=Aa mT;exact cN.pure' hw (u:=.int k _) (by simp[execOp,ho,e1,Op.unary,Op.intBits]) (.int _ _)
   cases mT
 . rename_i b h1;rw[h1] at vx;have e1:=vx.jT;split at mT
   . obtain rfl:=Aa mT;exact cN.pure' hw (u:=.bool !b) (by simp[execOp,ho,e1,Op.unary]) (.bool _)
   cases mT
 cases mT
theorem zd {src dst:TypeId} {k:IntKind} {d:TypeDesc} {x:Operand} {x':Arg} (ho:o.op=.convert src dst x) (hx:bN g x=some x') (CC:P.underlying src=some d)
 (hd:P.underlying dst=some (.int k)):cN P g o (.NN k x'):=by
 intro s a G H w v H' hw hs h;have vx:=bM hw hs hx;simp only[dA] at h;split at h
 . rename_i k' n h1;rw[h1] at vx;have e1:=vx.iW;simp only[Ae,Ai] at h;obtain⟨rfl,rfl⟩:=h;refine cN.pure' hw (u:=.int k (k.wrap n)) ?_ (.int _ _);simp only[execOp,ho,e1,Go.convert,Sem.run_bind,run_underlying CC w,run_underlying hd w,Result.andThen_ok,Conv.intToInt];rfl
 cases h
theorem aGi {t ti:TypeId} {ok:Bool} {d:TypeDesc} {z:AV} {zv:Value} {x:Operand} {x':Arg} (ho:o.op=.typeAssert x ti t ok) (hx:bN g x=some x')
 (hd:P.underlying t=some d) (hni:∀ms,d≠ .interface ms) (hz:lH P t=some zv) (hzc:ofConst zv=some z):cN P g o (.Yp t ok z x'):=by
 intro s a G H w v H' hw hs h;have vx:=bM hw hs hx;have hzero:=kV hz w;have hzr:=FO hzc G w
 have two:∀{p q:AV} {u1 u2:Value},VR G w p u1->VR G w q u2->VR G w (.iA [p,q]) (.tuple #[u1,u2]):=fun h1 h2=>.iA [_,_] [_,_] rfl (h1.cons (h2.cons (iK.nil G w))).2
 have hh:∀(y:Value) (r:Value),(Instr.typeAssert y ti t ok).run P w=.ok r w->a.eval x=y->(execOp a.eval o).run P w=.ok (.value r) w:=fun y r hr he=>by simp[execOp,ho,he,hr]
 have sF:∀(ms:Array (String×TypeId)),d=TypeDesc.interface ms->False:=fun ms he=>hni ms he;simp only[dA] at h;split at h
 . rename_i t' y h1;rw[h1] at vx;generalize eF:a.eval x=u at vx
   cases vx with
   |iface _ _ yv hy=>
    split at h
    . rename_i htt;subst htt;simp only[Ae,Ai] at h;obtain⟨rfl,rfl⟩:=h;refine cN.pure' hw (u:=if ok then .tuple #[yv,.bool true] else yv) (hh _ _ ?_ eF) (by cases ok<;>simp <;>first|exact hy|exact two hy (.bool true));unfold Instr.typeAssert;simp only[Sem.run_bind,run_underlying hd w,Result.andThen_ok]
      cases d<;>first|exact absurd rfl (hni _)|simp
    rename_i htt;split at h
    . rename_i rO;simp only[Ae,Ai] at h;obtain⟨rfl,rfl⟩:=h;refine cN.pure' hw (u:=.tuple #[zv,.bool false]) (hh _ _ ?_ eF) (two hzr (.bool false));unfold Instr.typeAssert;simp only[Sem.run_bind,run_underlying hd w,Result.andThen_ok]
      cases d<;>first|exact absurd rfl (hni _)|simp[htt,rO,hzero]
    cases h
 . rename_i h1;rw[h1] at vx;generalize eF:a.eval x=u at vx;cases vx;split at h
   . rename_i rO;simp only[Ae,Ai] at h;obtain⟨rfl,rfl⟩:=h;refine cN.pure' hw (u:=.tuple #[zv,.bool false]) (hh _ _ ?_ eF) (two hzr (.bool false));unfold Instr.typeAssert;simp only[Sem.run_bind,run_underlying hd w,Result.andThen_ok]
     cases d<;>first|exact absurd rfl (hni _)|simp[rO,hzero]
   cases h
 cases h
end
end
end Go.Av
