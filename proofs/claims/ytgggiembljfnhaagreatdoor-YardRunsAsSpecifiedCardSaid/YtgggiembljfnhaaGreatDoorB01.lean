/-
  Part of the proof of statement 12
-/
import Derived.Calls
import Derived.Orders
import Derived.Laws.Sem
import Derived.Laws.Cells
import Derived.Laws.Entries
import Derived.Laws.Strings
set_option linter.unusedVariables false
set_option linter.unusedSimpArgs false
set_option linter.defProp false
namespace Go
def Aa:=@Option.some.inj
def Ab:=@Nat.le_refl
def Ac:=@List.getElem_mem
def Ad:=@List.getElem?_eq_getElem
def Ae:=@Option.some.injEq
def Af:=@List.length_map
def Ag:=@decide_eq_false
def Ah:=@Option.map_eq_some_iff
def Ai:=@Nat.le_of_ble_eq_true
def Aj:=@decide_eq_true
def Ak:=@Prod.mk.injEq
def Al:=@Bool.and_eq_true
def Am:=@List.mem_cons
def An:=@List.take_add_one
def Ao:=@List.mem_append
def Ap:=@Nat.not_lt_zero
def Aq:=@List.take_of_length_le
def Ar:=@List.mem_cons_self
def As:=@List.length_cons
def Au:=@List.mem_cons_of_mem
def Aw:=@List.all_eq_true
def Ax:=@List.take_length
def Ay:=@List.mem_range
def Az:=@Nat.zero_le
def Ba:=@List.length_append
def Bb:=@Bool.false_eq_true
def Bc:=@Option.isSome_some
def Bd:=@decide_eq_true_eq
def Be:=@Nat.eq_of_beq_eq_true
def Bf:=@List.mem_map
def Bg:=@List.getD_eq_getElem?_getD
def Bh:=@decide_eq_false_iff_not
def Bi:=@Option.getD_some
def Bj:=@List.not_mem_nil
def Bk:=@List.getElem?_eq_some_iff
def Bl:=@List.flatten_cons
def Bm:=@List.length_nil
def Bn:=@congrArg
def Bo:=@Array.getD_eq_getD_getElem?
def Bp:=@if_false
def Bq:=@beq_eq_false_iff_ne
def Br:=@Nat.add_assoc
def Bs:=@decide_eq_decide
def Bt:=@Nat.mul_le_mul
def Bu:=@Option.map_some
def Bv:=@List.getElem?_eq_none
def Bw:=@List.length_range
def Bx:=@List.length_set
def By:=@List.mem_of_mem_take
def Bz:=@List.any_eq_true
def Ca:=@List.drop_of_length_le
def Cb:=@List.map_cons
def Cc:=@List.mem_singleton
def Cd:=@Nat.le_trans
def Ce:=@List.take_append_of_le_length
def Cf:=@beq_iff_eq
def Cg:=@Array.getElem?_eq_some_iff
def Ch:=@List.append_nil
def Ci:=@Bool.eq_iff_iff
def Cj:=@Option.isSome_none
def Ck:=@Nat.lt_of_lt_of_le
def Cl:=@List.pairwise_cons
def Cm:=@List.eq_nil_of_length_eq_zero
def Cn:=@Bool.not_eq_true'
def Co:=@Bool.true_and
def Cp:=@Bool.and_self
def Cq:=@Nat.zero_add
def Cr:=@Classical.byContradiction
def Cs:=@Nat.add_mul
def Ct:=@List.map_append
def Cu:=@of_decide_eq_true
def Cv:=@List.getElem?_map
def Cw:=@Nat.add_zero
def Cx:=@Nat.mul_le_mul_right
def Cy:=@Bool.or_eq_false_iff
def Cz:=@List.length_take
def Da:=@List.any_eq_false
def Db:=@List.nil_append
def Dc:=@Array.length_toList
def Dd:=@bne_iff_ne
def De:=@Nat.lt_trans
def Df:=@or_false
def Dg:=@Nat.mul_comm
def Dh:=@List.length_filter_le
def Di:=@Nat.mod_lt
def Dk:=@List.drop_eq_getElem_cons
def Dl:=@Nat.mod_eq_of_lt
def Dm:=@Bool.or_eq_true
def Dn:=@of_decide_eq_false
def Dp:=@List.take_succ_cons
def Dq:=@List.getElem_map
def Dr:=@Int.toNat_natCast
def Ds:=@Nat.pow_le_pow_right
def Dt:=@List.mem_of_mem_drop
def Du:=@List.getElem?_append
def Dv:=@Array.getElem?_eq_getElem
def Dw:=@Nat.succ_mul
def Dx:=@List.replicate_succ
def Dy:=@List.getD_cons_zero
def Ea:=@Nat.div_lt_iff_lt_mul
def Eb:=@List.getElem?_toArray
def Ec:=@Int.gcd_dvd_right
def Ed:=@Nat.mul_one
def Ee:=@List.drop_zero
def Ef:=@Option.getD_none
def Eg:=@Nat.pow_succ
def Eh:=@Nat.div_eq_of_lt
def Ei:=@Bool.not_eq_true
def Ej:=@List.getElem_of_mem
def Ek:=@List.append_assoc
def El:=@List.all_eq_false
def Em:=@Int.mul_le_mul_of_nonneg_left
def En:=@Int.natAbs_natCast
def Eo:=@Int.lt_or_eq_of_le
def Ep:=@Nat.mul_add
def Er:=@List.cons_append
def Es:=@List.set_eq_take_append_cons_drop
def Et:=@Int.tmod_eq_emod_of_nonneg
def Eu:=@Nat.mul_le_mul_left
def Ev:=@List.getElem?_append_left
def Ew:=@Decidable.byContradiction
def Ex:=@Nat.lt_succ_self
def Ey:=@List.eq_nil_iff_forall_not_mem
def Ez:=@Nat.lt_irrefl
def Fa:=@Nat.add_comm
def Fb:=@Bool.and_true
def Fc:=@List.take_zero
def Fe:=@List.flatMap_cons
def Ff:=@Nat.div_add_mod
def Fg:=@List.range_succ
def Fh:=@List.mem_filter
def Fj:=@Array.getElem?_setIfInBounds
def Fk:=@Array.ext'
def Fl:=@List.map_congr_left
def Fm:=@List.flatten_append
def Fo:=@List.map_nil
def Fp:=@List.mem_flatMap
def Fq:=@List.length_drop
def Fs:=@List.ext_getElem
def Ft:=@Int.gcd_dvd_left
def Fu:=@Option.toList_some
def Fv:=@List.getElem?_drop
def Fx:=@List.getElem?_append_right
def Fy:=@List.exists_cons_of_ne_nil
def Fz:=@Int.tdiv_eq_ediv_of_nonneg
def Ga:=@Int.natAbs_mul
def Gb:=@Bool.not_false
def Gc:=@List.pairwise_iff_getElem
def Gd:=@List.ext_getElem?
def Ge:=@Int.lt_trichotomy
def Gf:=@Bool.or_true
def Gg:=@List.getD_cons_succ
def Gi:=@List.getElem?_replicate
def Gj:=@List.getElem?_cons_zero
def Gk:=@List.getElem?_cons_succ
def Gl:=@List.countP_cons
def Gm:=@decide_true
def Gn:=@Nat.le_succ
def Gp:=@Nat.lt_or_ge
def Gq:=@Nat.blt_eq
def Gr:=@List.map_map
def Gs:=@List.drop_eq_nil_of_le
def Gt:=@Int.mul_zero
def Gu:=@Nat.mul_assoc
def Gv:=@Int.dvd_trans
def Gw:=@Bool.not_true
def Gx:=@Array.getElem?_modify
def Gy:=@Nat.gcd_zero_left
def Gz:=@List.size_toArray
def Ha:=@List.getElem?_set
def Hb:=@List.Pairwise.imp
def Hc:=@Int.mul_lt_mul_of_pos_right
def Hd:=@Nat.add_mul_div_left
def Hg:=@List.mem_iff_getElem
def Hh:=@Nat.le_add_right
def Hi:=@List.drop_length
def Hj:=@List.drop_append
def Hk:=@List.mem_take_iff_getElem
def Hl:=@List.extract_eq_take_drop
def Hn:=@List.eq_of_mem_replicate
def Ho:=@List.foldl_cons
def Hq:=@Nat.eq_zero_or_pos
def Hr:=@List.getElem_range
def Ht:=@List.getElem?_take
def Hu:=@List.find?_eq_none
def Hv:=@Nat.one_mul
def Hw:=@List.length_eq_zero_iff
def Hx:=@Int.tdiv_eq_ediv_of_dvd
def Hy:=@not_false_eq_true
def Hz:=@Nat.gcd_comm
def Ia:=@Nat.div_div_eq_div_mul
def Ib:=@List.map_set
def Ic:=@Decidable.not_not
def Ie:=@List.take_append_drop
def Ig:=@Classical.choose_spec
def Ih:=@Nat.le_of_not_lt
def Ii:=@List.mem_flatten
def Ij:=@Array.toList_map
def Ik:=@List.all_cons
def Il:=@List.drop_append_of_le_length
def Im:=@Int.neg_mul
def Io:=@Int.mul_pos
def Ip:=@List.cons.injEq
def Iq:=@List.any_append
def Ir:=@List.map_eq_nil_iff
def Is:=@List.getElem?_range
def It:=@List.flatMap_append
def Iu:=@List.drop_succ_cons
def Iv:=@decide_false
def Iw:=@Nat.zero_mul
def Ix:=@Nat.sub_zero
def Iy:=@List.drop_length_add_append
def Iz:=@Option.isNone_none
def Ja:=@Nat.lt_of_le_of_lt
def Jb:=@List.filter_append
def Jc:=@List.drop_drop
def Jd:=@Int.fdiv_eq_ediv_of_nonneg
def Je:=@Bool.false_and
def Jf:=@Int.eq_of_mul_eq_mul_left
def Jg:=@bne_self_eq_false
def Jh:=@Nat.lt_trichotomy
def Ji:=@List.pairwise_map
def Jj:=@List.foldl_append
def Jk:=@List.Pairwise.imp_of_mem
def Jl:=@List.filter_cons
def Jm:=@decide_not
def Jn:=@Nat.le_mul_of_pos_left
def Jo:=@List.pairwise_lt_range
def Jp:=@List.find?_cons_of_pos
def Jq:=@Int.ne_of_gt
def Jr:=@Array.getElem?_eq_none
def Js:=@Nat.div_le_self
def Jt:=@List.nodup_cons
def Ju:=@List.filter_nil
def Jv:=@Int.mul_eq_zero
def Jw:=@Nat.ble_eq_true_of_le
def Jx:=@List.sizeOf_lt_of_mem
def Jy:=@List.length_replicate
def Jz:=@Bool.and_eq_false_iff
def Ka:=@true_and
def Kb:=@and_true
def Kc:=@Nat.pow_add
def Kd:=@List.nodup_nil
def Ke:=@List.map_id
def Kf:=@Int.natAbs_neg
def Kg:=@Int.mul_ediv_cancel'
def Kh:=@Int.toNat_of_nonneg
def Ki:=@Int.neg_ediv_of_dvd
def Kj:=@Array.getElem?_push
def Kk:=@List.drop_nil
def Kl:=@Bool.or_false
def Km:=@Bool.false_or
theorem Zaa{p:Prop}(h:p:=by simp[eE.args]):p:=h
theorem Zab{p:Prop}(h:p:=by exact⟨rfl,_,by simp only[↓zP,zR,seval];rfl,rfl⟩):p:=h
theorem Zac{p:Prop}(h:p:=by apply bW;clear bW K2;refine Tz ?_;refine Rx ?_;rw[fS rfl];rfl):p:=h
theorem Zad{p:Prop}(h:p:=by
 refine⟨H1.next,H2.next,H3.next,H4.next,H5.next,r1.dH (by omega) (by omega) fun j h1 h2=>?_,r2.dH (by omega) (by omega) fun j h1 h2=>?_,r3.dH (by omega) (by omega) fun j h1 h2=>?_,r4.dH (by omega) (by omega) fun j h1 h2=>?_,r5.dH (by omega) (by omega) fun j h1 h2=>?_,r6.dH (by omega) (by rw[aA.aW];omega) fun j h1 h2=>?_,by rw[aA.aW];omega⟩
 . rw[st _ (by omega),k6 _ (by omega),k5 _ (by omega),k4 _ (by omega),k3 _ (by omega),k2 _ (by omega)]
 . rw[st _ (by omega),k6 _ (by omega),k5 _ (by omega),k4 _ (by omega),k3 _ (by omega)]
 . rw[st _ (by omega),k6 _ (by omega),k5 _ (by omega),k4 _ (by omega)]
 . rw[st _ (by omega),k6 _ (by omega),k5 _ (by omega)]
 . rw[st _ (by omega),k6 _ (by omega)]
 rw[st _ (by omega)]):p:=h
theorem Zae{p:Prop}(h:p:=by exact tB (by omega)):p:=h
theorem Zaf{p:Prop}(h:p:=by simp only[aA.aR];omega):p:=h
theorem Zag{p:Prop}(h:p:=by simp only[sf]):p:=h
theorem Zah{p:Prop}(h:p:=by simp;omega):p:=h
theorem Zai{p:Prop}(h:p:=by subst hX;rw[aA.aC,if_pos rfl]):p:=h
theorem Zaj{p:Prop}(h:p:=by simp only[↓zP,zJ,seval,SL,XO,g2,g3,mE,JE,oL JE];refine⟨rfl,_,by simp only[↓zP,zR,seval,SL,XO,mE,oL (mE _)];rfl,?_⟩;rw[Zg];rfl):p:=h
theorem Zak{p:Prop}(h:p:=by
 dsimp only;have hd:=DI ha hb x7 hx1 MT hy1 hy;have la:=ha.len;have lb:=hb.len;have JE:(AV.bool false::AV.bool false::wC zs).length=18:=by simp[dM];rfl
 have mE:∀z,(cI z).length=18:=fun z=>dZ z;generalize EN x y=d at *;refine bQ ?_;refine Ty ?_;refine bR ?_;simp only[↓zP,zJ,seval,oL la,oL lb];refine bY (hd _) ?_;simp only[↓zP,zJ,seval,mE,JE,oL JE,oL (mE _)];refine⟨rfl,_,by simp only[↓zP,zR,seval,mE,oL (mE _)];rfl,?_⟩;rfl):p:=h
theorem Zal{p:Prop}(h:p:=by simp only[sf,cT]):p:=h
theorem Zam{p:Prop}(h:p:=by
 split
 . rename_i hw;rw[if_pos hw] at h;split
   . rename_i hf;rw[if_pos hf] at h;obtain⟨ob,val,h1,h2,h3⟩:=h;exact⟨ob,val,h1,h2,ih hq h3⟩
   rename_i hf;rw[if_neg hf] at h;split
   . rename_i he;rw[if_pos he] at h;obtain⟨v,H',h1,h2,h3,h4⟩:=h;exact⟨v,H',h1,h2,h3,ih hq h4⟩
   rename_i he;rw[if_neg he] at h;obtain⟨v,h1,h2,h3⟩:=h;exact⟨v,h1,h2,ih hq h3⟩
 rename_i hw;rw[if_neg hw] at h;exact ih hq h):p:=h
theorem Zan{p:Prop}(h:p:=by
 simp only[Ah] at h;obtain⟨y,hy,he⟩:=h;cases he;exact⟨x,ho,hy⟩
 all_goals exfalso
 all_goals (try unfold pZ at h)
 all_goals (try unfold kB at h)
 all_goals (try unfold mI at h)
 all_goals (try unfold nO at h)
 all_goals (try unfold qA at h)
 all_goals (try unfold iK at h)
 all_goals repeat' (split at h)
 all_goals first
  |(cases h;done)
  |(simp only[Ah] at h;obtain⟨_,_,h⟩:=h;cases h;done)):p:=h
theorem Zao{p:Prop}(h:p:=by simp only[↓zP,zJ,seval,zD,w4,w5,w7,g1,g2,lo,o0,ls,t4,aB,bZ,jQ,DN,gU];apply bW;clear bW K2;refine Tz ?_;refine Rx ?_;exact fin E):p:=h
theorem Zap{p:Prop}(h:p:=by
 dsimp only
 rcases h with ⟨rfl,rfl⟩|rfl
 . simp only[↓zP,zJ,seval,rU,Gf,Cp];refine Rx ?_;exact⟨rfl,rfl⟩
 simp only[↓zP,zJ,seval,rU,Gf,Fb,sD,cK,ha];refine Rx ?_;exact⟨rfl,rfl⟩):p:=h
theorem Zaq{p:Prop}(h:p:=by simp only[dS,zB,seval]):p:=h
theorem Zar{p:Prop}(h:p:=by simp only[↓zP,zJ,seval,zD];exact key _ (by simp only[zB,seval];exact v1) (by simp only[zB,seval];exact v5) (by simp only[zB,seval];exact v6) (by simp only[zB,seval];rw[<-hB];rfl)):p:=h
theorem Zas{p:Prop}(h:p:=by
 rw[An,Ao] at hv
 rcases hv with h|h
 . exact .inl h
 simp[hi] at h;exact .inr h):p:=h
theorem Zat{p:Prop}(h:p:=by subst hX;simp only[aA.aW,aA.aR];omega):p:=h
theorem Zau{p:Prop}(h:p:=by
 refine bQ ?_;simp only[↓zP,zJ,seval,f3,g1];refine bY (FZ _) ?_;refine Tz ?_;refine fF ?_;simp only[↓zP,zJ,seval,f3,g1];refine bR ?_;refine aN fun K hK=>?_;generalize eQ:decide (n≥0)=b1 at *;generalize gJ:decide (n<nU)=b2 at *;cases b1<;>
 . simp only[↓zP,zJ,seval,f2,f3,g0,g1,lu,eQ,gJ];refine Rx ?_;rw[hN];rfl):p:=h
theorem Zav{p:Prop}(h:p:=by simp only[sf,dG]):p:=h
theorem Zaw{p:Prop}(h:p:=by rw[show jC l C S L=(.aO,1) from (if_neg SP).trans (if_pos (Pk (by omega)))];exact⟨_,2,rfl,fun nw=>rfl⟩):p:=h
theorem Zax{p:Prop}(h:p:=by subst hV;exact⟨s,hs,⟨rfl,rfl,rfl,rfl,rfl,rfl⟩,hW⟩):p:=h
theorem Zay{p:Prop}(h:p:=by refine Tz ?_;refine Rx ?_;exact fin E):p:=h
theorem Zaz{p:Prop}(h:p:=by
 rcases qo with ⟨rfl,h⟩|⟨k,rfl,h1,h2⟩
 . rw[h];rfl
 have cQ:¬cH (iH C S L)=[]:=fun h=>by have :=qe (by simpa [cH] using h);cases this
 rw[show lG 3 (cH (iH C S L))=.bD 0 3 (cH (iH C S L)) from if_neg cQ];have ML:dT (cH (iH C S L))=true:=eK cT _;simp[fG,CX,fA,ML,IZ,nB,AV.free]):p:=h
theorem ZaA{p:Prop}(h:p:=by
 refine bQ ?_;simp only[↓zP,zJ,seval,f3,g1];refine bY (FZ _) ?_;refine Tz ?_;refine bR ?_;refine aN fun K hK=>?_;generalize eQ:decide (n≥0)=b1 at *;generalize gJ:decide (n<nR)=b2 at *;cases b1<;>
 . simp only[↓zP,zJ,seval,f2,f3,g0,g1,lr,eQ,gJ];refine Rx ?_;rw[hN];rfl):p:=h
theorem ZaB{p:Prop}(h:p:=by simp only[sf,ha.free,hb.free]):p:=h
theorem ZaC{p:Prop}(h:p:=by simpa using hj):p:=h
theorem ZaD{p:Prop}(h:p:=by rw[aS];exact hi):p:=h
theorem ZaE{p:Prop}(h:p:=by exact⟨_,2,rfl,fun nw=>rfl⟩):p:=h
theorem ZaF{p:Prop}(h:p:=by refine Rx ?_;rw[fS (by omega)];rfl):p:=h
theorem ZaG{p:Prop}(h:p:=by
 refine aN fun K hK=>?_;simp only[↓zP,zJ,seval,f3,g1];refine bY (FZ _) ?_;generalize eQ:decide (n≥1)=b1 at *;generalize gJ:decide (n<=nT)=b2 at *;cases b1<;>
 . simp only[↓zP,zJ,seval,f2,f3,g0,g1,lt,eQ,gJ];refine Rx ?_;rw[hN];rfl):p:=h
theorem ZaH{p:Prop}(h:p:=by subst mT;simp only[zB,seval]):p:=h
theorem ZaI{p:Prop}(h:p:=by simp only[zB,seval];exact f3):p:=h
theorem ZaJ{p:Prop}(h:p:=by simp only[zB,seval];exact f2):p:=h
theorem ZaK{p:Prop}(h:p:=by simp only[sf,dL ht]):p:=h
theorem ZaL{p:Prop}(h:p:=by simp only[AV.free,dG]):p:=h
theorem ZaM{p:Prop}(h:p:=by
 refine key _ ?_ ?_ ?_ ?_ ?_ ?_
 . simp only[zB,seval];exact k0
 . simp only[zB,seval];exact k2
 . simp only[zB,seval];exact k4
 . simp only[zB,seval];exact k10
 . simp only[zB,seval];rw[v7,e1]
 simp only[zB,seval];exact v8):p:=h
theorem ZaN{p:Prop}(h:p:=by simp only[sm,zB,seval]):p:=h
theorem ZaO{p:Prop}(h:p:=by rw[aA.aC,if_pos rfl,nN,Ib,Es,if_pos (by rw[Af];exact hn)];simp):p:=h
theorem ZaP{p:Prop}(h:p:=by refine Rx ?_;exact⟨rfl,by omega,fun j hj _=>gk j hj,mB⟩):p:=h
theorem ZaQ{p:Prop}(h:p:=by refine Rx ?_;rfl):p:=h
theorem ZaR{p:Prop}(h:p:=by exact⟨rfl,rfl⟩):p:=h
theorem ZaS{p:Prop}(h:p:=by rename_i dC;rw[dC] at vx;generalize eG:a.eval x=u at vx;cases vx;simp only[Ae,Ak] at h;obtain⟨rfl,rfl⟩:=h;exact cP.pure' hw (fK eG (by simp[Builtin.clear_,Pj,run_underlying ht w])) (VR.oK G w)):p:=h
theorem ZaT{p:Prop}(h:p:=by refine⟨rfl,_,by simp only[↓zP,zR,seval,v6];rfl,?_⟩;subst hV;exact⟨_,1,rfl,fun nw=>sS _ _ nw⟩):p:=h
theorem ZaU{p:Prop}(h:p:=by simp only[↓zP,zJ,seval,h1,eQ];refine aJ ?_;simp only[↓zP,zG,seval,h0,h1];rw[if_neg MT];simp only[zG,seval];exact⟨_,fJ,trivial,y,x.tmod y,by simp only[seval],hy,by omega,rfl,by rw[Ni,hg]⟩):p:=h
theorem ZaV{p:Prop}(h:p:=by rw[eP 1 rfl];simp only[zB,seval];exact u1):p:=h
theorem ZaW{p:Prop}(h:p:=by
 by_cases e:k=i
 . subst e;exact h
 exact bU k (by omega)):p:=h
theorem ZaX{p:Prop}(h:p:=by refine bY (Kr (decide (z<0)) hl _) ?_;simp only[↓zP,zJ,Nat.reduceEqDiff,Nat.reduceAdd,iL hl,fin,fs];exact⟨rfl,_,by simp only[↓zP,zR,Nat.reduceEqDiff,Nat.reduceAdd,iL hl];rfl,rfl⟩):p:=h
theorem ZaY{p:Prop}(h:p:=by simp only[sf,jI]):p:=h
theorem ZaZ{p:Prop}(h:p:=by
 rw[An,Ao] at hx
 rcases hx with hx|hx
 . exact bU x hx
 simp[gQ] at hx;subst hx;simpa [gQ] using h):p:=h
theorem Za0{p:Prop}(h:p:=by simp only[iW,Array.toList_append,Array.toList_replicate,Gz,hlen,h4];refine hv.append ⟨by simp,fun j hj=>?_⟩;simp only[Jy] at hj;simp only[Bg,Gi,hj,if_true,Bi];exact VR.oK G w):p:=h
theorem Za1{p:Prop}(h:p:=by simp only[Sem.run_bind,run_underlying hu w,Result.andThen_ok];rfl):p:=h
theorem Za2{p:Prop}(h:p:=by unfold rN at *;omega):p:=h
theorem Za3{p:Prop}(h:p:=by
 rcases h2 with h2|⟨j,av,vv,a1,a2,a3,a4,a5,a6⟩
 . exact .inl h2
 refine .inr ⟨j,av,vv,a1,a2,a3,by omega,by simp;omega,?_⟩;rw[show j -i=(j -(i+1))+1 by omega,Gg];exact a6):p:=h
theorem Za4{p:Prop}(h:p:=by split<;>omega):p:=h
theorem Za5{p:Prop}(h:p:=by simp only[zB,seval];exact v7):p:=h
theorem Za6{p:Prop}(h:p:=by simp only[zM] at oU;rw[Ax] at ho;refine Tx ?_;apply hK;clear hK K;simp only[↓zP,zG,seval,oU];refine⟨rfl,_,by simp only[↓zP,zR,seval];rfl,?_⟩;exact⟨w,rfl,ho⟩):p:=h
theorem Za7{p:Prop}(h:p:=by simp only[aA.aW];omega):p:=h
theorem Za8{p:Prop}(h:p:=by
 refine Tx ?_;apply hK;clear hK K;refine Tz ?_;refine Rx ?_
 have :ID l=true:=by unfold ID;rw[Aw];exact fun x hx=>Aj (bU x (by rw[Aq (by omega)];exact hx))
 rw[this];rfl):p:=h
theorem Za9{p:Prop}(h:p:=by subst hX;rw[aA.aC,if_neg (by omega),aA.aG,if_neg (by omega)];exact m0):p:=h
theorem Zba{p:Prop}(h:p:=by
 constructor
 . rintro(h|h|h)
   . exact .inr (.inl h)
   . exact .inl h
   exact .inr (.inr h)
 rintro(h|h|h)
 . exact .inr (.inl h)
 . exact .inl h
 exact .inr (.inr h)):p:=h
theorem Zbb{p:Prop}(h:p:=by
 rw[ih _ _ _ _ hd];by_cases he:Nat.div m 2=Nat.div n 2
 . rw[if_pos he,if_pos];rw[Um (by rw[hb,vh]) he]
 rw[if_neg he,if_neg];intro hh;apply he;rw[Nat.succ.inj hh]):p:=h
theorem Zbc{p:Prop}(h:p:=by simp only[Ae,Ak] at h ⊢;simp_all):p:=h
theorem Zbd{p:Prop}(h:p:=by
 rw[An,Ao] at hp
 rcases hp with hp|hp
 . exact bU p hp
 simp[hi] at hp;subst hp;exact h):p:=h
theorem Zbe{p:Prop}(h:p:=by simp only[zB,Nat.reduceEqDiff]):p:=h
theorem Zbf{p:Prop}(h:p:=by
 split at h
 . obtain rfl:=Aa h;cases hp
 cases h):p:=h
theorem Zbg{p:Prop}(h:p:=by simp only[vec,sub,V.mk.injEq] at this;exact V.ext' (by omega) (by omega) (by omega)):p:=h
theorem Zbh{p:Prop}(h:p:=by exact⟨trivial,trivial,Bn AV.bool (Ag (by omega)).symm⟩):p:=h
theorem Zbi{p:Prop}(h:p:=by simpa using h):p:=h
theorem Zbj{p:Prop}(h:p:=by rw[eP 4 rfl];simp only[zB,seval];exact e1):p:=h
theorem Zbk{p:Prop}(h:p:=by rw[eP 3 rfl];simp only[zB,seval];exact e1):p:=h
theorem Zbl{p:Prop}(h:p:=by rw[eP 0 rfl];simp only[zB,seval];exact f0):p:=h
theorem Zbm{p:Prop}(h:p:=by simp only[yC,sf,mK.free (fX ht),mF.free (bF _),nF.free (bF _)]):p:=h
theorem Zbn{p:Prop}(h:p:=by
 rename_i qZ;simp only[Ae,Ak] at h;obtain⟨rfl,rfl⟩:=h;have :=fin _ _ _ rfl hlen xP (fun hf=>by rw[qZ] at hf;cases hf) kJ
 rwa [if_pos qZ] at this):p:=h
theorem Zbo{p:Prop}(h:p:=by simp only[aA.aR]):p:=h
theorem Zbp{p:Prop}(h:p:=by
 rename_i qZ;simp only[Ae,Ak] at h;obtain⟨rfl,rfl⟩:=h;have :=fin _ _ _ eG hlen xP (fun hf=>by rw[qZ] at hf;cases hf) kJ
 rwa [if_pos qZ] at this):p:=h
theorem Zbq{p:Prop}(h:p:=by rw[if_neg (by omega),if_pos (by omega)];rfl):p:=h
theorem Zbr{p:Prop}(h:p:=by simp only[Ae,Ak] at h;obtain⟨rfl,rfl⟩:=h;exact⟨rfl,rfl,k2,s2,SV,rfl⟩):p:=h
theorem Zbs{p:Prop}(h:p:=by obtain⟨it,m,mb,c,seen,es,bs,h1,h2,h3,h4,h5⟩:=h;exact⟨it,m,mb,c,seen,es,bs,h1,h2,h3,fun k=>ih hq (h4 k),fun j k1 k2=>ih hq (h5 j k1 k2)⟩):p:=h
theorem Zbt{p:Prop}(h:p:=by rw[aA.aC,if_pos rfl]):p:=h
theorem Zbu{p:Prop}(h:p:=by subst dQ;simp only[zB,seval]):p:=h
theorem Zbv{p:Prop}(h:p:=by simp only[zB,seval];exact f0):p:=h
theorem Zbw{p:Prop}(h:p:=by rw[dC] at vx;simp only[Ae,Ak] at h;obtain⟨rfl,rfl⟩:=h;generalize eG:a.eval x=u at vx;cases vx;exact cP.pure' hw (jH _ _ _ eG) (.int _ _)):p:=h
theorem Zbx{p:Prop}(h:p:=by simp only[sf,ha.free]):p:=h
theorem Zby{p:Prop}(h:p:=by simp only[bO,AV.free,Sc.free hs];rfl):p:=h
theorem Zbz{p:Prop}(h:p:=by exact⟨rfl,rfl,rfl,rfl,rfl,rfl⟩):p:=h
theorem ZbA{p:Prop}(h:p:=by
 obtain⟨i,x⟩:=p;simp only[IB] at h;split at h
 . split at h
   . rename_i y ys' _ h';obtain rfl:=Aa h;simp[ih h']
   cases h
 cases h):p:=h
end Go
namespace Go.Av
open Go
inductive AV where
 |bool (b:Bool)
 |int (k:IntKind) (n:Int)
 |str (s:List UInt8)
 |KT
 |ref (id off:Nat)
 |pl (cells:List AV)
 |aO
 |bD (tag sz:Nat) (bB:List (List AV))
 |sl (id sz off len cap:Nat)
 |func (fn:Fn) (first captured:List AV)
 |AP
 |iface (t:TypeId) (v:AV)
 |wP
 |agg (cs:List AV)
 |iA (vs:List AV)
 |map (id:Nat)
 |rV
 |yield (id:Nat)
instance:Inhabited AV:=⟨.KT⟩
def aD:AV:=.iA []
def AV.one:AV->Bool
 |.agg _|.iA _=>false
 |_=>true
def AV.yN:AV->Bool
 |.iA _=>true
 |_=>false
def AV.cells:AV->List AV
 |.agg cs=>cs
 |v=>[v]
inductive Arg where
 |tmp (t:Nat)
 |const (v:AV)
 |jG (g:Nat)
inductive Sk where
 |b|i|s
 |f (sh:List Sk)
inductive Nk where
 |ptr|ifc|sli|mp|fn
 deriving DecidableEq
inductive eE where
 |TC (x:Arg)
 |pick (c a b:Arg)
 |alloc (zero:List AV)
 |box (x:Arg)
 |build (zero:List AV) (parts:List (Nat×Nat×Arg))
 |OR (sz:Nat) (parts:List Arg)
 |load (agg:Bool) (n:Nat) (a:Arg)
 |store (n:Nat) (a x:Arg)
 |OS (x:Arg)
 |bin (op:BinOp) (x y:Arg)
 |eqb (neg:Bool) (x y:Arg)
 |eqf (neg:Bool) (shape:List Sk) (x y:Arg)
 |tz (neg:Bool) (k:Nk) (lit:Bool) (x y:Arg)
 |un (op:UnOp) (x:Arg)
 |NQ (k:IntKind) (x:Arg)
 |BG (x:Arg)
 |DH (x:Arg)
 |Yh (n:Nat) (x:Arg)
 |Xu (t:TypeId) (x:Arg)
 |Xt (fn:Fn) (first cap:List Arg)
 |yO
 |jJ (sz bytes:Nat) (zero:List AV) (l c:Arg)
 |Oz (x:Arg) (lo hi:Option Arg)
 |Yk (sz:Nat) (x:Arg) (lo hi mx:Option Arg)
 |DY (n sz:Nat) (x:Arg) (lo hi mx:Option Arg)
 |XP (off:Nat) (x:Arg)
 |Sq (arr:Option Nat) (sz:Nat) (x i:Arg)
 |idx (n sz:Nat) (agg:Bool) (x i:Arg)
 |idxs (x i:Arg)
 |Ys (t:TypeId) (ok:Bool) (zero:AV) (x:Arg)
 |XN (x:Arg) (i:Nat)
 |lens (x:Arg)
 |OF (x:Arg)
 |VI (x y:Arg)
 |VL (x y:Arg)
 |clr (sz:Nat) (zero:List AV) (x:Arg)
 |append (sz bytes:Nat) (mu:Bool) (x y:Arg)
 |copy (sz:Nat) (d s:Arg)
 |lookup (kind:Sk) (zero:AV) (ok:Bool) (x i:Arg)
 |OO (kind:Sk) (m k v:Arg)
 |vG (x:Arg)
 |DR (x:Arg)
 |xV (x:Arg)
 |call (f:Arg) (args:List Arg)
 |panic (x:Arg)
 |lD (f:Arg) (args:List Arg)
structure bK where
 dst:Option Nat
 op:eE
 guard:Option (Nat×Bool)
inductive cF where
 |skip
 |ops (rl:List bK)
 |draw (rl:List bK) (pairs:List (Nat×Nat))
 |seq (a b:cF)
 |cond (c:Arg) (a b:cF)
 |block (id:Nat) (a:cF)
 |loop (a:cF)
 |exit (id:Nat)
 |ret
 |oG (c:Arg) (ps:List Nat) (PM body:cF)
structure Mq where
 ps:List Nat
 PM:cF
 body:cF
structure bG where
 val:Nat->Option (List AV)
 lok:Mq->Loop->Prop
instance:CoeFun bG (fun _=>Nat->Option (List AV)):=⟨bG.val⟩
def bG.mo (g:bG):Bool:=(g.val 999999999).isNone
def g0:bG:=⟨fun _=>none,fun _ _=>False⟩
inductive LEx where
 |ret
 |exit (id:Nat)
inductive LSt where
 |ready
 |busy
 |done (e:LEx)
 |over (e:Option LEx)
inductive fB where
 |cells (cs:List AV) (eN:Bool)
 |tok
 |map (es:List (AV×AV))
 |sN (es:List (AV×AV)) (bs:List Nat) (c mb:Nat)
 |iter (m mb c:Nat) (seen:List Nat)
 |loop (k:Mq) (sn:List AV) (st:LSt)
 |SH
 |dfx
 |dead
def fB.dB:fB->Bool
 |.map _|.sN _ _ _ _|.iter _ _ _ _|.loop _ _ _|.SH|.dfx=>true
 |_=>false
def LEx.code:LEx->Code
 |.ret=>.ret
 |.exit id=>.exit id
def mY (r:Loop):LSt->Loop
 |.ready=>{r with state:=.ready,pending:=none}
 |.busy=>{r with state:=.busy,pending:=none}
 |.done e=>{r with state:=.done,pending:=some e.code}
 |.over e=>{r with state:=.exhausted,pending:=e.map LEx.code}
def fB.live:fB->Bool
 |.dead=>false
 |_=>true
inductive Tr where
 |nil
 |node (o:Option fB) (l r:Tr)
def Tr.get:Tr->Nat->Option fB
 |.nil,_=>none
 |.node o l r,n=>if n=0 then o else if n%2=1 then l.get (n / 2) else r.get (n / 2 -1)
def Tr.root:Tr->Option fB
 |.nil=>none
 |.node o _ _=>o
def Tr.left:Tr->Tr
 |.nil=>.nil
 |.node _ l _=>l
def Tr.right:Tr->Tr
 |.nil=>.nil
 |.node _ _ r=>r
def Tr.BE:Nat->Tr->Nat->fB->Tr
 |0,t,_,o=>.node (some o) t.left t.right
 |f+1,t,n,o=>
  if n=0 then .node (some o) t.left t.right
  else if n%2=1 then .node t.root (Tr.BE f t.left (n / 2) o) t.right
  else .node t.root t.left (Tr.BE f t.right (n / 2 -1) o)
def Tr.set (t:Tr) (n:Nat) (o:fB):Tr:=Tr.BE n t n o
theorem Tr.ZY (t:Tr) (n:Nat):t.get n=if n=0 then t.root else if n%2=1 then t.left.get (n / 2) else t.right.get (n / 2 -1):=by
 cases t with
 |nil=>simp[Tr.get,Tr.root,Tr.left,Tr.right]
 |node o l r=>simp[Tr.get,Tr.root,Tr.left,Tr.right]
theorem Tr.HK:∀(f:Nat) (t:Tr) (n:Nat) (o:fB) (m:Nat),n<=f->(Tr.BE f t n o).get m=if m=n then some o else t.get m:=by
 intro f
 induction f with
 |zero=>
  intro t n o m hn;obtain rfl:n=0:=by omega
  rw[Tr.ZY t m];simp only[Tr.BE,Tr.get];by_cases hm:m=0<;>simp[hm]
 |succ f ih=>
  intro t n o m hn;rw[Tr.ZY t m];simp only[Tr.BE];by_cases h0:n=0
  . subst h0;simp only[if_true,Tr.get];by_cases hm:m=0<;>simp[hm]
  by_cases aFi:n%2=1
  . simp only[h0,aFi,if_true,Bp,Tr.get];by_cases hm:m=0
    . have :¬m=n:=(by omega);simp[hm,Ne.symm h0]
    by_cases FZ:m%2=1
    . simp only[hm,FZ,if_true,Bp];rw[ih _ _ _ _ (by omega)];by_cases he:m=n
      . simp[he]
      rw[if_neg he,if_neg (by omega)]
    simp only[hm,FZ,Bp];rw[if_neg (by intro he;subst he;exact FZ aFi)]
  simp only[h0,aFi,Bp,Tr.get];by_cases hm:m=0
  . simp[hm,Ne.symm h0]
  by_cases FZ:m%2=1
  . simp only[hm,FZ,if_true,Bp];rw[if_neg (by intro he;subst he;exact aFi FZ)]
  simp only[hm,FZ,Bp];rw[ih _ _ _ _ (by omega)];by_cases he:m=n
  . simp[he]
  rw[if_neg he,if_neg (by omega)]
structure aA where
 next:Nat
 tr:Tr
def aA.get (H:aA) (id:Nat):Option fB:=H.tr.get id
def aA.set (H:aA) (id:Nat) (o:fB):aA:={H with tr:=H.tr.set id o}
def aA.alloc (H:aA) (o:fB):aA:={next:=H.next+1,tr:=H.tr.set H.next o}
theorem aA.aC (H:aA) (id:Nat) (o:fB) (m:Nat):(H.set id o).get m=if m=id then some o else H.get m:=
 Tr.HK _ _ _ _ _ (Ab _)
theorem aA.aG (H:aA) (o:fB) (m:Nat):(H.alloc o).get m=if m=H.next then some o else H.get m:=
 Tr.HK _ _ _ _ _ (Ab _)
@[simp] theorem aA.aW (H:aA) (id:Nat) (o:fB):(H.set id o).next=H.next:=rfl
@[simp] theorem aA.aR (H:aA) (o:fB):(H.alloc o).next=H.next+1:=rfl
def Arg.eval (g:bG) (s:List AV):Arg->AV
 |.tmp t=>s.getD t aD
 |.const v=>v
 |.jG n=>match g n with
  |some cs=>.pl cs
  |none=>aD
def fI (sz:Nat):Nat->List AV->List (List AV)
 |0,_=>[]
 |n+1,cs=>cs.take sz::fI sz n (cs.drop sz)
def fW (cs:List AV) (off:Nat) (vs:List AV):List AV:=cs.take off++vs++cs.drop (off+vs.length)
def GY (ev:Arg->AV):List AV->List (Nat×Nat×Arg)->Option (List AV)
 |cs,[]=>some cs
 |cs,(off,n,x)::rest=>
  let vs:=(ev x).cells
  if vs.length=n/\off+n<=cs.length/\(ev x).yN=false then GY ev (fW cs off vs) rest else none
def KQ (ev:Arg->AV) (sz:Nat):List Arg->Option (List (List AV))
 |[]=>some []
 |x::rest=>
  let vs:=(ev x).cells
  if vs.length=sz/\(ev x).yN=false then(KQ ev sz rest).map (vs:: ·) else none
def cL:List Sk->List AV->List AV->Option Bool
 |[],[],[]=>some true
 |.b::ks,.bool a::xs,.bool b::ys=>(cL ks xs ys).map ((a==b)&& ·)
 |.i::ks,.int j a::xs,.int k b::ys=>if j=k then(cL ks xs ys).map ((a==b)&& ·) else none
 |.s::ks,.str a::xs,.str b::ys=>(cL ks xs ys).map ((a==b)&& ·)
 |_,_,_=>none
def rU (k:Nk):AV->Option Bool
 |.KT=>if k=.ptr then some true else none
 |.ref _ _|.pl _=>if k=.ptr then some false else none
 |.aO=>if k=.sli then some true else none
 |.bD _ _ _|.sl _ _ _ _ _=>if k=.sli then some false else none
 |.wP=>if k=.ifc then some true else none
 |.iface _ _=>if k=.ifc then some false else none
 |.AP=>if k=.fn then some true else none
 |.func _ _ _=>if k=.fn then some false else none
 |.rV=>if k=.mp then some true else none
 |.map _=>if k=.mp then some false else none
 |_=>none
def QO (op:BinOp) (k:IntKind) (x y:Int):Option AV:=
 let a:=BitVec.ofInt k.bits x;let b:=BitVec.ofInt k.bits y
 match op with
 |.and=>some (.int k (k.wrap (a&&& b).toNat))
 |.or=>some (.int k (k.wrap (a|||b).toNat))
 |.xor=>some (.int k (k.wrap (a^^^b).toNat))
 |.andNot=>some (.int k (k.wrap (a&&& ~~~b).toNat))
 |_=>none
def pY (op:BinOp) (k:IntKind) (a:Int) (k':IntKind) (b:Int):Option AV:=
 match op with
 |.shl=>if b<0 then none else some (.int k (k.wrap (a*2^(min b.toNat k.bits))))
 |.shr=>if b<0 then none else some (.int k (a.fdiv (2^(min b.toNat k.bits))))
 |.add=>if k=k' then some (.int k (k.wrap (a+b))) else none
 |.sub=>if k=k' then some (.int k (k.wrap (a -b))) else none
 |.mul=>if k=k' then some (.int k (k.wrap (a*b))) else none
 |.quo=>if k=k' then(if b=0 then none else some (.int k (k.wrap (a.tdiv b)))) else none
 |.rem=>if k=k' then(if b=0 then none else some (.int k (a.tmod b))) else none
 |.and|.or|.xor|.andNot=>if k=k' then QO op k a b else none
 |.eql=>if k=k' then some (.bool (a==b)) else none
 |.neq=>if k=k' then some (.bool (a != b)) else none
 |.lss=>if k=k' then some (.bool (a<b)) else none
 |.leq=>if k=k' then some (.bool (a<=b)) else none
 |.gtr=>if k=k' then some (.bool (a>b)) else none
 |.geq=>if k=k' then some (.bool (a≥b)) else none
def so (op:BinOp) (x y:List UInt8):Option AV:=
 let eq:=x==y;let lt:=Op.bytesLess x y
 match op with
 |.add=>if x.length+y.length<=2^40 then some (.str (x++y)) else none
 |.eql=>some (.bool eq)
 |.neq=>some (.bool !eq)
 |.lss=>some (.bool lt)
 |.leq=>some (.bool (lt||eq))
 |.gtr=>some (.bool !(lt||eq))
 |.geq=>some (.bool !lt)
 |_=>none
def unA (op:UnOp):AV->Option AV
 |.int k n=>match op with
  |.neg=>some (.int k (k.wrap (0 -n)))
  |.xor=>QO .xor k (if k.signed then -1 else k.max) n
  |_=>none
 |.bool b=>match op with
  |.not=>some (.bool !b)
  |_=>none
 |_=>none
def asNat:AV->Option Nat
 |.int _ n=>if 0<=n then some n.toNat else none
 |_=>none
def eB (ev:Arg->AV):Option Arg->Option (Option Nat)
 |none=>some none
 |some x=>(asNat (ev x)).map some
def WY (s:List UInt8):List (List AV):=s.map fun b=>[.int .u8 b.toNat]
def bytesOf:List (List AV)->Option (List UInt8)
 |[]=>some []
 |[.int .u8 n]::rest=>(bytesOf rest).map (UInt8.ofNat n.toNat:: ·)
 |_=>none
def aA.eS (H:aA) (id:Nat):Option (List AV):=
 match H.get id with
 |some (.cells cs _)=>some cs
 |_=>none
def cK (H:aA) (sz:Nat):AV->Option (List (List AV))
 |.aO=>some []
 |.bD _ eR bB=>if eR=sz then some bB else none
 |.str s=>if sz=1 then some (WY s) else none
 |.sl id eR off len _=>
  if eR=sz then
   match H.eS id with
   |some cs=>if off+len*sz<=cs.length then some (fI sz len (cs.drop off)) else none
   |none=>none
  else none
 |_=>none
def kS (H:aA) (mu:Bool) (sz:Nat) (bB:List (List AV)):AV×aA:=
 if mu then(.sl H.next sz 0 bB.length bB.length,H.alloc (.cells bB.flatten true))
 else(.bD (H.next+2) sz bB,H.alloc .tok)
def dR (H:aA) (sz bytes:Nat) (mu:Bool) (x:AV) (ys:List (List AV)):Option (AV×aA):=
 if ys.isEmpty then
  match x with
  |.aO|.bD _ _ _|.sl _ _ _ _ _=>some (x,H)
  |_=>none
 else
 match x with
 |.aO=>if ys.length*bytes<=2^40 then some (kS H mu sz ys) else none
 |.bD tag eR bB=>
  if eR=sz/\(bB.length+ys.length)*bytes<=2^40 then
   match tag with
   |0=>none
   |1=>some (kS H mu sz (bB++ys))
   |k+2=>
    match H.get k with
    |some .tok=>some (.bD (H.next+2) sz (bB++ys),(H.set k .dead).alloc .tok)
    |_=>none
  else none
 |.sl id eR off len cap=>
  if eR=sz/\(len+ys.length)*bytes<=2^40/\1<=sz then
   match H.get id with
   |some (.cells cs eN)=>
    if len+ys.length<=cap then
     if off+cap*sz<=cs.length then
      some (.sl id sz off (len+ys.length) cap,H.set id (.cells (fW cs (off+len*sz) ys.flatten) eN))
     else none
    else if off+len*sz<=cs.length/\(eN=false\/off+cap*sz<cs.length) then
     some (kS H mu sz (fI sz len (cs.drop off)++ys))
    else if mu=true/\off=0/\len=cap/\cs.length=len*sz then
     some (.sl H.next sz 0 (len+ys.length) (len+ys.length),(H.set id .dead).alloc (.cells (cs++ys.flatten) true))
    else none
   |_=>none
  else none
 |_=>none
def vM (sz:Nat) (x:AV) (lo hi mx:Option Nat):Option AV:=
 match x with
 |.aO=>if lo.getD 0=0/\hi.getD 0=0/\mx.getD 0=0 then some .aO else none
 |.bD tag eR bB=>
  let l:=lo.getD 0;let h:=hi.getD bB.length
  if eR=sz/\l<=h/\h<=bB.length then
   match mx with
   |some m=>
    if h<=m/\m<=bB.length then
     some (.bD (if m=h then 1 else 0) sz ((bB.drop l).take (h -l)))
    else none
   |none=>
    if h=bB.length/\(l<h\/tag<2) then some (.bD tag sz (bB.drop l))
    else some (.bD 0 sz ((bB.drop l).take (h -l)))
  else none
 |.sl id eR off len cap=>
  let l:=lo.getD 0;let h:=hi.getD len
  if eR=sz/\l<=h then
   match mx with
   |some m=>
    if h<=m/\m<=cap then
     if m=l then some (.sl id sz off 0 0) else some (.sl id sz (off+l*sz) (h -l) (m -l))
    else none
   |none=>
    if h<=cap then
     if l=cap then some (.bD 0 sz []) else some (.sl id sz (off+l*sz) (h -l) (cap -l))
    else none
  else none
 |_=>none
def mM (H:aA) (n sz:Nat) (x:AV) (lo hi mx:Option Nat):Option AV:=
 let l:=lo.getD 0;let m:=mx.getD n;let h:=hi.getD n
 if l<=h/\h<=m/\m<=n/\(mx.isSome->hi.isSome) then
  match x with
  |.ref id o=>
   match H.eS id with
   |some cs=>if o+n*sz<=cs.length then(if m=l then some (.sl id sz o 0 0) else some (.sl id sz (o+l*sz) (h -l) (m -l))) else none
   |none=>none
  |.pl cs=>if n*sz<=cs.length then some (.bD (if m=h then 1 else 0) sz ((fI sz n cs).drop l |>.take (h -l))) else none
  |_=>none
 else none
def sameKey (k:Sk):AV->AV->Option Bool
 |.int j a,.int j' b=>match k with
  |.i=>if j=j' then some (a==b) else none
  |_=>none
 |.str a,.str b=>match k with
  |.s=>some (a==b)
  |_=>none
 |.bool a,.bool b=>match k with
  |.b=>some (a==b)
  |_=>none
 |.agg xs,.agg ys=>match k with
  |.f sh=>cL sh xs ys
  |_=>none
 |_,_=>none
def kD (k:Sk) (x:AV):List (AV×AV)->Nat->Option (Option (Nat×AV))
 |[],_=>some none
 |(y,v)::es,i=>
  match sameKey k x y with
  |some true=>some (some (i,v))
  |some false=>kD k x es (i+1)
  |none=>none
def HT (k:Sk):AV->Bool
 |.int _ _=>match k with|.i=>true|_=>false
 |.str _=>match k with|.s=>true|_=>false
 |.bool _=>match k with|.b=>true|_=>false
 |.agg xs=>match k with|.f sh=>decide (xs.length=sh.length)|_=>false
 |_=>false
def xB (ev:Arg->AV):eE->Option (fB×(Nat->AV))
 |.alloc zero=>some (.cells zero false,fun id=>.ref id 0)
 |.box x=>if(ev x).yN then none else some (.cells (ev x).cells false,fun id=>.ref id 0)
 |.yO=>some (.map [],fun id=>.map id)
 |.jJ sz bytes zero l c=>match asNat (ev l),asNat (ev c) with
  |some l,some c=>if l<=c/\bytes*c<=2^40/\zero.length=sz then some (.cells (List.replicate c zero).flatten false,fun id=>.sl id sz 0 l c) else none
  |_,_=>none
 |.BG x=>match ev x with
  |.str s=>some (.tok,fun id=>.bD (id+2) 1 (WY s))
  |_=>none
 |_=>none
def dA (ev:Arg->AV) (H:aA):eE->Option (AV×aA)
 |.TC x=>some (ev x,H)
 |.pick c a b=>match ev c with
  |.bool t=>some (if t then ev a else ev b,H)
  |_=>none
 |.alloc zero=>(xB ev (.alloc zero)).map fun p=>(p.2 H.next,H.alloc p.1)
 |.box x=>(xB ev (.box x)).map fun p=>(p.2 H.next,H.alloc p.1)
 |.build zero parts=>(GY ev zero parts).map fun cs=>(.agg cs,H)
 |.OR sz parts=>(KQ ev sz parts).map fun bB=>(.bD 1 sz bB,H)
 |.load agg n a=>match ev a with
  |.ref id off=>match H.eS id with
   |some cs=>if off+n<=cs.length then(if agg then some (.agg ((cs.drop off).take n),H) else if n=1 then some (cs.getD off aD,H) else none) else none
   |none=>none
  |.pl cs=>if n<=cs.length then(if agg then some (.agg (cs.take n),H) else if n=1 then some (cs.getD 0 aD,H) else none) else none
  |_=>none
 |.store n a x=>match ev a with
  |.ref id off=>match H.get id with
   |some (.cells cs eN)=>
    let vs:=(ev x).cells
    if vs.length=n/\off+n<=cs.length/\(ev x).yN=false then some (aD,H.set id (.cells (fW cs off vs) eN)) else none
   |_=>none
  |_=>none
 |.OS x=>match ev x with
  |.ref id off=>some (.ref id off,H)
  |.pl cs=>some (.pl cs,H)
  |.func (.func f) a b=>some (.func (.func f) a b,H)
  |.iface t v=>some (.iface t v,H)
  |_=>none
 |.bin op x y=>match ev x,ev y with
  |.int k a,.int k' b=>(pY op k a k' b).map (·,H)
  |.str a,.str b=>(so op a b).map (·,H)
  |_,_=>none
 |.eqb neg x y=>match ev x,ev y with
  |.bool a,.bool b=>some (.bool (if neg then !(a==b) else(a==b)),H)
  |_,_=>none
 |.eqf neg shape x y=>match ev x,ev y with
  |.agg xs,.agg ys=>(cL shape xs ys).map fun e=>(.bool (if neg then !e else e),H)
  |_,_=>none
 |.tz neg k lit x y=>match rU k (ev x),rU k (ev y) with
  |some a,some b=>if(a||b)&&(k != .ifc|| !(a&&b)||lit) then some (.bool (if neg then !(a&&b) else(a&&b)),H) else none
  |_,_=>none
 |.un op x=>(unA op (ev x)).map (·,H)
 |.NQ k x=>match ev x with
  |.int _ n=>some (.int k (k.wrap n),H)
  |_=>none
 |.BG x=>(xB ev (.BG x)).map fun p=>(p.2 H.next,H.alloc p.1)
 |.DH x=>match ev x with
  |.str _=>none
  |v=>match cK H 1 v with
   |some bB=>(bytesOf bB).map fun s=>(.str s,H)
   |none=>none
 |.Yh n x=>match ev x with
  |.bD _ _ bB=>if n<=bB.length/\1<=bB.length then some (.pl bB.flatten,H) else none
  |.sl id _ off len _=>if n<=len then some (.ref id off,H) else none
  |_=>none
 |.Xu t x=>some (.iface t (ev x),H)
 |.Xt fn first cap=>some (.func fn (first.map ev) (cap.map ev),H)
 |.yO=>(xB ev .yO).map fun p=>(p.2 H.next,H.alloc p.1)
 |.jJ sz bytes zero l c=>(xB ev (.jJ sz bytes zero l c)).map fun p=>(p.2 H.next,H.alloc p.1)
 |.Oz x lo hi=>match ev x,eB ev lo,eB ev hi with
  |.str s,some lo,some hi=>
   let l:=lo.getD 0;let h:=hi.getD s.length
   if l<=h/\h<=s.length then some (.str ((s.drop l).take (h -l)),H) else none
  |_,_,_=>none
 |.Yk sz x lo hi mx=>match eB ev lo,eB ev hi,eB ev mx with
  |some lo,some hi,some mx=>if mx.isSome->hi.isSome then(vM sz (ev x) lo hi mx).map (·,H) else none
  |_,_,_=>none
 |.DY n sz x lo hi mx=>match eB ev lo,eB ev hi,eB ev mx with
  |some lo,some hi,some mx=>(mM H n sz (ev x) lo hi mx).map (·,H)
  |_,_,_=>none
 |.XP off x=>match ev x with
  |.ref id o=>some (.ref id (o+off),H)
  |.pl cs=>some (.pl (cs.drop off),H)
  |_=>none
 |.Sq arr sz x i=>match asNat (ev i) with
  |some i=>match arr,ev x with
   |some n,.ref id o=>if i<n then some (.ref id (o+i*sz),H) else none
   |some n,.pl cs=>if i<n then some (.pl (cs.drop (i*sz)),H) else none
   |none,.bD _ eR bB=>if eR=sz/\i<bB.length then some (.pl (bB.getD i []),H) else none
   |none,.sl id eR off len _=>if eR=sz/\i<len then some (.ref id (off+i*sz),H) else none
   |_,_=>none
  |none=>none
 |.idx n sz agg x i=>match asNat (ev i),ev x with
  |some i,.agg cs=>if i<n/\i*sz+sz<=cs.length then(if agg then some (.agg ((cs.drop (i*sz)).take sz),H) else if sz=1 then some (cs.getD i aD,H) else none) else none
  |_,_=>none
 |.idxs x i=>match asNat (ev i),ev x with
  |some i,.str s=>match s[i]? with
   |some b=>some (.int .u8 b.toNat,H)
   |none=>none
  |_,_=>none
 |.Ys t ok zero x=>match ev x with
  |.iface t' v=>if t'=t then some (if ok then .iA [v,.bool true] else v,H) else if ok then some (.iA [zero,.bool false],H) else none
  |.wP=>if ok then some (.iA [zero,.bool false],H) else none
  |_=>none
 |.XN x i=>match ev x with
  |.iA vs=>if i<vs.length then some (vs.getD i aD,H) else none
  |_=>none
 |.lens x=>match ev x with
  |.str s=>some (.int .i64 s.length,H)
  |_=>none
 |.OF x=>match ev x with
  |.aO=>some (.int .i64 0,H)
  |.bD _ _ bB=>some (.int .i64 bB.length,H)
  |.sl _ _ _ len _=>some (.int .i64 len,H)
  |_=>none
 |.VI x y=>match ev x,ev y with
  |.int k a,.int _ b=>some (.int k (if b>a then b else a),H)
  |_,_=>none
 |.VL x y=>match ev x,ev y with
  |.int k a,.int _ b=>some (.int k (if b<a then b else a),H)
  |_,_=>none
 |.clr sz zero x=>match ev x with
  |.aO|.bD _ _ []|.sl _ _ _ 0 _=>some (aD,H)
  |.sl id eR off len _=>if eR=sz/\zero.length=sz then
    match H.get id with
    |some (.cells cs eN)=>if off+len*sz<=cs.length then some (aD,H.set id (.cells (fW cs off (List.replicate len zero).flatten) eN)) else none
    |_=>none
   else none
  |_=>none
 |.append sz bytes mu x y=>match cK H sz (ev y) with
  |some ys=>dR H sz bytes mu (ev x) ys
  |none=>none
 |.copy sz d s=>match cK H sz (ev s),ev d with
  |some ys,.aO=>some (.int .i64 (min ys.length 0:Nat),H)
  |some ys,.sl id eR off len _=>
   let n:=min ys.length len
   if eR=sz then
    match H.get id with
    |some (.cells cs eN)=>if off+n*sz<=cs.length then some (.int .i64 n,H.set id (.cells (fW cs off (ys.take n).flatten) eN)) else none
    |_=>none
   else none
  |_,_=>none
 |.lookup kind zero ok x i=>if HT kind (ev i) then
   match ev x with
   |.rV=>some (if ok then .iA [zero,.bool false] else zero,H)
   |.map id=>match H.get id with
    |some (.map es)=>match kD kind (ev i) es 0 with
     |some (some (_,v))=>some (if ok then .iA [v,.bool true] else v,H)
     |some none=>some (if ok then .iA [zero,.bool false] else zero,H)
     |none=>none
    |_=>none
   |_=>none
  else none
 |.OO kind m k v=>if HT kind (ev k) then
   match ev m with
   |.map id=>match H.get id with
    |some (.map es)=>match kD kind (ev k) es 0 with
     |some (some (i,_))=>some (aD,H.set id (.map (es.set i (ev k,ev v))))
     |some none=>some (aD,H.set id (.map (es++[(ev k,ev v)])))
     |none=>none
    |_=>none
   |_=>none
  else none
 |.call _ _|.panic _|.lD _ _|.vG _|.DR _|.xV _=>none
structure Loc where
 dB:Nat
 base:Nat
 Tl:Nat
 ext:Nat
structure Gh where
 loc:Nat->Option Loc
 iB:Nat->Nat->Prop
 mo:Bool
def aIs (G:Gh) (tag b e sz len cap:Nat):Prop:=
 len<=cap/\match tag with
 |0=>True
 |1=>cap=len
 |k+2=>∃l,G.loc k=some l/\l.dB=b/\l.base=e/\l.Tl=0/\l.ext=(cap -len)*sz
inductive VR (G:Gh) (w:World):AV->Value->Prop
 |bool (b:Bool):VR G w (.bool b) (.bool b)
 |int (k:IntKind) (n:Int):VR G w (.int k n) (.int k n)
 |str (s:ByteArray):VR G w (.str s.data.toList) (.string s)
 |KT:VR G w .KT (.pointer none)
 |ref (id off:Nat) (l:Loc) (h:G.loc id=some l):VR G w (.ref id off) (.pointer (some ⟨l.dB,l.base+off,none⟩))
 |pl (cells:List AV) (b o:Nat) (us:Nat->Value)
   (h:∀j,j<cells.length->G.iB b (o+j)/\w.cell? ⟨b,o+j,none⟩=some (us j)/\(cells.getD j aD).one=true)
   (hv:∀j,j<cells.length->VR G w (cells.getD j aD) (us j)):VR G w (.pl cells) (.pointer (some ⟨b,o,none⟩))
 |aO:VR G w .aO (.slice none 0 0)
 |bD (tag sz:Nat) (bB:List (List AV)) (b o cap:Nat) (us:Nat->Value)
   (hu:∀e∈bB,e.length=sz)
   (h:∀j,j<bB.flatten.length->G.iB b (o+j)/\w.cell? ⟨b,o+j,none⟩=some (us j)/\(bB.flatten.getD j aD).one=true)
   (hv:∀j,j<bB.flatten.length->VR G w (bB.flatten.getD j aD) (us j))
   (ht:aIs G tag b (o+bB.length*sz) sz bB.length cap):VR G w (.bD tag sz bB) (.slice (some ⟨b,o,none⟩) bB.length cap)
 |vE (tag sz b o s:Nat) (ht:tag<2):VR G w (.bD tag sz []) (.slice (some ⟨b,o,some s⟩) 0 0)
 |sl (id sz off len cap kA:Nat) (l:Loc) (h:G.loc id=some l) (hlen:len<=cap) (gT:off+cap*sz<=l.Tl)
   (pQ:kA=cap\/(off+cap*sz=l.Tl/\cap<=kA/\off+kA*sz=l.ext)):
   VR G w (.sl id sz off len cap) (.slice (some ⟨l.dB,l.base+off,none⟩) len kA)
 |func (fn:Fn) (fs cs:List AV) (azs bs:List Value) (ha:azs.length=fs.length) (hb:bs.length=cs.length)
   (hav:∀j,j<fs.length->VR G w (fs.getD j aD) (azs.getD j undef)) (hbv:∀j,j<cs.length->VR G w (cs.getD j aD) (bs.getD j undef)):
   VR G w (.func fn fs cs) (.func fn azs.toArray bs.toArray)
 |AP:VR G w .AP .nilFunc
 |iface (t:TypeId) (a:AV) (v:Value) (h:VR G w a v):VR G w (.iface t a) (.iface t v)
 |wP:VR G w .wP .nilIface
 |agg (cs:List AV) (vs:List Value) (hl:vs.length=cs.length) (h1:∀c∈cs,c.one=true)
   (hv:∀j,j<cs.length->VR G w (cs.getD j aD) (vs.getD j undef)):VR G w (.agg cs) (.agg vs.toArray)
 |iA (cs:List AV) (vs:List Value) (hl:vs.length=cs.length)
   (hv:∀j,j<cs.length->VR G w (cs.getD j aD) (vs.getD j undef)):VR G w (.iA cs) (.tuple vs.toArray)
 |map (id:Nat) (l:Loc) (h:G.loc id=some l):VR G w (.map id) (.map (some l.dB))
 |rV:VR G w .rV (.map none)
 |yield (id:Nat) (l:Loc) (h:G.loc id=some l):VR G w (.yield id) (.func (.yield l.dB) #[] #[])
def iO (G:Gh) (w:World) (xs:List AV) (vs:List Value):Prop:=
 vs.length=xs.length/\∀j,j<xs.length->VR G w (xs.getD j aD) (vs.getD j undef)
theorem VR.oK (G:Gh) (w:World):VR G w aD Go.undef:=VR.iA [] [] rfl (fun j hj=>absurd hj (Ap j))
theorem VR.mono {G G':Gh} {w w':World} {a:AV} {u:Value} (h:VR G w a u) (hl:∀id l,G.loc id=some l->G'.loc id=some l)
 (hi:∀b o,G.iB b o->G'.iB b o/\w'.cell? ⟨b,o,none⟩=w.cell? ⟨b,o,none⟩):VR G' w' a u:=by
 induction h with
 |bool b=>exact .bool b
 |int k n=>exact .int k n
 |str s=>exact .str s
 |KT=>exact .KT
 |ref id off l h=>exact .ref id off l (hl _ _ h)
 |pl cells b o us h hv ih=>exact .pl cells b o us (fun j hj=>⟨(hi _ _ (h j hj).1).1,by rw[(hi _ _ (h j hj).1).2];exact(h j hj).2.1,(h j hj).2.2⟩) ih
 |aO=>exact .aO
 |bD tag sz bB b o cap us hu h hv ht ih=>
  refine .bD tag sz bB b o cap us hu (fun j hj=>⟨(hi _ _ (h j hj).1).1,by rw[(hi _ _ (h j hj).1).2];exact(h j hj).2.1,(h j hj).2.2⟩) ih ?_;refine⟨ht.1,?_⟩;have h2:=ht.2
  match tag,h2 with
  |0,_=>trivial
  |1,h2=>exact h2
  |k+2,⟨l,h1,h2⟩=>exact⟨l,hl _ _ h1,h2⟩
 |vE tag sz b o s ht=>exact .vE tag sz b o s ht
 |sl id sz off len cap kA l h hlen gT pQ=>exact .sl id sz off len cap kA l (hl _ _ h) hlen gT pQ
 |func fn fs cs azs bs ha hb hav hbv rT uP=>exact .func fn fs cs azs bs ha hb rT uP
 |AP=>exact .AP
 |iface t a v h ih=>exact .iface t a v ih
 |wP=>exact .wP
 |agg cs vs pA h1 hv ih=>exact .agg cs vs pA h1 ih
 |iA cs vs pA hv ih=>exact .iA cs vs pA ih
 |map id l h=>exact .map id l (hl _ _ h)
 |rV=>exact .rV
 |yield id l h=>exact .yield id l (hl _ _ h)
def aAa:Value->Bool
 |.agg _|.tuple _=>false
 |_=>true
theorem VR.one {G:Gh} {w:World} {a:AV} {u:Value} (h:VR G w a u):a.one=aAa u:=by cases h<;>rfl
def aA.live (H:aA) (id:Nat):Prop:=∃o,H.get id=some o/\o.live=true
def Tp (ents:Array MapEntry) (clock:Nat):Prop:=
 (∀i,i<ents.size->(ents.getD i default).born<clock)/\∀i j,i<ents.size->j<ents.size->(ents.getD i default).born=(ents.getD j default).born->i=j
def JO (g:bG) (G:Gh) (w:World) (l:Loc):fB->Prop
 |.map es=>∃ents clock,w.heap[l.dB]?=some (.map ents clock)/\ents.size=es.length/\Tp ents clock/\
   ∀j,j<es.length->VR G w (es.getD j (aD,aD)).1 (ents.getD j default).key/\VR G w (es.getD j (aD,aD)).2 (ents.getD j default).val
 |.sN es bs c mb=>l.dB=mb/\bs.Nodup/\(∀b∈bs,b<c)/\∃ents:Array MapEntry,w.heap[l.dB]?=some (.map ents c)/\ents.toList.map (·.born)=bs/\bs.length=es.length/\
   ∀j,j<es.length->VR G w (es.getD j (aD,aD)).1 (ents.getD j default).key/\VR G w (es.getD j (aD,aD)).2 (ents.getD j default).val
 |.iter m mb c seen=>w.heap[l.dB]?=some (.mapIter (some mb) c seen.toArray c)/\VR G w (.map m) (.map (some mb))
 |.loop k sn st=>∃r,g.lok k r/\w.heap[l.dB]?=some (.loop (mY r st))/\iO G w sn r.tmps.toList
 |.SH=>w.heap[l.dB]?=some (.deferred (some []))
 |.dfx=>w.heap[l.dB]?=some (.deferred none)
 |_=>True
theorem JO.mono {g:bG} {G G':Gh} {w w':World} {l:Loc} {o:fB} (h:JO g G w l o) (hb:w'.heap[l.dB]?=w.heap[l.dB]?) (hv:∀a u,VR G w a u->VR G' w' a u):JO g G' w' l o:=by
 cases o with
 |map es=>obtain⟨ents,clock,a1,a2,a3,a4⟩:=h;exact⟨ents,clock,by rw[hb];exact a1,a2,a3,fun j hj=>⟨hv _ _ (a4 j hj).1,hv _ _ (a4 j hj).2⟩⟩
 |sN es bs c mb=>obtain⟨a1,a2,a3,ents,a4,a5,a6,a7⟩:=h;exact⟨a1,a2,a3,ents,hb.trans a4,a5,a6,fun j hj=>⟨hv _ _ (a7 j hj).1,hv _ _ (a7 j hj).2⟩⟩
 |iter m mb c seen=>exact⟨hb.trans h.1,hv _ _ h.2⟩
 |loop k sn st=>obtain⟨r,h0,h1,h2⟩:=h;exact⟨r,h0,hb.trans h1,h2.1,fun j hj=>hv _ _ (h2.2 j hj)⟩
 |SH=>exact hb.trans h
 |dfx=>exact hb.trans h
 |_=>trivial
theorem JO.lt {g:bG} {G:Gh} {w:World} {l:Loc} {o:fB} (ho:o.dB=true) (h:JO g G w l o):l.dB<w.heap.size:=by
 cases o with
 |map es=>obtain⟨ents,clock,a1,_⟩:=h;exact(Cg.1 a1).1
 |sN es bs c mb=>obtain⟨_,_,_,ents,a1,_⟩:=h;exact(Cg.1 a1).1
 |iter m mb c seen=>exact(Cg.1 h.1).1
 |loop k sn st=>obtain⟨r,_,h1,_⟩:=h;exact(Cg.1 h1).1
 |SH=>exact(Cg.1 (show w.heap[l.dB]?=some _ from h)).1
 |dfx=>exact(Cg.1 (show w.heap[l.dB]?=some _ from h)).1
 |_=>cases ho
theorem OH {o:fB} (h:o.dB=true):o.live=true:=by cases o<;>first|rfl|cases h
theorem JO.AR {g:bG} {G:Gh} {w:World} {l:Loc} {o:fB} (ho:o.dB=true) (h:JO g G w l o) {c:Array Value} {el:TypeId} {fz:Nat×Nat}:w.heap[l.dB]?≠some (.cells c el fz):=by
 intro hc
 cases o with
 |map es=>obtain⟨ents,clock,a1,_⟩:=h;rw[hc] at a1;cases a1
 |sN es bs c mb=>obtain⟨_,_,_,ents,a1,_⟩:=h;rw[hc] at a1;cases a1
 |iter m mb c seen=>have h:=h.1;rw[hc] at h;cases h
 |loop k sn st=>obtain⟨r,_,h,_⟩:=h;rw[hc] at h;cases h
 |SH=>have h:w.heap[l.dB]?=some _:=h;rw[hc] at h;cases h
 |dfx=>have h:w.heap[l.dB]?=some _:=h;rw[hc] at h;cases h
 |_=>cases ho
structure WR (g:bG) (G:Gh) (H:aA) (w:World):Prop where
 cells:∀id l cs eN,G.loc id=some l->H.get id=some (.cells cs eN)->
  l.Tl=cs.length/\l.Tl<=l.ext/\(eN=false->l.Tl=l.ext)/\(∀c∈cs,c.one=true)/\
  ∀j,j<cs.length->∃u,w.cell? ⟨l.dB,l.base+j,none⟩=some u/\VR G w (cs.getD j aD) u
 room:∀id l,G.loc id=some l->((∃cs eN,H.get id=some (.cells cs eN))\/H.get id=some .tok)->
  ∃c el fz,w.heap[l.dB]?=some (.cells c el fz)/\l.base+l.ext<=c.size/\∀j,j<l.ext->w.frozen? ⟨l.dB,l.base+j,none⟩=false
 kT:∀id kU l l',id≠kU->G.loc id=some l->G.loc kU=some l'->H.live id->H.live kU->
  l.dB≠l'.dB\/l.base+l.ext<=l'.base\/l'.base+l'.ext<=l.base
 kE:∀id l,G.loc id=some l->H.live id->∀j,j<l.ext->¬G.iB l.dB (l.base+j)
 iV:∀id l o,G.loc id=some l->H.get id=some o->o.dB=true->l.base=0/\l.ext=1/\JO g G w l o
 lt:∀id l,G.loc id=some l->id<H.next
 jA:∀b o,G.iB b o->∃v,w.cell? ⟨b,o,none⟩=some v
 jG:∀n cs,g n=some cs->VR G w (.pl cs) (.pointer (some ⟨n,0,none⟩))
 BV:∀n cs,g n=some cs->cs≠[]->∃c el fz,w.heap[n]?=some (.cells c el fz)/\c.size=cs.length
 mo:G.mo=g.mo
structure zA (w w':World):Prop where
 os:w'.os=w.os
 output:w'.output=w.output
 tape:w'.tape=w.tape
 drawn:w.drawn<=w'.drawn
theorem zA.now {w w':World} (h1:w'.os=w.os:=by rfl) (h2:w'.output=w.output:=by rfl) (h3:w'.tape=w.tape:=by rfl) (h4:w.drawn<=w'.drawn:=by first|exact Ab _|exact Gn _|exact Hh _ _):zA w w':=⟨h1,h2,h3,h4⟩
theorem zA.trans {w w' w'':World} (h:zA w w') (h':zA w' w''):zA w w'':=⟨h'.os.trans h.os,h'.output.trans h.output,h'.tape.trans h.tape,Cd h.drawn h'.drawn⟩
structure QK (b:Bool) (w w':World):Prop where
 os:w'.os=w.os
 output:w'.output=w.output
 tape:w'.tape=w.tape
 drawn:b=true->w.drawn<=w'.drawn
theorem zA.toB {w w':World} (h:zA w w') (b:Bool):QK b w w':=⟨h.os,h.output,h.tape,fun _=>h.drawn⟩
theorem QK.trans {b:Bool} {w w' w'':World} (h:QK b w w') (h':QK b w' w''):QK b w w'':=⟨h'.os.trans h.os,h'.output.trans h.output,h'.tape.trans h.tape,fun hb=>Cd (h.drawn hb) (h'.drawn hb)⟩
structure Ext (G:Gh) (H:aA) (w:World) (G':Gh) (H':aA) (w':World):Prop where
 loc:∀id l,G.loc id=some l->G'.loc id=some l
 iB:∀b o,G.iB b o->G'.iB b o/\w'.cell? ⟨b,o,none⟩=w.cell? ⟨b,o,none⟩
 size:w.heap.size<=w'.heap.size
 frame:∀b,b<w.heap.size->(∀id l,G.loc id=some l->H.live id->l.dB≠b)->w'.heap[b]?=w.heap[b]?
 lP:∀id l,G'.loc id=some l->H'.live id->w.heap.size<=l.dB\/∃eX l0,G.loc eX=some l0/\H.live eX/\l0.dB=l.dB
 pK:∀b o,G'.iB b o->G.iB b o\/w.heap.size<=b\/∃eX l0,G.loc eX=some l0/\H.live eX/\l0.dB=b
 next:H.next<=H'.next
 news:∀id l,G'.loc id=some l->G.loc id=none->H.next<=id
 dead:∀id l,G.loc id=some l->H'.live id->H.live id
 mo:G'.mo=G.mo
 same:QK G.mo w w'
theorem Ext.refl (G:Gh) (H:aA) (w:World):Ext G H w G H w where
 loc:=fun _ _ h=>h
 iB:=fun _ _ h=>⟨h,rfl⟩
 size:=Ab _
 frame:=fun _ _ _=>rfl
 lP:=fun id l h hl=>.inr ⟨id,l,h,hl,rfl⟩
 pK:=fun _ _ h=>.inl h
 next:=Ab _
 news:=fun _ _ h h'=>by rw[h] at h';cases h'
 dead:=fun _ _ _ h=>h
 mo:=rfl
 same:=zA.toB .now _
theorem Ext.trans {G G' G'':Gh} {H H' GK:aA} {w w' w'':World} (h:Ext G H w G' H' w') (h':Ext G' H' w' G'' GK w''):Ext G H w G'' GK w'' where
 loc:=fun id l hl=>h'.loc _ _ (h.loc _ _ hl)
 iB:=fun b o hi=>⟨(h'.iB _ _ (h.iB _ _ hi).1).1,((h'.iB _ _ (h.iB _ _ hi).1).2).trans (h.iB _ _ hi).2⟩
 size:=Cd h.size h'.size
 frame:=fun b hb hn=>by
  rw[h'.frame b (Ck hb h.size) (fun id l hl hv=>?_),h.frame b hb hn]
  rcases h.lP id l hl hv with LQ|⟨eX,l0,Qw,PQ,he⟩
  . omega
  rw[<-he];exact hn eX l0 Qw PQ
 lP:=fun id l hl hv=>by
  rcases h'.lP id l hl hv with LQ|⟨eX,l0,Qw,PQ,he⟩
  . exact .inl (Cd h.size LQ)
  rcases h.lP eX l0 Qw PQ with LQ|⟨id1,l1,yV,tR,Tf⟩
  . exact .inl (by omega)
  exact .inr ⟨id1,l1,yV,tR,Tf.trans he⟩
 pK:=fun b o hi=>by
  rcases h'.pK b o hi with hi|LQ|⟨eX,l0,Qw,PQ,he⟩
  . exact h.pK b o hi
  . exact .inr (.inl (Cd h.size LQ))
  rcases h.lP eX l0 Qw PQ with LQ|⟨id1,l1,yV,tR,Tf⟩
  . exact .inr (.inl (by omega))
  exact .inr (.inr ⟨id1,l1,yV,tR,Tf.trans he⟩)
 next:=Cd h.next h'.next
 news:=fun id l hl hn=>by
  cases h1:G'.loc id with
  |none=>exact Cd h.next (h'.news id l hl h1)
  |some l1=>exact h.news id l1 h1 hn
 dead:=fun id l hl hv=>h.dead id l hl (h'.dead id l (h.loc _ _ hl) hv)
 mo:=h'.mo.trans h.mo
 same:=h.same.trans (h.mo▸h'.same)
theorem VR.ext {G G':Gh} {H H':aA} {w w':World} {a:AV} {u:Value} (h:VR G w a u) (e:Ext G H w G' H' w'):VR G' w' a u:=
 h.mono e.loc e.iB
theorem iO.ext {G G':Gh} {H H':aA} {w w':World} {xs:List AV} {vs:List Value} (h:iO G w xs vs) (e:Ext G H w G' H' w'):iO G' w' xs vs:=
 ⟨h.1,fun j hj=>(h.2 j hj).ext e⟩
theorem aA.kV {H:aA} {id:Nat} {o:fB} {m:Nat}:(H.set id o).live m↔(m=id/\o.live=true)\/(m≠id/\H.live m):=by
 unfold aA.live;rw[aA.aC];by_cases h:m=id
 . subst h;simp
 simp[h]
theorem lQ {w:World} {b o:Nat} {c:Array Value} {el:TypeId} {fz:Nat×Nat} (h:w.heap[b]?=some (.cells c el fz)):
 w.cell? ⟨b,o,none⟩=c[o]?:=by
 unfold World.cell?;simp[h]
theorem qO {w:World} {b o:Nat} {c:Array Value} {el:TypeId} {fz:Nat×Nat} (h:w.heap[b]?=some (.cells c el fz)):
 w.frozen? ⟨b,o,none⟩=(decide (fz.1<=o)&&decide (o<fz.2)):=by
 unfold World.frozen?;simp[h]
theorem zO {w:World} {b o:Nat} {v:Value} (h:w.cell? ⟨b,o,none⟩=some v):∃c el fz,w.heap[b]?=some (.cells c el fz)/\c[o]?=some v:=by
 unfold World.cell? at h;split at h
 . rename_i c el fz hc;exact⟨c,el,fz,hc,by simpa using h⟩
 cases h
theorem gI {w w':World} {b o:Nat} (h:w'.heap[b]?=w.heap[b]?):w'.cell? ⟨b,o,none⟩=w.cell? ⟨b,o,none⟩:=by unfold World.cell?;simp[h]
theorem kY {w w':World} {b o:Nat} (h:w'.heap[b]?=w.heap[b]?):w'.frozen? ⟨b,o,none⟩=w.frozen? ⟨b,o,none⟩:=by unfold World.frozen?;simp[h]
theorem WR.of_heap {g:bG} {G:Gh} {H:aA} {w w':World} (h:WR g G H w) (hw:w'.heap=w.heap):WR g G H w':=by
 have hb:∀b:Nat,w'.heap[b]?=w.heap[b]?:=fun b=>by rw[hw]
 have hc:∀b o,w'.cell? ⟨b,o,none⟩=w.cell? ⟨b,o,none⟩:=fun b o=>gI (hb b);have hm:∀{a u},VR G w a u->VR G w' a u:=fun hv=>hv.mono (fun _ _ h=>h) (fun b o hi=>⟨hi,hc b o⟩)
 exact {
  cells:=fun id l cs eN h1 h2=>by obtain⟨a1,a2,a3,a4,a5⟩:=h.cells id l cs eN h1 h2;refine⟨a1,a2,a3,a4,fun j hj=>?_⟩;obtain⟨u,hu,hv⟩:=a5 j hj;exact⟨u,by rw[hc];exact hu,hm hv⟩
  room:=fun id l h1 h2=>by obtain⟨c,el,fz,a1,a2,a3⟩:=h.room id l h1 h2;exact⟨c,el,fz,by rw[hb];exact a1,a2,fun j hj=>by rw[kY (hb _)];exact a3 j hj⟩
  kT:=h.kT
  kE:=h.kE
  iV:=fun id l o h1 h2 hk=>let⟨a1,a2,a3⟩:=h.iV id l o h1 h2 hk;⟨a1,a2,a3.mono (hb _) fun _ _=>hm⟩
  lt:=h.lt
  jA:=fun b o hi=>by rw[hc];exact h.jA b o hi
  jG:=fun n cs hn=>hm (h.jG n cs hn)
  BV:=fun n cs hn h0=>by rw[hb];exact h.BV n cs hn h0
  mo:=h.mo}
theorem Ext.of_heap {G:Gh} {H:aA} {w w':World} (hw:w'.heap=w.heap) (hs:zA w w'):Ext G H w G H w' where
 loc:=fun _ _ h=>h
 iB:=fun b o h=>⟨h,gI (by rw[hw])⟩
 size:=by rw[hw];exact Ab _
 frame:=fun _ _ _=>by rw[hw]
 lP:=fun id l h hl=>.inr ⟨id,l,h,hl,rfl⟩
 pK:=fun _ _ h=>.inl h
 next:=Ab _
 news:=fun _ _ h h'=>by rw[h] at h';cases h'
 dead:=fun _ _ _ h=>h
 mo:=rfl
 same:=hs.toB _
theorem HJ {α:Type} (a:Array α) (x:α) {b:Nat} (h:b<a.size):(a.push x)[b]?=a[b]?:=by rw[Kj];rw[if_neg (by omega)]
theorem CS {α:Type} (a:Array α) (x:α):(a.push x)[a.size]?=some x:=by simp
theorem vW {w:World} {b o:Nat} {v:Value} (h:w.cell? ⟨b,o,none⟩=some v):b<w.heap.size:=by obtain⟨c,el,fz,h1,_⟩:=zO h;exact(Cg.1 h1).1
def Gh.nY (G:Gh) (b lo n:Nat):Gh:={G with iB:=fun b' o=>G.iB b' o\/(b'=b/\lo<=o/\o<lo+n)}
def Gh.dY (G:Gh) (id:Nat) (l:Loc):Gh:={G with loc:=fun i=>if i=id then some l else G.loc i}
theorem WR.mQ {g:bG} {G:Gh} {H:aA} {w:World} (h:WR g G H w) {id:Nat} {l:Loc} (hl:G.loc id=some l) (hv:H.live id):l.dB<w.heap.size:=by
 obtain⟨o,ho,lH⟩:=hv
 have :∃x,w.heap[l.dB]?=some x:=by
  cases o with
  |cells cs eN=>obtain⟨c,el,fz,h1,_⟩:=h.room id l hl (.inl ⟨cs,eN,ho⟩);exact⟨_,h1⟩
  |tok=>obtain⟨c,el,fz,h1,_⟩:=h.room id l hl (.inr ho);exact⟨_,h1⟩
  |dead=>cases lH
  |_=>have :=(h.iV id l _ hl ho rfl).2.2.lt rfl;exact⟨_,Dv this⟩
 obtain⟨x,hx⟩:=this;exact(Cg.1 hx).1
theorem WR.grow {g:bG} {G:Gh} {H:aA} {w w':World} (h:WR g G H w)
 (hb:∀b,b<w.heap.size->w'.heap[b]?=w.heap[b]?):WR g G H w':=by
 have hc:∀b o,G.iB b o->w'.cell? ⟨b,o,none⟩=w.cell? ⟨b,o,none⟩:=fun b o hi=>by obtain⟨v,hv⟩:=h.jA b o hi;exact gI (hb b (vW hv))
 have hm:∀{a u},VR G w a u->VR G w' a u:=fun hv=>hv.mono (fun _ _ h=>h) (fun b o hi=>⟨hi,hc b o hi⟩)
 exact {
  cells:=fun id l cs eN h1 h2=>by obtain⟨a1,a2,a3,a4,a5⟩:=h.cells id l cs eN h1 h2;refine⟨a1,a2,a3,a4,fun j hj=>?_⟩;obtain⟨u,hu,hv⟩:=a5 j hj;exact⟨u,by rw[gI (hb _ (h.mQ h1 ⟨_,h2,rfl⟩))];exact hu,hm hv⟩
  room:=fun id l h1 h2=>by obtain⟨c,el,fz,a1,a2,a3⟩:=h.room id l h1 h2;have fJ:=(Cg.1 a1).1;exact⟨c,el,fz,by rw[hb _ fJ];exact a1,a2,fun j hj=>by rw[kY (hb _ fJ)];exact a3 j hj⟩
  kT:=h.kT
  kE:=h.kE
  iV:=fun id l o h1 h2 hk=>let⟨a1,a2,a3⟩:=h.iV id l o h1 h2 hk;⟨a1,a2,a3.mono (hb _ (a3.lt hk)) fun _ _=>hm⟩
  lt:=h.lt
  jA:=fun b o hi=>by rw[hc b o hi];exact h.jA b o hi
  jG:=fun n cs hn=>hm (h.jG n cs hn)
  BV:=fun n cs hn h0=>let⟨c,el,fz,a1,a2⟩:=h.BV n cs hn h0;⟨c,el,fz,by rw[hb _ (Cg.1 a1).1];exact a1,a2⟩
  mo:=h.mo}
theorem Ext.grow {G:Gh} {H:aA} {w w':World} (pJ:∀b o,G.iB b o->∃v,w.cell? ⟨b,o,none⟩=some v)
 (hb:∀b,b<w.heap.size->w'.heap[b]?=w.heap[b]?) (lE:w.heap.size<=w'.heap.size) (hs:zA w w'):Ext G H w G H w' where
 loc:=fun _ _ h=>h
 iB:=fun b o hi=>⟨hi,by obtain⟨v,hv⟩:=pJ b o hi;exact gI (hb b (vW hv))⟩
 size:=lE
 frame:=fun b fJ _=>hb b fJ
 lP:=fun id l h hl=>.inr ⟨id,l,h,hl,rfl⟩
 pK:=fun _ _ h=>.inl h
 next:=Ab _
 news:=fun _ _ h h'=>by rw[h] at h';cases h'
 dead:=fun _ _ _ h=>h
 mo:=rfl
 same:=hs.toB _
theorem WR.nY {g:bG} {G:Gh} {H:aA} {w:World} (h:WR g G H w) (b lo n:Nat)
 (hex:∀j,j<n->∃v,w.cell? ⟨b,lo+j,none⟩=some v)
 (tP:∀id l,G.loc id=some l->H.live id->l.dB≠b\/l.base+l.ext<=lo\/lo+n<=l.base):WR g (G.nY b lo n) H w:=by
 have hm:∀{a u},VR G w a u->VR (G.nY b lo n) w a u:=fun hv=>hv.mono (fun _ _ h=>h) (fun b o hi=>⟨.inl hi,rfl⟩)
 exact {
  cells:=fun id l cs eN h1 h2=>by obtain⟨a1,a2,a3,a4,a5⟩:=h.cells id l cs eN h1 h2;refine⟨a1,a2,a3,a4,fun j hj=>?_⟩;obtain⟨u,hu,hv⟩:=a5 j hj;exact⟨u,hu,hm hv⟩
  room:=h.room
  kT:=h.kT
  kE:=fun id l hl hv j hj hi=>by
   rcases hi with hi|⟨h1,h2,h3⟩
   . exact h.kE id l hl hv j hj hi
   rcases tP id l hl hv with hd|hd|hd
   . exact hd h1
   . omega
   omega
  iV:=fun id l o h1 h2 hk=>let⟨a1,a2,a3⟩:=h.iV id l o h1 h2 hk;⟨a1,a2,a3.mono rfl fun _ _=>hm⟩
  lt:=h.lt
  jA:=fun b' o hi=>by
   rcases hi with hi|⟨rfl,h2,h3⟩
   . exact h.jA b' o hi
   have :=hex (o -lo) (by omega)
   rwa [show lo+(o -lo)=o by omega] at this
  jG:=fun n cs hn=>hm (h.jG n cs hn)
  BV:=h.BV
  mo:=h.mo}
theorem Ext.nY {G G':Gh} {H H':aA} {w w':World} (e:Ext G H w G' H' w') (b lo n:Nat)
 (hb:w.heap.size<=b\/∃eX l0,G.loc eX=some l0/\H.live eX/\l0.dB=b):Ext G H w (G'.nY b lo n) H' w' where
 loc:=e.loc
 iB:=fun b' o hi=>⟨.inl (e.iB b' o hi).1,(e.iB b' o hi).2⟩
 size:=e.size
 frame:=e.frame
 lP:=e.lP
 pK:=fun b' o hi=>by
  rcases hi with hi|⟨rfl,_,_⟩
  . exact e.pK b' o hi
  exact .inr hb
 next:=e.next
 news:=e.news
 dead:=e.dead
 mo:=e.mo
 same:=e.same
theorem WR.GP {g:bG} {G:Gh} {H H':aA} {w:World} (h:WR g G H w) (eX:Nat) (o:fB) (l:Loc) (dC:G.loc eX=none)
 (cY:∀m,H'.get m=if m=eX then some o else H.get m) (AJ:H.next<=H'.next) (FD:eX<H'.next)
 (tP:∀id l',G.loc id=some l'->H.live id->l.dB≠l'.dB\/l.base+l.ext<=l'.base\/l'.base+l'.ext<=l.base)
 (pJ:∀j,j<l.ext->¬G.iB l.dB (l.base+j))
 (Nq:∀cs eN,o=.cells cs eN->l.Tl=cs.length/\l.Tl<=l.ext/\(eN=false->l.Tl=l.ext)/\(∀c∈cs,c.one=true)/\
   ∀j,j<cs.length->∃u,w.cell? ⟨l.dB,l.base+j,none⟩=some u/\VR G w (cs.getD j aD) u)
 (wF:((∃cs eN,o=.cells cs eN)\/o=.tok)->∃c el fz,w.heap[l.dB]?=some (.cells c el fz)/\l.base+l.ext<=c.size/\∀j,j<l.ext->w.frozen? ⟨l.dB,l.base+j,none⟩=false)
 (Xe:o.dB=true->l.base=0/\l.ext=1/\JO g G w l o):
 WR g (G.dY eX l) H' w:=by
 have cQ:∀{id l'},G.loc id=some l'->id≠eX:=fun hl he=>by rw[he,dC] at hl;cases hl
 have hm:∀{a u},VR G w a u->VR (G.dY eX l) w a u:=fun hv=>hv.mono (fun id l' hl=>by simp only[Gh.dY];rw[if_neg (cQ hl)];exact hl) (fun b o hi=>⟨hi,rfl⟩)
 have oS:∀{id l'},(G.dY eX l).loc id=some l'->(id=eX/\l'=l)\/(id≠eX/\G.loc id=some l'):=fun {id l'} hl=>by
  simp only[Gh.dY] at hl;split at hl
  . exact .inl ⟨by assumption,by cases hl;rfl⟩
  exact .inr ⟨by assumption,hl⟩
 have pR:∀{id},id≠eX->H'.live id->H.live id:=fun hn ⟨x,hx,Sm⟩=>⟨x,by rw[cY,if_neg hn] at hx;exact hx,Sm⟩
 exact {
  cells:=fun id l' cs eN h1 h2=>by
   rw[cY] at h2
   rcases oS h1 with ⟨rfl,rfl⟩|⟨hn,h1⟩
   . rw[if_pos rfl] at h2;obtain⟨a1,a2,a3,a4,a5⟩:=Nq cs eN (Aa h2);refine⟨a1,a2,a3,a4,fun j hj=>?_⟩;obtain⟨u,hu,hv⟩:=a5 j hj;exact⟨u,hu,hm hv⟩
   rw[if_neg hn] at h2;obtain⟨a1,a2,a3,a4,a5⟩:=h.cells id l' cs eN h1 h2;refine⟨a1,a2,a3,a4,fun j hj=>?_⟩;obtain⟨u,hu,hv⟩:=a5 j hj;exact⟨u,hu,hm hv⟩
  room:=fun id l' h1 h2=>by
   simp only[cY] at h2
   rcases oS h1 with ⟨rfl,rfl⟩|⟨hn,h1⟩
   . simp only[if_true] at h2;refine wF (h2.imp (fun⟨cs,eN,hh⟩=>⟨cs,eN,Aa hh⟩) (fun hh=>Aa hh))
   simp only[if_neg hn] at h2;exact h.room id l' h1 h2
  kT:=fun id kU l1 l2 aVy h1 h2 tR sY=>by
   rcases oS h1 with ⟨e1,e1'⟩|⟨hn,k1⟩
   . rcases oS h2 with ⟨e2,e2'⟩|⟨SY,k2⟩
     . exact absurd (e1.trans e2.symm) aVy
     rw[e1'];exact tP kU l2 k2 (pR SY sY)
   rcases oS h2 with ⟨e2,e2'⟩|⟨SY,k2⟩
   . rw[e2']
     rcases tP id l1 k1 (pR hn tR) with hd|hd|hd
     . exact .inl (Ne.symm hd)
     . exact .inr (.inr hd)
     exact .inr (.inl hd)
   exact h.kT id kU l1 l2 aVy k1 k2 (pR hn tR) (pR SY sY)
  kE:=fun id l' h1 hv j hj=>by
   rcases oS h1 with ⟨rfl,rfl⟩|⟨hn,h1⟩
   . exact pJ j hj
   exact h.kE id l' h1 (pR hn hv) j hj
  iV:=fun id l' ob h1 h2 hk=>by
   rw[cY] at h2
   rcases oS h1 with ⟨rfl,rfl⟩|⟨hn,h1⟩
   . rw[if_pos rfl] at h2;obtain rfl:=Aa h2;obtain⟨a1,a2,a3⟩:=Xe hk;exact⟨a1,a2,a3.mono rfl fun _ _=>hm⟩
   rw[if_neg hn] at h2;obtain⟨a1,a2,a3⟩:=h.iV id l' ob h1 h2 hk;exact⟨a1,a2,a3.mono rfl fun _ _=>hm⟩
  lt:=fun id l' h1=>by
   rcases oS h1 with ⟨rfl,rfl⟩|⟨hn,h1⟩
   . exact FD
   exact Ck (h.lt id l' h1) AJ
  jA:=h.jA
  jG:=fun n cs hn=>hm (h.jG n cs hn)
  BV:=h.BV
  mo:=h.mo}
theorem WR.My {g:bG} {G:Gh} {H:aA} {w:World} (h:WR g G H w) (o:fB) (l:Loc)
 (tP:∀id l',G.loc id=some l'->H.live id->l.dB≠l'.dB\/l.base+l.ext<=l'.base\/l'.base+l'.ext<=l.base)
 (pJ:∀j,j<l.ext->¬G.iB l.dB (l.base+j))
 (Nq:∀cs eN,o=.cells cs eN->l.Tl=cs.length/\l.Tl<=l.ext/\(eN=false->l.Tl=l.ext)/\(∀c∈cs,c.one=true)/\
   ∀j,j<cs.length->∃u,w.cell? ⟨l.dB,l.base+j,none⟩=some u/\VR G w (cs.getD j aD) u)
 (wF:((∃cs eN,o=.cells cs eN)\/o=.tok)->∃c el fz,w.heap[l.dB]?=some (.cells c el fz)/\l.base+l.ext<=c.size/\∀j,j<l.ext->w.frozen? ⟨l.dB,l.base+j,none⟩=false)
 (Xe:o.dB=true->l.base=0/\l.ext=1/\JO g G w l o):
 WR g (G.dY H.next l) (H.alloc o) w:=
 h.GP H.next o l (by
  cases hl:G.loc H.next with
  |none=>rfl
  |some l'=>exact absurd (h.lt _ _ hl) (Ez _)) (aA.aG H o) (Gn _) (Ex _) tP pJ Nq wF Xe
theorem Ext.GP {G G':Gh} {H H' GK:aA} {w w':World} (e:Ext G H w G' H' w') (eX:Nat) (o:fB) (l:Loc) (dC:G'.loc eX=none)
 (cY:∀m,GK.get m=if m=eX then some o else H'.get m) (AJ:H'.next<=GK.next) (LQ:H.next<=eX)
 (hb:w.heap.size<=l.dB\/∃eX l0,G.loc eX=some l0/\H.live eX/\l0.dB=l.dB):Ext G H w (G'.dY eX l) GK w' where
 loc:=fun id l' hl=>by have h1:=e.loc id l' hl;simp only[Gh.dY];rw[if_neg (fun he=>by rw[he,dC] at h1;cases h1)];exact h1
 iB:=e.iB
 size:=e.size
 frame:=e.frame
 lP:=fun id l' hl hv=>by
  simp only[Gh.dY] at hl;split at hl
  . cases hl;exact hb
  rename_i hn;obtain⟨x,hx,Sm⟩:=hv;rw[cY,if_neg hn] at hx;exact e.lP id l' hl ⟨x,hx,Sm⟩
 pK:=e.pK
 next:=Cd e.next AJ
 news:=fun id l' hl hn=>by
  simp only[Gh.dY] at hl;split at hl
  . rename_i he;rw[he];exact LQ
  exact e.news id l' hl hn
 dead:=fun id l' hl hv=>by have h1:=e.loc id l' hl;obtain⟨x,hx,Sm⟩:=hv;rw[cY,if_neg (fun he=>by rw[he,dC] at h1;cases h1)] at hx;exact e.dead id l' hl ⟨x,hx,Sm⟩
 mo:=e.mo
 same:=e.same
theorem Ext.My {G G':Gh} {H H':aA} {w w':World} (e:Ext G H w G' H' w') (o:fB) (l:Loc) (fJ:∀id l',G'.loc id=some l'->id<H'.next)
 (hb:w.heap.size<=l.dB\/∃eX l0,G.loc eX=some l0/\H.live eX/\l0.dB=l.dB):Ext G H w (G'.dY H'.next l) (H'.alloc o) w':=
 e.GP H'.next o l (by
  cases hl:G'.loc H'.next with
  |none=>rfl
  |some l'=>exact absurd (fJ _ _ hl) (Ez _)) (aA.aG H' o) (Gn _) e.next hb
theorem WR.kill {g:bG} {G:Gh} {H:aA} {w:World} (h:WR g G H w) (id:Nat):WR g G (H.set id .dead) w where
 cells:=fun i l cs eN h1 h2=>by
  rw[aA.aC] at h2;split at h2
  . cases h2
  exact h.cells i l cs eN h1 h2
 room:=fun i l h1 h2=>by
  simp only[aA.aC] at h2;split at h2
  . rcases h2 with ⟨_,_,h2⟩|h2<;>cases h2
  exact h.room i l h1 h2
 kT:=fun i i' l l' cQ h1 h2 tR sY=>by
  rcases aA.kV.1 tR with ⟨_,hh⟩|⟨_,tR⟩
  . cases hh
  rcases aA.kV.1 sY with ⟨_,hh⟩|⟨_,sY⟩
  . cases hh
  exact h.kT i i' l l' cQ h1 h2 tR sY
 kE:=fun i l h1 hv=>by
  rcases aA.kV.1 hv with ⟨_,hh⟩|⟨_,hv⟩
  . cases hh
  exact h.kE i l h1 hv
 iV:=fun i l ob h1 h2 hk=>by
  rw[aA.aC] at h2;split at h2
  . cases h2;cases hk
  exact h.iV i l ob h1 h2 hk
 lt:=h.lt
 jA:=h.jA
 jG:=h.jG
 BV:=h.BV
 mo:=h.mo
theorem Ext.kill {G G':Gh} {H H':aA} {w w':World} (e:Ext G H w G' H' w') (id:Nat):Ext G H w G' (H'.set id .dead) w' where
 loc:=e.loc
 iB:=e.iB
 size:=e.size
 frame:=e.frame
 lP:=fun i l hl hv=>by
  rcases aA.kV.1 hv with ⟨_,hh⟩|⟨_,hv⟩
  . cases hh
  exact e.lP i l hl hv
 pK:=e.pK
 next:=e.next
 news:=e.news
 dead:=fun i l hl hv=>by
  rcases aA.kV.1 hv with ⟨_,hh⟩|⟨_,hv⟩
  . cases hh
  exact e.dead i l hl hv
 mo:=e.mo
 same:=e.same
structure Td (w w':World) (b lo:Nat) (vs:List Value):Prop where
 size:w'.heap.size=w.heap.size
 other:∀b',b'≠b->w'.heap[b']?=w.heap[b']?
 row:∀c el fz,w.heap[b]?=some (.cells c el fz)->∃c',w'.heap[b]?=some (.cells c' el fz)/\c'.size=c.size/\
  (∀o,(o<lo\/lo+vs.length<=o)->c'[o]?=c[o]?)/\(∀j,j<vs.length->lo+j<c.size->c'[lo+j]?=some (vs.getD j undef))
 same:zA w w'
theorem Td.cell {w w':World} {b lo:Nat} {vs:List Value} (u:Td w w' b lo vs) {b' o:Nat} (h:b'≠b\/o<lo\/lo+vs.length<=o) {v:Value}
 (hc:w.cell? ⟨b',o,none⟩=some v):w'.cell? ⟨b',o,none⟩=some v:=by
 by_cases hb:b'=b
 . subst hb;obtain⟨c,el,fz,h1,h2⟩:=zO hc;obtain⟨c',h3,h4,h5,_⟩:=u.row c el fz h1;rw[lQ h3,h5 o (h.resolve_left (fun cQ=>cQ rfl))];exact h2
 rw[gI (u.other b' hb)];exact hc
theorem Td.frozen {w w':World} {b lo:Nat} {vs:List Value} (u:Td w w' b lo vs) {b' o:Nat} {c:Array Value} {el:TypeId} {fz:Nat×Nat}
 (hc:w.heap[b']?=some (.cells c el fz)):w'.frozen? ⟨b',o,none⟩=w.frozen? ⟨b',o,none⟩:=by
 by_cases hb:b'=b
 . subst hb;obtain⟨c',h3,_⟩:=u.row c el fz hc;rw[qO h3,qO hc]
 exact kY (u.other b' hb)
theorem WR.write {g:bG} {G:Gh} {H:aA} {w w':World} (h:WR g G H w) {b lo:Nat} {vs:List Value} (u:Td w w' b lo vs)
 (pJ:∀j,j<vs.length->¬G.iB b (lo+j))
 (tP:∀id l,G.loc id=some l->H.live id->l.dB≠b\/l.base+l.ext<=lo\/lo+vs.length<=l.base)
 (rB:∃c el fz,w.heap[b]?=some (.cells c el fz)):WR g G H w':=by
 have hc:∀b' o,G.iB b' o->w'.cell? ⟨b',o,none⟩=w.cell? ⟨b',o,none⟩:=fun b' o hi=>by
  obtain⟨v,hv⟩:=h.jA b' o hi;rw[hv];refine u.cell ?_ hv;by_cases hb:b'=b
  . subst hb;by_cases h1:o<lo
    . exact .inr (.inl h1)
    refine .inr (.inr (Ih fun h2=>pJ (o -lo) (by omega) ?_))
    rwa [show lo+(o -lo)=o by omega]
  exact .inl hb
 have hm:∀{a u},VR G w a u->VR G w' a u:=fun hv=>hv.mono (fun _ _ h=>h) (fun b o hi=>⟨hi,hc b o hi⟩)
 exact {
  cells:=fun id l cs eN h1 h2=>by
   obtain⟨a1,a2,a3,a4,a5⟩:=h.cells id l cs eN h1 h2;refine⟨a1,a2,a3,a4,fun j hj=>?_⟩;obtain⟨x,hx,hv⟩:=a5 j hj;refine⟨x,u.cell ?_ hx,hm hv⟩
   rcases tP id l h1 ⟨_,h2,rfl⟩ with hd|hd|hd
   . exact .inl hd
   . exact .inr (.inl (by omega))
   exact .inr (.inr (by omega))
  room:=fun id l h1 h2=>by
   obtain⟨c,el,fz,a1,a2,a3⟩:=h.room id l h1 h2;by_cases hb:l.dB=b
   . subst hb;obtain⟨c',h3,h4,_⟩:=u.row c el fz a1;exact⟨c',el,fz,h3,by omega,fun j hj=>by rw[u.frozen a1];exact a3 j hj⟩
   exact⟨c,el,fz,by rw[u.other _ hb];exact a1,a2,fun j hj=>by rw[u.frozen a1];exact a3 j hj⟩
  kT:=h.kT
  kE:=h.kE
  iV:=fun id l ob h1 h2 hk=>by
   obtain⟨a1,a2,a3⟩:=h.iV id l ob h1 h2 hk
   have hb:l.dB≠b:=fun hb=>by obtain⟨c,el,fz,hr⟩:=rB;rw[<-hb] at hr;exact a3.AR hk hr
   exact⟨a1,a2,a3.mono (u.other _ hb) fun _ _=>hm⟩
  lt:=h.lt
  jA:=fun b o hi=>by rw[hc b o hi];exact h.jA b o hi
  jG:=fun n cs hn=>hm (h.jG n cs hn)
  BV:=fun n cs hn h0=>by
   obtain⟨c,el,fz,a1,a2⟩:=h.BV n cs hn h0;by_cases hb:n=b
   . subst hb;obtain⟨c',h3,h4,_⟩:=u.row c el fz a1;exact⟨c',el,fz,h3,by omega⟩
   exact⟨c,el,fz,by rw[u.other _ hb];exact a1,a2⟩
  mo:=h.mo}
theorem Ext.write {G G':Gh} {H H':aA} {w w1 w':World} (e:Ext G H w G' H' w1) {b lo:Nat} {vs:List Value} (u:Td w1 w' b lo vs)
 (pJ:∀j,j<vs.length->¬G'.iB b (lo+j)) (hex:∀b o,G'.iB b o->∃v,w1.cell? ⟨b,o,none⟩=some v)
 (hb:w.heap.size<=b\/∃eX l0,G.loc eX=some l0/\H.live eX/\l0.dB=b):Ext G H w G' H' w' where
 loc:=e.loc
 iB:=fun b' o hi=>by
  have h1:=e.iB b' o hi;refine⟨h1.1,?_⟩;rw[<-h1.2];obtain⟨v,hv⟩:=hex b' o h1.1;rw[hv];refine u.cell ?_ hv;by_cases hbb:b'=b
  . subst hbb;by_cases h2:o<lo
    . exact .inr (.inl h2)
    refine .inr (.inr (Ih fun h3=>pJ (o -lo) (by omega) ?_));rw[show lo+(o -lo)=o by omega];exact h1.1
  exact .inl hbb
 size:=by rw[u.size];exact e.size
 frame:=fun b' fJ hn=>by
  have cQ:b'≠b:=fun he=>by
   subst he
   rcases hb with hb|⟨eX,l0,h1,h2,h3⟩
   . omega
   exact hn eX l0 h1 h2 h3
  rw[u.other b' cQ];exact e.frame b' fJ hn
 lP:=e.lP
 pK:=e.pK
 next:=e.next
 news:=e.news
 dead:=e.dead
 mo:=e.mo
 same:=e.same.trans (u.same.toB _)
theorem WR.aUb {g:bG} {G:Gh} {H:aA} {w:World} {id:Nat} (h:WR g G (H.set id .dead) w) (o:fB) (l:Loc) (hl:G.loc id=some l)
 (tP:∀kU l',kU≠id->G.loc kU=some l'->H.live kU->l.dB≠l'.dB\/l.base+l.ext<=l'.base\/l'.base+l'.ext<=l.base)
 (pJ:∀j,j<l.ext->¬G.iB l.dB (l.base+j))
 (Nq:∀cs eN,o=.cells cs eN->l.Tl=cs.length/\l.Tl<=l.ext/\(eN=false->l.Tl=l.ext)/\(∀c∈cs,c.one=true)/\
   ∀j,j<cs.length->∃u,w.cell? ⟨l.dB,l.base+j,none⟩=some u/\VR G w (cs.getD j aD) u)
 (wF:((∃cs eN,o=.cells cs eN)\/o=.tok)->∃c el fz,w.heap[l.dB]?=some (.cells c el fz)/\l.base+l.ext<=c.size/\∀j,j<l.ext->w.frozen? ⟨l.dB,l.base+j,none⟩=false)
 (Xe:o.dB=true->l.base=0/\l.ext=1/\JO g G w l o):
 WR g G (H.set id o) w:=by
 have cY:∀{m},m≠id->(H.set id o).get m=(H.set id .dead).get m:=fun hm=>by rw[aA.aC,aA.aC,if_neg hm,if_neg hm]
 have sM:∀{l'},G.loc id=some l'->l'=l:=fun h'=>Aa (h'.symm.trans hl)
 have pR:∀{m},m≠id->(H.set id o).live m->(H.set id .dead).live m:=fun hm hv=>by obtain⟨x,hx,Sm⟩:=hv;exact⟨x,by rw[<-cY hm];exact hx,Sm⟩
 have aJk:∀{m},m≠id->(H.set id o).live m->H.live m:=fun hm hv=>by
  rcases aA.kV.1 hv with ⟨he,_⟩|⟨_,hv⟩
  . exact absurd he hm
  exact hv
 exact {
  cells:=fun i l' cs eN h1 h2=>by
   by_cases hi:i=id
   . subst hi;rw[aA.aC,if_pos rfl] at h2;obtain rfl:=sM h1;exact Nq cs eN (Aa h2)
   rw[cY hi] at h2;exact h.cells i l' cs eN h1 h2
  room:=fun i l' h1 h2=>by
   by_cases hi:i=id
   . subst hi;simp only[aA.aC,if_true] at h2;obtain rfl:=sM h1;exact wF (h2.imp (fun⟨cs,eN,hh⟩=>⟨cs,eN,Aa hh⟩) (fun hh=>Aa hh))
   simp only[cY hi] at h2;exact h.room i l' h1 h2
  kT:=fun i i' l1 l2 cQ h1 h2 tR sY=>by
   by_cases hi:i=id
   . subst hi;obtain rfl:=sM h1;exact tP i' l2 (Ne.symm cQ) h2 (aJk (Ne.symm cQ) sY)
   by_cases gQ:i'=id
   . subst gQ;obtain rfl:=sM h2
     rcases tP i l1 cQ h1 (aJk cQ tR) with hd|hd|hd
     . exact .inl (Ne.symm hd)
     . exact .inr (.inr hd)
     exact .inr (.inl hd)
   exact h.kT i i' l1 l2 cQ h1 h2 (pR hi tR) (pR gQ sY)
  kE:=fun i l' h1 hv=>by
   by_cases hi:i=id
   . subst hi;obtain rfl:=sM h1;exact pJ
   exact h.kE i l' h1 (pR hi hv)
  iV:=fun i l' ob h1 h2 hk=>by
   by_cases hi:i=id
   . subst hi;rw[aA.aC,if_pos rfl] at h2;obtain rfl:=Aa h2;obtain rfl:=sM h1;exact Xe hk
   rw[cY hi] at h2;exact h.iV i l' ob h1 h2 hk
  lt:=h.lt
  jA:=h.jA
  jG:=h.jG
  BV:=h.BV
  mo:=h.mo}
theorem Ext.aHx {G G':Gh} {H H':aA} {w w':World} (e:Ext G H w G' H' w') (id:Nat) (o:fB) (hv:H'.live id):Ext G H w G' (H'.set id o) w' where
 loc:=e.loc
 iB:=e.iB
 size:=e.size
 frame:=e.frame
 lP:=fun i l hl mX=>by
  rcases aA.kV.1 mX with ⟨he,_⟩|⟨_,mX⟩
  . subst he;exact e.lP i l hl hv
  exact e.lP i l hl mX
 pK:=e.pK
 next:=e.next
 news:=e.news
 dead:=fun i l hl mX=>by
  rcases aA.kV.1 mX with ⟨he,_⟩|⟨_,mX⟩
  . subst he;exact e.dead i l hl hv
  exact e.dead i l hl mX
 mo:=e.mo
 same:=e.same
theorem jX (b o i:Nat):(⟨b,o,none⟩:Addr).add i=⟨b,o+i,none⟩:=by
 unfold Addr.add;split
 . rename_i h;subst h;rfl
 rfl
theorem qF {α:Type} (l:List α) (d:α) (j:Nat) (h:j<l.length):l[j]?=some (l.getD j d):=by simp[List.getD,Ad h]
theorem uR (P:Program) (w:World) (b o:Nat) (us:List Value) (h:∀j,j<us.length->w.cell? ⟨b,o+j,none⟩=some (us.getD j undef)):
 (loadCells ⟨b,o,none⟩ us.length).run P w=.ok us.toArray w:=
 run_loadCells_list w ⟨b,o,none⟩ us (fun j v hj=>by
  have fJ:=(Bk.1 hj).1;rw[jX,h j fJ];rw[qF us undef j fJ] at hj
  exact hj)
theorem Vu {w:World} {b o:Nat} {v:Value}:Td w (w.setCell ⟨b,o,none⟩ v) b o [v] where
 size:=by simp[World.setCell]
 other:=fun b' hb=>by simp only[World.setCell,Gx];rw[if_neg (Ne.symm hb)]
 row:=fun c el fz h=>by
  refine⟨c.setIfInBounds o v,?_,by simp,fun o' ho=>?_,fun j hj fJ=>?_⟩
  . simp[World.setCell,Gx,h]
  . rw[Array.getElem?_setIfInBounds_ne];simp at ho;omega
  simp at hj;subst hj;simp at fJ;simp[fJ]
 same:=.now
theorem Td.refl (w:World) (b lo:Nat):Td w w b lo [] where
 size:=rfl
 other:=fun _ _=>rfl
 row:=fun c el fz h=>⟨c,h,rfl,fun _ _=>rfl,fun j hj=>absurd hj (Ap j)⟩
 same:=.now
theorem Td.cons {w w1 w2:World} {b lo:Nat} {v:Value} {vs:List Value} (h1:Td w w1 b lo [v]) (h2:Td w1 w2 b (lo+1) vs):Td w w2 b lo (v::vs) where
 size:=h2.size.trans h1.size
 other:=fun b' hb=>(h2.other b' hb).trans (h1.other b' hb)
 row:=fun c el fz h=>by
  obtain⟨c1,a1,a2,a3,a4⟩:=h1.row c el fz h;obtain⟨c2,b1,b2,b3,b4⟩:=h2.row c1 el fz a1;refine⟨c2,b1,b2.trans a2,fun o ho=>?_,fun j hj fJ=>?_⟩
  . simp only[As] at ho;rw[b3 o (by omega),a3 o Zah]
  cases j with
  |zero=>rw[b3 _ (by omega)];have :=a4 0 (by simp) (by omega);simpa using this
  |succ j=>have :=b4 j ZaC (by omega);rw[show lo+(j+1)=lo+1+j by omega,this];simp
 same:=h1.same.trans h2.same
theorem Pz (P:Program) (w:World) (b o:Nat) (v:Value) (u:Value) (hc:w.cell? ⟨b,o,none⟩=some u) (hf:w.frozen? ⟨b,o,none⟩=false) (h1:aAa v=true):
 (store ⟨b,o,none⟩ v).run P w=.ok () (w.setCell ⟨b,o,none⟩ v):=by
 cases v<;>first
  |(simp[aAa] at h1;done)
  |simp[store,Sem.run,hc,hf]
theorem fE (P:Program) (b o:Nat):∀(vs:List Value) (i:Nat) (w:World),(∃c el fz,w.heap[b]?=some (.cells c el fz)/\o+i+vs.length<=c.size)->
 (∀j,j<vs.length->w.frozen? ⟨b,o+i+j,none⟩=false)->(∀v∈vs,aAa v=true)->
 ∃w',(storeCells ⟨b,o,none⟩ vs i).run P w=.ok () w'/\Td w w' b (o+i) vs
 |[],i,w,_,_,_=>⟨w,rfl,Td.refl w b _⟩
 |v::r,i,w,⟨c,el,fz,rB,lE⟩,hf,h1=>by
  simp only[As] at lE;have kJ:w.cell? ⟨b,o+i,none⟩=some c[o+i]:=by rw[lQ rB,Dv (by omega)]
  have gV:=Pz P w b (o+i) v _ kJ (by simpa using hf 0 (by simp)) (h1 v (by simp));have hu:Td w (w.setCell ⟨b,o+i,none⟩ v) b (o+i) [v]:=Vu;obtain⟨c1,a1,a2,_,_⟩:=hu.row c el fz rB
  obtain⟨w',hr,hu'⟩:=fE P b o r (i+1) (w.setCell ⟨b,o+i,none⟩ v) ⟨c1,el,fz,a1,by omega⟩
   (fun j hj=>by
     rw[hu.frozen rB];have :=hf (j+1) ZaC
     rwa [show o+(i+1)+j=o+i+(j+1) by omega]) (fun x hx=>h1 x (by simp[hx]))
  refine⟨w',?_,hu.cons (by rwa [show o+i+1=o+(i+1) by omega])⟩;simp only[storeCells,Sem.run_bind,jX,gV,Result.andThen_ok];exact hr
structure iR (w w':World) (o:Go.Obj):Prop where
 heap:w'.heap=w.heap.push o
 same:zA w w'
theorem iR.CE {w w':World} {o:Go.Obj} (p:iR w w' o) (b:Nat) (h:b<w.heap.size):w'.heap[b]?=w.heap[b]?:=by rw[p.heap];exact HJ _ _ h
theorem iR.new {w w':World} {o:Go.Obj} (p:iR w w' o):w'.heap[w.heap.size]?=some o:=by rw[p.heap];simp
theorem iR.size {w w':World} {o:Go.Obj} (p:iR w w' o):w'.heap.size=w.heap.size+1:=by rw[p.heap];simp
theorem WR.FM {g:bG} {G:Gh} {H:aA} {w w':World} {o:Go.Obj} (h:WR g G H w) (p:iR w w' o):WR g G H w':=
 h.grow p.CE
theorem Ext.FM {g:bG} {G:Gh} {H:aA} {w w':World} {o:Go.Obj} (h:WR g G H w) (p:iR w w' o):Ext G H w G H w':=
 Ext.grow h.jA p.CE (by rw[p.size];omega) p.same
theorem iO.nil (G:Gh) (w:World):iO G w [] []:=⟨rfl,fun j hj=>absurd hj (Ap j)⟩
def Clear (arr:Array Value) (fz:Nat×Nat):Prop:=∀o,o<arr.size->(decide (fz.1<=o)&&decide (o<fz.2))=false
theorem Clear.zero (arr:Array Value):Clear arr (0,0):=fun o _=>by simp
structure Made (g:bG) (G:Gh) (H:aA) (w:World) (eX:Nat) (o:fB) (G':Gh) (H':aA) (w':World):Prop where
 rel:WR g G' H' w'
 bIq:∃l,l.dB=w.heap.size/\G'.loc eX=some l/\∀id,id≠eX->G'.loc id=G.loc id
 ext:∀{G0:Gh} {H0:aA} {w0:World},Ext G0 H0 w0 G H w->H0.next<=eX->Ext G0 H0 w0 G' H' w'
 pK:∀b o,G'.iB b o->G.iB b o\/b=w.heap.size
 bGy:∀b o,G.iB b o->G'.iB b o
 size:w'.heap.size=w.heap.size+1
 CE:∀b,b<w.heap.size->w'.heap[b]?=w.heap[b]?
theorem WR.wR {g:bG} {G:Gh} {H H':aA} {w w':World} (h:WR g G H w) (eX:Nat) (dC:G.loc eX=none) (cs:List AV) (vs rest:List Value) (hv:iO G w cs vs) (h1:∀c∈cs,c.one=true)
 (eN:Bool) (ho:eN=false->rest=[]) (cY:∀m,H'.get m=if m=eX then some (.cells cs eN) else H.get m) (AJ:H.next<=H'.next) (FD:eX<H'.next)
 {el:TypeId} {fz:Nat×Nat} (Zj:Clear (vs++rest).toArray fz) (p:iR w w' (.cells (vs++rest).toArray el fz)):
 Made g G H w eX (.cells cs eN) (G.dY eX ⟨w.heap.size,0,cs.length,(vs++rest).length⟩) H' w':=by
 have hp:=h.FM p;have he:=Ext.FM h p;have KL:=p.new
 refine⟨hp.GP eX _ _ dC cY AJ FD (fun id l' hl hv=>.inl (Ne.symm (Nat.ne_of_lt (h.mQ hl hv)))) (fun j _ hi=>?_) (fun Lr aAd xN=>?_) (fun _=>?_) (fun xN=>by cases xN),
  ⟨⟨w.heap.size,0,cs.length,(vs++rest).length⟩,rfl,by simp only[Gh.dY,if_true],fun id cQ=>by simp only[Gh.dY];rw[if_neg cQ]⟩,fun {G0 H0 w0} e0 LQ=>(e0.trans he).GP eX _ _ dC cY AJ LQ (.inl ?_),fun b o hi=>.inl hi,fun b o hi=>hi,p.size,p.CE⟩
 . obtain⟨v,hv⟩:=h.jA _ _ hi;have :=vW hv;simp at this
 . cases xN;have hlen:=hv.1;refine⟨rfl,by simp[hlen],fun fK=>by simp[ho fK,hlen],h1,fun j hj=>⟨vs.getD j undef,?_,(hv.2 j hj).mono he.loc he.iB⟩⟩;rw[lQ KL];have FA:j<vs.length:=by omega
   rw[Eb];simp only[Cq];rw[Ev FA,qF vs undef j FA]
 . exact⟨_,el,fz,KL,by simp,fun j hj=>by rw[qO KL];exact Zj _ ZaC⟩
 exact e0.size
theorem WR.aHm {g:bG} {G:Gh} {H:aA} {w w':World} (h:WR g G H w) (cs:List AV) (vs rest:List Value) (hv:iO G w cs vs) (h1:∀c∈cs,c.one=true)
 (eN:Bool) (ho:eN=false->rest=[]) {el:TypeId} {fz:Nat×Nat} (Zj:Clear (vs++rest).toArray fz) (p:iR w w' (.cells (vs++rest).toArray el fz)):
 WR g (G.dY H.next ⟨w.heap.size,0,cs.length,(vs++rest).length⟩) (H.alloc (.cells cs eN)) w'/\
  Ext G H w (G.dY H.next ⟨w.heap.size,0,cs.length,(vs++rest).length⟩) (H.alloc (.cells cs eN)) w':=by
 have dC:G.loc H.next=none:=by
  cases hl:G.loc H.next with
  |none=>rfl
  |some l'=>exact absurd (h.lt _ _ hl) (Ez _)
 have :=h.wR H.next dC cs vs rest hv h1 eN ho (aA.aG H _) (Gn _) (Ex _) Zj p;exact⟨this.rel,this.ext (Ext.refl G H w) (Ab _)⟩
theorem WR.cg {g:bG} {G:Gh} {H:aA} {w w':World} (h:WR g G H w) (cs:List AV) (vs rest:List Value) (hv:iO G w cs vs)
 {el:TypeId} {fz:Nat×Nat} (p:iR w w' (.cells (vs++rest).toArray el fz)):
 WR g (G.nY w.heap.size 0 cs.length) H w'/\Ext G H w (G.nY w.heap.size 0 cs.length) H w'/\
  ∀j,j<cs.length->(G.nY w.heap.size 0 cs.length).iB w.heap.size (0+j)/\w'.cell? ⟨w.heap.size,0+j,none⟩=some (vs.getD j undef)/\
   VR (G.nY w.heap.size 0 cs.length) w' (cs.getD j aD) (vs.getD j undef):=by
 have hp:=h.FM p;have he:=Ext.FM h p;have KL:=p.new;have hlen:=hv.1
 have kJ:∀j,j<cs.length->w'.cell? ⟨w.heap.size,0+j,none⟩=some (vs.getD j undef):=fun j hj=>by
  have FA:j<vs.length:=by omega
  rw[lQ KL];rw[Eb];simp only[Cq];rw[Ev FA,qF vs undef j FA]
 have xN:=he.nY w.heap.size 0 cs.length (.inl (Ab _));refine⟨hp.nY _ _ _ (fun j hj=>⟨_,kJ j hj⟩) (fun id l hl hv=>.inl (Nat.ne_of_lt (h.mQ hl hv))),xN,fun j hj=>⟨.inr ⟨rfl,by omega,by omega⟩,kJ j hj,(hv.2 j hj).mono xN.loc xN.iB⟩⟩
theorem WR.RU {g:bG} {G:Gh} {H H':aA} {w w':World} (h:WR g G H w) (eX:Nat) (dC:G.loc eX=none) (cs:List AV) (vs rest:List Value) (hv:iO G w cs vs)
 (cY:∀m,H'.get m=if m=eX then some .tok else H.get m) (AJ:H.next<=H'.next) (FD:eX<H'.next)
 {el:TypeId} {fz:Nat×Nat} (Zj:Clear (vs++rest).toArray fz) (p:iR w w' (.cells (vs++rest).toArray el fz)):
 ∃G',G'.loc eX=some ⟨w.heap.size,cs.length,0,rest.length⟩/\Made g G H w eX .tok G' H' w'/\
  ∀j,j<cs.length->G'.iB w.heap.size (0+j)/\w'.cell? ⟨w.heap.size,0+j,none⟩=some (vs.getD j undef)/\VR G' w' (cs.getD j aD) (vs.getD j undef):=by
 obtain⟨hw,he,hc⟩:=h.cg cs vs rest hv p;have KL:=p.new;have hlen:=hv.1;have EZ:(G.nY w.heap.size 0 cs.length).loc eX=none:=dC
 refine⟨(G.nY w.heap.size 0 cs.length).dY eX ⟨w.heap.size,cs.length,0,rest.length⟩,by simp[Gh.dY],⟨?_,⟨_,rfl,by simp[Gh.dY];rfl,fun id cQ=>by simp only[Gh.dY];rw[if_neg cQ];rfl⟩,fun {G0 H0 w0} e0 LQ=>?_,fun b o hi=>hi.imp id (fun hh=>hh.1),fun b o hi=>.inl hi,p.size,p.CE⟩,
  fun j hj=>⟨(hc j hj).1,(hc j hj).2.1,(hc j hj).2.2.mono (fun id l hl=>?_) (fun b o hi=>⟨hi,rfl⟩)⟩⟩
 . refine hw.GP eX .tok _ EZ cY AJ FD (fun id l' hl hv=>.inl (Ne.symm (Nat.ne_of_lt (h.mQ hl hv)))) (fun j _ hi=>?_) (fun Lr aAd xN=>by cases xN) (fun _=>?_) (fun xN=>by cases xN)
   . rcases hi with hi|⟨_,_,hi⟩
     . obtain⟨v,hv⟩:=h.jA _ _ hi;have :=vW hv;simp at this
     simp at hi;omega
   exact⟨_,el,fz,KL,by simp[hlen],fun j hj=>by rw[qO KL];exact Zj _ (by simp at hj;simp;omega)⟩
 . exact(e0.trans he).GP eX .tok _ EZ cY AJ LQ (.inl e0.size)
 simp only[Gh.dY];rw[if_neg (fun he=>by rw[he,EZ] at hl;cases hl)];exact hl
theorem WR.aHn {g:bG} {G:Gh} {H:aA} {w w':World} (h:WR g G H w) (cs:List AV) (vs rest:List Value) (hv:iO G w cs vs)
 {el:TypeId} {fz:Nat×Nat} (Zj:Clear (vs++rest).toArray fz) (p:iR w w' (.cells (vs++rest).toArray el fz)):
 ∃G',G'.loc H.next=some ⟨w.heap.size,cs.length,0,rest.length⟩/\WR g G' (H.alloc .tok) w'/\Ext G H w G' (H.alloc .tok) w'/\
  ∀j,j<cs.length->G'.iB w.heap.size (0+j)/\w'.cell? ⟨w.heap.size,0+j,none⟩=some (vs.getD j undef)/\VR G' w' (cs.getD j aD) (vs.getD j undef):=by
 have dC:G.loc H.next=none:=by
  cases hl:G.loc H.next with
  |none=>rfl
  |some l'=>exact absurd (h.lt _ _ hl) (Ez _)
 obtain⟨G',h1,h2,h3⟩:=h.RU H.next dC cs vs rest hv (aA.aG H _) (Gn _) (Ex _) Zj p;exact⟨G',h1,h2.rel,h2.ext (Ext.refl G H w) (Ab _),h3⟩
section
def IK:Value->Option AV
 |.bool b=>some (.bool b)
 |.int k n=>some (.int k n)
 |.string s=>some (.str s.data.toList)
 |.pointer none=>some .KT
 |.slice none 0 0=>some .aO
 |.nilFunc=>some .AP
 |.nilIface=>some .wP
 |.map none=>some .rV
 |_=>none
def jT:List Value->Option (List AV)
 |[]=>some []
 |v::r=>match IK v,jT r with
  |some a,some b=>some (a::b)
  |_,_=>none
def ofConst:Value->Option AV
 |.agg cs=>(jT cs.toList).map .agg
 |v=>IK v
theorem La {v:Value} {a:AV} (h:IK v=some a) (G:Gh) (w:World):VR G w a v/\a.one=true:=by
 unfold IK at h
 split at h<;>first
  |(cases h;done)
  |(obtain rfl:=Aa h;exact⟨by constructor,rfl⟩)
theorem iO.cons {G:Gh} {w:World} {x:AV} {v:Value} {xs:List AV} {vs:List Value} (h:VR G w x v) (hs:iO G w xs vs):iO G w (x::xs) (v::vs):=
 ⟨by simp[hs.1],fun j hj=>by
   cases j with
   |zero=>simpa using h
   |succ j=>simpa using hs.2 j ZaC⟩
theorem VR.cons {G:Gh} {w:World} {x:AV} {v:Value} {xs:List AV} {vs:List Value} (h:VR G w x v) (hs:iO G w xs vs):iO G w (x::xs) (v::vs):=
 iO.cons h hs
theorem lS:∀{vs:List Value} {cs:List AV},jT vs=some cs->∀(G:Gh) (w:World),iO G w cs vs/\∀c∈cs,c.one=true
 |[],cs,h,G,w=>by obtain rfl:=Aa h;exact⟨iO.nil G w,fun c hc=>by cases hc⟩
 |v::r,cs,h,G,w=>by
  unfold jT at h;split at h
  . rename_i a b ha hb;obtain rfl:=Aa h;have h1:=La ha G w;have h2:=lS hb G w
    exact⟨h1.1.cons h2.1,fun c hc=>by
     rcases Am.1 hc with rfl|hc
     . exact h1.2
     exact h2.2 c hc⟩
  cases h
theorem VR.Wo {G:Gh} {w:World} {cs:List AV} {vs:List Value} (h:iO G w cs vs) (h1:∀c∈cs,c.one=true):VR G w (.agg cs) (.agg vs.toArray):=
 .agg cs vs h.1 h1 h.2
theorem FK {v:Value} {a:AV} (h:ofConst v=some a) (G:Gh) (w:World):VR G w a v:=by
 unfold ofConst at h;split at h
 . rename_i cs
   cases hc:jT cs.toList with
   |none=>simp[hc] at h
   |some b=>simp[hc] at h;subst h;have :=lS hc G w;simpa using VR.Wo this.1 this.2
 exact(La h G w).1
theorem VR.cellsOf {G:Gh} {w:World} {a:AV} {v:Value} (h:VR G w a v) (ht:a.yN=false):iO G w a.cells v.cells.toList/\∀c∈a.cells,c.one=true:=by
 cases h with
 |agg cs vs hl h1 hv=>exact⟨⟨by simpa [AV.cells,Value.cells] using hl,by simpa [AV.cells,Value.cells] using hv⟩,h1⟩
 |iA cs vs hl hv=>simp[AV.yN] at ht
 |_=>exact⟨iO.cons (by constructor<;>assumption) (iO.nil G w),fun c hc=>by
   simp only[AV.cells,Cc] at hc;subst hc
   rfl⟩
def bN (g:bG):Operand->Option Arg
 |.tmp t=>some (.tmp t)
 |.const v=>(ofConst v).map .const
 |.global n=>if(g n).isSome then some (.jG n) else none
 |.func f=>some (.const (.func (.func f) [] []))
def SR (G:Gh) (w:World) (s:List AV) (a:Act):Prop:=iO G w s a.tmps.toList
theorem SR.getD {G:Gh} {w:World} {s:List AV} {a:Act} (h:SR G w s a) (t:Nat):VR G w (s.getD t aD) (a.tmps.getD t undef):=by
 have hlen:=h.1;by_cases ht:t<s.length
 . have :=h.2 t ht
   have e:a.tmps.getD t undef=a.tmps.toList.getD t undef:=by simp[List.getD,Bo]
   rw[e];exact this
 have e1:s.getD t aD=aD:=by simp[List.getD,Bv (Ih ht)]
 have e2:a.tmps.getD t undef=undef:=by
  have :¬t<a.tmps.size:=by simp at hlen;omega
  simp[Array.getD,this]
 rw[e1,e2];exact VR.oK G w
theorem bM {g:bG} {G:Gh} {H:aA} {w:World} {s:List AV} {a:Act} (hw:WR g G H w) (hs:SR G w s a) {x:Operand} {y:Arg} (h:bN g x=some y):
 VR G w (y.eval g s) (a.eval x):=by
 cases x with
 |tmp t=>obtain rfl:=Aa h;exact hs.getD t
 |const v=>simp only[bN,Ah] at h;obtain⟨c,hc,rfl⟩:=h;exact FK hc G w
 |global n=>
  simp only[bN] at h;split at h
  . rename_i hg;obtain rfl:=Aa h;obtain⟨cs,EW⟩:=Option.isSome_iff_exists.1 hg;simp only[Arg.eval,EW,Act.eval];exact hw.jG n cs EW
  cases h
 |func f=>obtain rfl:=Aa h;exact VR.func _ [] [] [] [] rfl rfl (fun j hj=>absurd hj (Ap j)) (fun j hj=>absurd hj (Ap j))
def nZ (g:bG):List Operand->Option (List Arg)
 |[]=>some []
 |x::r=>match bN g x,nZ g r with
  |some a,some b=>some (a::b)
  |_,_=>none
theorem tD {g:bG} {G:Gh} {H:aA} {w:World} {s:List AV} {a:Act} (hw:WR g G H w) (hs:SR G w s a):∀{xs:List Operand} {ys:List Arg},nZ g xs=some ys->
 iO G w (ys.map (Arg.eval g s)) (xs.map a.eval)
 |[],ys,h=>by obtain rfl:=Aa h;exact iO.nil G w
 |x::r,ys,h=>by
  unfold nZ at h;split at h
  . rename_i y b hy hb;obtain rfl:=Aa h;exact(bM hw hs hy).cons (tD hw hs hb)
  cases h
def mZ (g:bG):Option Operand->Option (Option Arg)
 |none=>some none
 |some x=>(bN g x).map some
def fT (P:Program) (t:TypeId):Option Bool:=
 match P.underlying t with
 |some (.struct _)|some (.array _ _)=>some true
 |some _=>some false
 |none=>none
theorem qK {P:Program} {t:TypeId} {b:Bool} (h:fT P t=some b) (w:World):(isAgg t).run P w=.ok b w:=by
 unfold fT at h;unfold isAgg;split at h
 . rename_i fs hu;obtain rfl:=Aa h;simp[run_underlying hu w]
 . rename_i n e hu;obtain rfl:=Aa h;simp[run_underlying hu w]
 . rename_i d h1 h2 hu;obtain rfl:=Aa h;exact Za1
 cases h
def kG (P:Program) (t:TypeId):Option Nat:=(P.info? t).map (·.size)
theorem eI {P:Program} {t:TypeId} {n:Nat} (h:kG P t=some n) (w:World):(sizeOf t).run P w=.ok n w:=by simp only[kG,Ah] at h;obtain⟨i,hi,rfl⟩:=h;simp[sizeOf,typeInfo,program,Sem.run,hi]
def lL (P:Program) (t:TypeId):Option Value:=(P.info? t).bind (·.zero)
theorem lA {P:Program} {t:TypeId} {v:Value} (h:lL P t=some v) (w:World):(zeroValue t).run P w=.ok v w:=by simp only[lL,Option.bind_eq_some_iff] at h;obtain⟨i,hi,hz⟩:=h;simp[zeroValue,typeInfo,program,Sem.run,hi,hz]
def QI (n:Next) (u:Value):Prop:=n=.value u\/(n=.skip/\u=undef)
def cP (P:Program) (g:bG) (o:Oper) (r:eE):Prop:=
 ∀(s:List AV) (a:Act) (G:Gh) (H:aA) (w:World) (v:AV) (H':aA),WR g G H w->SR G w s a->dA (Arg.eval g s) H r=some (v,H')->
  ∃n u w' G',(execOp a.eval o).run P w=.ok n w'/\QI n u/\WR g G' H' w'/\Ext G H w G' H' w'/\VR G' w' v u
theorem cP.pure' {P:Program} {g:bG} {o:Oper} {G:Gh} {H:aA} {w:World} {v:AV} {a:Act} {u:Value} (hw:WR g G H w)
 (hr:(execOp a.eval o).run P w=.ok (.value u) w) (hv:VR G w v u):
 ∃n u w' G',(execOp a.eval o).run P w=.ok n w'/\QI n u/\WR g G' H w'/\Ext G H w G' H w'/\VR G' w' v u:=
 ⟨_,u,w,G,hr,.inl rfl,hw,Ext.refl G H w,hv⟩
def DE (P:Program) (g:bG) (o:Oper) (r:eE):Prop:=
 ∀(s:List AV) (a:Act) (G:Gh) (H H':aA) (w:World) (ob:fB) (val:Nat->AV) (eX:Nat),WR g G H w->SR G w s a->xB (Arg.eval g s) r=some (ob,val)->
  G.loc eX=none->(∀m,H'.get m=if m=eX then some ob else H.get m)->H.next<=H'.next->eX<H'.next->
  ∃u w' G',(execOp a.eval o).run P w=.ok (.value u) w'/\Made g G H w eX ob G' H' w'/\VR G' w' (val eX) u
theorem DE.op {P:Program} {g:bG} {o:Oper} {r:eE} (h:DE P g o r) (hr:∀ev H,dA ev H r=(xB ev r).map fun p=>(p.2 H.next,H.alloc p.1)):cP P g o r:=by
 intro s a G H w v H' hw hs ha;rw[hr] at ha;simp only[Ah,Ak] at ha;obtain⟨⟨ob,val⟩,hf,rfl,rfl⟩:=ha
 have dC:G.loc H.next=none:=by
  cases hl:G.loc H.next with
  |none=>rfl
  |some l'=>exact absurd (hw.lt _ _ hl) (Ez _)
 obtain⟨u,w',G',h1,h2,h3⟩:=h s a G H (H.alloc ob) w ob val H.next hw hs hf dC (aA.aG H _) (Gn _) (Ex _);exact⟨_,u,w',G',h1,.inl rfl,h2.rel,h2.ext (Ext.refl G H w) (Ab _),h3⟩
section
variable {P:Program} {g:bG} {o:Oper}
theorem bq {x:Operand} {y:Arg} (ho:o.op=.move x\/o.op=.assign x) (hx:bN g x=some y):cP P g o (.TC y):=by
 intro s a G H w v H' hw hs h;simp only[dA,Ae,Ak] at h;obtain⟨rfl,rfl⟩:=h;refine cP.pure' hw (u:=a.eval x) ?_ (bM hw hs hx)
 rcases ho with ho|ho<;>simp[execOp,ho]
theorem aGv {c x y:Operand} {c' x' y':Arg} (ho:o.op=.pick c x y) (hc:bN g c=some c') (hx:bN g x=some x') (hy:bN g y=some y'):cP P g o (.pick c' x' y'):=by
 intro s a G H w v H' hw hs h;have vc:=bM hw hs hc;have vx:=bM hw hs hx;have vy:=bM hw hs hy;simp only[dA] at h;split at h
 . rename_i t ht;rw[ht] at vc;simp only[Ae,Ak] at h;obtain⟨rfl,rfl⟩:=h
   cases hcv:a.eval c with
   |bool b=>rw[hcv] at vc;cases vc;refine cP.pure' hw (u:=if t then a.eval x else a.eval y) ?_ (by cases t<;>simpa);simp[execOp,ho,hcv,asBool]
   |_=>rw[hcv] at vc;cases vc
 cases h
theorem Qk {t:TypeId} {z:Value} {zs:List AV} (ho:o.op=.alloc t) (hz:lL P t=some z) (BZ:jT z.cells.toList=some zs):DE P g o (.alloc zs):=by
 intro s a G H H' w ob val eX hw hs h dC cY AJ fJ;simp only[xB,Ae,Ak] at h;obtain⟨rfl,rfl⟩:=h;have hc:=lS BZ G w;have hp:iR w {w with heap:=w.heap.push (.cells z.cells t)} (.cells (z.cells.toList++[]).toArray t (0,0)):=⟨by simp,.now⟩;have hm:=hw.wR eX dC zs z.cells.toList [] hc.1 hc.2 false (fun _=>rfl) cY AJ fJ (Clear.zero _) hp;refine⟨.pointer (some ⟨w.heap.size,0,none⟩),_,_,?_,hm,?_⟩
 . simp[execOp,ho,Instr.alloc,lA hz w,newVar,newRow,newObj,Sem.run]
 exact VR.ref eX 0 ⟨w.heap.size,0,zs.length,(z.cells.toList++[]).length⟩ (by simp only[Gh.dY,if_true])
theorem zn {t:TypeId} {z:Value} {zs:List AV} (ho:o.op=.alloc t) (hz:lL P t=some z) (BZ:jT z.cells.toList=some zs):cP P g o (.alloc zs):=
 (Qk ho hz BZ).op fun _ _=>rfl
theorem ZX {t:TypeId} {x:Operand} {x':Arg} (ho:o.op=.box t x) (hx:bN g x=some x'):DE P g o (.box x'):=by
 intro s a G H H' w ob val eX hw hs h dC cY AJ fJ;simp only[xB] at h;split at h
 . cases h
 rename_i ht;simp only[Ae,Ak] at h;obtain⟨rfl,rfl⟩:=h;have hc:=(bM hw hs hx).cellsOf (by simpa using ht);have hp:iR w {w with heap:=w.heap.push (.cells (a.eval x).cells t)} (.cells ((a.eval x).cells.toList++[]).toArray t (0,0)):=⟨by simp,.now⟩;have hm:=hw.wR eX dC _ _ [] hc.1 hc.2 false (fun _=>rfl) cY AJ fJ (Clear.zero _) hp;refine⟨.pointer (some ⟨w.heap.size,0,none⟩),_,_,?_,hm,?_⟩
 . simp[execOp,ho,Instr.box,newVar,newRow,newObj,Sem.run]
 exact VR.ref eX 0 ⟨w.heap.size,0,(x'.eval g s).cells.length,((a.eval x).cells.toList++[]).length⟩ (by simp only[Gh.dY,if_true])
theorem aTn {t:TypeId} {x:Operand} {x':Arg} (ho:o.op=.box t x) (hx:bN g x=some x'):cP P g o (.box x'):=
 (ZX ho hx).op fun _ _=>rfl
theorem aGu {t:TypeId} {x:Operand} {x':Arg} (ho:o.op=.makeInterface t x) (hx:bN g x=some x')
 (ht:(match P.underlying t with|some (.interface _)=>false|some _=>true|none=>false)=true):cP P g o (.Xu t x'):=by
 intro s a G H w v H' hw hs h;simp only[dA,Ae,Ak] at h;obtain⟨rfl,rfl⟩:=h;refine cP.pure' hw (u:=.iface t (a.eval x)) ?_ (.iface t _ _ (bM hw hs hx));split at ht
 . cases ht
 . rename_i d hd hu;simp only[execOp,ho,Instr.makeInterface,Sem.run_bind,run_underlying hu w,Result.andThen_ok];rfl
 cases ht
theorem aGt {fn:Fn} {fs cs:Array Operand} {fs' Lr:List Arg} (ho:o.op=.makeFunc fn fs cs) (hf:nZ g fs.toList=some fs') (hc:nZ g cs.toList=some Lr):cP P g o (.Xt fn fs' Lr):=by intro s a G H w v H' hw hs h;simp only[dA,Ae,Ak] at h;obtain⟨rfl,rfl⟩:=h;have h1:=tD hw hs hf;have h2:=tD hw hs hc;refine cP.pure' hw (u:=.func fn (fs.toList.map a.eval).toArray (cs.toList.map a.eval).toArray) ?_ (.func fn _ _ _ _ h1.1 h2.1 h1.2 h2.2);simp only[execOp,ho,Instr.makeFunc,Sem.run_bind,Sem.run_pure,Result.andThen_ok];congr 3<;>(apply Fk;simp)
theorem aGl {x:Operand} {x':Arg} {i:Nat} (ho:o.op=.extract x i) (hx:bN g x=some x'):cP P g o (.XN x' i):=by
 intro s a G H w v H' hw hs h;have vx:=bM hw hs hx;simp only[dA] at h;split at h
 . rename_i vs oU;rw[oU] at vx;split at h
   . rename_i hi;simp only[Ae,Ak] at h;obtain⟨rfl,rfl⟩:=h
     cases eG:a.eval x with
     |tuple us=>
      rw[eG] at vx
      cases vx with
      |iA _ us' hl hv=>refine cP.pure' hw (u:=us'.getD i undef) ?_ (hv i hi);have gQ:i<us'.length:=(by omega);simp only[execOp,ho,eG,Instr.extract,Eb,qF us' undef i gQ,Sem.run_bind,Sem.run_pure,Result.andThen_ok]
     |_=>rw[eG] at vx;cases vx
   cases h
 cases h
theorem zw {x:Operand} {x':Arg} (ho:o.op=.nilCheck x) (hx:bN g x=some x'):cP P g o (.OS x'):=by
 intro s a G H w v H' hw hs h;have vx:=bM hw hs hx
 have key:∀{va:AV} {u:Value},VR G w va u->(∃id off,va=.ref id off)\/(∃cs,va=.pl cs)\/(∃f p q,va=.func (.func f) p q)\/(∃t y,va=.iface t y)->a.eval x=u->(execOp a.eval o).run P w=.ok (.value u) w:=by
  intro va u hv oS he
  rcases oS with ⟨id,off,rfl⟩|⟨cs,rfl⟩|⟨f,p,q,rfl⟩|⟨t,y,rfl⟩<;>cases hv<;>simp[execOp,ho,he]
 simp only[dA] at h
 split at h<;>first
  |(cases h;done)
  |(rename_i oU
    simp only[Ae,Ak] at h;obtain⟨rfl,rfl⟩:=h;rw[oU] at vx
    exact cP.pure' hw (key vx (by simp) rfl) vx)
theorem VR.iZ {G:Gh} {w:World} {k:IntKind} {n:Int} {u:Value} (h:VR G w (.int k n) u):u=.int k n:=by cases h;rfl
theorem VR.jY {G:Gh} {w:World} {b:Bool} {u:Value} (h:VR G w (.bool b) u):u=.bool b:=by cases h;rfl
theorem VR.lK {G:Gh} {w:World} {s:List UInt8} {u:Value} (h:VR G w (.str s) u):u=.string ⟨s.toArray⟩:=by cases h;rfl
theorem VR.Yo (G:Gh) (w:World) (s:List UInt8):VR G w (.str s) (.string ⟨s.toArray⟩):=by have :=VR.str (G:=G) (w:=w) ⟨s.toArray⟩;simpa using this
theorem tE {G:Gh} {w:World} {a:AV} {u:Value} {n:Nat} (h:asNat a=some n) (hv:VR G w a u):∃k,a=.int k n/\u=.int k n:=by
 cases a<;>simp only[asNat] at h<;>try (cases h;done)
 rename_i k m;split at h
 . rename_i hm;obtain rfl:=Aa h;refine⟨k,by rw[Kh hm],by rw[Kh hm];exact hv.iZ⟩
 cases h
end
end
section
theorem getD_eq {α:Type} (l:List α) (d:α) (j:Nat):l.getD j d=(l[j]?).getD d:=rfl
theorem eY {α:Type} (l:List α) (d:α) (o n j:Nat) (h:j<n):((l.drop o).take n).getD j d=l.getD (o+j) d:=by simp only[getD_eq];rw[Ht,if_pos h,Fv]
theorem BT {α:Type} (l:List α) (d:α) (o j:Nat):(l.drop o).getD j d=l.getD (o+j) d:=by simp only[getD_eq,Fv]
theorem getD_take {α:Type} (l:List α) (d:α) (n j:Nat) (h:j<n):(l.take n).getD j d=l.getD j d:=by simp only[getD_eq];rw[Ht,if_pos h]
theorem qR (cs:List AV) (off:Nat) (vs:List AV) (h:off+vs.length<=cs.length):(fW cs off vs).length=cs.length:=by simp[fW];omega
theorem LN (cs:List AV) (off:Nat) (vs:List AV) (d:AV) (h:off+vs.length<=cs.length) (j:Nat):
 (fW cs off vs).getD j d=if off<=j/\j<off+vs.length then vs.getD (j -off) d else cs.getD j d:=by
 simp only[getD_eq,fW];rw[Du];simp only[Ba,Cz];have hm:min off cs.length=off:=by omega
 rw[hm];by_cases h1:j<off+vs.length
 . rw[if_pos h1,Du];simp only[Cz,hm];by_cases h2:j<off
   . rw[if_pos h2,if_neg (by omega),Ht,if_pos h2]
   rw[if_neg h2,if_pos (by omega)]
 rw[if_neg h1,if_neg (by omega),Fv];congr 2;omega
theorem OP {cs:List AV} {off:Nat} {vs:List AV} {c:AV} (h:c∈fW cs off vs):c∈cs\/c∈vs:=by
 simp only[fW,Ao] at h
 rcases h with (h|h)|h
 . exact .inl (By h)
 . exact .inr h
 exact .inl (Dt h)
theorem IF {cs:List AV} {j:Nat} (h:j<cs.length):cs.getD j aD∈cs:=by rw[getD_eq,Ad h];exact Ac h
theorem NI {G:Gh} {w:World} {b o n:Nat} {cs:List AV} (h:∀j,j<n->∃u,w.cell? ⟨b,o+j,none⟩=some u/\VR G w (cs.getD j aD) u):
 ∃us:List Value,us.length=n/\(∀j,j<n->w.cell? ⟨b,o+j,none⟩=some (us.getD j undef))/\∀j,j<n->VR G w (cs.getD j aD) (us.getD j undef):=by
 have hd:∀j,j<n->((List.range n).map fun j=>(w.cell? ⟨b,o+j,none⟩).getD undef).getD j undef=(w.cell? ⟨b,o+j,none⟩).getD undef:=fun j hj=>by simp[getD_eq,Is hj]
 refine⟨(List.range n).map fun j=>(w.cell? ⟨b,o+j,none⟩).getD undef,by simp,fun j hj=>?_,fun j hj=>?_⟩
 . rw[hd j hj];obtain⟨u,hu,_⟩:=h j hj;rw[hu];rfl
 rw[hd j hj];obtain⟨u,hu,hv⟩:=h j hj;rw[hu];exact hv
theorem IW {P:Program} {G:Gh} {w:World} {t:TypeId} {agg:Bool} {n b o:Nat} {cs:List AV} (hag:fT P t=some agg) (lE:kG P t=some n)
 (hlen:n=cs.length) (h1:∀c∈cs,c.one=true) (hn:agg=false->n=1)
 (h:∀j,j<n->∃u,w.cell? ⟨b,o+j,none⟩=some u/\VR G w (cs.getD j aD) u):
 ∃u,(loadVar t ⟨b,o,none⟩).run P w=.ok u w/\VR G w (if agg then .agg cs else cs.getD 0 aD) u:=by
 obtain⟨us,hl,hc,hv⟩:=NI h
 cases agg with
 |true=>refine⟨.agg us.toArray,?_,.agg cs us (by omega) h1 (fun j hj=>hv j (by omega))⟩;have hr:=uR P w b o us (fun j hj=>hc j (by omega));rw[hl] at hr;simp[loadVar,qK hag w,eI lE w,hr]
 |false=>have h1':=hn rfl;have hc0:=hc 0 (by omega);have PQ:=hv 0 (by omega);refine⟨us.getD 0 undef,?_,PQ⟩;simp only[Cw] at hc0;simp only[loadVar,Sem.run_bind,qK hag w,Result.andThen_ok,Bb,Bp,run_load,hc0]
theorem WR.store {g:bG} {G:Gh} {H:aA} {w w':World} (h:WR g G H w) {id:Nat} {l:Loc} {cs:List AV} {eN:Bool} (hl:G.loc id=some l) (hg:H.get id=some (.cells cs eN))
 {off:Nat} {xs:List AV} {vs:List Value} (hv:iO G w xs vs) (h1:∀c∈xs,c.one=true) (gT:off+xs.length<=cs.length) (u:Td w w' l.dB (l.base+off) vs):
 WR g G (H.set id (.cells (fW cs off xs) eN)) w'/\Ext G H w G (H.set id (.cells (fW cs off xs) eN)) w':=by
 have lH:H.live id:=⟨_,hg,rfl⟩;obtain⟨a1,a2,a3,a4,a5⟩:=h.cells id l cs eN hl hg;obtain⟨c,el,fz,b1,b2,b3⟩:=h.room id l hl (.inl ⟨cs,eN,hg⟩);have hlen:=hv.1
 have pJ:∀j,j<vs.length->¬G.iB l.dB (l.base+off+j):=fun j hj=>by rw[Br];exact h.kE id l hl lH (off+j) (by omega)
 have tP:∀kU l',kU≠id->G.loc kU=some l'->H.live kU->l.dB≠l'.dB\/l.base+l.ext<=l'.base\/l'.base+l'.ext<=l.base:=
  fun kU l' cQ pA mX=>h.kT id kU l l' (Ne.symm cQ) hl pA lH mX
 have hk:=h.kill id
 have RB:=hk.write u pJ (fun kU l' pA mX=>by
  rcases aA.kV.1 mX with ⟨_,hh⟩|⟨cQ,mX⟩
  . cases hh
  rcases tP kU l' cQ pA mX with hd|hd|hd
  . exact .inl (Ne.symm hd)
  . exact .inr (.inr (by omega))
  exact .inr (.inl (by omega))) ⟨c,el,fz,b1⟩
 have xO:=((Ext.refl G H w).write u pJ h.jA (.inr ⟨id,l,hl,lH,rfl⟩)).aHx id (.cells (fW cs off xs) eN) lH;have yM:∀{a:AV} {x:Value},VR G w a x->VR G w' a x:=fun hx=>hx.mono (fun _ _ h=>h) (fun b o hi=>⟨hi,(xO.iB b o hi).2⟩);obtain⟨c',d1,d2,d3,d4⟩:=u.row c el fz b1;refine⟨RB.aUb _ l hl tP (fun j hj=>h.kE id l hl lH j hj) (fun Lr aAd he=>?_) (fun _=>⟨c',el,fz,d1,by omega,fun j hj=>by rw[u.frozen b1];exact b3 j hj⟩) (fun he=>by cases he),xO⟩;cases he;refine⟨by rw[qR _ _ _ gT];exact a1,a2,a3,fun x hx=>(OP hx).elim (a4 x) (h1 x),fun j hj=>?_⟩;rw[qR _ _ _ gT] at hj;rw[LN _ _ _ _ gT];by_cases MO:off<=j/\j<off+xs.length
 . rw[if_pos MO];refine⟨vs.getD (j -off) undef,?_,yM (hv.2 (j -off) (by omega))⟩;have :=d4 (j -off) (by omega) (by omega);rw[lQ d1,<-this];congr 1;omega
 rw[if_neg MO];obtain⟨x,hx,hvx⟩:=a5 j hj;exact⟨x,u.cell (.inr (by omega)) hx,yM hvx⟩
theorem aA.pF {H:aA} {id:Nat} {cs:List AV} (h:H.eS id=some cs):∃eN,H.get id=some (.cells cs eN):=by
 unfold aA.eS at h;split at h
 . rename_i Lr eN hg;obtain rfl:=Aa h;exact⟨eN,hg⟩
 cases h
theorem KY {g:bG} {G:Gh} {H:aA} {w:World} (hw:WR g G H w) {id off n:Nat} {l:Loc} {cs:List AV} {eN:Bool} (hl:G.loc id=some l) (hg:H.get id=some (.cells cs eN))
 (gT:off+n<=cs.length):∀j,j<n->∃u,w.cell? ⟨l.dB,l.base+off+j,none⟩=some u/\VR G w (((cs.drop off).take n).getD j aD) u:=fun j hj=>by
 obtain⟨u,hu,hv⟩:=(hw.cells id l cs eN hl hg).2.2.2.2 (off+j) (by omega);refine⟨u,by rw[Br];exact hu,?_⟩;rw[eY _ _ _ _ _ hj];exact hv
section
variable {P:Program} {g:bG} {o:Oper}
theorem aGq {t:TypeId} {x:Operand} {x':Arg} {agg:Bool} {n:Nat} (ho:o.op=.load t x) (hx:bN g x=some x') (hag:fT P t=some agg) (lE:kG P t=some n):
 cP P g o (.load agg n x'):=by
 intro s a G H w v H' hw hs h;have vx:=bM hw hs hx
 have fin:∀(b o':Nat) (cs:List AV),a.eval x=.pointer (some ⟨b,o',none⟩)->n=cs.length->(∀c∈cs,c.one=true)->(agg=false->n=1)->
  (∀j,j<n->∃u,w.cell? ⟨b,o'+j,none⟩=some u/\VR G w (cs.getD j aD) u)->
  ∃n u w' G',(execOp a.eval o).run P w=.ok n w'/\QI n u/\WR g G' H w'/\Ext G H w G' H w'/\VR G' w' (if agg then .agg cs else cs.getD 0 aD) u:=by
  intro b o' cs he hl h1 hn hc;obtain⟨u,hr,hv⟩:=IW (P:=P) hag lE hl h1 hn hc;refine cP.pure' hw (u:=u) ?_ hv;simp[execOp,ho,he,Instr.loadAt,Instr.sureAddr,hr]
 simp only[dA] at h;split at h
 . rename_i id off dC;rw[dC] at vx;split at h
   . rename_i cs EW;obtain⟨eN,hg⟩:=aA.pF EW;split at h
     . rename_i gT
       cases eG:a.eval x with
       |pointer p=>
        rw[eG] at vx
        cases vx with
        |ref _ _ l hl=>
         have h4:=(hw.cells id l cs eN hl hg).2.2.2.1;have kJ:=KY hw hl hg gT;have hlen:n=((cs.drop off).take n).length:=Zah;have xP:∀c∈(cs.drop off).take n,c.one=true:=fun c hc=>h4 c (Dt (By hc));split at h
         . exact Zbp
         rename_i qZ;split at h
         . rename_i hn;simp only[Ae,Ak] at h;obtain⟨rfl,rfl⟩:=h;have :=fin _ _ _ eG hlen xP (fun _=>hn) kJ
           rwa [if_neg qZ,eY _ _ _ _ _ (by omega),Cw] at this
         cases h
       |_=>rw[eG] at vx;cases vx
     cases h
   cases h
 . rename_i cs dC;rw[dC] at vx;split at h
   . rename_i gT
     cases eG:a.eval x with
     |pointer p=>
      rw[eG] at vx
      cases vx with
      |pl _ b o' us hh hv=>
       have kJ:∀j,j<n->∃u,w.cell? ⟨b,o'+j,none⟩=some u/\VR G w ((cs.take n).getD j aD) u:=fun j hj=>by rw[getD_take _ _ _ _ hj];exact⟨us j,(hh j (by omega)).2.1,hv j (by omega)⟩
       have hlen:n=(cs.take n).length:=by simp;omega
       have xP:∀c∈cs.take n,c.one=true:=fun c hc=>by obtain⟨j,hj,rfl⟩:=Hg.1 (By hc);have :=(hh j hj).2.2;simpa [getD_eq,Ad hj] using this
       split at h
       . exact Zbp
       rename_i qZ;split at h
       . rename_i hn;simp only[Ae,Ak] at h;obtain⟨rfl,rfl⟩:=h;have :=fin _ _ _ eG hlen xP (fun _=>hn) kJ
         rwa [if_neg qZ,getD_take _ _ _ _ (by omega)] at this
       cases h
     |_=>rw[eG] at vx;cases vx
   cases h
 cases h
theorem oV {G:Gh} {w:World} {xs:List AV} {vs:List Value} (hv:iO G w xs vs) (h1:∀c∈xs,c.one=true):∀v∈vs,aAa v=true:=by
 intro v mX;obtain⟨j,hj,rfl⟩:=Hg.1 mX;have FA:j<xs.length:=by have :=hv.1;omega
 have :=(hv.2 j FA).one;rw[h1 _ (IF FA)] at this;simpa [getD_eq,Ad hj] using this.symm
theorem z6 {t:TypeId} {x y:Operand} {x' y':Arg} {n:Nat} (ho:o.op=.store t x y) (hx:bN g x=some x') (hy:bN g y=some y') (lE:kG P t=some n):
 cP P g o (.store n x' y'):=by
 intro s a G H w v H' hw hs h;have vx:=bM hw hs hx;have vy:=bM hw hs hy;simp only[dA] at h;split at h
 . rename_i id off dC;rw[dC] at vx;split at h
   . rename_i cs eN hg;split at h
     . rename_i hc;obtain⟨SU,CT,vj⟩:=hc;simp only[Ae,Ak] at h;obtain⟨rfl,rfl⟩:=h;obtain⟨oU,xP⟩:=vy.cellsOf vj
       cases eG:a.eval x with
       |pointer p=>
        rw[eG] at vx
        cases vx with
        |ref _ _ l hl=>
         obtain⟨a1,a2,_,_,_⟩:=hw.cells id l cs eN hl hg;obtain⟨c,el,fz,b1,b2,b3⟩:=hw.room id l hl (.inl ⟨cs,eN,hg⟩);have hlen:=oU.1
         obtain⟨w',hr,hu⟩:=fE P l.dB (l.base+off) (a.eval y).cells.toList 0 w ⟨c,el,fz,b1,by omega⟩
          (fun j hj=>by rw[Cw,Br];exact b3 (off+j) (by omega)) (oV oU xP)
         obtain⟨r1,r2⟩:=hw.store hl hg oU xP (by omega) hu;refine⟨.skip,undef,w',G,?_,.inr ⟨rfl,rfl⟩,r1,r2,VR.oK G w'⟩;have Uw:(a.eval y).cells.size=n:=(by simpa [SU] using hlen);simp[execOp,ho,eG,Instr.storeAt,Instr.sureAddr,storeVar,eI lE w,Uw,hr]
       |_=>rw[eG] at vx;cases vx
     cases h
   cases h
 cases h
def XQ (P:Program) (t:TypeId) (i:Nat):Option (Nat×Nat×Bool):=
 match P.underlying t with
 |some (.struct fs)=>match fs[i]? with
  |some f=>match kG P f.type,fT P f.type with
   |some n,some b=>if n=0 then none else some (f.offset,n,b)
   |_,_=>none
  |none=>none
 |_=>none
theorem aGm {t:TypeId} {x:Operand} {x':Arg} {i:Nat} {off n:Nat} {b:Bool} (ho:o.op=.fieldAddr t x i) (hx:bN g x=some x') (hf:XQ P t i=some (off,n,b)):
 cP P g o (.XP off x'):=by
 intro s a G H w v H' hw hs h;have vx:=bM hw hs hx;unfold XQ at hf;split at hf
 . rename_i fs hu;split at hf
   . rename_i f Zi;split at hf
     . rename_i n' b' hn hb;split at hf
       . cases hf
       rename_i Xf;simp only[Ae,Ak] at hf;obtain⟨rfl,rfl,rfl⟩:=hf
       have jH:∀bl o',a.eval x=.pointer (some ⟨bl,o',none⟩)->(execOp a.eval o).run P w=.ok (.value (.pointer (some ⟨bl,o'+f.offset,none⟩))) w:=fun bl o' he=>by simp[execOp,ho,he,Instr.fieldAt,run_underlying hu w,Zi,Instr.sureAddr,fieldPlace,eI hn w,Xf,jX]
       simp only[dA] at h;split at h
       . rename_i id o' dC;rw[dC] at vx;simp only[Ae,Ak] at h;obtain⟨rfl,rfl⟩:=h
         cases eG:a.eval x with
         |pointer p=>
          rw[eG] at vx
          cases vx with
          |ref _ _ l hl=>exact cP.pure' hw (jH _ _ eG) (by rw[Br];exact .ref id (o'+f.offset) l hl)
         |_=>rw[eG] at vx;cases vx
       . rename_i cs dC;rw[dC] at vx;simp only[Ae,Ak] at h;obtain⟨rfl,rfl⟩:=h
         cases eG:a.eval x with
         |pointer p=>
          rw[eG] at vx
          cases vx with
          |pl _ bl o' us hh hv=>
           refine cP.pure' hw (jH _ _ eG) (.pl _ bl (o'+f.offset) (fun j=>us (f.offset+j)) (fun j hj=>?_) (fun j hj=>?_))
           . simp at hj;rw[Br,BT];exact hh (f.offset+j) (by omega)
           simp at hj;rw[BT];exact hv (f.offset+j) (by omega)
         |_=>rw[eG] at vx;cases vx
       cases h
     cases hf
   cases hf
 cases hf
theorem Vt {t:TypeId} {n:Nat} {b:Bool} (hn:kG P t=some n) (hb:fT P t=some b) {G:Gh} {w:World} {cs:List AV} {us:List Value} {off:Nat}
 (hl:us.length=cs.length) (h1:∀c∈cs,c.one=true) (hv:∀j,j<cs.length->VR G w (cs.getD j aD) (us.getD j undef)) (gT:off+n<=cs.length) (KK:b=false->n=1):
 ∃u,(part t us.toArray off).run P w=.ok u w/\VR G w (if b then .agg ((cs.drop off).take n) else cs.getD off aD) u:=by
 cases b with
 |true=>
  refine⟨.agg ((us.drop off).take n).toArray,?_,?_⟩
  . simp only[part,Sem.run_bind,qK hb w,Result.andThen_ok,if_true,eI hn w,Sem.run_pure];congr 2;apply Fk;simp[Hl]
  simp only[if_true];refine .agg _ _ Zah (fun c hc=>h1 c (Dt (By hc))) (fun j hj=>?_);simp at hj;rw[eY _ _ _ _ _ (by omega),eY _ _ _ _ _ (by omega)];exact hv _ (by omega)
 |false=>have :=KK rfl;refine⟨us.getD off undef,?_,hv off (by omega)⟩;simp only[part,Sem.run_bind,qK hb w,Result.andThen_ok,Bb,Bp,Eb,qF us undef off (by omega)];rfl
theorem VR.uI {G:Gh} {w:World} {cs:List AV} {u:Value} (h:VR G w (.agg cs) u):∃us:List Value,u=.agg us.toArray/\us.length=cs.length/\(∀c∈cs,c.one=true)/\
 ∀j,j<cs.length->VR G w (cs.getD j aD) (us.getD j undef):=by
 cases h with
 |agg _ us hl h1 hv=>exact⟨us,rfl,hl,h1,hv⟩
end
end
section
theorem xM {bB:List (List AV)} {sz:Nat} (hu:∀e∈bB,e.length=sz):∀{i j:Nat},i<bB.length->j<sz->bB.flatten.getD (i*sz+j) aD=(bB.getD i []).getD j aD:=by
 induction bB with
 |nil=>intro i j hi;simp at hi
 |cons e r ih=>
  intro i j hi hj;have he:e.length=sz:=hu e (by simp)
  cases i with
  |zero=>simp only[getD_eq,Bl,Iw,Cq,Gj,Bi];rw[Ev (by omega)]
  |succ i=>have :=ih (fun e he=>hu e (by simp[he])) (i:=i) (j:=j) (by simpa using hi) hj;simp only[getD_eq,Bl,Gk] at this ⊢;rw[Fx (by rw[he,Dw];omega)];rw[show(i+1)*sz+j -e.length=i*sz+j by rw[he,Dw];omega];exact this
theorem length_flatten {bB:List (List AV)} {sz:Nat} (hu:∀e∈bB,e.length=sz):bB.flatten.length=bB.length*sz:=by
 induction bB with
 |nil=>simp
 |cons e r ih=>simp only[Bl,Ba,As,Dw];rw[ih (fun e he=>hu e (by simp[he])),hu e (by simp)];omega
section
variable {P:Program} {g:bG} {o:Oper}
def zL (P:Program) (t:TypeId):Option (Nat×Nat×Bool):=
 match P.underlying t with
 |some (.array n e)=>match kG P e,fT P e with
  |some sz,some b=>some (n,sz,b)
  |_,_=>none
 |_=>none
def nC (P:Program) (t:TypeId):Option (TypeId×Nat):=
 match P.underlying t with
 |some (.slice e)=>match kG P e with
  |some sz=>some (e,sz)
  |none=>none
 |_=>none
theorem zN {t:TypeId} {n sz:Nat} {b:Bool} (h:zL P t=some (n,sz,b)):∃e,P.underlying t=some (.array n e)/\kG P e=some sz/\fT P e=some b:=by
 unfold zL at h;split at h
 . rename_i n' e hu;split at h
   . rename_i eR b' h1 h2;simp only[Ae,Ak] at h;obtain⟨rfl,rfl,rfl⟩:=h;exact⟨e,hu,h1,h2⟩
   cases h
 cases h
theorem kK {t e:TypeId} {sz:Nat} (h:nC P t=some (e,sz)):P.underlying t=some (.slice e)/\kG P e=some sz:=by
 unfold nC at h;split at h
 . rename_i e' hu;split at h
   . rename_i eR h1;simp only[Ae,Ak] at h;obtain⟨rfl,rfl⟩:=h;exact⟨hu,h1⟩
   cases h
 cases h
theorem VP {t:TypeId} {x i:Operand} {x' i':Arg} {n sz:Nat} {b:Bool} (ho:o.op=.indexAddr t x i) (hx:bN g x=some x') (hi:bN g i=some i') (ht:zL P t=some (n,sz,b)):
 cP P g o (.Sq (some n) sz x' i'):=by
 intro s a G H w v H' hw hs h;have vx:=bM hw hs hx;have vi:=bM hw hs hi;obtain⟨e,hu,he,hb⟩:=zN ht;simp only[dA] at h;split at h
 . rename_i k hk;obtain⟨kk,LS,hkv⟩:=tE hk vi
   have jH:∀bl o',a.eval x=.pointer (some ⟨bl,o',none⟩)->k<n->(execOp a.eval o).run P w=.ok (.value (.pointer (some ⟨bl,o'+k*sz,none⟩))) w:=fun bl o' hxe fJ=>by have h0:(0:Int)<=(k:Int)/\(k:Int)<(n:Int):=(by omega);simp[execOp,ho,Instr.indexAt,hkv,asIntOf,run_underlying hu w,hxe,Instr.sureAddr,h0,eI he w,jX];intro LQ;omega
   split at h
   . rename_i n' id off hn dC;cases hn;rw[dC] at vx;split at h
     . rename_i fJ;simp only[Ae,Ak] at h;obtain⟨rfl,rfl⟩:=h
       cases eG:a.eval x with
       |pointer p=>
        rw[eG] at vx
        cases vx with
        |ref _ _ l hl=>exact cP.pure' hw (jH _ _ eG fJ) (by rw[Br];exact .ref id (off+k*sz) l hl)
       |_=>rw[eG] at vx;cases vx
     cases h
   . rename_i n' cs hn dC;cases hn;rw[dC] at vx;split at h
     . rename_i fJ;simp only[Ae,Ak] at h;obtain⟨rfl,rfl⟩:=h
       cases eG:a.eval x with
       |pointer p=>
        rw[eG] at vx
        cases vx with
        |pl _ bl o' us hh hv=>
         refine cP.pure' hw (jH _ _ eG fJ) (.pl _ bl (o'+k*sz) (fun j=>us (k*sz+j)) (fun j hj=>?_) (fun j hj=>?_))
         . simp at hj;rw[Br,BT];exact hh (k*sz+j) (by omega)
         simp at hj;rw[BT];exact hv (k*sz+j) (by omega)
       |_=>rw[eG] at vx;cases vx
     cases h
   . rename_i hn _;cases hn
   . rename_i hn _;cases hn
   cases h
 cases h
theorem YA {t e:TypeId} {x i:Operand} {x' i':Arg} {sz:Nat} (ho:o.op=.indexAddr t x i) (hx:bN g x=some x') (hi:bN g i=some i') (ht:nC P t=some (e,sz)):
 cP P g o (.Sq none sz x' i'):=by
 intro s a G H w v H' hw hs h;have vx:=bM hw hs hx;have vi:=bM hw hs hi;obtain⟨hu,he⟩:=kK ht;simp only[dA] at h;split at h
 . rename_i k hk;obtain⟨kk,LS,hkv⟩:=tE hk vi
   have jH:∀bl o' n cap,a.eval x=.slice (some ⟨bl,o',none⟩) n cap->k<n->(execOp a.eval o).run P w=.ok (.value (.pointer (some ⟨bl,o'+k*sz,none⟩))) w:=fun bl o' n cap hxe fJ=>by have h0:(0:Int)<=(k:Int)/\(k:Int)<(n:Int):=(by omega);simp[execOp,ho,Instr.indexAt,hkv,asIntOf,run_underlying hu w,hxe,Instr.sureAddr,h0,eI he w,jX];intro LQ;omega
   split at h
   . rename_i hn _;cases hn
   . rename_i hn _;cases hn
   . rename_i tag eR bB hn dC;rw[dC] at vx;split at h
     . rename_i hc;obtain⟨rfl,fJ⟩:=hc;simp only[Ae,Ak] at h;obtain⟨rfl,rfl⟩:=h
       cases eG:a.eval x with
       |slice p n cap=>
        rw[eG] at vx
        cases vx with
        |vE=>exact absurd fJ (Ap _)
        |bD _ _ _ bl o' _ us GA hh hv rS=>
         have WO:(bB.getD k []).length=eR:=by rw[getD_eq,Ad fJ];exact GA _ (Ac fJ)
         have vD:=length_flatten GA
         have gT:∀j,j<eR->k*eR+j<bB.flatten.length:=fun j hj=>by
          rw[vD]
          calc k*eR+j<k*eR+eR:=by omega
           _=(k+1)*eR:=by rw[Dw]
           _<=bB.length*eR:=Cx _ fJ
         refine cP.pure' hw (jH _ _ _ _ eG fJ) (.pl _ bl (o'+k*eR) (fun j=>us (k*eR+j)) (fun j hj=>?_) (fun j hj=>?_))
         . rw[WO] at hj;rw[Br,<-xM GA fJ hj];exact hh _ (gT j hj)
         rw[WO] at hj;rw[<-xM GA fJ hj];exact hv _ (gT j hj)
       |_=>rw[eG] at vx;cases vx
     cases h
   . rename_i id eR off len cap hn dC;rw[dC] at vx;split at h
     . rename_i hc;obtain⟨rfl,fJ⟩:=hc;simp only[Ae,Ak] at h;obtain⟨rfl,rfl⟩:=h
       cases eG:a.eval x with
       |slice p n cap=>
        rw[eG] at vx
        cases vx with
        |sl _ _ _ _ _ _ l hl hlen gT pQ=>exact cP.pure' hw (jH _ _ _ _ eG fJ) (by rw[Br];exact .ref id (off+k*eR) l hl)
       |_=>rw[eG] at vx;cases vx
     cases h
   cases h
 cases h
theorem aTs {t:TypeId} {x i:Operand} {x' i':Arg} {n sz:Nat} {b:Bool} (ho:o.op=.index t x i) (hx:bN g x=some x') (hi:bN g i=some i') (ht:zL P t=some (n,sz,b)):
 cP P g o (.idx n sz b x' i'):=by
 intro s a G H w v H' hw hs h;have vx:=bM hw hs hx;have vi:=bM hw hs hi;obtain⟨e,hu,he,hb⟩:=zN ht;simp only[dA] at h;split at h
 . rename_i k cs hk dC;rw[dC] at vx;obtain⟨kk,LS,hkv⟩:=tE hk vi;obtain⟨us,eG,hl,h1,hv⟩:=vx.uI;split at h
   . rename_i hc;obtain⟨fJ,gT⟩:=hc
     have jH:∀u,(part e us.toArray (k*sz)).run P w=.ok u w->(execOp a.eval o).run P w=.ok (.value u) w:=fun u hr=>by have h0:(0:Int)<=(k:Int)/\(k:Int)<(n:Int):=(by omega);simp[execOp,ho,eG,Instr.index,hkv,asIntOf,run_underlying hu w,h0,eI he w,hr];intro LQ;omega
     split at h
     . rename_i qZ;simp only[Ae,Ak] at h;obtain⟨rfl,rfl⟩:=h;obtain⟨u,hr,Lw⟩:=Vt (P:=P) he hb hl h1 hv gT (fun hf=>by rw[qZ] at hf;cases hf);rw[if_pos qZ] at Lw;exact cP.pure' hw (jH u hr) Lw
     rename_i qZ;split at h
     . rename_i KK;simp only[Ae,Ak] at h;obtain⟨rfl,rfl⟩:=h;obtain⟨u,hr,Lw⟩:=Vt (P:=P) he hb hl h1 hv gT (fun _=>KK);rw[if_neg qZ,KK,Ed] at Lw;rw[KK,Ed] at hr;exact cP.pure' hw (jH u (by rw[KK,Ed];exact hr)) Lw
     cases h
   cases h
 cases h
theorem aGn {t:TypeId} {x i:Operand} {x' i':Arg} (ho:o.op=.index t x i) (hx:bN g x=some x') (hi:bN g i=some i') (ht:P.underlying t=some .string):
 cP P g o (.idxs x' i'):=by
 intro s a G H w v H' hw hs h;have vx:=bM hw hs hx;have vi:=bM hw hs hi;simp only[dA] at h;split at h
 . rename_i k str hk dC;rw[dC] at vx;obtain⟨kk,LS,hkv⟩:=tE hk vi;have eG:=vx.lK;split at h
   . rename_i b hb;simp only[Ae,Ak] at h;obtain⟨rfl,rfl⟩:=h;refine cP.pure' hw (u:=.int .u8 b.toNat) ?_ (.int _ _);have fJ:=(Bk.1 hb).1
     have LQ:(⟨str.toArray⟩:ByteArray)[k]?=some b:=by have bFs:k<(⟨str.toArray⟩:ByteArray).size:=(by simpa [ByteArray.size] using fJ);rw[getElem?_pos (⟨str.toArray⟩:ByteArray) k bFs];have :=(Bk.1 hb).2;simpa [ByteArray.getElem_eq_getElem_data] using this
     simp[execOp,ho,Instr.index,hkv,asIntOf,run_underlying ht w,eG,LQ]
   cases h
 cases h
theorem aGp {c:Call} {x:Operand} {x':Arg} {t:TypeId} (ho:o.op=.call c) (hc:c.callee=.builtin .len) (ha:c.args= #[x]) (hx:bN g x=some x') (Pj:c.argTypes[0]?=some t)
 (ht:P.underlying t=some .string):cP P g o (.lens x'):=by
 intro s a G H w v H' hw hs h;have vx:=bM hw hs hx;simp only[dA] at h;split at h
 . rename_i str dC;rw[dC] at vx;simp only[Ae,Ak] at h;obtain⟨rfl,rfl⟩:=h;have eG:=vx.lK;refine cP.pure' hw (u:=.int .i64 str.length) ?_ (.int _ _);have lE:(⟨str.toArray⟩:ByteArray).size=str.length:=by simp[ByteArray.size]
   simp[execOp,ho,resolve,hc,ha,invoke,builtin,Builtin.len_,Pj,run_underlying ht w,eG,goInt];exact Bn (fun n:Nat=>(n:Int)) lE
 cases h
theorem aGr {c:Call} {x y:Operand} {x' y':Arg} (ho:o.op=.call c) (hc:c.callee=.builtin .max) (ha:c.args= #[x,y]) (hx:bN g x=some x') (hy:bN g y=some y'):cP P g o (.VI x' y'):=by
 intro s a G H w v H' hw hs h;have vx:=bM hw hs hx;have vy:=bM hw hs hy;simp only[dA] at h;split at h
 . rename_i k m k' n h1 h2;rw[h1] at vx;rw[h2] at vy;simp only[Ae,Ak] at h;obtain⟨rfl,rfl⟩:=h;have eG:=vx.iZ;have hyv:=vy.iZ;refine cP.pure' hw (u:=.int k (if n>m then n else m)) ?_ (.int _ _);simp[execOp,ho,resolve,hc,ha,invoke,builtin,Builtin.max_,Builtin.max2,eG,hyv]
 cases h
theorem aGs {c:Call} {x y:Operand} {x' y':Arg} (ho:o.op=.call c) (hc:c.callee=.builtin .min) (ha:c.args= #[x,y]) (hx:bN g x=some x') (hy:bN g y=some y'):cP P g o (.VL x' y'):=by
 intro s a G H w v H' hw hs h;have vx:=bM hw hs hx;have vy:=bM hw hs hy;simp only[dA] at h;split at h
 . rename_i k m k' n h1 h2;rw[h1] at vx;rw[h2] at vy;simp only[Ae,Ak] at h;obtain⟨rfl,rfl⟩:=h;have eG:=vx.iZ;have hyv:=vy.iZ;refine cP.pure' hw (u:=.int k (if n<m then n else m)) ?_ (.int _ _);simp[execOp,ho,resolve,hc,ha,invoke,builtin,Builtin.min_,Builtin.min2,eG,hyv]
 cases h
theorem aGo {c:Call} {x:Operand} {x':Arg} {t e:TypeId} (ho:o.op=.call c) (hc:c.callee=.builtin .len) (ha:c.args= #[x]) (hx:bN g x=some x') (Pj:c.argTypes[0]?=some t)
 (ht:P.underlying t=some (.slice e)):cP P g o (.OF x'):=by
 intro s a G H w v H' hw hs h;have vx:=bM hw hs hx
 have jH:∀p n cap,a.eval x=.slice p n cap->(execOp a.eval o).run P w=.ok (.value (.int .i64 n)) w:=fun p n cap eG=>by simp[execOp,ho,resolve,hc,ha,invoke,builtin,Builtin.len_,Pj,run_underlying ht w,eG,goInt]
 simp only[dA] at h;split at h
 . rename_i dC;exact Zbw
 . rename_i tag sz bB dC;rw[dC] at vx;simp only[Ae,Ak] at h;obtain⟨rfl,rfl⟩:=h;generalize eG:a.eval x=u at vx
   cases vx<;>
    exact cP.pure' hw (jH _ _ _ eG) (.int _ _)
 . rename_i id sz off len cap dC;exact Zbw
 cases h
theorem uA {op:BinOp} {t:TypeId} {x y:Operand} {u v:Value} (w:World) (h:∀c,u≠ .agg c) (h':u≠ .nilIface):(eqGuard op t x y u v).run P w=.ok () w:=by
 unfold eqGuard
 cases u<;>first
  |exact absurd rfl h'
  |exact absurd rfl (h _)
  |(cases op<;>rfl)
theorem aGi {op:BinOp} {k k':IntKind} {m n:Int} {v:AV} {t:TypeId} (h:pY op k m k' n=some v) (w:World):
 ∃u,(Go.binOp op t (.int k m) (.int k' n)).run P w=.ok u w/\∀G,VR G w v u:=by
 have key:∀{k:IntKind} {z:Int},∀G,VR G w (.int k z) (.int k z):=fun G=>.int _ _;have aTh:∀{z:Bool},∀G,VR G w (.bool z) (.bool z):=fun G=>.bool _;cases op<;>simp only[pY] at h
 all_goals first
  |(split at h<;>first
     |(cases h;done)
     |(rename_i hk
       first
        |(subst hk
          first
           |(obtain rfl:=Aa h
             refine⟨_,?_,key⟩;simp[Go.binOp,Op.intArith]
             done)
           |(obtain rfl:=Aa h
             refine⟨_,?_,aTh⟩;simp[Go.binOp,Op.intCmp]
             done)
           |(simp only[QO] at h
             obtain rfl:=Aa h;refine⟨_,?_,key⟩;simp[Go.binOp,Op.intBits]
             done)
           |(split at h
             . cases h
             rename_i h0;obtain rfl:=Aa h;refine⟨_,?_,key⟩
             simp[Go.binOp,Op.intDiv,h0]))
        |(obtain rfl:=Aa h
          refine⟨_,?_,key⟩;simp[Go.binOp,Op.shift,hk]
          done)))
theorem aGj {op:BinOp} {x y:List UInt8} {v:AV} {t:TypeId} (h:so op x y=some v) (w:World):
 ∃u,(Go.binOp op t (.string ⟨x.toArray⟩) (.string ⟨y.toArray⟩)).run P w=.ok u w/\∀G,VR G w v u:=by
 have aTh:∀{z:Bool},∀G,VR G w (.bool z) (.bool z):=fun G=>.bool _;have e1:(⟨x.toArray⟩:ByteArray).toList=x:=ByteArray.toList_mk x;have e2:(⟨y.toArray⟩:ByteArray).toList=y:=ByteArray.toList_mk y;cases op<;>simp only[so] at h
 case add=>
  split at h
  . rename_i hle;obtain rfl:=Aa h;refine⟨.string (⟨x.toArray⟩++⟨y.toArray⟩),?_,fun G=>?_⟩
    . have h1:(⟨x.toArray⟩:ByteArray).size=x.length:=(by simp[ByteArray.size]);have h2:(⟨y.toArray⟩:ByteArray).size=y.length:=by simp[ByteArray.size]
      have hm:¬(((⟨x.toArray⟩:ByteArray).size+(⟨y.toArray⟩:ByteArray).size:Nat):Int)>IntKind.i64.max:=by rw[h1,h2];have :IntKind.i64.max=9223372036854775807:=(by decide);omega
      simp only[Go.binOp,Op.stringOp,if_neg hm];rfl
    have :(⟨x.toArray⟩++⟨y.toArray⟩:ByteArray)=⟨(x++y).toArray⟩:=by apply ByteArray.ext;simp
    rw[this];exact VR.Yo G w _
  cases h
 all_goals first
  |(cases h;done)
  |(obtain rfl:=Aa h
    refine⟨_,?_,aTh⟩;simp only[Go.binOp,Op.stringOp,e1,e2]
    rfl)
theorem zp {op:BinOp} {t t2:TypeId} {x y:Operand} {x' y':Arg} (ho:o.op=.binOp op t x y t2) (hx:bN g x=some x') (hy:bN g y=some y'):cP P g o (.bin op x' y'):=by
 intro s a G H w v H' hw hs h;have vx:=bM hw hs hx;have vy:=bM hw hs hy;simp only[dA] at h;split at h
 . rename_i k m k' n h1 h2;rw[h1] at vx;rw[h2] at vy;have e1:=vx.iZ;have e2:=vy.iZ;simp only[Ah,Ak] at h;obtain⟨v',mX,rfl,rfl⟩:=h;obtain⟨u,hr,hv⟩:=aGi (P:=P) (t:=t) mX w;refine cP.pure' hw (u:=u) ?_ (hv G);have sL:=uA (P:=P) (op:=op) (t:=t) (x:=x) (y:=y) (u:=.int k m) (v:=.int k' n) w (fun c=>by simp) (by simp);simp[execOp,ho,e1,e2,sL,hr]
 . rename_i m n h1 h2;rw[h1] at vx;rw[h2] at vy;have e1:=vx.lK;have e2:=vy.lK;simp only[Ah,Ak] at h;obtain⟨v',mX,rfl,rfl⟩:=h;obtain⟨u,hr,hv⟩:=aGj (P:=P) (t:=t) mX w;refine cP.pure' hw (u:=u) ?_ (hv G);have sL:=uA (P:=P) (op:=op) (t:=t) (x:=x) (y:=y) (u:=.string ⟨m.toArray⟩) (v:=.string ⟨n.toArray⟩) w (fun c=>by simp) (by simp);simp[execOp,ho,e1,e2,sL,hr]
 cases h
theorem GX (d:Nat) {t:TypeId} (ht:P.underlying t=some .bool) (w:World) (m n:Bool):(Op.equalIn (d+1) t (.bool m) (.bool n)).run P w=.ok (m==n) w:=by rw[Op.equalIn];simp only[Sem.run_bind,run_underlying ht w,Result.andThen_ok];rfl
theorem aTp {op:BinOp} {neg:Bool} {t t2:TypeId} {x y:Operand} {x' y':Arg} (ho:o.op=.binOp op t x y t2) (fK:op=if neg then .neq else .eql) (ht:P.underlying t=some .bool)
 (hx:bN g x=some x') (hy:bN g y=some y'):cP P g o (.eqb neg x' y'):=by
 intro s a G H w v H' hw hs h;have vx:=bM hw hs hx;have vy:=bM hw hs hy;simp only[dA] at h;split at h
 . rename_i m n h1 h2;rw[h1] at vx;rw[h2] at vy;have e1:=vx.jY;have e2:=vy.jY;simp only[Ae,Ak] at h;obtain⟨rfl,rfl⟩:=h;refine cP.pure' hw (u:=.bool (if neg then !(m==n) else(m==n))) ?_ (.bool _);have sL:=uA (P:=P) (op:=op) (t:=t) (x:=x) (y:=y) (u:=.bool m) (v:=.bool n) w (fun c=>by simp) (by simp)
   have heq:(Op.equal t (.bool m) (.bool n)).run P w=.ok (m==n) w:=by exact GX 9999 ht w m n
   subst fK;cases neg<;>simp only[Bb,Bp,if_true] at ho sL<;>simp[execOp,ho,e1,e2,sL,Go.binOp,heq]
 cases h
theorem bDp {op:UnOp} {t:TypeId} {x:Operand} {x':Arg} (ho:o.op=.unOp op t x) (hx:bN g x=some x'):cP P g o (.un op x'):=by
 intro s a G H w v H' hw hs h;have vx:=bM hw hs hx;simp only[dA,Ah,Ak] at h;obtain⟨v',mX,rfl,rfl⟩:=h;unfold unA at mX;split at mX
 . rename_i k n h1;rw[h1] at vx;have e1:=vx.iZ;split at mX
   . obtain rfl:=Aa mX;exact cP.pure' hw (u:=.int k (k.wrap (0 -n))) (by simp[execOp,ho,e1,Op.unary,Op.intArith]) (.int _ _)
   . simp only[QO] at mX;obtain rfl:=Aa mX;exact cP.pure' hw (u:=.int k _) (by simp[execOp,ho,e1,Op.unary,Op.intBits]) (.int _ _)
   cases mX
 . rename_i b h1;rw[h1] at vx;have e1:=vx.jY;split at mX
   . obtain rfl:=Aa mX;exact cP.pure' hw (u:=.bool !b) (by simp[execOp,ho,e1,Op.unary]) (.bool _)
   cases mX
 cases mX
theorem zt {src dst:TypeId} {k:IntKind} {d:TypeDesc} {x:Operand} {x':Arg} (ho:o.op=.convert src dst x) (hx:bN g x=some x') (BX:P.underlying src=some d)
 (hd:P.underlying dst=some (.int k)):cP P g o (.NQ k x'):=by
 intro s a G H w v H' hw hs h;have vx:=bM hw hs hx;simp only[dA] at h;split at h
 . rename_i k' n h1;rw[h1] at vx;have e1:=vx.iZ;simp only[Ae,Ak] at h;obtain⟨rfl,rfl⟩:=h;refine cP.pure' hw (u:=.int k (k.wrap n)) ?_ (.int _ _);simp only[execOp,ho,e1,Go.convert,Sem.run_bind,run_underlying BX w,run_underlying hd w,Result.andThen_ok,Conv.intToInt];rfl
 cases h
theorem aGy {t ti:TypeId} {ok:Bool} {d:TypeDesc} {z:AV} {zv:Value} {x:Operand} {x':Arg} (ho:o.op=.typeAssert x ti t ok) (hx:bN g x=some x')
 (hd:P.underlying t=some d) (hni:∀ms,d≠ .interface ms) (hz:lL P t=some zv) (hzc:ofConst zv=some z):cP P g o (.Ys t ok z x'):=by
 intro s a G H w v H' hw hs h;have vx:=bM hw hs hx;have hzero:=lA hz w;have hzr:=FK hzc G w
 have two:∀{p q:AV} {u1 u2:Value},VR G w p u1->VR G w q u2->VR G w (.iA [p,q]) (.tuple #[u1,u2]):=fun h1 h2=>.iA [_,_] [_,_] rfl (h1.cons (h2.cons (iO.nil G w))).2
 have hh:∀(y:Value) (r:Value),(Instr.typeAssert y ti t ok).run P w=.ok r w->a.eval x=y->(execOp a.eval o).run P w=.ok (.value r) w:=fun y r hr he=>by simp[execOp,ho,he,hr]
 have rM:∀(ms:Array (String×TypeId)),d=TypeDesc.interface ms->False:=fun ms he=>hni ms he;simp only[dA] at h;split at h
 . rename_i t' y h1;rw[h1] at vx;generalize eG:a.eval x=u at vx
   cases vx with
   |iface _ _ yv hy=>
    split at h
    . rename_i htt;subst htt;simp only[Ae,Ak] at h;obtain⟨rfl,rfl⟩:=h;refine cP.pure' hw (u:=if ok then .tuple #[yv,.bool true] else yv) (hh _ _ ?_ eG) (by cases ok<;>simp <;>first|exact hy|exact two hy (.bool true));unfold Instr.typeAssert;simp only[Sem.run_bind,run_underlying hd w,Result.andThen_ok]
      cases d<;>first|exact absurd rfl (hni _)|simp
    rename_i htt;split at h
    . rename_i qP;simp only[Ae,Ak] at h;obtain⟨rfl,rfl⟩:=h;refine cP.pure' hw (u:=.tuple #[zv,.bool false]) (hh _ _ ?_ eG) (two hzr (.bool false));unfold Instr.typeAssert;simp only[Sem.run_bind,run_underlying hd w,Result.andThen_ok]
      cases d<;>first|exact absurd rfl (hni _)|simp[htt,qP,hzero]
    cases h
 . rename_i h1;rw[h1] at vx;generalize eG:a.eval x=u at vx;cases vx;split at h
   . rename_i qP;simp only[Ae,Ak] at h;obtain⟨rfl,rfl⟩:=h;refine cP.pure' hw (u:=.tuple #[zv,.bool false]) (hh _ _ ?_ eG) (two hzr (.bool false));unfold Instr.typeAssert;simp only[Sem.run_bind,run_underlying hd w,Result.andThen_ok]
     cases d<;>first|exact absurd rfl (hni _)|simp[qP,hzero]
   cases h
 cases h
end
end
end Go.Av
