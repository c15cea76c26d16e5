/-
  Part of the proof of statement 7
-/
import Derived.Calls
import Derived.Orders
import Derived.Laws.Sem
import Derived.Laws.Cells
import Derived.Laws.Entries
import Derived.Laws.Strings
set_option linter.unusedVariables false
set_option linter.unusedSimpArgs false
set_option linter.defProp false
namespace Go
def Aa:=@Option.some.inj
def Ab:=@Option.some.injEq
def Ac:=@List.getElem?_eq_getElem
def Ad:=@decide_eq_false
def Ae:=@Option.map_eq_some_iff
def Af:=@Prod.mk.injEq
def Ag:=@Nat.le_refl
def Ah:=@List.getElem_mem
def Ai:=@List.length_map
def Aj:=@decide_eq_true
def Ak:=@Bool.and_eq_true
def Al:=@Nat.le_of_ble_eq_true
def Am:=@List.mem_cons
def An:=@Option.isSome_some
def Ao:=@congrArg
def Ap:=@List.length_append
def Aq:=@List.mem_append
def Ar:=@Nat.not_lt_zero
def As:=@List.length_cons
def Au:=@Bool.false_eq_true
def Aw:=@List.mem_cons_of_mem
def Ax:=@List.take_add_one
def Ay:=@List.take_length
def Az:=@List.mem_range
def Ba:=@Nat.mul_le_mul
def Bb:=@List.take_of_length_le
def Bc:=@List.mem_cons_self
def Bd:=@Nat.eq_of_beq_eq_true
def Be:=@List.getElem?_eq_some_iff
def Bf:=@decide_eq_true_eq
def Bg:=@List.all_eq_true
def Bh:=@Nat.add_assoc
def Bi:=@Nat.add_mul
def Bj:=@Nat.lt_of_lt_of_le
def Bk:=@decide_eq_decide
def Bl:=@Option.getD_some
def Bm:=@List.mem_map
def Bn:=@Nat.mod_eq_of_lt
def Bo:=@List.drop_of_length_le
def Bp:=@Nat.zero_le
def Bq:=@Nat.mul_le_mul_right
def Br:=@Option.isSome_none
def Bs:=@Array.getD_eq_getD_getElem?
def Bt:=@List.getElem?_eq_none
def Bu:=@List.length_range
def Bv:=@Nat.mul_assoc
def Bw:=@List.length_nil
def Bx:=@Nat.mul_comm
def By:=@Nat.le_trans
def Bz:=@Nat.mod_lt
def Ca:=@if_false
def Cb:=@decide_eq_false_iff_not
def Cc:=@List.mem_singleton
def Cd:=@List.flatten_cons
def Ce:=@Nat.lt_of_le_of_lt
def Cf:=@Option.map_some
def Cg:=@Array.getElem?_eq_some_iff
def Ch:=@Nat.div_lt_iff_lt_mul
def Ci:=@List.getElem?_map
def Cj:=@Classical.byContradiction
def Ck:=@Nat.pow_le_pow_right
def Cl:=@List.getD_eq_getElem?_getD
def Cm:=@Nat.lt_trans
def Cn:=@List.map_append
def Co:=@List.pairwise_cons
def Cp:=@List.eq_nil_of_length_eq_zero
def Cq:=@List.map_cons
def Cr:=@List.append_nil
def Cs:=@Bool.not_eq_true'
def Ct:=@Bool.true_and
def Cu:=@List.not_mem_nil
def Cv:=@List.any_eq_true
def Cw:=@Nat.pow_succ
def Cx:=@List.take_append_of_le_length
def Cy:=@Int.natAbs_natCast
def Cz:=@Array.length_toList
def Da:=@Nat.mul_add
def Db:=@List.length_filter_le
def Dc:=@Nat.mul_one
def Dd:=@Nat.add_zero
def De:=@List.mem_of_mem_take
def Df:=@Int.mul_le_mul_of_nonneg_left
def Dg:=@Nat.zero_add
def Dh:=@beq_iff_eq
def Di:=@Bool.eq_iff_iff
def Dj:=@Nat.mul_le_mul_left
def Dk:=@List.getD_cons_zero
def Dl:=@List.getElem?_append
def Dm:=@Int.mul_pos
def Dn:=@Nat.div_eq_of_lt
def Dp:=@List.length_take
def Dq:=@Bool.or_eq_true
def Dr:=@beq_eq_false_iff_ne
def Ds:=@List.take_succ_cons
def Dt:=@List.getElem_of_mem
def Du:=@Bool.and_self
def Dv:=@List.getElem_map
def Dw:=@Nat.div_div_eq_div_mul
def Dx:=@List.append_assoc
def Dy:=@Int.mul_comm
def Ea:=@Int.gcd_dvd_right
def Eb:=@Option.getD_none
def Ec:=@Int.mul_nonneg
def Ed:=@of_decide_eq_true
def Ee:=@List.flatMap_cons
def Ef:=@List.drop_eq_getElem_cons
def Eg:=@Array.getElem?_eq_getElem
def Eh:=@Nat.div_add_mod
def Ei:=@List.range_succ
def Ej:=@List.drop_zero
def Ek:=@List.mem_flatMap
def El:=@List.map_congr_left
def Em:=@List.getElem?_toArray
def En:=@Nat.lt_or_ge
def Eo:=@List.map_map
def Ep:=@List.exists_cons_of_ne_nil
def Er:=@List.nil_append
def Es:=@List.getElem?_append_left
def Et:=@List.getD_cons_succ
def Eu:=@Nat.one_mul
def Ev:=@Int.lt_trichotomy
def Ew:=@Nat.lt_irrefl
def Ex:=@Int.natAbs_mul
def Ey:=@Int.lt_or_eq_of_le
def Ez:=@Nat.pow_add
def Fa:=@Int.gcd_dvd_left
def Fb:=@Int.mul_lt_mul_of_pos_right
def Fc:=@Nat.succ_mul
def Fe:=@List.take_zero
def Ff:=@List.pairwise_map
def Fg:=@Int.tmod_eq_emod_of_nonneg
def Fh:=@Array.ext'
def Fj:=@List.replicate_succ
def Fk:=@List.mem_filter
def Fl:=@Decidable.byContradiction
def Fm:=@Nat.lt_succ_self
def Fo:=@List.ext_getElem
def Fp:=@List.eq_nil_iff_forall_not_mem
def Fq:=@List.drop_append
def Fs:=@Bool.not_eq_true
def Ft:=@Int.le_of_lt
def Fu:=@or_false
def Fv:=@decide_true
def Fx:=@Nat.add_mul_div_left
def Fy:=@Bool.not_false
def Fz:=@not_false_eq_true
def Ga:=@List.getElem?_replicate
def Gb:=@List.getElem?_cons_succ
def Gc:=@Array.getElem?_setIfInBounds
def Gd:=@List.flatten_append
def Ge:=@List.cons_append
def Gf:=@of_decide_eq_false
def Gg:=@List.getElem?_drop
def Gi:=@List.getElem?_append_right
def Gj:=@Int.tdiv_eq_ediv_of_nonneg
def Gk:=@List.pairwise_iff_getElem
def Gl:=@Int.mul_pos_of_neg_of_neg
def Gm:=@Int.mul_neg_of_pos_of_neg
def Gn:=@Nat.div_le_self
def Gp:=@Nat.pow_pos
def Gq:=@List.size_toArray
def Gr:=@List.mem_of_mem_drop
def Gs:=@List.map_id
def Gt:=@List.ext_getElem?
def Gu:=@List.any_eq_false
def Gv:=@Int.mul_zero
def Gw:=@bne_iff_ne
def Gx:=@Nat.blt_eq
def Gy:=@List.eq_of_mem_replicate
def Gz:=@List.Pairwise.imp_of_mem
def Ha:=@List.flatMap_append
def Hb:=@Nat.mul_lt_mul''
def Hc:=@List.getElem?_cons_zero
def Hd:=@List.countP_cons
def Hg:=@Nat.le_succ
def Hh:=@Int.neg_mul
def Hi:=@decide_false
def Hj:=@decide_eq_true_iff
def Hk:=@Nat.zero_mul
def Hl:=@Nat.pow_zero
def Hn:=@Nat.le_mul_of_pos_left
def Ho:=@Nat.eq_zero_or_pos
def Hq:=@Nat.add_comm
def Hr:=@Int.dvd_trans
def Ht:=@List.take_append_drop
def Hu:=@Array.getElem?_modify
def Hv:=@bne_self_eq_false
def Hw:=@List.getElem?_set
def Hx:=@List.Pairwise.imp
def Hy:=@List.mem_iff_getElem
def Hz:=@Nat.le_add_right
def Ia:=@List.take_append
def Ib:=@List.length_drop
def Ic:=@List.extract_eq_take_drop
def Ie:=@List.getElem?_range
def Ig:=@List.drop_succ_cons
def Ih:=@Bool.not_true
def Ii:=@List.length_set
def Ij:=@List.getElem_range
def Ik:=@List.getElem?_take
def Il:=@Nat.mul_pos
def Im:=@Nat.div_one
def Io:=@Nat.add_left_cancel_iff
def Ip:=@List.length_eq_zero_iff
def Iq:=@Int.tdiv_eq_ediv_of_dvd
def Ir:=@Int.le_refl
def Is:=@Nat.sub_zero
def It:=@Nat.mul_left_comm
def Iu:=@List.pairwise_lt_range
def Iv:=@List.foldl_append
def Iw:=@Classical.choose_spec
def Ix:=@Bool.and_eq_false_iff
def Iy:=@beq_self_eq_true
def Iz:=@Nat.le_of_not_lt
def Ja:=@List.drop_length
def Jb:=@Array.toList_map
def Jc:=@Nat.mod_one
def Jd:=@List.getElem?_set_ne
def Je:=@List.drop_append_of_le_length
def Jf:=@Int.mul_neg
def Jg:=@Nat.mod_add_div
def Jh:=@Nat.min_le_left
def Ji:=@Nat.min_eq_left
def Jj:=@List.any_append
def Jk:=@Nat.div_mul_le_self
def Jl:=@List.map_eq_nil_iff
def Jm:=@Int.gcd_eq_zero_iff
def Jn:=@Nat.gcd_comm
def Jo:=@List.map_nil
def Jp:=@Int.ne_of_gt
def Jq:=@List.mem_filterMap
def Jr:=@List.find?_eq_none
def Js:=@List.filter_append
def Jt:=@List.drop_drop
def Ju:=@Int.sub_eq_add_neg
def Jv:=@Int.lt_or_gt_of_ne
def Jw:=@Int.fdiv_eq_ediv_of_nonneg
def Jx:=@Bool.false_and
def Jy:=@BitVec.toNat_ofNat
def Jz:=@Int.mul_neg_of_neg_of_pos
def Ka:=@Int.eq_of_mul_eq_mul_left
def Kb:=@Nat.lt_trichotomy
def Kc:=@Nat.div_pos
def Kd:=@List.all_eq_false
def Ke:=@Nat.pow_succ'
def Kf:=@Int.mul_ediv_cancel_left
def Kg:=@Bool.and_true
def Kh:=@true_and
def Ki:=@and_true
def Kj:=@List.filter_cons
def Kk:=@List.getElem?_set_self
def Kl:=@Int.zero_mul
def Km:=@Int.lt_asymm
def Kn:=@Array.toList_replicate
def Ko:=@Array.getElem?_eq_none
def Kq:=@List.nodup_cons
def Kr:=@List.foldl_cons
def Ku:=@List.filter_nil
def Kv:=@Int.mul_eq_zero
def Kw:=@List.sizeOf_lt_of_mem
def Kx:=@List.length_replicate
def Ky:=@Array.getElem?_toList
def Kz:=@List.range_eq_range'
def Lc:=@List.nodup_nil
def Ld:=@Int.natAbs_neg
def Le:=@Int.mul_ediv_cancel'
def Lf:=@List.length_pos_iff
def Lg:=@Int.toNat_of_nonneg
def Lh:=@Int.neg_ediv_of_dvd
def Li:=@Array.toList_append
def Lj:=@Array.getElem?_push
def Lk:=@List.drop_nil
def Ll:=@List.all_cons
def Lm:=@Bool.or_false
theorem A0{p:Prop}(h:p:=by omega):p:=h
theorem A1{p:Prop}(h:p:=by decide):p:=h
theorem A2{p:Prop}(h:p:=by simp):p:=h
theorem Zaa{p:Prop}(h:p:=by exact⟨rfl,_,by simp only[↓zP,zR,seval];rfl,rfl⟩):p:=h
theorem Zab{p:Prop}(h:p:=by simp[dY.args]):p:=h
theorem Zac{p:Prop}(h:p:=by simp only[sf]):p:=h
theorem Zad{p:Prop}(h:p:=by
 generalize hZ:aA.set _ (H1.next+4) _=HZ;have hz:Over HB HZ:=(by subst hZ;exact(((((((((Over.refl HB).alloc _).alloc _).set A0 _).set A0 _).alloc _).alloc _).set A0 _).set A0 _));clear hZ;have hzn:=hz.le;refine⟨rfl,_,_,by rw[aA.aC,if_neg A1];exact(hz.same 6 A0).trans z6,by rw[ttt];rfl,?_,by simp only[aA.bA];omega,fun j h1 h2=>?_⟩
 . rw[ttt,if_pos rfl];exact⟨by rw[aA.aC,if_neg A1,aA.aC,if_pos rfl],by simp only[aA.bA];omega,by rw[aA.aC,if_neg A1,aA.aC,if_neg A1];exact(hz.same 5 A0).trans ((zo 5 A1 A0).trans w7),_,_,by rw[aA.aC,if_pos rfl]⟩
 by_cases j6:j=6
 . omega
 rw[aA.aC,if_neg j6,aA.aC,if_neg A0];exact(hz.same j A0).trans (zo j j6 h2)):p:=h
theorem Zae{p:Prop}(h:p:=by refine bX ?_;refine Ty ?_;refine bY ?_;simp only[↓zP,zJ,seval,oL la,oL lb];refine bO (hd _) ?_;simp only[↓zP,zJ,seval,dA,nY,oL nY,oL (dA _)];refine⟨rfl,_,by simp only[↓zP,zR,seval,dA,oL (dA _)];rfl,?_⟩;rfl):p:=h
theorem Zaf{p:Prop}(h:p:=by simp;omega):p:=h
theorem Zag{p:Prop}(h:p:=by subst hX;rw[aA.aC,if_pos rfl]):p:=h
theorem Zah{p:Prop}(h:p:=by simp only[sf,bV]):p:=h
theorem Zai{p:Prop}(h:p:=by simp only[↓zP,zJ,seval,Nf,Ng,g2,g3,dA,nY,oL nY];refine⟨rfl,_,by simp only[↓zP,zR,seval,Nf,Ng,dA,oL (dA _)];rfl,?_⟩;rw[Xj];rfl):p:=h
theorem Zaj{p:Prop}(h:p:=by simp only[sf,ha.free,hb.free]):p:=h
theorem Zak{p:Prop}(h:p:=by simp only[sf,cK]):p:=h
theorem Zal{p:Prop}(h:p:=by
 split
 . rename_i hw;rw[if_pos hw] at h;split
   . rename_i hf;rw[if_pos hf] at h;obtain⟨ob,val,h1,h2,h3⟩:=h;exact⟨ob,val,h1,h2,ih hq h3⟩
   rename_i hf;rw[if_neg hf] at h;split
   . rename_i he;rw[if_pos he] at h;obtain⟨v,H',h1,h2,h3,h4⟩:=h;exact⟨v,H',h1,h2,h3,ih hq h4⟩
   rename_i he;rw[if_neg he] at h;obtain⟨v,h1,h2,h3⟩:=h;exact⟨v,h1,h2,ih hq h3⟩
 rename_i hw;rw[if_neg hw] at h;exact ih hq h):p:=h
theorem Zam{p:Prop}(h:p:=by
 rw[ev] at ng;simp only[zJ,seval,Ng,h3,oL (dA _)];refine bO (ng _) ?_;simp only[↓zP,zJ,seval,Ng,h3,oL (dA _)];refine key _ _ ?_ ?_ ?_ ?_ ?_ ?_ ?_ ?_
 . simp only[zB,seval];exact nt
 . simp only[zB,seval];exact Vl
 . simp only[zB,seval];exact Nf
 . simp only[zB,seval];exact Ng
 . simp only[zI,seval,h0]
 . simp only[zI,seval,h1]
 . simp only[zI,seval,h2]
 simp only[zI,seval]):p:=h
theorem Zan{p:Prop}(h:p:=by
 dsimp only;refine Tz ?_;refine cP [3] (fun i vs H'=>vs=[.bB]) 0 0 (Bp _) A0 A1 ?_ ?_ ?_ ?_ ?_
 . exact zq
 . simp only[sm,zB,seval]
 . rintro i f H1 h0 hi hk e1 hv;have f0:f 0=.bB:=hk 0 rfl;simp only[↓zP,zG,seval,e1,f0];exact tB A0
 . rintro i f H1 h0 hi hk;exact absurd hi (Ar _)
 rintro f H1 hk hv;simp only[zM] at hv;simp only[↓zP,seval,hv];refine Rx ?_;rfl):p:=h
theorem Zao{p:Prop}(h:p:=by simp only[sf,cF ht]):p:=h
theorem Zap{p:Prop}(h:p:=by
 rcases qo with ⟨rfl,h⟩|⟨k,rfl,h1,h2⟩
 . rw[h];rfl
 have cG:¬bK (gS C S L)=[]:=fun h=>by have :=qe (by simpa [bK] using h);cases this
 rw[show jH 3 (bK (gS C S L))=.bC 0 3 (bK (gS C S L)) from if_neg cG];have yB:eI (bK (gS C S L))=true:=dN bV _;simp[gT,PV,kT,yB,ED,pA,AV.free]):p:=h
theorem Zaq{p:Prop}(h:p:=by
 rw[Ax,Aq] at hv
 rcases hv with h|h
 . exact .inl h
 simp[hi] at h;exact .inr h):p:=h
theorem Zar{p:Prop}(h:p:=by rw[show iP l C S L=(.bB,1) from (if_neg Yw).trans (if_pos (Yx A0))];exact⟨_,2,rfl,fun nw=>rfl⟩):p:=h
theorem Zas{p:Prop}(h:p:=by simpa using hj):p:=h
theorem Zat{p:Prop}(h:p:=by simp only[AV.free,cK]):p:=h
theorem Zau{p:Prop}(h:p:=by exact⟨_,2,rfl,fun nw=>rfl⟩):p:=h
theorem Zav{p:Prop}(h:p:=by
 refine Rx ?_;refine⟨v,0,rfl,fun nw=>?_⟩;have cG:bK (E.map (EJ l))≠[]:=by simpa [bK] using hE0
 rcases ho with ⟨_,h⟩|⟨k,rfl,h1,h2⟩
 . exact absurd h cG
 have yB:eI (bK (E.map (EJ l)))=true:=dN bV _;simp[gT,kT,yB,ED]):p:=h
theorem Zaw{p:Prop}(h:p:=by
 rcases jC L S with ⟨h,e⟩|⟨h,e⟩
 . rw[e] at f0;subst h;simp only[↓zP,zG,seval,e1,f0];exact⟨trivial,trivial,Ao AV.bool (Bk.2 (by simp at hi;simp[hi]))⟩
 rw[e] at f0;simp only[↓zP,zG,seval,e1,f0,Ai];exact tB A0):p:=h
theorem Zax{p:Prop}(h:p:=by subst hX;simp only[aA.bA,aA.bH];omega):p:=h
theorem Zay{p:Prop}(h:p:=by simpa using h):p:=h
theorem Zaz{p:Prop}(h:p:=by simp only[aA.bH];omega):p:=h
theorem ZaA{p:Prop}(h:p:=by refine bO (ZH _) ?_;refine Tz ?_;refine Rx ?_;rfl):p:=h
theorem ZaB{p:Prop}(h:p:=by refine Rx ?_;rfl):p:=h
theorem ZaC{p:Prop}(h:p:=by split<;>omega):p:=h
theorem ZaD{p:Prop}(h:p:=by rename_i hid;rw[hid] at vx;generalize eA:a.eval x=u at vx;cases vx;simp only[Ab,Af] at h;obtain⟨rfl,rfl⟩:=h;exact cN.pure' hw (fP eA (by simp[Builtin.clear_,RE,run_underlying ht w])) (VR.nL G w)):p:=h
theorem ZaE{p:Prop}(h:p:=by rw[ho.1];omega):p:=h
theorem ZaF{p:Prop}(h:p:=by refine bO (MF (decide (z<0)) hl _) ?_;simp only[↓zP,zJ,Nat.reduceEqDiff,Nat.reduceAdd,iL hl,fin,fs];exact⟨rfl,_,by simp only[↓zP,zR,Nat.reduceEqDiff,Nat.reduceAdd,iL hl];rfl,rfl⟩):p:=h
theorem ZaG{p:Prop}(h:p:=by subst hX;rw[aA.aC,if_neg Xv,aA.aI,if_neg Xv];exact g0):p:=h
theorem ZaH{p:Prop}(h:p:=by simp only[sf,ha.free]):p:=h
theorem ZaI{p:Prop}(h:p:=by exact⟨.bB,by simp only[sm,zB,seval],.nil _ _,by simp only[zI,seval],by simp only[zI,seval]⟩):p:=h
theorem ZaJ{p:Prop}(h:p:=by simp only[Sem.run_bind,run_underlying hu w,Result.andThen_ok];rfl):p:=h
theorem ZaK{p:Prop}(h:p:=by
 rw[<-em] at h3;refine key _ _ ?_ ?_ ?_ ?_ h0 h1 h2 h3
 . simp only[zB,seval];exact nt
 . simp only[zB,seval];exact Vl
 . simp only[zB,seval];exact Nf
 simp only[zB,seval];exact Ng):p:=h
theorem ZaL{p:Prop}(h:p:=by unfold rQ at *;omega):p:=h
theorem ZaM{p:Prop}(h:p:=by
 rcases h2 with h2|⟨j,av,vv,a1,a2,a3,a4,a5,a6⟩
 . exact .inl h2
 refine .inr ⟨j,av,vv,a1,a2,a3,by omega,by simp;omega,?_⟩;rw[show j -i=(j -(i+1))+1 by omega,Et];exact a6):p:=h
theorem ZaN{p:Prop}(h:p:=by subst hf;simp only[zB,seval]):p:=h
theorem ZaO{p:Prop}(h:p:=by simp only[↓zP,zG,seval,e1];exact tB A0):p:=h
theorem ZaP{p:Prop}(h:p:=by
 rw[ih _ _ _ _ hd];by_cases he:Nat.div m 2=Nat.div n 2
 . rw[if_pos he,if_pos];rw[Vw (by rw[hb,hbm]) he]
 rw[if_neg he,if_neg];intro hh;apply he;rw[Nat.succ.inj hh]):p:=h
theorem ZaQ{p:Prop}(h:p:=by
 constructor
 . rintro(h|h|h)
   . exact .inr (.inl h)
   . exact .inl h
   exact .inr (.inr h)
 rintro(h|h|h)
 . exact .inr (.inl h)
 . exact .inl h
 exact .inr (.inr h)):p:=h
theorem ZaR{p:Prop}(h:p:=by simp only[Ab,Af] at h ⊢;simp_all):p:=h
theorem ZaS{p:Prop}(h:p:=by simp only[zB,Nat.reduceEqDiff]):p:=h
theorem ZaT{p:Prop}(h:p:=by
 split at h
 . obtain rfl:=Aa h;cases hp
 cases h):p:=h
theorem ZaU{p:Prop}(h:p:=by refine key _ ?_ ?_ ?_ ?_<;>simp only[zB,seval,f2,f3,f4,f5]):p:=h
theorem ZaV{p:Prop}(h:p:=by
 obtain⟨h1,vs,h2,h3⟩:=q;refine fin _ h3 (eF (fun e s d h hh=>?_) hA);obtain⟨rfl,rfl|⟨_,x,hx⟩,rfl,rfl⟩:=hh
 . exact⟨h1,vs,h2,rfl,rfl⟩
 cases hx):p:=h
theorem ZaW{p:Prop}(h:p:=by rw[ho.1];exact hp):p:=h
theorem ZaX{p:Prop}(h:p:=by rw[hk 3 rfl];simp only[zB,seval];exact f3):p:=h
theorem ZaY{p:Prop}(h:p:=by
 rename_i rD;simp only[Ab,Af] at h;obtain⟨rfl,rfl⟩:=h;have :=fin _ _ _ rfl hlen yK (fun hf=>by rw[rD] at hf;cases hf) mL
 rwa [if_pos rD] at this):p:=h
theorem ZaZ{p:Prop}(h:p:=by
 rename_i rD;simp only[Ab,Af] at h;obtain⟨rfl,rfl⟩:=h;have :=fin _ _ _ eA hlen yK (fun hf=>by rw[rD] at hf;cases hf) mL
 rwa [if_pos rD] at this):p:=h
theorem Za0{p:Prop}(h:p:=by refine bO (qB _) ?_;refine bO (qB _) ?_;simp only[↓zP,zJ,seval,g2,g3,ZO,nY,oL nY];refine⟨rfl,_,by simp only[↓zP,zR,seval,ZO];rfl,?_⟩;rfl):p:=h
theorem Za1{p:Prop}(h:p:=by simp only[Ab,Af] at h;obtain⟨rfl,rfl⟩:=h;exact⟨rfl,rfl,k2,s2,GD,rfl⟩):p:=h
theorem Za2{p:Prop}(h:p:=by obtain⟨it,m,mb,c,seen,es,bs,h1,h2,h3,h4,h5⟩:=h;exact⟨it,m,mb,c,seen,es,bs,h1,h2,h3,fun k=>ih hq (h4 k),fun j k1 k2=>ih hq (h5 j k1 k2)⟩):p:=h
theorem Za3{p:Prop}(h:p:=by simp only[qP,Li,Kn,Gq,hlen,h4];refine hv.append ⟨by simp,fun j hj=>?_⟩;simp only[Kx] at hj;simp only[Cl,Ga,hj,if_true,Bl];exact VR.nL G w):p:=h
theorem Za4{p:Prop}(h:p:=by rw[hid] at vx;simp only[Ab,Af] at h;obtain⟨rfl,rfl⟩:=h;generalize eA:a.eval x=u at vx;cases vx;exact cN.pure' hw (iX _ _ _ eA) (.int _ _)):p:=h
theorem Za5{p:Prop}(h:p:=by simp only[sf];exact iI fun i _=>cK _):p:=h
theorem Za6{p:Prop}(h:p:=by refine bO (sV _) ?_;simp only[↓zP,zJ,seval,j4,h2,SU,oL jO];refine⟨rfl,_,by simp only[↓zP,zR,seval,j4,SU];rfl,?_⟩;rw[<-fx];rfl):p:=h
theorem Za7{p:Prop}(h:p:=by
 obtain⟨i,x⟩:=p;simp only[JI] at h;split at h
 . split at h
   . rename_i y ys' _ h';obtain rfl:=Aa h;simp[ih h']
   cases h
 cases h):p:=h
theorem Za8{p:Prop}(h:p:=by exact⟨trivial,trivial,Ao AV.bool (Ad A0).symm⟩):p:=h
end Go
namespace Go.Av
open Go
inductive AV where
 |bool (b:Bool)
 |int (k:IntKind) (n:Int)
 |str (s:List UInt8)
 |Lw
 |ref (id off:Nat)
 |pl (cells:List AV)
 |bB
 |bC (tag sz:Nat) (els:List (List AV))
 |sl (id sz off len cap:Nat)
 |func (fn:Fn) (first captured:List AV)
 |BT
 |iface (t:TypeId) (v:AV)
 |pR
 |agg (cs:List AV)
 |jZ (vs:List AV)
 |map (id:Nat)
 |sB
 |yield (id:Nat)
instance:Inhabited AV:=⟨.Lw⟩
def aB:AV:=.jZ []
def AV.one:AV->Bool
 |.agg _|.jZ _=>false
 |_=>true
def AV.EO:AV->Bool
 |.jZ _=>true
 |_=>false
def AV.cells:AV->List AV
 |.agg cs=>cs
 |v=>[v]
inductive Arg where
 |tmp (t:Nat)
 |const (v:AV)
 |iW (g:Nat)
inductive Sk where
 |b|i|s
 |f (sh:List Sk)
inductive Nk where
 |ptr|ifc|sli|mp|fn
 deriving DecidableEq
inductive dY where
 |Lu (x:Arg)
 |pick (c a b:Arg)
 |alloc (zero:List AV)
 |box (x:Arg)
 |build (zero:List AV) (parts:List (Nat×Nat×Arg))
 |Pb (sz:Nat) (parts:List Arg)
 |load (agg:Bool) (n:Nat) (a:Arg)
 |store (n:Nat) (a x:Arg)
 |Pf (x:Arg)
 |bin (op:BinOp) (x y:Arg)
 |eqb (neg:Bool) (x y:Arg)
 |eqf (neg:Bool) (shape:List Sk) (x y:Arg)
 |eqn (neg:Bool) (k:Nk) (lit:Bool) (x y:Arg)
 |un (op:UnOp) (x:Arg)
 |OX (k:IntKind) (x:Arg)
 |CJ (x:Arg)
 |EI (x:Arg)
 |ai (n:Nat) (x:Arg)
 |ZX (t:TypeId) (x:Arg)
 |ZW (fn:Fn) (first cap:List Arg)
 |zT
 |jM (sz bytes:Nat) (zero:List AV) (l c:Arg)
 |QM (x:Arg) (lo hi:Option Arg)
 |al (sz:Nat) (x:Arg) (lo hi mx:Option Arg)
 |EW (n sz:Nat) (x:Arg) (lo hi mx:Option Arg)
 |Yn (off:Nat) (x:Arg)
 |UB (arr:Option Nat) (sz:Nat) (x i:Arg)
 |idx (n sz:Nat) (agg:Bool) (x i:Arg)
 |idxs (x i:Arg)
 |bd (t:TypeId) (ok:Bool) (zero:AV) (x:Arg)
 |Ym (x:Arg) (i:Nat)
 |lens (x:Arg)
 |WQ (x:Arg)
 |WW (x y:Arg)
 |WY (x y:Arg)
 |clr (sz:Nat) (zero:List AV) (x:Arg)
 |append (sz bytes:Nat) (mu:Bool) (x y:Arg)
 |copy (sz:Nat) (d s:Arg)
 |lookup (kind:Sk) (zero:AV) (ok:Bool) (x i:Arg)
 |PX (kind:Sk) (m k v:Arg)
 |vR (x:Arg)
 |EP (x:Arg)
 |yR (x:Arg)
 |call (f:Arg) (args:List Arg)
 |panic (x:Arg)
 |lN (f:Arg) (args:List Arg)
structure aZ where
 dst:Option Nat
 op:dY
 guard:Option (Nat×Bool)
inductive bR where
 |skip
 |ops (rl:List aZ)
 |draw (rl:List aZ) (pairs:List (Nat×Nat))
 |seq (a b:bR)
 |cond (c:Arg) (a b:bR)
 |block (id:Nat) (a:bR)
 |loop (a:bR)
 |exit (id:Nat)
 |ret
 |oJ (c:Arg) (ps:List Nat) (MQ body:bR)
structure KT where
 ps:List Nat
 MQ:bR
 body:bR
structure bF where
 val:Nat->Option (List AV)
 lok:KT->Loop->Prop
instance:CoeFun bF (fun _=>Nat->Option (List AV)):=⟨bF.val⟩
def bF.mo(g:bF):Bool:=(g.val 999999999).isNone
def g0:bF:=⟨fun _=>none,fun _ _=>False⟩
inductive LEx where
 |ret
 |exit (id:Nat)
inductive LSt where
 |ready
 |busy
 |done (e:LEx)
 |over (e:Option LEx)
inductive eY where
 |cells (cs:List AV) (eB:Bool)
 |tok
 |map (es:List (AV×AV))
 |sO (es:List (AV×AV)) (bs:List Nat) (c mb:Nat)
 |iter (m mb c:Nat) (seen:List Nat)
 |loop (k:KT) (sn:List AV) (st:LSt)
 |MV
 |dfx
 |dead
def eY.cV:eY->Bool
 |.map _|.sO _ _ _ _|.iter _ _ _ _|.loop _ _ _|.MV|.dfx=>true
 |_=>false
def LEx.code:LEx->Code
 |.ret=>.ret
 |.exit id=>.exit id
def nI(r:Loop):LSt->Loop
 |.ready=>{r with state:=.ready,pending:=none}
 |.busy=>{r with state:=.busy,pending:=none}
 |.done e=>{r with state:=.done,pending:=some e.code}
 |.over e=>{r with state:=.exhausted,pending:=e.map LEx.code}
def eY.live:eY->Bool
 |.dead=>false
 |_=>true
inductive Tr where
 |nil
 |node (o:Option eY) (l r:Tr)
def Tr.get:Tr->Nat->Option eY
 |.nil,_=>none
 |.node o l r,n=>if n=0 then o else if n%2=1 then l.get (n / 2) else r.get (n / 2 -1)
def Tr.root:Tr->Option eY
 |.nil=>none
 |.node o _ _=>o
def Tr.left:Tr->Tr
 |.nil=>.nil
 |.node _ l _=>l
def Tr.right:Tr->Tr
 |.nil=>.nil
 |.node _ _ r=>r
def Tr.CH:Nat->Tr->Nat->eY->Tr
 |0,t,_,o=>.node (some o) t.left t.right
 |f+1,t,n,o=>
  if n=0 then .node (some o) t.left t.right
  else if n%2=1 then .node t.root (Tr.CH f t.left (n / 2) o) t.right
  else .node t.root t.left (Tr.CH f t.right (n / 2 -1) o)
def Tr.set(t:Tr)(n:Nat)(o:eY):Tr:=Tr.CH n t n o
theorem Tr.dw(t:Tr)(n:Nat):t.get n=if n=0 then t.root else if n%2=1 then t.left.get (n / 2) else t.right.get (n / 2 -1):=by
 cases t with
 |nil=>simp[Tr.get,Tr.root,Tr.left,Tr.right]
 |node o l r=>simp[Tr.get,Tr.root,Tr.left,Tr.right]
theorem Tr.IN:∀(f:Nat) (t:Tr) (n:Nat) (o:eY) (m:Nat),n<=f->(Tr.CH f t n o).get m=if m=n then some o else t.get m:=by
 intro f
 induction f with
 |zero=>
  intro t n o m hn;obtain rfl:n=0:=by omega
  rw[Tr.dw t m];simp only[Tr.CH,Tr.get];by_cases hm:m=0<;>simp[hm]
 |succ f ih=>
  intro t n o m hn;rw[Tr.dw t m];simp only[Tr.CH];by_cases h0:n=0
  . subst h0;simp only[if_true,Tr.get];by_cases hm:m=0<;>simp[hm]
  by_cases aIs:n%2=1
  . simp only[h0,aIs,if_true,Ca,Tr.get];by_cases hm:m=0
    . have :¬m=n:=A0;simp[hm,Ne.symm h0]
    by_cases hmo:m%2=1
    . simp only[hm,hmo,if_true,Ca];rw[ih _ _ _ _ A0];by_cases he:m=n
      . simp[he]
      rw[if_neg he,if_neg A0]
    simp only[hm,hmo,Ca];rw[if_neg (by intro he;subst he;exact hmo aIs)]
  simp only[h0,aIs,Ca,Tr.get];by_cases hm:m=0
  . simp[hm,Ne.symm h0]
  by_cases hmo:m%2=1
  . simp only[hm,hmo,if_true,Ca];rw[if_neg (by intro he;subst he;exact aIs hmo)]
  simp only[hm,hmo,Ca];rw[ih _ _ _ _ A0];by_cases he:m=n
  . simp[he]
  rw[if_neg he,if_neg A0]
structure aA where
 next:Nat
 tr:Tr
def aA.get(H:aA)(id:Nat):Option eY:=H.tr.get id
def aA.set(H:aA)(id:Nat)(o:eY):aA:={H with tr:=H.tr.set id o}
def aA.alloc(H:aA)(o:eY):aA:={next:=H.next+1,tr:=H.tr.set H.next o}
theorem aA.aC(H:aA)(id:Nat)(o:eY)(m:Nat):(H.set id o).get m=if m=id then some o else H.get m:=
 Tr.IN _ _ _ _ _ (Ag _)
theorem aA.aI(H:aA)(o:eY)(m:Nat):(H.alloc o).get m=if m=H.next then some o else H.get m:=
 Tr.IN _ _ _ _ _ (Ag _)
@[simp] theorem aA.bA (H:aA) (id:Nat) (o:eY):(H.set id o).next=H.next:=rfl
@[simp] theorem aA.bH (H:aA) (o:eY):(H.alloc o).next=H.next+1:=rfl
def Arg.eval(g:bF)(s:List AV):Arg->AV
 |.tmp t=>s.getD t aB
 |.const v=>v
 |.iW n=>match g n with
  |some cs=>.pl cs
  |none=>aB
def fK(sz:Nat):Nat->List AV->List (List AV)
 |0,_=>[]
 |n+1,cs=>cs.take sz::fK sz n (cs.drop sz)
def gK(cs:List AV)(off:Nat)(vs:List AV):List AV:=cs.take off++vs++cs.drop (off+vs.length)
def IG(ev:Arg->AV):List AV->List (Nat×Nat×Arg)->Option (List AV)
 |cs,[]=>some cs
 |cs,(off,n,x)::rest=>
  let vs:=(ev x).cells
  if vs.length=n/\off+n<=cs.length/\(ev x).EO=false then IG ev (gK cs off vs) rest else none
def Lr(ev:Arg->AV)(sz:Nat):List Arg->Option (List (List AV))
 |[]=>some []
 |x::rest=>
  let vs:=(ev x).cells
  if vs.length=sz/\(ev x).EO=false then(Lr ev sz rest).map (vs:: ·) else none
def cT:List Sk->List AV->List AV->Option Bool
 |[],[],[]=>some true
 |.b::ks,.bool a::xs,.bool b::ys=>(cT ks xs ys).map ((a==b)&& ·)
 |.i::ks,.int j a::xs,.int k b::ys=>if j=k then(cT ks xs ys).map ((a==b)&& ·) else none
 |.s::ks,.str a::xs,.str b::ys=>(cT ks xs ys).map ((a==b)&& ·)
 |_,_,_=>none
def GJ(k:Nk):AV->Option Bool
 |.Lw=>if k=.ptr then some true else none
 |.ref _ _|.pl _=>if k=.ptr then some false else none
 |.bB=>if k=.sli then some true else none
 |.bC _ _ _|.sl _ _ _ _ _=>if k=.sli then some false else none
 |.pR=>if k=.ifc then some true else none
 |.iface _ _=>if k=.ifc then some false else none
 |.BT=>if k=.fn then some true else none
 |.func _ _ _=>if k=.fn then some false else none
 |.sB=>if k=.mp then some true else none
 |.map _=>if k=.mp then some false else none
 |_=>none
def tN(op:BinOp)(k:IntKind)(x y:Int):Option AV:=
 let a:=BitVec.ofInt k.bits x;let b:=BitVec.ofInt k.bits y
 match op with
 |.and=>some (.int k (k.wrap (a&&& b).toNat))
 |.or=>some (.int k (k.wrap (a|||b).toNat))
 |.xor=>some (.int k (k.wrap (a^^^b).toNat))
 |.andNot=>some (.int k (k.wrap (a&&& ~~~b).toNat))
 |_=>none
def qD(op:BinOp)(k:IntKind)(a:Int)(k':IntKind)(b:Int):Option AV:=
 match op with
 |.shl=>if b<0 then none else some (.int k (k.wrap (a*2^(min b.toNat k.bits))))
 |.shr=>if b<0 then none else some (.int k (a.fdiv (2^(min b.toNat k.bits))))
 |.add=>if k=k' then some (.int k (k.wrap (a+b))) else none
 |.sub=>if k=k' then some (.int k (k.wrap (a -b))) else none
 |.mul=>if k=k' then some (.int k (k.wrap (a*b))) else none
 |.quo=>if k=k' then(if b=0 then none else some (.int k (k.wrap (a.tdiv b)))) else none
 |.rem=>if k=k' then(if b=0 then none else some (.int k (a.tmod b))) else none
 |.and|.or|.xor|.andNot=>if k=k' then tN op k a b else none
 |.eql=>if k=k' then some (.bool (a==b)) else none
 |.neq=>if k=k' then some (.bool (a != b)) else none
 |.lss=>if k=k' then some (.bool (a<b)) else none
 |.leq=>if k=k' then some (.bool (a<=b)) else none
 |.gtr=>if k=k' then some (.bool (a>b)) else none
 |.geq=>if k=k' then some (.bool (a≥b)) else none
def aSx(op:BinOp)(x y:List UInt8):Option AV:=
 let eq:=x==y;let lt:=Op.bytesLess x y
 match op with
 |.add=>if x.length+y.length<=2^40 then some (.str (x++y)) else none
 |.eql=>some (.bool eq)
 |.neq=>some (.bool !eq)
 |.lss=>some (.bool lt)
 |.leq=>some (.bool (lt||eq))
 |.gtr=>some (.bool !(lt||eq))
 |.geq=>some (.bool !lt)
 |_=>none
def unA(op:UnOp):AV->Option AV
 |.int k n=>match op with
  |.neg=>some (.int k (k.wrap (0 -n)))
  |.xor=>tN .xor k (if k.signed then -1 else k.max) n
  |_=>none
 |.bool b=>match op with
  |.not=>some (.bool !b)
  |_=>none
 |_=>none
def asNat:AV->Option Nat
 |.int _ n=>if 0<=n then some n.toNat else none
 |_=>none
def dV(ev:Arg->AV):Option Arg->Option (Option Nat)
 |none=>some none
 |some x=>(asNat (ev x)).map some
def Sz(s:List UInt8):List (List AV):=s.map fun b=>[.int .u8 b.toNat]
def bytesOf:List (List AV)->Option (List UInt8)
 |[]=>some []
 |[.int .u8 n]::rest=>(bytesOf rest).map (UInt8.ofNat n.toNat:: ·)
 |_=>none
def aA.eG(H:aA)(id:Nat):Option (List AV):=
 match H.get id with
 |some (.cells cs _)=>some cs
 |_=>none
def dI(H:aA)(sz:Nat):AV->Option (List (List AV))
 |.bB=>some []
 |.bC _ eO els=>if eO=sz then some els else none
 |.str s=>if sz=1 then some (Sz s) else none
 |.sl id eO off len _=>
  if eO=sz then
   match H.eG id with
   |some cs=>if off+len*sz<=cs.length then some (fK sz len (cs.drop off)) else none
   |none=>none
  else none
 |_=>none
def lV(H:aA)(mu:Bool)(sz:Nat)(els:List (List AV)):AV×aA:=
 if mu then(.sl H.next sz 0 els.length els.length,H.alloc (.cells els.flatten true))
 else(.bC (H.next+2) sz els,H.alloc .tok)
def fZ(H:aA)(sz bytes:Nat)(mu:Bool)(x:AV)(ys:List (List AV)):Option (AV×aA):=
 if ys.isEmpty then
  match x with
  |.bB|.bC _ _ _|.sl _ _ _ _ _=>some (x,H)
  |_=>none
 else
 match x with
 |.bB=>if ys.length*bytes<=2^40 then some (lV H mu sz ys) else none
 |.bC tag eO els=>
  if eO=sz/\(els.length+ys.length)*bytes<=2^40 then
   match tag with
   |0=>none
   |1=>some (lV H mu sz (els++ys))
   |k+2=>
    match H.get k with
    |some .tok=>some (.bC (H.next+2) sz (els++ys),(H.set k .dead).alloc .tok)
    |_=>none
  else none
 |.sl id eO off len cap=>
  if eO=sz/\(len+ys.length)*bytes<=2^40/\1<=sz then
   match H.get id with
   |some (.cells cs eB)=>
    if len+ys.length<=cap then
     if off+cap*sz<=cs.length then
      some (.sl id sz off (len+ys.length) cap,H.set id (.cells (gK cs (off+len*sz) ys.flatten) eB))
     else none
    else if off+len*sz<=cs.length/\(eB=false\/off+cap*sz<cs.length) then
     some (lV H mu sz (fK sz len (cs.drop off)++ys))
    else if mu=true/\off=0/\len=cap/\cs.length=len*sz then
     some (.sl H.next sz 0 (len+ys.length) (len+ys.length),(H.set id .dead).alloc (.cells (cs++ys.flatten) true))
    else none
   |_=>none
  else none
 |_=>none
def pX(sz:Nat)(x:AV)(lo hi mx:Option Nat):Option AV:=
 match x with
 |.bB=>if lo.getD 0=0/\hi.getD 0=0/\mx.getD 0=0 then some .bB else none
 |.bC tag eO els=>
  let l:=lo.getD 0;let h:=hi.getD els.length
  if eO=sz/\l<=h/\h<=els.length then
   match mx with
   |some m=>
    if h<=m/\m<=els.length then
     some (.bC (if m=h then 1 else 0) sz ((els.drop l).take (h -l)))
    else none
   |none=>
    if h=els.length/\(l<h\/tag<2) then some (.bC tag sz (els.drop l))
    else some (.bC 0 sz ((els.drop l).take (h -l)))
  else none
 |.sl id eO off len cap=>
  let l:=lo.getD 0;let h:=hi.getD len
  if eO=sz/\l<=h then
   match mx with
   |some m=>
    if h<=m/\m<=cap then
     if m=l then some (.sl id sz off 0 0) else some (.sl id sz (off+l*sz) (h -l) (m -l))
    else none
   |none=>
    if h<=cap then
     if l=cap then some (.bC 0 sz []) else some (.sl id sz (off+l*sz) (h -l) (cap -l))
    else none
  else none
 |_=>none
def iT(H:aA)(n sz:Nat)(x:AV)(lo hi mx:Option Nat):Option AV:=
 let l:=lo.getD 0;let m:=mx.getD n;let h:=hi.getD n
 if l<=h/\h<=m/\m<=n/\(mx.isSome->hi.isSome) then
  match x with
  |.ref id o=>
   match H.eG id with
   |some cs=>if o+n*sz<=cs.length then(if m=l then some (.sl id sz o 0 0) else some (.sl id sz (o+l*sz) (h -l) (m -l))) else none
   |none=>none
  |.pl cs=>if n*sz<=cs.length then some (.bC (if m=h then 1 else 0) sz ((fK sz n cs).drop l |>.take (h -l))) else none
  |_=>none
 else none
def sameKey(k:Sk):AV->AV->Option Bool
 |.int j a,.int j' b=>match k with
  |.i=>if j=j' then some (a==b) else none
  |_=>none
 |.str a,.str b=>match k with
  |.s=>some (a==b)
  |_=>none
 |.bool a,.bool b=>match k with
  |.b=>some (a==b)
  |_=>none
 |.agg xs,.agg ys=>match k with
  |.f sh=>cT sh xs ys
  |_=>none
 |_,_=>none
def mI(k:Sk)(x:AV):List (AV×AV)->Nat->Option (Option (Nat×AV))
 |[],_=>some none
 |(y,v)::es,i=>
  match sameKey k x y with
  |some true=>some (some (i,v))
  |some false=>mI k x es (i+1)
  |none=>none
def PN(k:Sk):AV->Bool
 |.int _ _=>match k with|.i=>true|_=>false
 |.str _=>match k with|.s=>true|_=>false
 |.bool _=>match k with|.b=>true|_=>false
 |.agg xs=>match k with|.f sh=>decide (xs.length=sh.length)|_=>false
 |_=>false
def yH(ev:Arg->AV):dY->Option (eY×(Nat->AV))
 |.alloc zero=>some (.cells zero false,fun id=>.ref id 0)
 |.box x=>if(ev x).EO then none else some (.cells (ev x).cells false,fun id=>.ref id 0)
 |.zT=>some (.map [],fun id=>.map id)
 |.jM sz bytes zero l c=>match asNat (ev l),asNat (ev c) with
  |some l,some c=>if l<=c/\bytes*c<=2^40/\zero.length=sz then some (.cells (List.replicate c zero).flatten false,fun id=>.sl id sz 0 l c) else none
  |_,_=>none
 |.CJ x=>match ev x with
  |.str s=>some (.tok,fun id=>.bC (id+2) 1 (Sz s))
  |_=>none
 |_=>none
def dE(ev:Arg->AV)(H:aA):dY->Option (AV×aA)
 |.Lu x=>some (ev x,H)
 |.pick c a b=>match ev c with
  |.bool t=>some (if t then ev a else ev b,H)
  |_=>none
 |.alloc zero=>(yH ev (.alloc zero)).map fun p=>(p.2 H.next,H.alloc p.1)
 |.box x=>(yH ev (.box x)).map fun p=>(p.2 H.next,H.alloc p.1)
 |.build zero parts=>(IG ev zero parts).map fun cs=>(.agg cs,H)
 |.Pb sz parts=>(Lr ev sz parts).map fun els=>(.bC 1 sz els,H)
 |.load agg n a=>match ev a with
  |.ref id off=>match H.eG id with
   |some cs=>if off+n<=cs.length then(if agg then some (.agg ((cs.drop off).take n),H) else if n=1 then some (cs.getD off aB,H) else none) else none
   |none=>none
  |.pl cs=>if n<=cs.length then(if agg then some (.agg (cs.take n),H) else if n=1 then some (cs.getD 0 aB,H) else none) else none
  |_=>none
 |.store n a x=>match ev a with
  |.ref id off=>match H.get id with
   |some (.cells cs eB)=>
    let vs:=(ev x).cells
    if vs.length=n/\off+n<=cs.length/\(ev x).EO=false then some (aB,H.set id (.cells (gK cs off vs) eB)) else none
   |_=>none
  |_=>none
 |.Pf x=>match ev x with
  |.ref id off=>some (.ref id off,H)
  |.pl cs=>some (.pl cs,H)
  |.func (.func f) a b=>some (.func (.func f) a b,H)
  |.iface t v=>some (.iface t v,H)
  |_=>none
 |.bin op x y=>match ev x,ev y with
  |.int k a,.int k' b=>(qD op k a k' b).map (·,H)
  |.str a,.str b=>(aSx op a b).map (·,H)
  |_,_=>none
 |.eqb neg x y=>match ev x,ev y with
  |.bool a,.bool b=>some (.bool (if neg then !(a==b) else(a==b)),H)
  |_,_=>none
 |.eqf neg shape x y=>match ev x,ev y with
  |.agg xs,.agg ys=>(cT shape xs ys).map fun e=>(.bool (if neg then !e else e),H)
  |_,_=>none
 |.eqn neg k lit x y=>match GJ k (ev x),GJ k (ev y) with
  |some a,some b=>if(a||b)&&(k != .ifc|| !(a&&b)||lit) then some (.bool (if neg then !(a&&b) else(a&&b)),H) else none
  |_,_=>none
 |.un op x=>(unA op (ev x)).map (·,H)
 |.OX k x=>match ev x with
  |.int _ n=>some (.int k (k.wrap n),H)
  |_=>none
 |.CJ x=>(yH ev (.CJ x)).map fun p=>(p.2 H.next,H.alloc p.1)
 |.EI x=>match ev x with
  |.str _=>none
  |v=>match dI H 1 v with
   |some els=>(bytesOf els).map fun s=>(.str s,H)
   |none=>none
 |.ai n x=>match ev x with
  |.bC _ _ els=>if n<=els.length/\1<=els.length then some (.pl els.flatten,H) else none
  |.sl id _ off len _=>if n<=len then some (.ref id off,H) else none
  |_=>none
 |.ZX t x=>some (.iface t (ev x),H)
 |.ZW fn first cap=>some (.func fn (first.map ev) (cap.map ev),H)
 |.zT=>(yH ev .zT).map fun p=>(p.2 H.next,H.alloc p.1)
 |.jM sz bytes zero l c=>(yH ev (.jM sz bytes zero l c)).map fun p=>(p.2 H.next,H.alloc p.1)
 |.QM x lo hi=>match ev x,dV ev lo,dV ev hi with
  |.str s,some lo,some hi=>
   let l:=lo.getD 0;let h:=hi.getD s.length
   if l<=h/\h<=s.length then some (.str ((s.drop l).take (h -l)),H) else none
  |_,_,_=>none
 |.al sz x lo hi mx=>match dV ev lo,dV ev hi,dV ev mx with
  |some lo,some hi,some mx=>if mx.isSome->hi.isSome then(pX sz (ev x) lo hi mx).map (·,H) else none
  |_,_,_=>none
 |.EW n sz x lo hi mx=>match dV ev lo,dV ev hi,dV ev mx with
  |some lo,some hi,some mx=>(iT H n sz (ev x) lo hi mx).map (·,H)
  |_,_,_=>none
 |.Yn off x=>match ev x with
  |.ref id o=>some (.ref id (o+off),H)
  |.pl cs=>some (.pl (cs.drop off),H)
  |_=>none
 |.UB arr sz x i=>match asNat (ev i) with
  |some i=>match arr,ev x with
   |some n,.ref id o=>if i<n then some (.ref id (o+i*sz),H) else none
   |some n,.pl cs=>if i<n then some (.pl (cs.drop (i*sz)),H) else none
   |none,.bC _ eO els=>if eO=sz/\i<els.length then some (.pl (els.getD i []),H) else none
   |none,.sl id eO off len _=>if eO=sz/\i<len then some (.ref id (off+i*sz),H) else none
   |_,_=>none
  |none=>none
 |.idx n sz agg x i=>match asNat (ev i),ev x with
  |some i,.agg cs=>if i<n/\i*sz+sz<=cs.length then(if agg then some (.agg ((cs.drop (i*sz)).take sz),H) else if sz=1 then some (cs.getD i aB,H) else none) else none
  |_,_=>none
 |.idxs x i=>match asNat (ev i),ev x with
  |some i,.str s=>match s[i]? with
   |some b=>some (.int .u8 b.toNat,H)
   |none=>none
  |_,_=>none
 |.bd t ok zero x=>match ev x with
  |.iface t' v=>if t'=t then some (if ok then .jZ [v,.bool true] else v,H) else if ok then some (.jZ [zero,.bool false],H) else none
  |.pR=>if ok then some (.jZ [zero,.bool false],H) else none
  |_=>none
 |.Ym x i=>match ev x with
  |.jZ vs=>if i<vs.length then some (vs.getD i aB,H) else none
  |_=>none
 |.lens x=>match ev x with
  |.str s=>some (.int .i64 s.length,H)
  |_=>none
 |.WQ x=>match ev x with
  |.bB=>some (.int .i64 0,H)
  |.bC _ _ els=>some (.int .i64 els.length,H)
  |.sl _ _ _ len _=>some (.int .i64 len,H)
  |_=>none
 |.WW x y=>match ev x,ev y with
  |.int k a,.int _ b=>some (.int k (if b>a then b else a),H)
  |_,_=>none
 |.WY x y=>match ev x,ev y with
  |.int k a,.int _ b=>some (.int k (if b<a then b else a),H)
  |_,_=>none
 |.clr sz zero x=>match ev x with
  |.bB|.bC _ _ []|.sl _ _ _ 0 _=>some (aB,H)
  |.sl id eO off len _=>if eO=sz/\zero.length=sz then
    match H.get id with
    |some (.cells cs eB)=>if off+len*sz<=cs.length then some (aB,H.set id (.cells (gK cs off (List.replicate len zero).flatten) eB)) else none
    |_=>none
   else none
  |_=>none
 |.append sz bytes mu x y=>match dI H sz (ev y) with
  |some ys=>fZ H sz bytes mu (ev x) ys
  |none=>none
 |.copy sz d s=>match dI H sz (ev s),ev d with
  |some ys,.bB=>some (.int .i64 (min ys.length 0:Nat),H)
  |some ys,.sl id eO off len _=>
   let n:=min ys.length len
   if eO=sz then
    match H.get id with
    |some (.cells cs eB)=>if off+n*sz<=cs.length then some (.int .i64 n,H.set id (.cells (gK cs off (ys.take n).flatten) eB)) else none
    |_=>none
   else none
  |_,_=>none
 |.lookup kind zero ok x i=>if PN kind (ev i) then
   match ev x with
   |.sB=>some (if ok then .jZ [zero,.bool false] else zero,H)
   |.map id=>match H.get id with
    |some (.map es)=>match mI kind (ev i) es 0 with
     |some (some (_,v))=>some (if ok then .jZ [v,.bool true] else v,H)
     |some none=>some (if ok then .jZ [zero,.bool false] else zero,H)
     |none=>none
    |_=>none
   |_=>none
  else none
 |.PX kind m k v=>if PN kind (ev k) then
   match ev m with
   |.map id=>match H.get id with
    |some (.map es)=>match mI kind (ev k) es 0 with
     |some (some (i,_))=>some (aB,H.set id (.map (es.set i (ev k,ev v))))
     |some none=>some (aB,H.set id (.map (es++[(ev k,ev v)])))
     |none=>none
    |_=>none
   |_=>none
  else none
 |.call _ _|.panic _|.lN _ _|.vR _|.EP _|.yR _=>none
structure Loc where
 cV:Nat
 base:Nat
 Uy:Nat
 ext:Nat
structure Gh where
 loc:Nat->Option Loc
 gM:Nat->Nat->Prop
 mo:Bool
def aMa(G:Gh)(tag b e sz len cap:Nat):Prop:=
 len<=cap/\match tag with
 |0=>True
 |1=>cap=len
 |k+2=>∃l,G.loc k=some l/\l.cV=b/\l.base=e/\l.Uy=0/\l.ext=(cap -len)*sz
inductive VR (G:Gh) (w:World):AV->Value->Prop
 |bool (b:Bool):VR G w (.bool b) (.bool b)
 |int (k:IntKind) (n:Int):VR G w (.int k n) (.int k n)
 |str (s:ByteArray):VR G w (.str s.data.toList) (.string s)
 |Lw:VR G w .Lw (.pointer none)
 |ref (id off:Nat) (l:Loc) (h:G.loc id=some l):VR G w (.ref id off) (.pointer (some ⟨l.cV,l.base+off,none⟩))
 |pl (cells:List AV) (b o:Nat) (us:Nat->Value)
   (h:∀j,j<cells.length->G.gM b (o+j)/\w.cell? ⟨b,o+j,none⟩=some (us j)/\(cells.getD j aB).one=true)
   (hv:∀j,j<cells.length->VR G w (cells.getD j aB) (us j)):VR G w (.pl cells) (.pointer (some ⟨b,o,none⟩))
 |bB:VR G w .bB (.slice none 0 0)
 |bC (tag sz:Nat) (els:List (List AV)) (b o cap:Nat) (us:Nat->Value)
   (hu:∀e∈els,e.length=sz)
   (h:∀j,j<els.flatten.length->G.gM b (o+j)/\w.cell? ⟨b,o+j,none⟩=some (us j)/\(els.flatten.getD j aB).one=true)
   (hv:∀j,j<els.flatten.length->VR G w (els.flatten.getD j aB) (us j))
   (ht:aMa G tag b (o+els.length*sz) sz els.length cap):VR G w (.bC tag sz els) (.slice (some ⟨b,o,none⟩) els.length cap)
 |uJ (tag sz b o s:Nat) (ht:tag<2):VR G w (.bC tag sz []) (.slice (some ⟨b,o,some s⟩) 0 0)
 |sl (id sz off len cap jS:Nat) (l:Loc) (h:G.loc id=some l) (hlen:len<=cap) (iE:off+cap*sz<=l.Uy)
   (oY:jS=cap\/(off+cap*sz=l.Uy/\cap<=jS/\off+jS*sz=l.ext)):
   VR G w (.sl id sz off len cap) (.slice (some ⟨l.cV,l.base+off,none⟩) len jS)
 |func (fn:Fn) (fs cs:List AV) (azs bs:List Value) (ha:azs.length=fs.length) (hb:bs.length=cs.length)
   (hav:∀j,j<fs.length->VR G w (fs.getD j aB) (azs.getD j undef)) (hbv:∀j,j<cs.length->VR G w (cs.getD j aB) (bs.getD j undef)):
   VR G w (.func fn fs cs) (.func fn azs.toArray bs.toArray)
 |BT:VR G w .BT .nilFunc
 |iface (t:TypeId) (a:AV) (v:Value) (h:VR G w a v):VR G w (.iface t a) (.iface t v)
 |pR:VR G w .pR .nilIface
 |agg (cs:List AV) (vs:List Value) (hl:vs.length=cs.length) (h1:∀c∈cs,c.one=true)
   (hv:∀j,j<cs.length->VR G w (cs.getD j aB) (vs.getD j undef)):VR G w (.agg cs) (.agg vs.toArray)
 |jZ (cs:List AV) (vs:List Value) (hl:vs.length=cs.length)
   (hv:∀j,j<cs.length->VR G w (cs.getD j aB) (vs.getD j undef)):VR G w (.jZ cs) (.tuple vs.toArray)
 |map (id:Nat) (l:Loc) (h:G.loc id=some l):VR G w (.map id) (.map (some l.cV))
 |sB:VR G w .sB (.map none)
 |yield (id:Nat) (l:Loc) (h:G.loc id=some l):VR G w (.yield id) (.func (.yield l.cV) #[] #[])
def gW(G:Gh)(w:World)(xs:List AV)(vs:List Value):Prop:=
 vs.length=xs.length/\∀j,j<xs.length->VR G w (xs.getD j aB) (vs.getD j undef)
theorem VR.nL(G:Gh)(w:World):VR G w aB Go.undef:=VR.jZ [] [] rfl (fun j hj=>absurd hj (Ar j))
theorem VR.mono{G G':Gh}{w w':World}{a:AV}{u:Value}(h:VR G w a u)(hl:∀id l,G.loc id=some l->G'.loc id=some l)
 (hi:∀b o,G.gM b o->G'.gM b o/\w'.cell? ⟨b,o,none⟩=w.cell? ⟨b,o,none⟩):VR G' w' a u:=by
 induction h with
 |bool b=>exact .bool b
 |int k n=>exact .int k n
 |str s=>exact .str s
 |Lw=>exact .Lw
 |ref id off l h=>exact .ref id off l (hl _ _ h)
 |pl cells b o us h hv ih=>exact .pl cells b o us (fun j hj=>⟨(hi _ _ (h j hj).1).1,by rw[(hi _ _ (h j hj).1).2];exact(h j hj).2.1,(h j hj).2.2⟩) ih
 |bB=>exact .bB
 |bC tag sz els b o cap us hu h hv ht ih=>
  refine .bC tag sz els b o cap us hu (fun j hj=>⟨(hi _ _ (h j hj).1).1,by rw[(hi _ _ (h j hj).1).2];exact(h j hj).2.1,(h j hj).2.2⟩) ih ?_;refine⟨ht.1,?_⟩;have h2:=ht.2
  match tag,h2 with
  |0,_=>trivial
  |1,h2=>exact h2
  |k+2,⟨l,h1,h2⟩=>exact⟨l,hl _ _ h1,h2⟩
 |uJ tag sz b o s ht=>exact .uJ tag sz b o s ht
 |sl id sz off len cap jS l h hlen iE oY=>exact .sl id sz off len cap jS l (hl _ _ h) hlen iE oY
 |func fn fs cs azs bs ha hb hav hbv qU uC=>exact .func fn fs cs azs bs ha hb qU uC
 |BT=>exact .BT
 |iface t a v h ih=>exact .iface t a v ih
 |pR=>exact .pR
 |agg cs vs nB h1 hv ih=>exact .agg cs vs nB h1 ih
 |jZ cs vs nB hv ih=>exact .jZ cs vs nB ih
 |map id l h=>exact .map id l (hl _ _ h)
 |sB=>exact .sB
 |yield id l h=>exact .yield id l (hl _ _ h)
def aDi:Value->Bool
 |.agg _|.tuple _=>false
 |_=>true
theorem VR.one{G:Gh}{w:World}{a:AV}{u:Value}(h:VR G w a u):a.one=aDi u:=by cases h<;>rfl
def aA.live(H:aA)(id:Nat):Prop:=∃o,H.get id=some o/\o.live=true
def VB(ents:Array MapEntry)(clock:Nat):Prop:=
 (∀i,i<ents.size->(ents.getD i default).born<clock)/\∀i j,i<ents.size->j<ents.size->(ents.getD i default).born=(ents.getD j default).born->i=j
def KU(g:bF)(G:Gh)(w:World)(l:Loc):eY->Prop
 |.map es=>∃ents clock,w.heap[l.cV]?=some (.map ents clock)/\ents.size=es.length/\VB ents clock/\
   ∀j,j<es.length->VR G w (es.getD j (aB,aB)).1 (ents.getD j default).key/\VR G w (es.getD j (aB,aB)).2 (ents.getD j default).val
 |.sO es bs c mb=>l.cV=mb/\bs.Nodup/\(∀b∈bs,b<c)/\∃ents:Array MapEntry,w.heap[l.cV]?=some (.map ents c)/\ents.toList.map (·.born)=bs/\bs.length=es.length/\
   ∀j,j<es.length->VR G w (es.getD j (aB,aB)).1 (ents.getD j default).key/\VR G w (es.getD j (aB,aB)).2 (ents.getD j default).val
 |.iter m mb c seen=>w.heap[l.cV]?=some (.mapIter (some mb) c seen.toArray c)/\VR G w (.map m) (.map (some mb))
 |.loop k sn st=>∃r,g.lok k r/\w.heap[l.cV]?=some (.loop (nI r st))/\gW G w sn r.tmps.toList
 |.MV=>w.heap[l.cV]?=some (.deferred (some []))
 |.dfx=>w.heap[l.cV]?=some (.deferred none)
 |_=>True
theorem KU.mono{g:bF}{G G':Gh}{w w':World}{l:Loc}{o:eY}(h:KU g G w l o)(hb:w'.heap[l.cV]?=w.heap[l.cV]?)(hv:∀a u,VR G w a u->VR G' w' a u):KU g G' w' l o:=by
 cases o with
 |map es=>obtain⟨ents,clock,a1,a2,a3,a4⟩:=h;exact⟨ents,clock,by rw[hb];exact a1,a2,a3,fun j hj=>⟨hv _ _ (a4 j hj).1,hv _ _ (a4 j hj).2⟩⟩
 |sO es bs c mb=>obtain⟨a1,a2,a3,ents,a4,a5,a6,a7⟩:=h;exact⟨a1,a2,a3,ents,hb.trans a4,a5,a6,fun j hj=>⟨hv _ _ (a7 j hj).1,hv _ _ (a7 j hj).2⟩⟩
 |iter m mb c seen=>exact⟨hb.trans h.1,hv _ _ h.2⟩
 |loop k sn st=>obtain⟨r,h0,h1,h2⟩:=h;exact⟨r,h0,hb.trans h1,h2.1,fun j hj=>hv _ _ (h2.2 j hj)⟩
 |MV=>exact hb.trans h
 |dfx=>exact hb.trans h
 |_=>trivial
theorem KU.lt{g:bF}{G:Gh}{w:World}{l:Loc}{o:eY}(ho:o.cV=true)(h:KU g G w l o):l.cV<w.heap.size:=by
 cases o with
 |map es=>obtain⟨ents,clock,a1,_⟩:=h;exact(Cg.1 a1).1
 |sO es bs c mb=>obtain⟨_,_,_,ents,a1,_⟩:=h;exact(Cg.1 a1).1
 |iter m mb c seen=>exact(Cg.1 h.1).1
 |loop k sn st=>obtain⟨r,_,h1,_⟩:=h;exact(Cg.1 h1).1
 |MV=>exact(Cg.1 (show w.heap[l.cV]?=some _ from h)).1
 |dfx=>exact(Cg.1 (show w.heap[l.cV]?=some _ from h)).1
 |_=>cases ho
theorem PS{o:eY}(h:o.cV=true):o.live=true:=by cases o<;>first|rfl|cases h
theorem KU.BU{g:bF}{G:Gh}{w:World}{l:Loc}{o:eY}(ho:o.cV=true)(h:KU g G w l o){c:Array Value}{el:TypeId}{fz:Nat×Nat}:w.heap[l.cV]?≠some (.cells c el fz):=by
 intro hc
 cases o with
 |map es=>obtain⟨ents,clock,a1,_⟩:=h;rw[hc] at a1;cases a1
 |sO es bs c mb=>obtain⟨_,_,_,ents,a1,_⟩:=h;rw[hc] at a1;cases a1
 |iter m mb c seen=>have h:=h.1;rw[hc] at h;cases h
 |loop k sn st=>obtain⟨r,_,h,_⟩:=h;rw[hc] at h;cases h
 |MV=>have h:w.heap[l.cV]?=some _:=h;rw[hc] at h;cases h
 |dfx=>have h:w.heap[l.cV]?=some _:=h;rw[hc] at h;cases h
 |_=>cases ho
structure WR (g:bF) (G:Gh) (H:aA) (w:World):Prop where
 cells:∀id l cs eB,G.loc id=some l->H.get id=some (.cells cs eB)->
  l.Uy=cs.length/\l.Uy<=l.ext/\(eB=false->l.Uy=l.ext)/\(∀c∈cs,c.one=true)/\
  ∀j,j<cs.length->∃u,w.cell? ⟨l.cV,l.base+j,none⟩=some u/\VR G w (cs.getD j aB) u
 room:∀id l,G.loc id=some l->((∃cs eB,H.get id=some (.cells cs eB))\/H.get id=some .tok)->
  ∃c el fz,w.heap[l.cV]?=some (.cells c el fz)/\l.base+l.ext<=c.size/\∀j,j<l.ext->w.frozen? ⟨l.cV,l.base+j,none⟩=false
 lD:∀id kS l l',id≠kS->G.loc id=some l->G.loc kS=some l'->H.live id->H.live kS->
  l.cV≠l'.cV\/l.base+l.ext<=l'.base\/l'.base+l'.ext<=l.base
 jV:∀id l,G.loc id=some l->H.live id->∀j,j<l.ext->¬G.gM l.cV (l.base+j)
 iG:∀id l o,G.loc id=some l->H.get id=some o->o.cV=true->l.base=0/\l.ext=1/\KU g G w l o
 lt:∀id l,G.loc id=some l->id<H.next
 iF:∀b o,G.gM b o->∃v,w.cell? ⟨b,o,none⟩=some v
 iW:∀n cs,g n=some cs->VR G w (.pl cs) (.pointer (some ⟨n,0,none⟩))
 DH:∀n cs,g n=some cs->cs≠[]->∃c el fz,w.heap[n]?=some (.cells c el fz)/\c.size=cs.length
 mo:G.mo=g.mo
structure AK (w w':World):Prop where
 os:w'.os=w.os
 output:w'.output=w.output
 tape:w'.tape=w.tape
 drawn:w.drawn<=w'.drawn
theorem AK.now{w w':World}(h1:w'.os=w.os:=by rfl)(h2:w'.output=w.output:=by rfl)(h3:w'.tape=w.tape:=by rfl)(h4:w.drawn<=w'.drawn:=by first|exact Ag _|exact Hg _|exact Hz _ _):AK w w':=⟨h1,h2,h3,h4⟩
theorem AK.trans{w w' w'':World}(h:AK w w')(h':AK w' w''):AK w w'':=⟨h'.os.trans h.os,h'.output.trans h.output,h'.tape.trans h.tape,By h.drawn h'.drawn⟩
structure OG (b:Bool) (w w':World):Prop where
 os:w'.os=w.os
 output:w'.output=w.output
 tape:w'.tape=w.tape
 drawn:b=true->w.drawn<=w'.drawn
theorem AK.toB{w w':World}(h:AK w w')(b:Bool):OG b w w':=⟨h.os,h.output,h.tape,fun _=>h.drawn⟩
theorem OG.trans{b:Bool}{w w' w'':World}(h:OG b w w')(h':OG b w' w''):OG b w w'':=⟨h'.os.trans h.os,h'.output.trans h.output,h'.tape.trans h.tape,fun hb=>By (h.drawn hb) (h'.drawn hb)⟩
structure Ext (G:Gh) (H:aA) (w:World) (G':Gh) (H':aA) (w':World):Prop where
 loc:∀id l,G.loc id=some l->G'.loc id=some l
 gM:∀b o,G.gM b o->G'.gM b o/\w'.cell? ⟨b,o,none⟩=w.cell? ⟨b,o,none⟩
 size:w.heap.size<=w'.heap.size
 frame:∀b,b<w.heap.size->(∀id l,G.loc id=some l->H.live id->l.cV≠b)->w'.heap[b]?=w.heap[b]?
 lY:∀id l,G'.loc id=some l->H'.live id->w.heap.size<=l.cV\/∃eV l0,G.loc eV=some l0/\H.live eV/\l0.cV=l.cV
 oZ:∀b o,G'.gM b o->G.gM b o\/w.heap.size<=b\/∃eV l0,G.loc eV=some l0/\H.live eV/\l0.cV=b
 next:H.next<=H'.next
 news:∀id l,G'.loc id=some l->G.loc id=none->H.next<=id
 dead:∀id l,G.loc id=some l->H'.live id->H.live id
 mo:G'.mo=G.mo
 same:OG G.mo w w'
theorem Ext.refl(G:Gh)(H:aA)(w:World):Ext G H w G H w where
 loc:=fun _ _ h=>h
 gM:=fun _ _ h=>⟨h,rfl⟩
 size:=Ag _
 frame:=fun _ _ _=>rfl
 lY:=fun id l h hl=>.inr ⟨id,l,h,hl,rfl⟩
 oZ:=fun _ _ h=>.inl h
 next:=Ag _
 news:=fun _ _ h h'=>by rw[h] at h';cases h'
 dead:=fun _ _ _ h=>h
 mo:=rfl
 same:=AK.toB .now _
theorem Ext.trans{G G' G'':Gh}{H H' HU:aA}{w w' w'':World}(h:Ext G H w G' H' w')(h':Ext G' H' w' G'' HU w''):Ext G H w G'' HU w'' where
 loc:=fun id l hl=>h'.loc _ _ (h.loc _ _ hl)
 gM:=fun b o hi=>⟨(h'.gM _ _ (h.gM _ _ hi).1).1,((h'.gM _ _ (h.gM _ _ hi).1).2).trans (h.gM _ _ hi).2⟩
 size:=By h.size h'.size
 frame:=fun b hb hn=>by
  rw[h'.frame b (Bj hb h.size) (fun id l hl hv=>?_),h.frame b hb hn]
  rcases h.lY id l hl hv with KM|⟨eV,l0,KN,yL,he⟩
  . omega
  rw[<-he];exact hn eV l0 KN yL
 lY:=fun id l hl hv=>by
  rcases h'.lY id l hl hv with KM|⟨eV,l0,KN,yL,he⟩
  . exact .inl (By h.size KM)
  rcases h.lY eV l0 KN yL with KM|⟨id1,l1,BI,uB,Ur⟩
  . exact .inl A0
  exact .inr ⟨id1,l1,BI,uB,Ur.trans he⟩
 oZ:=fun b o hi=>by
  rcases h'.oZ b o hi with hi|KM|⟨eV,l0,KN,yL,he⟩
  . exact h.oZ b o hi
  . exact .inr (.inl (By h.size KM))
  rcases h.lY eV l0 KN yL with KM|⟨id1,l1,BI,uB,Ur⟩
  . exact .inr (.inl A0)
  exact .inr (.inr ⟨id1,l1,BI,uB,Ur.trans he⟩)
 next:=By h.next h'.next
 news:=fun id l hl hn=>by
  cases h1:G'.loc id with
  |none=>exact By h.next (h'.news id l hl h1)
  |some l1=>exact h.news id l1 h1 hn
 dead:=fun id l hl hv=>h.dead id l hl (h'.dead id l (h.loc _ _ hl) hv)
 mo:=h'.mo.trans h.mo
 same:=h.same.trans (h.mo▸h'.same)
theorem VR.ext{G G':Gh}{H H':aA}{w w':World}{a:AV}{u:Value}(h:VR G w a u)(e:Ext G H w G' H' w'):VR G' w' a u:=
 h.mono e.loc e.gM
theorem gW.ext{G G':Gh}{H H':aA}{w w':World}{xs:List AV}{vs:List Value}(h:gW G w xs vs)(e:Ext G H w G' H' w'):gW G' w' xs vs:=
 ⟨h.1,fun j hj=>(h.2 j hj).ext e⟩
theorem aA.lG{H:aA}{id:Nat}{o:eY}{m:Nat}:(H.set id o).live m↔(m=id/\o.live=true)\/(m≠id/\H.live m):=by
 unfold aA.live;rw[aA.aC];by_cases h:m=id
 . subst h;simp
 simp[h]
theorem mD{w:World}{b o:Nat}{c:Array Value}{el:TypeId}{fz:Nat×Nat}(h:w.heap[b]?=some (.cells c el fz)):
 w.cell? ⟨b,o,none⟩=c[o]?:=by
 unfold World.cell?;simp[h]
theorem qT{w:World}{b o:Nat}{c:Array Value}{el:TypeId}{fz:Nat×Nat}(h:w.heap[b]?=some (.cells c el fz)):
 w.frozen? ⟨b,o,none⟩=(decide (fz.1<=o)&&decide (o<fz.2)):=by
 unfold World.frozen?;simp[h]
theorem AP{w:World}{b o:Nat}{v:Value}(h:w.cell? ⟨b,o,none⟩=some v):∃c el fz,w.heap[b]?=some (.cells c el fz)/\c[o]?=some v:=by
 unfold World.cell? at h;split at h
 . rename_i c el fz hc;exact⟨c,el,fz,hc,by simpa using h⟩
 cases h
theorem fQ{w w':World}{b o:Nat}(h:w'.heap[b]?=w.heap[b]?):w'.cell? ⟨b,o,none⟩=w.cell? ⟨b,o,none⟩:=by unfold World.cell?;simp[h]
theorem lJ{w w':World}{b o:Nat}(h:w'.heap[b]?=w.heap[b]?):w'.frozen? ⟨b,o,none⟩=w.frozen? ⟨b,o,none⟩:=by unfold World.frozen?;simp[h]
theorem WR.of_heap{g:bF}{G:Gh}{H:aA}{w w':World}(h:WR g G H w)(hw:w'.heap=w.heap):WR g G H w':=by
 have hb:∀b:Nat,w'.heap[b]?=w.heap[b]?:=fun b=>by rw[hw]
 have hc:∀b o,w'.cell? ⟨b,o,none⟩=w.cell? ⟨b,o,none⟩:=fun b o=>fQ (hb b);have hm:∀{a u},VR G w a u->VR G w' a u:=fun hv=>hv.mono (fun _ _ h=>h) (fun b o hi=>⟨hi,hc b o⟩)
 exact {
  cells:=fun id l cs eB h1 h2=>by obtain⟨a1,a2,a3,a4,a5⟩:=h.cells id l cs eB h1 h2;refine⟨a1,a2,a3,a4,fun j hj=>?_⟩;obtain⟨u,hu,hv⟩:=a5 j hj;exact⟨u,by rw[hc];exact hu,hm hv⟩
  room:=fun id l h1 h2=>by obtain⟨c,el,fz,a1,a2,a3⟩:=h.room id l h1 h2;exact⟨c,el,fz,by rw[hb];exact a1,a2,fun j hj=>by rw[lJ (hb _)];exact a3 j hj⟩
  lD:=h.lD
  jV:=h.jV
  iG:=fun id l o h1 h2 hk=>let⟨a1,a2,a3⟩:=h.iG id l o h1 h2 hk;⟨a1,a2,a3.mono (hb _) fun _ _=>hm⟩
  lt:=h.lt
  iF:=fun b o hi=>by rw[hc];exact h.iF b o hi
  iW:=fun n cs hn=>hm (h.iW n cs hn)
  DH:=fun n cs hn h0=>by rw[hb];exact h.DH n cs hn h0
  mo:=h.mo}
theorem Ext.of_heap{G:Gh}{H:aA}{w w':World}(hw:w'.heap=w.heap)(hs:AK w w'):Ext G H w G H w' where
 loc:=fun _ _ h=>h
 gM:=fun b o h=>⟨h,fQ (by rw[hw])⟩
 size:=by rw[hw];exact Ag _
 frame:=fun _ _ _=>by rw[hw]
 lY:=fun id l h hl=>.inr ⟨id,l,h,hl,rfl⟩
 oZ:=fun _ _ h=>.inl h
 next:=Ag _
 news:=fun _ _ h h'=>by rw[h] at h';cases h'
 dead:=fun _ _ _ h=>h
 mo:=rfl
 same:=hs.toB _
theorem IM{α:Type}(a:Array α)(x:α){b:Nat}(h:b<a.size):(a.push x)[b]?=a[b]?:=by rw[Lj];rw[if_neg A0]
theorem DV{α:Type}(a:Array α)(x:α):(a.push x)[a.size]?=some x:=by simp
theorem rB{w:World}{b o:Nat}{v:Value}(h:w.cell? ⟨b,o,none⟩=some v):b<w.heap.size:=by obtain⟨c,el,fz,h1,_⟩:=AP h;exact(Cg.1 h1).1
def Gh.oD(G:Gh)(b lo n:Nat):Gh:={G with gM:=fun b' o=>G.gM b' o\/(b'=b/\lo<=o/\o<lo+n)}
def Gh.dW(G:Gh)(id:Nat)(l:Loc):Gh:={G with loc:=fun i=>if i=id then some l else G.loc i}
theorem WR.nF{g:bF}{G:Gh}{H:aA}{w:World}(h:WR g G H w){id:Nat}{l:Loc}(hl:G.loc id=some l)(hv:H.live id):l.cV<w.heap.size:=by
 obtain⟨o,ho,lS⟩:=hv
 have :∃x,w.heap[l.cV]?=some x:=by
  cases o with
  |cells cs eB=>obtain⟨c,el,fz,h1,_⟩:=h.room id l hl (.inl ⟨cs,eB,ho⟩);exact⟨_,h1⟩
  |tok=>obtain⟨c,el,fz,h1,_⟩:=h.room id l hl (.inr ho);exact⟨_,h1⟩
  |dead=>cases lS
  |_=>have :=(h.iG id l _ hl ho rfl).2.2.lt rfl;exact⟨_,Eg this⟩
 obtain⟨x,hx⟩:=this;exact(Cg.1 hx).1
theorem WR.grow{g:bF}{G:Gh}{H:aA}{w w':World}(h:WR g G H w)
 (hb:∀b,b<w.heap.size->w'.heap[b]?=w.heap[b]?):WR g G H w':=by
 have hc:∀b o,G.gM b o->w'.cell? ⟨b,o,none⟩=w.cell? ⟨b,o,none⟩:=fun b o hi=>by obtain⟨v,hv⟩:=h.iF b o hi;exact fQ (hb b (rB hv))
 have hm:∀{a u},VR G w a u->VR G w' a u:=fun hv=>hv.mono (fun _ _ h=>h) (fun b o hi=>⟨hi,hc b o hi⟩)
 exact {
  cells:=fun id l cs eB h1 h2=>by obtain⟨a1,a2,a3,a4,a5⟩:=h.cells id l cs eB h1 h2;refine⟨a1,a2,a3,a4,fun j hj=>?_⟩;obtain⟨u,hu,hv⟩:=a5 j hj;exact⟨u,by rw[fQ (hb _ (h.nF h1 ⟨_,h2,rfl⟩))];exact hu,hm hv⟩
  room:=fun id l h1 h2=>by obtain⟨c,el,fz,a1,a2,a3⟩:=h.room id l h1 h2;have dT:=(Cg.1 a1).1;exact⟨c,el,fz,by rw[hb _ dT];exact a1,a2,fun j hj=>by rw[lJ (hb _ dT)];exact a3 j hj⟩
  lD:=h.lD
  jV:=h.jV
  iG:=fun id l o h1 h2 hk=>let⟨a1,a2,a3⟩:=h.iG id l o h1 h2 hk;⟨a1,a2,a3.mono (hb _ (a3.lt hk)) fun _ _=>hm⟩
  lt:=h.lt
  iF:=fun b o hi=>by rw[hc b o hi];exact h.iF b o hi
  iW:=fun n cs hn=>hm (h.iW n cs hn)
  DH:=fun n cs hn h0=>let⟨c,el,fz,a1,a2⟩:=h.DH n cs hn h0;⟨c,el,fz,by rw[hb _ (Cg.1 a1).1];exact a1,a2⟩
  mo:=h.mo}
theorem Ext.grow{G:Gh}{H:aA}{w w':World}(oI:∀b o,G.gM b o->∃v,w.cell? ⟨b,o,none⟩=some v)
 (hb:∀b,b<w.heap.size->w'.heap[b]?=w.heap[b]?) (lF:w.heap.size<=w'.heap.size) (hs:AK w w'):Ext G H w G H w' where
 loc:=fun _ _ h=>h
 gM:=fun b o hi=>⟨hi,by obtain⟨v,hv⟩:=oI b o hi;exact fQ (hb b (rB hv))⟩
 size:=lF
 frame:=fun b dT _=>hb b dT
 lY:=fun id l h hl=>.inr ⟨id,l,h,hl,rfl⟩
 oZ:=fun _ _ h=>.inl h
 next:=Ag _
 news:=fun _ _ h h'=>by rw[h] at h';cases h'
 dead:=fun _ _ _ h=>h
 mo:=rfl
 same:=hs.toB _
theorem WR.oD{g:bF}{G:Gh}{H:aA}{w:World}(h:WR g G H w)(b lo n:Nat)
 (hex:∀j,j<n->∃v,w.cell? ⟨b,lo+j,none⟩=some v)
 (tQ:∀id l,G.loc id=some l->H.live id->l.cV≠b\/l.base+l.ext<=lo\/lo+n<=l.base):WR g (G.oD b lo n) H w:=by
 have hm:∀{a u},VR G w a u->VR (G.oD b lo n) w a u:=fun hv=>hv.mono (fun _ _ h=>h) (fun b o hi=>⟨.inl hi,rfl⟩)
 exact {
  cells:=fun id l cs eB h1 h2=>by obtain⟨a1,a2,a3,a4,a5⟩:=h.cells id l cs eB h1 h2;refine⟨a1,a2,a3,a4,fun j hj=>?_⟩;obtain⟨u,hu,hv⟩:=a5 j hj;exact⟨u,hu,hm hv⟩
  room:=h.room
  lD:=h.lD
  jV:=fun id l hl hv j hj hi=>by
   rcases hi with hi|⟨h1,h2,h3⟩
   . exact h.jV id l hl hv j hj hi
   rcases tQ id l hl hv with hd|hd|hd
   . exact hd h1
   . omega
   omega
  iG:=fun id l o h1 h2 hk=>let⟨a1,a2,a3⟩:=h.iG id l o h1 h2 hk;⟨a1,a2,a3.mono rfl fun _ _=>hm⟩
  lt:=h.lt
  iF:=fun b' o hi=>by
   rcases hi with hi|⟨rfl,h2,h3⟩
   . exact h.iF b' o hi
   have :=hex (o -lo) A0
   rwa [show lo+(o -lo)=o by omega] at this
  iW:=fun n cs hn=>hm (h.iW n cs hn)
  DH:=h.DH
  mo:=h.mo}
theorem Ext.oD{G G':Gh}{H H':aA}{w w':World}(e:Ext G H w G' H' w')(b lo n:Nat)
 (hb:w.heap.size<=b\/∃eV l0,G.loc eV=some l0/\H.live eV/\l0.cV=b):Ext G H w (G'.oD b lo n) H' w' where
 loc:=e.loc
 gM:=fun b' o hi=>⟨.inl (e.gM b' o hi).1,(e.gM b' o hi).2⟩
 size:=e.size
 frame:=e.frame
 lY:=e.lY
 oZ:=fun b' o hi=>by
  rcases hi with hi|⟨rfl,_,_⟩
  . exact e.oZ b' o hi
  exact .inr hb
 next:=e.next
 news:=e.news
 dead:=e.dead
 mo:=e.mo
 same:=e.same
theorem WR.HY{g:bF}{G:Gh}{H H':aA}{w:World}(h:WR g G H w)(eV:Nat)(o:eY)(l:Loc)(hid:G.loc eV=none)
 (cS:∀m,H'.get m=if m=eV then some o else H.get m) (BK:H.next<=H'.next) (GG:eV<H'.next)
 (tQ:∀id l',G.loc id=some l'->H.live id->l.cV≠l'.cV\/l.base+l.ext<=l'.base\/l'.base+l'.ext<=l.base)
 (oI:∀j,j<l.ext->¬G.gM l.cV (l.base+j))
 (Ot:∀cs eB,o=.cells cs eB->l.Uy=cs.length/\l.Uy<=l.ext/\(eB=false->l.Uy=l.ext)/\(∀c∈cs,c.one=true)/\
   ∀j,j<cs.length->∃u,w.cell? ⟨l.cV,l.base+j,none⟩=some u/\VR G w (cs.getD j aB) u)
 (wY:((∃cs eB,o=.cells cs eB)\/o=.tok)->∃c el fz,w.heap[l.cV]?=some (.cells c el fz)/\l.base+l.ext<=c.size/\∀j,j<l.ext->w.frozen? ⟨l.cV,l.base+j,none⟩=false)
 (Tn:o.cV=true->l.base=0/\l.ext=1/\KU g G w l o):
 WR g (G.dW eV l) H' w:=by
 have cG:∀{id l'},G.loc id=some l'->id≠eV:=fun hl he=>by rw[he,hid] at hl;cases hl
 have hm:∀{a u},VR G w a u->VR (G.dW eV l) w a u:=fun hv=>hv.mono (fun id l' hl=>by simp only[Gh.dW];rw[if_neg (cG hl)];exact hl) (fun b o hi=>⟨hi,rfl⟩)
 have oU:∀{id l'},(G.dW eV l).loc id=some l'->(id=eV/\l'=l)\/(id≠eV/\G.loc id=some l'):=fun {id l'} hl=>by
  simp only[Gh.dW] at hl;split at hl
  . exact .inl ⟨by assumption,by cases hl;rfl⟩
  exact .inr ⟨by assumption,hl⟩
 have qA:∀{id},id≠eV->H'.live id->H.live id:=fun hn ⟨x,hx,pd⟩=>⟨x,by rw[cS,if_neg hn] at hx;exact hx,pd⟩
 exact {
  cells:=fun id l' cs eB h1 h2=>by
   rw[cS] at h2
   rcases oU h1 with ⟨rfl,rfl⟩|⟨hn,h1⟩
   . rw[if_pos rfl] at h2;obtain⟨a1,a2,a3,a4,a5⟩:=Ot cs eB (Aa h2);refine⟨a1,a2,a3,a4,fun j hj=>?_⟩;obtain⟨u,hu,hv⟩:=a5 j hj;exact⟨u,hu,hm hv⟩
   rw[if_neg hn] at h2;obtain⟨a1,a2,a3,a4,a5⟩:=h.cells id l' cs eB h1 h2;refine⟨a1,a2,a3,a4,fun j hj=>?_⟩;obtain⟨u,hu,hv⟩:=a5 j hj;exact⟨u,hu,hm hv⟩
  room:=fun id l' h1 h2=>by
   simp only[cS] at h2
   rcases oU h1 with ⟨rfl,rfl⟩|⟨hn,h1⟩
   . simp only[if_true] at h2;refine wY (h2.imp (fun⟨cs,eB,hh⟩=>⟨cs,eB,Aa hh⟩) (fun hh=>Aa hh))
   simp only[if_neg hn] at h2;exact h.room id l' h1 h2
  lD:=fun id kS l1 l2 aIp h1 h2 uB qK=>by
   rcases oU h1 with ⟨e1,e1'⟩|⟨hn,k1⟩
   . rcases oU h2 with ⟨e2,e2'⟩|⟨JA,k2⟩
     . exact absurd (e1.trans e2.symm) aIp
     rw[e1'];exact tQ kS l2 k2 (qA JA qK)
   rcases oU h2 with ⟨e2,e2'⟩|⟨JA,k2⟩
   . rw[e2']
     rcases tQ id l1 k1 (qA hn uB) with hd|hd|hd
     . exact .inl (Ne.symm hd)
     . exact .inr (.inr hd)
     exact .inr (.inl hd)
   exact h.lD id kS l1 l2 aIp k1 k2 (qA hn uB) (qA JA qK)
  jV:=fun id l' h1 hv j hj=>by
   rcases oU h1 with ⟨rfl,rfl⟩|⟨hn,h1⟩
   . exact oI j hj
   exact h.jV id l' h1 (qA hn hv) j hj
  iG:=fun id l' ob h1 h2 hk=>by
   rw[cS] at h2
   rcases oU h1 with ⟨rfl,rfl⟩|⟨hn,h1⟩
   . rw[if_pos rfl] at h2;obtain rfl:=Aa h2;obtain⟨a1,a2,a3⟩:=Tn hk;exact⟨a1,a2,a3.mono rfl fun _ _=>hm⟩
   rw[if_neg hn] at h2;obtain⟨a1,a2,a3⟩:=h.iG id l' ob h1 h2 hk;exact⟨a1,a2,a3.mono rfl fun _ _=>hm⟩
  lt:=fun id l' h1=>by
   rcases oU h1 with ⟨rfl,rfl⟩|⟨hn,h1⟩
   . exact GG
   exact Bj (h.lt id l' h1) BK
  iF:=h.iF
  iW:=fun n cs hn=>hm (h.iW n cs hn)
  DH:=h.DH
  mo:=h.mo}
theorem WR.OK{g:bF}{G:Gh}{H:aA}{w:World}(h:WR g G H w)(o:eY)(l:Loc)
 (tQ:∀id l',G.loc id=some l'->H.live id->l.cV≠l'.cV\/l.base+l.ext<=l'.base\/l'.base+l'.ext<=l.base)
 (oI:∀j,j<l.ext->¬G.gM l.cV (l.base+j))
 (Ot:∀cs eB,o=.cells cs eB->l.Uy=cs.length/\l.Uy<=l.ext/\(eB=false->l.Uy=l.ext)/\(∀c∈cs,c.one=true)/\
   ∀j,j<cs.length->∃u,w.cell? ⟨l.cV,l.base+j,none⟩=some u/\VR G w (cs.getD j aB) u)
 (wY:((∃cs eB,o=.cells cs eB)\/o=.tok)->∃c el fz,w.heap[l.cV]?=some (.cells c el fz)/\l.base+l.ext<=c.size/\∀j,j<l.ext->w.frozen? ⟨l.cV,l.base+j,none⟩=false)
 (Tn:o.cV=true->l.base=0/\l.ext=1/\KU g G w l o):
 WR g (G.dW H.next l) (H.alloc o) w:=
 h.HY H.next o l (by
  cases hl:G.loc H.next with
  |none=>rfl
  |some l'=>exact absurd (h.lt _ _ hl) (Ew _)) (aA.aI H o) (Hg _) (Fm _) tQ oI Ot wY Tn
theorem Ext.HY{G G':Gh}{H H' HU:aA}{w w':World}(e:Ext G H w G' H' w')(eV:Nat)(o:eY)(l:Loc)(hid:G'.loc eV=none)
 (cS:∀m,HU.get m=if m=eV then some o else H'.get m) (BK:H'.next<=HU.next) (KM:H.next<=eV)
 (hb:w.heap.size<=l.cV\/∃eV l0,G.loc eV=some l0/\H.live eV/\l0.cV=l.cV):Ext G H w (G'.dW eV l) HU w' where
 loc:=fun id l' hl=>by have h1:=e.loc id l' hl;simp only[Gh.dW];rw[if_neg (fun he=>by rw[he,hid] at h1;cases h1)];exact h1
 gM:=e.gM
 size:=e.size
 frame:=e.frame
 lY:=fun id l' hl hv=>by
  simp only[Gh.dW] at hl;split at hl
  . cases hl;exact hb
  rename_i hn;obtain⟨x,hx,pd⟩:=hv;rw[cS,if_neg hn] at hx;exact e.lY id l' hl ⟨x,hx,pd⟩
 oZ:=e.oZ
 next:=By e.next BK
 news:=fun id l' hl hn=>by
  simp only[Gh.dW] at hl;split at hl
  . rename_i he;rw[he];exact KM
  exact e.news id l' hl hn
 dead:=fun id l' hl hv=>by have h1:=e.loc id l' hl;obtain⟨x,hx,pd⟩:=hv;rw[cS,if_neg (fun he=>by rw[he,hid] at h1;cases h1)] at hx;exact e.dead id l' hl ⟨x,hx,pd⟩
 mo:=e.mo
 same:=e.same
theorem Ext.OK{G G':Gh}{H H':aA}{w w':World}(e:Ext G H w G' H' w')(o:eY)(l:Loc)(dT:∀id l',G'.loc id=some l'->id<H'.next)
 (hb:w.heap.size<=l.cV\/∃eV l0,G.loc eV=some l0/\H.live eV/\l0.cV=l.cV):Ext G H w (G'.dW H'.next l) (H'.alloc o) w':=
 e.HY H'.next o l (by
  cases hl:G'.loc H'.next with
  |none=>rfl
  |some l'=>exact absurd (dT _ _ hl) (Ew _)) (aA.aI H' o) (Hg _) e.next hb
theorem WR.kill{g:bF}{G:Gh}{H:aA}{w:World}(h:WR g G H w)(id:Nat):WR g G (H.set id .dead) w where
 cells:=fun i l cs eB h1 h2=>by
  rw[aA.aC] at h2;split at h2
  . cases h2
  exact h.cells i l cs eB h1 h2
 room:=fun i l h1 h2=>by
  simp only[aA.aC] at h2;split at h2
  . rcases h2 with ⟨_,_,h2⟩|h2<;>cases h2
  exact h.room i l h1 h2
 lD:=fun i i' l l' cG h1 h2 uB qK=>by
  rcases aA.lG.1 uB with ⟨_,hh⟩|⟨_,uB⟩
  . cases hh
  rcases aA.lG.1 qK with ⟨_,hh⟩|⟨_,qK⟩
  . cases hh
  exact h.lD i i' l l' cG h1 h2 uB qK
 jV:=fun i l h1 hv=>by
  rcases aA.lG.1 hv with ⟨_,hh⟩|⟨_,hv⟩
  . cases hh
  exact h.jV i l h1 hv
 iG:=fun i l ob h1 h2 hk=>by
  rw[aA.aC] at h2;split at h2
  . cases h2;cases hk
  exact h.iG i l ob h1 h2 hk
 lt:=h.lt
 iF:=h.iF
 iW:=h.iW
 DH:=h.DH
 mo:=h.mo
theorem Ext.kill{G G':Gh}{H H':aA}{w w':World}(e:Ext G H w G' H' w')(id:Nat):Ext G H w G' (H'.set id .dead) w' where
 loc:=e.loc
 gM:=e.gM
 size:=e.size
 frame:=e.frame
 lY:=fun i l hl hv=>by
  rcases aA.lG.1 hv with ⟨_,hh⟩|⟨_,hv⟩
  . cases hh
  exact e.lY i l hl hv
 oZ:=e.oZ
 next:=e.next
 news:=e.news
 dead:=fun i l hl hv=>by
  rcases aA.lG.1 hv with ⟨_,hh⟩|⟨_,hv⟩
  . cases hh
  exact e.dead i l hl hv
 mo:=e.mo
 same:=e.same
structure Uq (w w':World) (b lo:Nat) (vs:List Value):Prop where
 size:w'.heap.size=w.heap.size
 other:∀b',b'≠b->w'.heap[b']?=w.heap[b']?
 row:∀c el fz,w.heap[b]?=some (.cells c el fz)->∃c',w'.heap[b]?=some (.cells c' el fz)/\c'.size=c.size/\
  (∀o,(o<lo\/lo+vs.length<=o)->c'[o]?=c[o]?)/\(∀j,j<vs.length->lo+j<c.size->c'[lo+j]?=some (vs.getD j undef))
 same:AK w w'
theorem Uq.cell{w w':World}{b lo:Nat}{vs:List Value}(u:Uq w w' b lo vs){b' o:Nat}(h:b'≠b\/o<lo\/lo+vs.length<=o){v:Value}
 (hc:w.cell? ⟨b',o,none⟩=some v):w'.cell? ⟨b',o,none⟩=some v:=by
 by_cases hb:b'=b
 . subst hb;obtain⟨c,el,fz,h1,h2⟩:=AP hc;obtain⟨c',h3,h4,h5,_⟩:=u.row c el fz h1;rw[mD h3,h5 o (h.resolve_left (fun cG=>cG rfl))];exact h2
 rw[fQ (u.other b' hb)];exact hc
theorem Uq.frozen{w w':World}{b lo:Nat}{vs:List Value}(u:Uq w w' b lo vs){b' o:Nat}{c:Array Value}{el:TypeId}{fz:Nat×Nat}
 (hc:w.heap[b']?=some (.cells c el fz)):w'.frozen? ⟨b',o,none⟩=w.frozen? ⟨b',o,none⟩:=by
 by_cases hb:b'=b
 . subst hb;obtain⟨c',h3,_⟩:=u.row c el fz hc;rw[qT h3,qT hc]
 exact lJ (u.other b' hb)
theorem WR.write{g:bF}{G:Gh}{H:aA}{w w':World}(h:WR g G H w){b lo:Nat}{vs:List Value}(u:Uq w w' b lo vs)
 (oI:∀j,j<vs.length->¬G.gM b (lo+j))
 (tQ:∀id l,G.loc id=some l->H.live id->l.cV≠b\/l.base+l.ext<=lo\/lo+vs.length<=l.base)
 (rY:∃c el fz,w.heap[b]?=some (.cells c el fz)):WR g G H w':=by
 have hc:∀b' o,G.gM b' o->w'.cell? ⟨b',o,none⟩=w.cell? ⟨b',o,none⟩:=fun b' o hi=>by
  obtain⟨v,hv⟩:=h.iF b' o hi;rw[hv];refine u.cell ?_ hv;by_cases hb:b'=b
  . subst hb;by_cases h1:o<lo
    . exact .inr (.inl h1)
    refine .inr (.inr (Iz fun h2=>oI (o -lo) A0 ?_))
    rwa [show lo+(o -lo)=o by omega]
  exact .inl hb
 have hm:∀{a u},VR G w a u->VR G w' a u:=fun hv=>hv.mono (fun _ _ h=>h) (fun b o hi=>⟨hi,hc b o hi⟩)
 exact {
  cells:=fun id l cs eB h1 h2=>by
   obtain⟨a1,a2,a3,a4,a5⟩:=h.cells id l cs eB h1 h2;refine⟨a1,a2,a3,a4,fun j hj=>?_⟩;obtain⟨x,hx,hv⟩:=a5 j hj;refine⟨x,u.cell ?_ hx,hm hv⟩
   rcases tQ id l h1 ⟨_,h2,rfl⟩ with hd|hd|hd
   . exact .inl hd
   . exact .inr (.inl A0)
   exact .inr (.inr A0)
  room:=fun id l h1 h2=>by
   obtain⟨c,el,fz,a1,a2,a3⟩:=h.room id l h1 h2;by_cases hb:l.cV=b
   . subst hb;obtain⟨c',h3,h4,_⟩:=u.row c el fz a1;exact⟨c',el,fz,h3,by omega,fun j hj=>by rw[u.frozen a1];exact a3 j hj⟩
   exact⟨c,el,fz,by rw[u.other _ hb];exact a1,a2,fun j hj=>by rw[u.frozen a1];exact a3 j hj⟩
  lD:=h.lD
  jV:=h.jV
  iG:=fun id l ob h1 h2 hk=>by
   obtain⟨a1,a2,a3⟩:=h.iG id l ob h1 h2 hk
   have hb:l.cV≠b:=fun hb=>by obtain⟨c,el,fz,hr⟩:=rY;rw[<-hb] at hr;exact a3.BU hk hr
   exact⟨a1,a2,a3.mono (u.other _ hb) fun _ _=>hm⟩
  lt:=h.lt
  iF:=fun b o hi=>by rw[hc b o hi];exact h.iF b o hi
  iW:=fun n cs hn=>hm (h.iW n cs hn)
  DH:=fun n cs hn h0=>by
   obtain⟨c,el,fz,a1,a2⟩:=h.DH n cs hn h0;by_cases hb:n=b
   . subst hb;obtain⟨c',h3,h4,_⟩:=u.row c el fz a1;exact⟨c',el,fz,h3,by omega⟩
   exact⟨c,el,fz,by rw[u.other _ hb];exact a1,a2⟩
  mo:=h.mo}
theorem Ext.write{G G':Gh}{H H':aA}{w w1 w':World}(e:Ext G H w G' H' w1){b lo:Nat}{vs:List Value}(u:Uq w1 w' b lo vs)
 (oI:∀j,j<vs.length->¬G'.gM b (lo+j)) (hex:∀b o,G'.gM b o->∃v,w1.cell? ⟨b,o,none⟩=some v)
 (hb:w.heap.size<=b\/∃eV l0,G.loc eV=some l0/\H.live eV/\l0.cV=b):Ext G H w G' H' w' where
 loc:=e.loc
 gM:=fun b' o hi=>by
  have h1:=e.gM b' o hi;refine⟨h1.1,?_⟩;rw[<-h1.2];obtain⟨v,hv⟩:=hex b' o h1.1;rw[hv];refine u.cell ?_ hv;by_cases hbb:b'=b
  . subst hbb;by_cases h2:o<lo
    . exact .inr (.inl h2)
    refine .inr (.inr (Iz fun h3=>oI (o -lo) A0 ?_));rw[show lo+(o -lo)=o by omega];exact h1.1
  exact .inl hbb
 size:=by rw[u.size];exact e.size
 frame:=fun b' dT hn=>by
  have cG:b'≠b:=fun he=>by
   subst he
   rcases hb with hb|⟨eV,l0,h1,h2,h3⟩
   . omega
   exact hn eV l0 h1 h2 h3
  rw[u.other b' cG];exact e.frame b' dT hn
 lY:=e.lY
 oZ:=e.oZ
 next:=e.next
 news:=e.news
 dead:=e.dead
 mo:=e.mo
 same:=e.same.trans (u.same.toB _)
theorem WR.aXe{g:bF}{G:Gh}{H:aA}{w:World}{id:Nat}(h:WR g G (H.set id .dead) w)(o:eY)(l:Loc)(hl:G.loc id=some l)
 (tQ:∀kS l',kS≠id->G.loc kS=some l'->H.live kS->l.cV≠l'.cV\/l.base+l.ext<=l'.base\/l'.base+l'.ext<=l.base)
 (oI:∀j,j<l.ext->¬G.gM l.cV (l.base+j))
 (Ot:∀cs eB,o=.cells cs eB->l.Uy=cs.length/\l.Uy<=l.ext/\(eB=false->l.Uy=l.ext)/\(∀c∈cs,c.one=true)/\
   ∀j,j<cs.length->∃u,w.cell? ⟨l.cV,l.base+j,none⟩=some u/\VR G w (cs.getD j aB) u)
 (wY:((∃cs eB,o=.cells cs eB)\/o=.tok)->∃c el fz,w.heap[l.cV]?=some (.cells c el fz)/\l.base+l.ext<=c.size/\∀j,j<l.ext->w.frozen? ⟨l.cV,l.base+j,none⟩=false)
 (Tn:o.cV=true->l.base=0/\l.ext=1/\KU g G w l o):
 WR g G (H.set id o) w:=by
 have cS:∀{m},m≠id->(H.set id o).get m=(H.set id .dead).get m:=fun hm=>by rw[aA.aC,aA.aC,if_neg hm,if_neg hm]
 have sN:∀{l'},G.loc id=some l'->l'=l:=fun h'=>Aa (h'.symm.trans hl)
 have qA:∀{m},m≠id->(H.set id o).live m->(H.set id .dead).live m:=fun hm hv=>by obtain⟨x,hx,pd⟩:=hv;exact⟨x,by rw[<-cS hm];exact hx,pd⟩
 have aMs:∀{m},m≠id->(H.set id o).live m->H.live m:=fun hm hv=>by
  rcases aA.lG.1 hv with ⟨he,_⟩|⟨_,hv⟩
  . exact absurd he hm
  exact hv
 exact {
  cells:=fun i l' cs eB h1 h2=>by
   by_cases hi:i=id
   . subst hi;rw[aA.aC,if_pos rfl] at h2;obtain rfl:=sN h1;exact Ot cs eB (Aa h2)
   rw[cS hi] at h2;exact h.cells i l' cs eB h1 h2
  room:=fun i l' h1 h2=>by
   by_cases hi:i=id
   . subst hi;simp only[aA.aC,if_true] at h2;obtain rfl:=sN h1;exact wY (h2.imp (fun⟨cs,eB,hh⟩=>⟨cs,eB,Aa hh⟩) (fun hh=>Aa hh))
   simp only[cS hi] at h2;exact h.room i l' h1 h2
  lD:=fun i i' l1 l2 cG h1 h2 uB qK=>by
   by_cases hi:i=id
   . subst hi;obtain rfl:=sN h1;exact tQ i' l2 (Ne.symm cG) h2 (aMs (Ne.symm cG) qK)
   by_cases pB:i'=id
   . subst pB;obtain rfl:=sN h2
     rcases tQ i l1 cG h1 (aMs cG uB) with hd|hd|hd
     . exact .inl (Ne.symm hd)
     . exact .inr (.inr hd)
     exact .inr (.inl hd)
   exact h.lD i i' l1 l2 cG h1 h2 (qA hi uB) (qA pB qK)
  jV:=fun i l' h1 hv=>by
   by_cases hi:i=id
   . subst hi;obtain rfl:=sN h1;exact oI
   exact h.jV i l' h1 (qA hi hv)
  iG:=fun i l' ob h1 h2 hk=>by
   by_cases hi:i=id
   . subst hi;rw[aA.aC,if_pos rfl] at h2;obtain rfl:=Aa h2;obtain rfl:=sN h1;exact Tn hk
   rw[cS hi] at h2;exact h.iG i l' ob h1 h2 hk
  lt:=h.lt
  iF:=h.iF
  iW:=h.iW
  DH:=h.DH
  mo:=h.mo}
theorem Ext.aLg{G G':Gh}{H H':aA}{w w':World}(e:Ext G H w G' H' w')(id:Nat)(o:eY)(hv:H'.live id):Ext G H w G' (H'.set id o) w' where
 loc:=e.loc
 gM:=e.gM
 size:=e.size
 frame:=e.frame
 lY:=fun i l hl lB=>by
  rcases aA.lG.1 lB with ⟨he,_⟩|⟨_,lB⟩
  . subst he;exact e.lY i l hl hv
  exact e.lY i l hl lB
 oZ:=e.oZ
 next:=e.next
 news:=e.news
 dead:=fun i l hl lB=>by
  rcases aA.lG.1 lB with ⟨he,_⟩|⟨_,lB⟩
  . subst he;exact e.dead i l hl hv
  exact e.dead i l hl lB
 mo:=e.mo
 same:=e.same
theorem jQ(b o i:Nat):(⟨b,o,none⟩:Addr).add i=⟨b,o+i,none⟩:=by
 unfold Addr.add;split
 . rename_i h;subst h;rfl
 rfl
theorem qJ{α:Type}(l:List α)(d:α)(j:Nat)(h:j<l.length):l[j]?=some (l.getD j d):=by simp[List.getD,Ac h]
theorem vA(P:Program)(w:World)(b o:Nat)(us:List Value)(h:∀j,j<us.length->w.cell? ⟨b,o+j,none⟩=some (us.getD j undef)):
 (loadCells ⟨b,o,none⟩ us.length).run P w=.ok us.toArray w:=
 run_loadCells_list w ⟨b,o,none⟩ us (fun j v hj=>by
  have dT:=(Be.1 hj).1;rw[jQ,h j dT];rw[qJ us undef j dT] at hj
  exact hj)
theorem XE{w:World}{b o:Nat}{v:Value}:Uq w (w.setCell ⟨b,o,none⟩ v) b o [v] where
 size:=by simp[World.setCell]
 other:=fun b' hb=>by simp only[World.setCell,Hu];rw[if_neg (Ne.symm hb)]
 row:=fun c el fz h=>by
  refine⟨c.setIfInBounds o v,?_,by simp,fun o' ho=>?_,fun j hj dT=>?_⟩
  . simp[World.setCell,Hu,h]
  . rw[Array.getElem?_setIfInBounds_ne];simp at ho;omega
  simp at hj;subst hj;simp at dT;simp[dT]
 same:=.now
theorem Uq.refl(w:World)(b lo:Nat):Uq w w b lo [] where
 size:=rfl
 other:=fun _ _=>rfl
 row:=fun c el fz h=>⟨c,h,rfl,fun _ _=>rfl,fun j hj=>absurd hj (Ar j)⟩
 same:=.now
theorem Uq.cons{w w1 w2:World}{b lo:Nat}{v:Value}{vs:List Value}(h1:Uq w w1 b lo [v])(h2:Uq w1 w2 b (lo+1) vs):Uq w w2 b lo (v::vs) where
 size:=h2.size.trans h1.size
 other:=fun b' hb=>(h2.other b' hb).trans (h1.other b' hb)
 row:=fun c el fz h=>by
  obtain⟨c1,a1,a2,a3,a4⟩:=h1.row c el fz h;obtain⟨c2,b1,b2,b3,b4⟩:=h2.row c1 el fz a1;refine⟨c2,b1,b2.trans a2,fun o ho=>?_,fun j hj dT=>?_⟩
  . simp only[As] at ho;rw[b3 o A0,a3 o Zaf]
  cases j with
  |zero=>rw[b3 _ A0];have :=a4 0 A2 A0;simpa using this
  |succ j=>have :=b4 j Zas A0;rw[show lo+(j+1)=lo+1+j by omega,this];simp
 same:=h1.same.trans h2.same
theorem RU(P:Program)(w:World)(b o:Nat)(v:Value)(u:Value)(hc:w.cell? ⟨b,o,none⟩=some u)(hf:w.frozen? ⟨b,o,none⟩=false)(h1:aDi v=true):
 (store ⟨b,o,none⟩ v).run P w=.ok () (w.setCell ⟨b,o,none⟩ v):=by
 cases v<;>first
  |(simp[aDi] at h1;done)
  |simp[store,Sem.run,hc,hf]
theorem fF(P:Program)(b o:Nat):∀(vs:List Value) (i:Nat) (w:World),(∃c el fz,w.heap[b]?=some (.cells c el fz)/\o+i+vs.length<=c.size)->
 (∀j,j<vs.length->w.frozen? ⟨b,o+i+j,none⟩=false)->(∀v∈vs,aDi v=true)->
 ∃w',(storeCells ⟨b,o,none⟩ vs i).run P w=.ok () w'/\Uq w w' b (o+i) vs
 |[],i,w,_,_,_=>⟨w,rfl,Uq.refl w b _⟩
 |v::r,i,w,⟨c,el,fz,rY,lF⟩,hf,h1=>by
  simp only[As] at lF;have mL:w.cell? ⟨b,o+i,none⟩=some c[o+i]:=by rw[mD rY,Eg A0]
  have AF:=RU P w b (o+i) v _ mL (by simpa using hf 0 A2) (h1 v A2);have hu:Uq w (w.setCell ⟨b,o+i,none⟩ v) b (o+i) [v]:=XE;obtain⟨c1,a1,a2,_,_⟩:=hu.row c el fz rY
  obtain⟨w',hr,hu'⟩:=fF P b o r (i+1) (w.setCell ⟨b,o+i,none⟩ v) ⟨c1,el,fz,a1,by omega⟩
   (fun j hj=>by
     rw[hu.frozen rY];have :=hf (j+1) Zas
     rwa [show o+(i+1)+j=o+i+(j+1) by omega]) (fun x hx=>h1 x (by simp[hx]))
  refine⟨w',?_,hu.cons (by rwa [show o+i+1=o+(i+1) by omega])⟩;simp only[storeCells,Sem.run_bind,jQ,AF,Result.andThen_ok];exact hr
structure iB (w w':World) (o:Go.Obj):Prop where
 heap:w'.heap=w.heap.push o
 same:AK w w'
theorem iB.Uw{w w':World}{o:Go.Obj}(p:iB w w' o)(b:Nat)(h:b<w.heap.size):w'.heap[b]?=w.heap[b]?:=by rw[p.heap];exact IM _ _ h
theorem iB.new{w w':World}{o:Go.Obj}(p:iB w w' o):w'.heap[w.heap.size]?=some o:=by rw[p.heap];simp
theorem iB.size{w w':World}{o:Go.Obj}(p:iB w w' o):w'.heap.size=w.heap.size+1:=by rw[p.heap];simp
theorem WR.GQ{g:bF}{G:Gh}{H:aA}{w w':World}{o:Go.Obj}(h:WR g G H w)(p:iB w w' o):WR g G H w':=
 h.grow p.Uw
theorem Ext.GQ{g:bF}{G:Gh}{H:aA}{w w':World}{o:Go.Obj}(h:WR g G H w)(p:iB w w' o):Ext G H w G H w':=
 Ext.grow h.iF p.Uw (by rw[p.size];omega) p.same
theorem gW.nil(G:Gh)(w:World):gW G w [] []:=⟨rfl,fun j hj=>absurd hj (Ar j)⟩
def Clear(arr:Array Value)(fz:Nat×Nat):Prop:=∀o,o<arr.size->(decide (fz.1<=o)&&decide (o<fz.2))=false
theorem Clear.zero(arr:Array Value):Clear arr (0,0):=fun o _=>by simp
structure Made (g:bF) (G:Gh) (H:aA) (w:World) (eV:Nat) (o:eY) (G':Gh) (H':aA) (w':World):Prop where
 rel:WR g G' H' w'
 bLa:∃l,l.cV=w.heap.size/\G'.loc eV=some l/\∀id,id≠eV->G'.loc id=G.loc id
 ext:∀{G0:Gh} {H0:aA} {w0:World},Ext G0 H0 w0 G H w->H0.next<=eV->Ext G0 H0 w0 G' H' w'
 oZ:∀b o,G'.gM b o->G.gM b o\/b=w.heap.size
 bJm:∀b o,G.gM b o->G'.gM b o
 size:w'.heap.size=w.heap.size+1
 Uw:∀b,b<w.heap.size->w'.heap[b]?=w.heap[b]?
theorem WR.xM{g:bF}{G:Gh}{H H':aA}{w w':World}(h:WR g G H w)(eV:Nat)(hid:G.loc eV=none)(cs:List AV)(vs rest:List Value)(hv:gW G w cs vs)(h1:∀c∈cs,c.one=true)
 (eB:Bool) (ho:eB=false->rest=[]) (cS:∀m,H'.get m=if m=eV then some (.cells cs eB) else H.get m) (BK:H.next<=H'.next) (GG:eV<H'.next)
 {el:TypeId} {fz:Nat×Nat} (fe:Clear (vs++rest).toArray fz) (p:iB w w' (.cells (vs++rest).toArray el fz)):
 Made g G H w eV (.cells cs eB) (G.dW eV ⟨w.heap.size,0,cs.length,(vs++rest).length⟩) H' w':=by
 have hp:=h.GQ p;have he:=Ext.GQ h p;have LY:=p.new
 refine⟨hp.HY eV _ _ hid cS BK GG (fun id l' hl hv=>.inl (Ne.symm (Nat.ne_of_lt (h.nF hl hv)))) (fun j _ hi=>?_) (fun DT aDk wX=>?_) (fun _=>?_) (fun wX=>by cases wX),
  ⟨⟨w.heap.size,0,cs.length,(vs++rest).length⟩,rfl,by simp only[Gh.dW,if_true],fun id cG=>by simp only[Gh.dW];rw[if_neg cG]⟩,fun {G0 H0 w0} e0 KM=>(e0.trans he).HY eV _ _ hid cS BK KM (.inl ?_),fun b o hi=>.inl hi,fun b o hi=>hi,p.size,p.Uw⟩
 . obtain⟨v,hv⟩:=h.iF _ _ hi;have :=rB hv;simp at this
 . cases wX;have hlen:=hv.1;refine⟨rfl,by simp[hlen],fun fP=>by simp[ho fP,hlen],h1,fun j hj=>⟨vs.getD j undef,?_,(hv.2 j hj).mono he.loc he.gM⟩⟩;rw[mD LY];have HI:j<vs.length:=by omega
   rw[Em];simp only[Dg];rw[Es HI,qJ vs undef j HI]
 . exact⟨_,el,fz,LY,by simp,fun j hj=>by rw[qT LY];exact fe _ Zas⟩
 exact e0.size
theorem WR.aKt{g:bF}{G:Gh}{H:aA}{w w':World}(h:WR g G H w)(cs:List AV)(vs rest:List Value)(hv:gW G w cs vs)(h1:∀c∈cs,c.one=true)
 (eB:Bool) (ho:eB=false->rest=[]) {el:TypeId} {fz:Nat×Nat} (fe:Clear (vs++rest).toArray fz) (p:iB w w' (.cells (vs++rest).toArray el fz)):
 WR g (G.dW H.next ⟨w.heap.size,0,cs.length,(vs++rest).length⟩) (H.alloc (.cells cs eB)) w'/\
  Ext G H w (G.dW H.next ⟨w.heap.size,0,cs.length,(vs++rest).length⟩) (H.alloc (.cells cs eB)) w':=by
 have hid:G.loc H.next=none:=by
  cases hl:G.loc H.next with
  |none=>rfl
  |some l'=>exact absurd (h.lt _ _ hl) (Ew _)
 have :=h.xM H.next hid cs vs rest hv h1 eB ho (aA.aI H _) (Hg _) (Fm _) fe p;exact⟨this.rel,this.ext (Ext.refl G H w) (Ag _)⟩
theorem WR.ji{g:bF}{G:Gh}{H:aA}{w w':World}(h:WR g G H w)(cs:List AV)(vs rest:List Value)(hv:gW G w cs vs)
 {el:TypeId} {fz:Nat×Nat} (p:iB w w' (.cells (vs++rest).toArray el fz)):
 WR g (G.oD w.heap.size 0 cs.length) H w'/\Ext G H w (G.oD w.heap.size 0 cs.length) H w'/\
  ∀j,j<cs.length->(G.oD w.heap.size 0 cs.length).gM w.heap.size (0+j)/\w'.cell? ⟨w.heap.size,0+j,none⟩=some (vs.getD j undef)/\
   VR (G.oD w.heap.size 0 cs.length) w' (cs.getD j aB) (vs.getD j undef):=by
 have hp:=h.GQ p;have he:=Ext.GQ h p;have LY:=p.new;have hlen:=hv.1
 have mL:∀j,j<cs.length->w'.cell? ⟨w.heap.size,0+j,none⟩=some (vs.getD j undef):=fun j hj=>by
  have HI:j<vs.length:=by omega
  rw[mD LY];rw[Em];simp only[Dg];rw[Es HI,qJ vs undef j HI]
 have wX:=he.oD w.heap.size 0 cs.length (.inl (Ag _));refine⟨hp.oD _ _ _ (fun j hj=>⟨_,mL j hj⟩) (fun id l hl hv=>.inl (Nat.ne_of_lt (h.nF hl hv))),wX,fun j hj=>⟨.inr ⟨rfl,by omega,by omega⟩,mL j hj,(hv.2 j hj).mono wX.loc wX.gM⟩⟩
theorem WR.Sl{g:bF}{G:Gh}{H H':aA}{w w':World}(h:WR g G H w)(eV:Nat)(hid:G.loc eV=none)(cs:List AV)(vs rest:List Value)(hv:gW G w cs vs)
 (cS:∀m,H'.get m=if m=eV then some .tok else H.get m) (BK:H.next<=H'.next) (GG:eV<H'.next)
 {el:TypeId} {fz:Nat×Nat} (fe:Clear (vs++rest).toArray fz) (p:iB w w' (.cells (vs++rest).toArray el fz)):
 ∃G',G'.loc eV=some ⟨w.heap.size,cs.length,0,rest.length⟩/\Made g G H w eV .tok G' H' w'/\
  ∀j,j<cs.length->G'.gM w.heap.size (0+j)/\w'.cell? ⟨w.heap.size,0+j,none⟩=some (vs.getD j undef)/\VR G' w' (cs.getD j aB) (vs.getD j undef):=by
 obtain⟨hw,he,hc⟩:=h.ji cs vs rest hv p;have LY:=p.new;have hlen:=hv.1;have GF:(G.oD w.heap.size 0 cs.length).loc eV=none:=hid
 refine⟨(G.oD w.heap.size 0 cs.length).dW eV ⟨w.heap.size,cs.length,0,rest.length⟩,by simp[Gh.dW],⟨?_,⟨_,rfl,by simp[Gh.dW];rfl,fun id cG=>by simp only[Gh.dW];rw[if_neg cG];rfl⟩,fun {G0 H0 w0} e0 KM=>?_,fun b o hi=>hi.imp id (fun hh=>hh.1),fun b o hi=>.inl hi,p.size,p.Uw⟩,
  fun j hj=>⟨(hc j hj).1,(hc j hj).2.1,(hc j hj).2.2.mono (fun id l hl=>?_) (fun b o hi=>⟨hi,rfl⟩)⟩⟩
 . refine hw.HY eV .tok _ GF cS BK GG (fun id l' hl hv=>.inl (Ne.symm (Nat.ne_of_lt (h.nF hl hv)))) (fun j _ hi=>?_) (fun DT aDk wX=>by cases wX) (fun _=>?_) (fun wX=>by cases wX)
   . rcases hi with hi|⟨_,_,hi⟩
     . obtain⟨v,hv⟩:=h.iF _ _ hi;have :=rB hv;simp at this
     simp at hi;omega
   exact⟨_,el,fz,LY,by simp[hlen],fun j hj=>by rw[qT LY];exact fe _ (by simp at hj;simp;omega)⟩
 . exact(e0.trans he).HY eV .tok _ GF cS BK KM (.inl e0.size)
 simp only[Gh.dW];rw[if_neg (fun he=>by rw[he,GF] at hl;cases hl)];exact hl
theorem WR.aKu{g:bF}{G:Gh}{H:aA}{w w':World}(h:WR g G H w)(cs:List AV)(vs rest:List Value)(hv:gW G w cs vs)
 {el:TypeId} {fz:Nat×Nat} (fe:Clear (vs++rest).toArray fz) (p:iB w w' (.cells (vs++rest).toArray el fz)):
 ∃G',G'.loc H.next=some ⟨w.heap.size,cs.length,0,rest.length⟩/\WR g G' (H.alloc .tok) w'/\Ext G H w G' (H.alloc .tok) w'/\
  ∀j,j<cs.length->G'.gM w.heap.size (0+j)/\w'.cell? ⟨w.heap.size,0+j,none⟩=some (vs.getD j undef)/\VR G' w' (cs.getD j aB) (vs.getD j undef):=by
 have hid:G.loc H.next=none:=by
  cases hl:G.loc H.next with
  |none=>rfl
  |some l'=>exact absurd (h.lt _ _ hl) (Ew _)
 obtain⟨G',h1,h2,h3⟩:=h.Sl H.next hid cs vs rest hv (aA.aI H _) (Hg _) (Fm _) fe p;exact⟨G',h1,h2.rel,h2.ext (Ext.refl G H w) (Ag _),h3⟩
section
def JR:Value->Option AV
 |.bool b=>some (.bool b)
 |.int k n=>some (.int k n)
 |.string s=>some (.str s.data.toList)
 |.pointer none=>some .Lw
 |.slice none 0 0=>some .bB
 |.nilFunc=>some .BT
 |.nilIface=>some .pR
 |.map none=>some .sB
 |_=>none
def jJ:List Value->Option (List AV)
 |[]=>some []
 |v::r=>match JR v,jJ r with
  |some a,some b=>some (a::b)
  |_,_=>none
def ofConst:Value->Option AV
 |.agg cs=>(jJ cs.toList).map .agg
 |v=>JR v
theorem Mp{v:Value}{a:AV}(h:JR v=some a)(G:Gh)(w:World):VR G w a v/\a.one=true:=by
 unfold JR at h
 split at h<;>first
  |(cases h;done)
  |(obtain rfl:=Aa h;exact⟨by constructor,rfl⟩)
theorem gW.cons{G:Gh}{w:World}{x:AV}{v:Value}{xs:List AV}{vs:List Value}(h:VR G w x v)(hs:gW G w xs vs):gW G w (x::xs) (v::vs):=
 ⟨by simp[hs.1],fun j hj=>by
   cases j with
   |zero=>simpa using h
   |succ j=>simpa using hs.2 j Zas⟩
theorem VR.cons{G:Gh}{w:World}{x:AV}{v:Value}{xs:List AV}{vs:List Value}(h:VR G w x v)(hs:gW G w xs vs):gW G w (x::xs) (v::vs):=
 gW.cons h hs
theorem mE:∀{vs:List Value} {cs:List AV},jJ vs=some cs->∀(G:Gh) (w:World),gW G w cs vs/\∀c∈cs,c.one=true
 |[],cs,h,G,w=>by obtain rfl:=Aa h;exact⟨gW.nil G w,fun c hc=>by cases hc⟩
 |v::r,cs,h,G,w=>by
  unfold jJ at h;split at h
  . rename_i a b ha hb;obtain rfl:=Aa h;have h1:=Mp ha G w;have h2:=mE hb G w
    exact⟨h1.1.cons h2.1,fun c hc=>by
     rcases Am.1 hc with rfl|hc
     . exact h1.2
     exact h2.2 c hc⟩
  cases h
theorem VR.YM{G:Gh}{w:World}{cs:List AV}{vs:List Value}(h:gW G w cs vs)(h1:∀c∈cs,c.one=true):VR G w (.agg cs) (.agg vs.toArray):=
 .agg cs vs h.1 h1 h.2
theorem GO{v:Value}{a:AV}(h:ofConst v=some a)(G:Gh)(w:World):VR G w a v:=by
 unfold ofConst at h;split at h
 . rename_i cs
   cases hc:jJ cs.toList with
   |none=>simp[hc] at h
   |some b=>simp[hc] at h;subst h;have :=mE hc G w;simpa using VR.YM this.1 this.2
 exact(Mp h G w).1
theorem VR.cellsOf{G:Gh}{w:World}{a:AV}{v:Value}(h:VR G w a v)(ht:a.EO=false):gW G w a.cells v.cells.toList/\∀c∈a.cells,c.one=true:=by
 cases h with
 |agg cs vs hl h1 hv=>exact⟨⟨by simpa [AV.cells,Value.cells] using hl,by simpa [AV.cells,Value.cells] using hv⟩,h1⟩
 |jZ cs vs hl hv=>simp[AV.EO] at ht
 |_=>exact⟨gW.cons (by constructor<;>assumption) (gW.nil G w),fun c hc=>by
   simp only[AV.cells,Cc] at hc;subst hc
   rfl⟩
def bJ(g:bF):Operand->Option Arg
 |.tmp t=>some (.tmp t)
 |.const v=>(ofConst v).map .const
 |.global n=>if(g n).isSome then some (.iW n) else none
 |.func f=>some (.const (.func (.func f) [] []))
def SR(G:Gh)(w:World)(s:List AV)(a:Act):Prop:=gW G w s a.tmps.toList
theorem SR.getD{G:Gh}{w:World}{s:List AV}{a:Act}(h:SR G w s a)(t:Nat):VR G w (s.getD t aB) (a.tmps.getD t undef):=by
 have hlen:=h.1;by_cases ht:t<s.length
 . have :=h.2 t ht
   have e:a.tmps.getD t undef=a.tmps.toList.getD t undef:=by simp[List.getD,Bs]
   rw[e];exact this
 have e1:s.getD t aB=aB:=by simp[List.getD,Bt (Iz ht)]
 have e2:a.tmps.getD t undef=undef:=by
  have :¬t<a.tmps.size:=by simp at hlen;omega
  simp[Array.getD,this]
 rw[e1,e2];exact VR.nL G w
theorem bG{g:bF}{G:Gh}{H:aA}{w:World}{s:List AV}{a:Act}(hw:WR g G H w)(hs:SR G w s a){x:Operand}{y:Arg}(h:bJ g x=some y):
 VR G w (y.eval g s) (a.eval x):=by
 cases x with
 |tmp t=>obtain rfl:=Aa h;exact hs.getD t
 |const v=>simp only[bJ,Ae] at h;obtain⟨c,hc,rfl⟩:=h;exact GO hc G w
 |global n=>
  simp only[bJ] at h;split at h
  . rename_i hg;obtain rfl:=Aa h;obtain⟨cs,Mf⟩:=Option.isSome_iff_exists.1 hg;simp only[Arg.eval,Mf,Act.eval];exact hw.iW n cs Mf
  cases h
 |func f=>obtain rfl:=Aa h;exact VR.func _ [] [] [] [] rfl rfl (fun j hj=>absurd hj (Ar j)) (fun j hj=>absurd hj (Ar j))
def oE(g:bF):List Operand->Option (List Arg)
 |[]=>some []
 |x::r=>match bJ g x,oE g r with
  |some a,some b=>some (a::b)
  |_,_=>none
theorem tK{g:bF}{G:Gh}{H:aA}{w:World}{s:List AV}{a:Act}(hw:WR g G H w)(hs:SR G w s a):∀{xs:List Operand} {ys:List Arg},oE g xs=some ys->
 gW G w (ys.map (Arg.eval g s)) (xs.map a.eval)
 |[],ys,h=>by obtain rfl:=Aa h;exact gW.nil G w
 |x::r,ys,h=>by
  unfold oE at h;split at h
  . rename_i y b hy hb;obtain rfl:=Aa h;exact(bG hw hs hy).cons (tK hw hs hb)
  cases h
def nJ(g:bF):Option Operand->Option (Option Arg)
 |none=>some none
 |some x=>(bJ g x).map some
def fS(P:Program)(t:TypeId):Option Bool:=
 match P.underlying t with
 |some (.struct _)|some (.array _ _)=>some true
 |some _=>some false
 |none=>none
theorem qO{P:Program}{t:TypeId}{b:Bool}(h:fS P t=some b)(w:World):(isAgg t).run P w=.ok b w:=by
 unfold fS at h;unfold isAgg;split at h
 . rename_i fs hu;obtain rfl:=Aa h;simp[run_underlying hu w]
 . rename_i n e hu;obtain rfl:=Aa h;simp[run_underlying hu w]
 . rename_i d h1 h2 hu;obtain rfl:=Aa h;exact ZaJ
 cases h
def jY(P:Program)(t:TypeId):Option Nat:=(P.info? t).map (·.size)
theorem eE{P:Program}{t:TypeId}{n:Nat}(h:jY P t=some n)(w:World):(sizeOf t).run P w=.ok n w:=by simp only[jY,Ae] at h;obtain⟨i,hi,rfl⟩:=h;simp[sizeOf,typeInfo,program,Sem.run,hi]
def lX(P:Program)(t:TypeId):Option Value:=(P.info? t).bind (·.zero)
theorem lL{P:Program}{t:TypeId}{v:Value}(h:lX P t=some v)(w:World):(zeroValue t).run P w=.ok v w:=by simp only[lX,Option.bind_eq_some_iff] at h;obtain⟨i,hi,hz⟩:=h;simp[zeroValue,typeInfo,program,Sem.run,hi,hz]
def Re(n:Next)(u:Value):Prop:=n=.value u\/(n=.skip/\u=undef)
def cN(P:Program)(g:bF)(o:Oper)(r:dY):Prop:=
 ∀(s:List AV) (a:Act) (G:Gh) (H:aA) (w:World) (v:AV) (H':aA),WR g G H w->SR G w s a->dE (Arg.eval g s) H r=some (v,H')->
  ∃n u w' G',(execOp a.eval o).run P w=.ok n w'/\Re n u/\WR g G' H' w'/\Ext G H w G' H' w'/\VR G' w' v u
theorem cN.pure'{P:Program}{g:bF}{o:Oper}{G:Gh}{H:aA}{w:World}{v:AV}{a:Act}{u:Value}(hw:WR g G H w)
 (hr:(execOp a.eval o).run P w=.ok (.value u) w) (hv:VR G w v u):
 ∃n u w' G',(execOp a.eval o).run P w=.ok n w'/\Re n u/\WR g G' H w'/\Ext G H w G' H w'/\VR G' w' v u:=
 ⟨_,u,w,G,hr,.inl rfl,hw,Ext.refl G H w,hv⟩
def EG(P:Program)(g:bF)(o:Oper)(r:dY):Prop:=
 ∀(s:List AV) (a:Act) (G:Gh) (H H':aA) (w:World) (ob:eY) (val:Nat->AV) (eV:Nat),WR g G H w->SR G w s a->yH (Arg.eval g s) r=some (ob,val)->
  G.loc eV=none->(∀m,H'.get m=if m=eV then some ob else H.get m)->H.next<=H'.next->eV<H'.next->
  ∃u w' G',(execOp a.eval o).run P w=.ok (.value u) w'/\Made g G H w eV ob G' H' w'/\VR G' w' (val eV) u
theorem EG.op{P:Program}{g:bF}{o:Oper}{r:dY}(h:EG P g o r)(hr:∀ev H,dE ev H r=(yH ev r).map fun p=>(p.2 H.next,H.alloc p.1)):cN P g o r:=by
 intro s a G H w v H' hw hs ha;rw[hr] at ha;simp only[Ae,Af] at ha;obtain⟨⟨ob,val⟩,hf,rfl,rfl⟩:=ha
 have hid:G.loc H.next=none:=by
  cases hl:G.loc H.next with
  |none=>rfl
  |some l'=>exact absurd (hw.lt _ _ hl) (Ew _)
 obtain⟨u,w',G',h1,h2,h3⟩:=h s a G H (H.alloc ob) w ob val H.next hw hs hf hid (aA.aI H _) (Hg _) (Fm _);exact⟨_,u,w',G',h1,.inl rfl,h2.rel,h2.ext (Ext.refl G H w) (Ag _),h3⟩
section
variable {P:Program} {g:bF} {o:Oper}
theorem jc{x:Operand}{y:Arg}(ho:o.op=.move x\/o.op=.assign x)(hx:bJ g x=some y):cN P g o (.Lu y):=by
 intro s a G H w v H' hw hs h;simp only[dE,Ab,Af] at h;obtain⟨rfl,rfl⟩:=h;refine cN.pure' hw (u:=a.eval x) ?_ (bG hw hs hx)
 rcases ho with ho|ho<;>simp[execOp,ho]
theorem aKb{c x y:Operand}{c' x' y':Arg}(ho:o.op=.pick c x y)(hc:bJ g c=some c')(hx:bJ g x=some x')(hy:bJ g y=some y'):cN P g o (.pick c' x' y'):=by
 intro s a G H w v H' hw hs h;have vc:=bG hw hs hc;have vx:=bG hw hs hx;have vy:=bG hw hs hy;simp only[dE] at h;split at h
 . rename_i t ht;rw[ht] at vc;simp only[Ab,Af] at h;obtain⟨rfl,rfl⟩:=h
   cases hcv:a.eval c with
   |bool b=>rw[hcv] at vc;cases vc;refine cN.pure' hw (u:=if t then a.eval x else a.eval y) ?_ (by cases t<;>simpa);simp[execOp,ho,hcv,asBool]
   |_=>rw[hcv] at vc;cases vc
 cases h
theorem Rw{t:TypeId}{z:Value}{zs:List AV}(ho:o.op=.alloc t)(hz:lX P t=some z)(EB:jJ z.cells.toList=some zs):EG P g o (.alloc zs):=by
 intro s a G H H' w ob val eV hw hs h hid cS BK dT;simp only[yH,Ab,Af] at h;obtain⟨rfl,rfl⟩:=h;have hc:=mE EB G w;have hp:iB w {w with heap:=w.heap.push (.cells z.cells t)} (.cells (z.cells.toList++[]).toArray t (0,0)):=⟨by simp,.now⟩;have hm:=hw.xM eV hid zs z.cells.toList [] hc.1 hc.2 false (fun _=>rfl) cS BK dT (Clear.zero _) hp;refine⟨.pointer (some ⟨w.heap.size,0,none⟩),_,_,?_,hm,?_⟩
 . simp[execOp,ho,Instr.alloc,lL hz w,newVar,newRow,newObj,Sem.run]
 exact VR.ref eV 0 ⟨w.heap.size,0,zs.length,(z.cells.toList++[]).length⟩ (by simp only[Gh.dW,if_true])
theorem aCy{t:TypeId}{z:Value}{zs:List AV}(ho:o.op=.alloc t)(hz:lX P t=some z)(EB:jJ z.cells.toList=some zs):cN P g o (.alloc zs):=
 (Rw ho hz EB).op fun _ _=>rfl
theorem dv{t:TypeId}{x:Operand}{x':Arg}(ho:o.op=.box t x)(hx:bJ g x=some x'):EG P g o (.box x'):=by
 intro s a G H H' w ob val eV hw hs h hid cS BK dT;simp only[yH] at h;split at h
 . cases h
 rename_i ht;simp only[Ab,Af] at h;obtain⟨rfl,rfl⟩:=h;have hc:=(bG hw hs hx).cellsOf (by simpa using ht);have hp:iB w {w with heap:=w.heap.push (.cells (a.eval x).cells t)} (.cells ((a.eval x).cells.toList++[]).toArray t (0,0)):=⟨by simp,.now⟩;have hm:=hw.xM eV hid _ _ [] hc.1 hc.2 false (fun _=>rfl) cS BK dT (Clear.zero _) hp;refine⟨.pointer (some ⟨w.heap.size,0,none⟩),_,_,?_,hm,?_⟩
 . simp[execOp,ho,Instr.box,newVar,newRow,newObj,Sem.run]
 exact VR.ref eV 0 ⟨w.heap.size,0,(x'.eval g s).cells.length,((a.eval x).cells.toList++[]).length⟩ (by simp only[Gh.dW,if_true])
theorem aWo{t:TypeId}{x:Operand}{x':Arg}(ho:o.op=.box t x)(hx:bJ g x=some x'):cN P g o (.box x'):=
 (dv ho hx).op fun _ _=>rfl
theorem aKa{t:TypeId}{x:Operand}{x':Arg}(ho:o.op=.makeInterface t x)(hx:bJ g x=some x')
 (ht:(match P.underlying t with|some (.interface _)=>false|some _=>true|none=>false)=true):cN P g o (.ZX t x'):=by
 intro s a G H w v H' hw hs h;simp only[dE,Ab,Af] at h;obtain⟨rfl,rfl⟩:=h;refine cN.pure' hw (u:=.iface t (a.eval x)) ?_ (.iface t _ _ (bG hw hs hx));split at ht
 . cases ht
 . rename_i d hd hu;simp only[execOp,ho,Instr.makeInterface,Sem.run_bind,run_underlying hu w,Result.andThen_ok];rfl
 cases ht
theorem aJz{fn:Fn}{fs cs:Array Operand}{fs' DT:List Arg}(ho:o.op=.makeFunc fn fs cs)(hf:oE g fs.toList=some fs')(hc:oE g cs.toList=some DT):cN P g o (.ZW fn fs' DT):=by intro s a G H w v H' hw hs h;simp only[dE,Ab,Af] at h;obtain⟨rfl,rfl⟩:=h;have h1:=tK hw hs hf;have h2:=tK hw hs hc;refine cN.pure' hw (u:=.func fn (fs.toList.map a.eval).toArray (cs.toList.map a.eval).toArray) ?_ (.func fn _ _ _ _ h1.1 h2.1 h1.2 h2.2);simp only[execOp,ho,Instr.makeFunc,Sem.run_bind,Sem.run_pure,Result.andThen_ok];congr 3<;>(apply Fh;simp)
theorem aJr{x:Operand}{x':Arg}{i:Nat}(ho:o.op=.extract x i)(hx:bJ g x=some x'):cN P g o (.Ym x' i):=by
 intro s a G H w v H' hw hs h;have vx:=bG hw hs hx;simp only[dE] at h;split at h
 . rename_i vs nQ;rw[nQ] at vx;split at h
   . rename_i hi;simp only[Ab,Af] at h;obtain⟨rfl,rfl⟩:=h
     cases eA:a.eval x with
     |tuple us=>
      rw[eA] at vx
      cases vx with
      |jZ _ us' hl hv=>refine cN.pure' hw (u:=us'.getD i undef) ?_ (hv i hi);have pB:i<us'.length:=A0;simp only[execOp,ho,eA,Instr.extract,Em,qJ us' undef i pB,Sem.run_bind,Sem.run_pure,Result.andThen_ok]
     |_=>rw[eA] at vx;cases vx
   cases h
 cases h
theorem aDd{x:Operand}{x':Arg}(ho:o.op=.nilCheck x)(hx:bJ g x=some x'):cN P g o (.Pf x'):=by
 intro s a G H w v H' hw hs h;have vx:=bG hw hs hx
 have key:∀{va:AV} {u:Value},VR G w va u->(∃id off,va=.ref id off)\/(∃cs,va=.pl cs)\/(∃f p q,va=.func (.func f) p q)\/(∃t y,va=.iface t y)->a.eval x=u->(execOp a.eval o).run P w=.ok (.value u) w:=by
  intro va u hv oU he
  rcases oU with ⟨id,off,rfl⟩|⟨cs,rfl⟩|⟨f,p,q,rfl⟩|⟨t,y,rfl⟩<;>cases hv<;>simp[execOp,ho,he]
 simp only[dE] at h
 split at h<;>first
  |(cases h;done)
  |(rename_i nQ
    simp only[Ab,Af] at h;obtain⟨rfl,rfl⟩:=h;rw[nQ] at vx
    exact cN.pure' hw (key vx A2 rfl) vx)
theorem VR.iK{G:Gh}{w:World}{k:IntKind}{n:Int}{u:Value}(h:VR G w (.int k n) u):u=.int k n:=by cases h;rfl
theorem VR.jR{G:Gh}{w:World}{b:Bool}{u:Value}(h:VR G w (.bool b) u):u=.bool b:=by cases h;rfl
theorem VR.iM{G:Gh}{w:World}{s:List UInt8}{u:Value}(h:VR G w (.str s) u):u=.string ⟨s.toArray⟩:=by cases h;rfl
theorem VR.Uf(G:Gh)(w:World)(s:List UInt8):VR G w (.str s) (.string ⟨s.toArray⟩):=by have :=VR.str (G:=G) (w:=w) ⟨s.toArray⟩;simpa using this
theorem tL{G:Gh}{w:World}{a:AV}{u:Value}{n:Nat}(h:asNat a=some n)(hv:VR G w a u):∃k,a=.int k n/\u=.int k n:=by
 cases a<;>simp only[asNat] at h<;>try (cases h;done)
 rename_i k m;split at h
 . rename_i hm;obtain rfl:=Aa h;refine⟨k,by rw[Lg hm],by rw[Lg hm];exact hv.iK⟩
 cases h
end
end
section
theorem getD_eq{α:Type}(l:List α)(d:α)(j:Nat):l.getD j d=(l[j]?).getD d:=rfl
theorem eZ{α:Type}(l:List α)(d:α)(o n j:Nat)(h:j<n):((l.drop o).take n).getD j d=l.getD (o+j) d:=by simp only[getD_eq];rw[Ik,if_pos h,Gg]
theorem DF{α:Type}(l:List α)(d:α)(o j:Nat):(l.drop o).getD j d=l.getD (o+j) d:=by simp only[getD_eq,Gg]
theorem getD_take{α:Type}(l:List α)(d:α)(n j:Nat)(h:j<n):(l.take n).getD j d=l.getD j d:=by simp only[getD_eq];rw[Ik,if_pos h]
theorem qW(cs:List AV)(off:Nat)(vs:List AV)(h:off+vs.length<=cs.length):(gK cs off vs).length=cs.length:=by simp[gK];omega
theorem Md(cs:List AV)(off:Nat)(vs:List AV)(d:AV)(h:off+vs.length<=cs.length)(j:Nat):
 (gK cs off vs).getD j d=if off<=j/\j<off+vs.length then vs.getD (j -off) d else cs.getD j d:=by
 simp only[getD_eq,gK];rw[Dl];simp only[Ap,Dp];have hm:min off cs.length=off:=by omega
 rw[hm];by_cases h1:j<off+vs.length
 . rw[if_pos h1,Dl];simp only[Dp,hm];by_cases h2:j<off
   . rw[if_pos h2,if_neg A0,Ik,if_pos h2]
   rw[if_neg h2,if_pos A0]
 rw[if_neg h1,if_neg A0,Gg];congr 2;omega
theorem PY{cs:List AV}{off:Nat}{vs:List AV}{c:AV}(h:c∈gK cs off vs):c∈cs\/c∈vs:=by
 simp only[gK,Aq] at h
 rcases h with (h|h)|h
 . exact .inl (De h)
 . exact .inr h
 exact .inl (Gr h)
theorem JN{cs:List AV}{j:Nat}(h:j<cs.length):cs.getD j aB∈cs:=by rw[getD_eq,Ac h];exact Ah h
theorem OR{G:Gh}{w:World}{b o n:Nat}{cs:List AV}(h:∀j,j<n->∃u,w.cell? ⟨b,o+j,none⟩=some u/\VR G w (cs.getD j aB) u):
 ∃us:List Value,us.length=n/\(∀j,j<n->w.cell? ⟨b,o+j,none⟩=some (us.getD j undef))/\∀j,j<n->VR G w (cs.getD j aB) (us.getD j undef):=by
 have hd:∀j,j<n->((List.range n).map fun j=>(w.cell? ⟨b,o+j,none⟩).getD undef).getD j undef=(w.cell? ⟨b,o+j,none⟩).getD undef:=fun j hj=>by simp[getD_eq,Ie hj]
 refine⟨(List.range n).map fun j=>(w.cell? ⟨b,o+j,none⟩).getD undef,by simp,fun j hj=>?_,fun j hj=>?_⟩
 . rw[hd j hj];obtain⟨u,hu,_⟩:=h j hj;rw[hu];rfl
 rw[hd j hj];obtain⟨u,hu,hv⟩:=h j hj;rw[hu];exact hv
theorem KB{P:Program}{G:Gh}{w:World}{t:TypeId}{agg:Bool}{n b o:Nat}{cs:List AV}(hag:fS P t=some agg)(lF:jY P t=some n)
 (hlen:n=cs.length) (h1:∀c∈cs,c.one=true) (hn:agg=false->n=1)
 (h:∀j,j<n->∃u,w.cell? ⟨b,o+j,none⟩=some u/\VR G w (cs.getD j aB) u):
 ∃u,(loadVar t ⟨b,o,none⟩).run P w=.ok u w/\VR G w (if agg then .agg cs else cs.getD 0 aB) u:=by
 obtain⟨us,hl,hc,hv⟩:=OR h
 cases agg with
 |true=>refine⟨.agg us.toArray,?_,.agg cs us A0 h1 (fun j hj=>hv j A0)⟩;have hr:=vA P w b o us (fun j hj=>hc j A0);rw[hl] at hr;simp[loadVar,qO hag w,eE lF w,hr]
 |false=>have h1':=hn rfl;have om:=hc 0 A0;have yL:=hv 0 A0;refine⟨us.getD 0 undef,?_,yL⟩;simp only[Dd] at om;simp only[loadVar,Sem.run_bind,qO hag w,Result.andThen_ok,Au,Ca,run_load,om]
theorem WR.store{g:bF}{G:Gh}{H:aA}{w w':World}(h:WR g G H w){id:Nat}{l:Loc}{cs:List AV}{eB:Bool}(hl:G.loc id=some l)(hg:H.get id=some (.cells cs eB))
 {off:Nat} {xs:List AV} {vs:List Value} (hv:gW G w xs vs) (h1:∀c∈xs,c.one=true) (iE:off+xs.length<=cs.length) (u:Uq w w' l.cV (l.base+off) vs):
 WR g G (H.set id (.cells (gK cs off xs) eB)) w'/\Ext G H w G (H.set id (.cells (gK cs off xs) eB)) w':=by
 have lS:H.live id:=⟨_,hg,rfl⟩;obtain⟨a1,a2,a3,a4,a5⟩:=h.cells id l cs eB hl hg;obtain⟨c,el,fz,b1,b2,b3⟩:=h.room id l hl (.inl ⟨cs,eB,hg⟩);have hlen:=hv.1
 have oI:∀j,j<vs.length->¬G.gM l.cV (l.base+off+j):=fun j hj=>by rw[Bh];exact h.jV id l hl lS (off+j) A0
 have tQ:∀kS l',kS≠id->G.loc kS=some l'->H.live kS->l.cV≠l'.cV\/l.base+l.ext<=l'.base\/l'.base+l'.ext<=l.base:=
  fun kS l' cG nB lB=>h.lD id kS l l' (Ne.symm cG) hl nB lS lB
 have hk:=h.kill id
 have PC:=hk.write u oI (fun kS l' nB lB=>by
  rcases aA.lG.1 lB with ⟨_,hh⟩|⟨cG,lB⟩
  . cases hh
  rcases tQ kS l' cG nB lB with hd|hd|hd
  . exact .inl (Ne.symm hd)
  . exact .inr (.inr A0)
  exact .inr (.inl A0)) ⟨c,el,fz,b1⟩
 have yJ:=((Ext.refl G H w).write u oI h.iF (.inr ⟨id,l,hl,lS,rfl⟩)).aLg id (.cells (gK cs off xs) eB) lS;have zS:∀{a:AV} {x:Value},VR G w a x->VR G w' a x:=fun hx=>hx.mono (fun _ _ h=>h) (fun b o hi=>⟨hi,(yJ.gM b o hi).2⟩);obtain⟨c',d1,d2,d3,d4⟩:=u.row c el fz b1;refine⟨PC.aXe _ l hl tQ (fun j hj=>h.jV id l hl lS j hj) (fun DT aDk he=>?_) (fun _=>⟨c',el,fz,d1,by omega,fun j hj=>by rw[u.frozen b1];exact b3 j hj⟩) (fun he=>by cases he),yJ⟩;cases he;refine⟨by rw[qW _ _ _ iE];exact a1,a2,a3,fun x hx=>(PY hx).elim (a4 x) (h1 x),fun j hj=>?_⟩;rw[qW _ _ _ iE] at hj;rw[Md _ _ _ _ iE];by_cases IX:off<=j/\j<off+xs.length
 . rw[if_pos IX];refine⟨vs.getD (j -off) undef,?_,zS (hv.2 (j -off) A0)⟩;have :=d4 (j -off) A0 A0;rw[mD d1,<-this];congr 1;omega
 rw[if_neg IX];obtain⟨x,hx,hvx⟩:=a5 j hj;exact⟨x,u.cell (.inr A0) hx,zS hvx⟩
theorem aA.pH{H:aA}{id:Nat}{cs:List AV}(h:H.eG id=some cs):∃eB,H.get id=some (.cells cs eB):=by
 unfold aA.eG at h;split at h
 . rename_i DT eB hg;obtain rfl:=Aa h;exact⟨eB,hg⟩
 cases h
theorem MB{g:bF}{G:Gh}{H:aA}{w:World}(hw:WR g G H w){id off n:Nat}{l:Loc}{cs:List AV}{eB:Bool}(hl:G.loc id=some l)(hg:H.get id=some (.cells cs eB))
 (iE:off+n<=cs.length):∀j,j<n->∃u,w.cell? ⟨l.cV,l.base+off+j,none⟩=some u/\VR G w (((cs.drop off).take n).getD j aB) u:=fun j hj=>by
 obtain⟨u,hu,hv⟩:=(hw.cells id l cs eB hl hg).2.2.2.2 (off+j) A0;refine⟨u,by rw[Bh];exact hu,?_⟩;rw[eZ _ _ _ _ _ hj];exact hv
section
variable {P:Program} {g:bF} {o:Oper}
theorem aJw{t:TypeId}{x:Operand}{x':Arg}{agg:Bool}{n:Nat}(ho:o.op=.load t x)(hx:bJ g x=some x')(hag:fS P t=some agg)(lF:jY P t=some n):
 cN P g o (.load agg n x'):=by
 intro s a G H w v H' hw hs h;have vx:=bG hw hs hx
 have fin:∀(b o':Nat) (cs:List AV),a.eval x=.pointer (some ⟨b,o',none⟩)->n=cs.length->(∀c∈cs,c.one=true)->(agg=false->n=1)->
  (∀j,j<n->∃u,w.cell? ⟨b,o'+j,none⟩=some u/\VR G w (cs.getD j aB) u)->
  ∃n u w' G',(execOp a.eval o).run P w=.ok n w'/\Re n u/\WR g G' H w'/\Ext G H w G' H w'/\VR G' w' (if agg then .agg cs else cs.getD 0 aB) u:=by
  intro b o' cs he hl h1 hn hc;obtain⟨u,hr,hv⟩:=KB (P:=P) hag lF hl h1 hn hc;refine cN.pure' hw (u:=u) ?_ hv;simp[execOp,ho,he,Instr.loadAt,Instr.sureAddr,hr]
 simp only[dE] at h;split at h
 . rename_i id off hid;rw[hid] at vx;split at h
   . rename_i cs Mf;obtain⟨eB,hg⟩:=aA.pH Mf;split at h
     . rename_i iE
       cases eA:a.eval x with
       |pointer p=>
        rw[eA] at vx
        cases vx with
        |ref _ _ l hl=>
         have h4:=(hw.cells id l cs eB hl hg).2.2.2.1;have mL:=MB hw hl hg iE;have hlen:n=((cs.drop off).take n).length:=Zaf;have yK:∀c∈(cs.drop off).take n,c.one=true:=fun c hc=>h4 c (Gr (De hc));split at h
         . exact ZaZ
         rename_i rD;split at h
         . rename_i hn;simp only[Ab,Af] at h;obtain⟨rfl,rfl⟩:=h;have :=fin _ _ _ eA hlen yK (fun _=>hn) mL
           rwa [if_neg rD,eZ _ _ _ _ _ A0,Dd] at this
         cases h
       |_=>rw[eA] at vx;cases vx
     cases h
   cases h
 . rename_i cs hid;rw[hid] at vx;split at h
   . rename_i iE
     cases eA:a.eval x with
     |pointer p=>
      rw[eA] at vx
      cases vx with
      |pl _ b o' us hh hv=>
       have mL:∀j,j<n->∃u,w.cell? ⟨b,o'+j,none⟩=some u/\VR G w ((cs.take n).getD j aB) u:=fun j hj=>by rw[getD_take _ _ _ _ hj];exact⟨us j,(hh j A0).2.1,hv j A0⟩
       have hlen:n=(cs.take n).length:=by simp;omega
       have yK:∀c∈cs.take n,c.one=true:=fun c hc=>by obtain⟨j,hj,rfl⟩:=Hy.1 (De hc);have :=(hh j hj).2.2;simpa [getD_eq,Ac hj] using this
       split at h
       . exact ZaZ
       rename_i rD;split at h
       . rename_i hn;simp only[Ab,Af] at h;obtain⟨rfl,rfl⟩:=h;have :=fin _ _ _ eA hlen yK (fun _=>hn) mL
         rwa [if_neg rD,getD_take _ _ _ _ A0] at this
       cases h
     |_=>rw[eA] at vx;cases vx
   cases h
 cases h
theorem oV{G:Gh}{w:World}{xs:List AV}{vs:List Value}(hv:gW G w xs vs)(h1:∀c∈xs,c.one=true):∀v∈vs,aDi v=true:=by
 intro v lB;obtain⟨j,hj,rfl⟩:=Hy.1 lB;have HI:j<xs.length:=by have :=hv.1;omega
 have :=(hv.2 j HI).one;rw[h1 _ (JN HI)] at this;simpa [getD_eq,Ac hj] using this.symm
theorem aDg{t:TypeId}{x y:Operand}{x' y':Arg}{n:Nat}(ho:o.op=.store t x y)(hx:bJ g x=some x')(hy:bJ g y=some y')(lF:jY P t=some n):
 cN P g o (.store n x' y'):=by
 intro s a G H w v H' hw hs h;have vx:=bG hw hs hx;have vy:=bG hw hs hy;simp only[dE] at h;split at h
 . rename_i id off hid;rw[hid] at vx;split at h
   . rename_i cs eB hg;split at h
     . rename_i hc;obtain⟨Xi,yA,hc3⟩:=hc;simp only[Ab,Af] at h;obtain⟨rfl,rfl⟩:=h;obtain⟨nQ,yK⟩:=vy.cellsOf hc3
       cases eA:a.eval x with
       |pointer p=>
        rw[eA] at vx
        cases vx with
        |ref _ _ l hl=>
         obtain⟨a1,a2,_,_,_⟩:=hw.cells id l cs eB hl hg;obtain⟨c,el,fz,b1,b2,b3⟩:=hw.room id l hl (.inl ⟨cs,eB,hg⟩);have hlen:=nQ.1
         obtain⟨w',hr,hu⟩:=fF P l.cV (l.base+off) (a.eval y).cells.toList 0 w ⟨c,el,fz,b1,by omega⟩
          (fun j hj=>by rw[Dd,Bh];exact b3 (off+j) A0) (oV nQ yK)
         obtain⟨r1,r2⟩:=hw.store hl hg nQ yK A0 hu;refine⟨.skip,undef,w',G,?_,.inr ⟨rfl,rfl⟩,r1,r2,VR.nL G w'⟩;have WD:(a.eval y).cells.size=n:=(by simpa [Xi] using hlen);simp[execOp,ho,eA,Instr.storeAt,Instr.sureAddr,storeVar,eE lF w,WD,hr]
       |_=>rw[eA] at vx;cases vx
     cases h
   cases h
 cases h
def Yp(P:Program)(t:TypeId)(i:Nat):Option (Nat×Nat×Bool):=
 match P.underlying t with
 |some (.struct fs)=>match fs[i]? with
  |some f=>match jY P f.type,fS P f.type with
   |some n,some b=>if n=0 then none else some (f.offset,n,b)
   |_,_=>none
  |none=>none
 |_=>none
theorem aJs{t:TypeId}{x:Operand}{x':Arg}{i:Nat}{off n:Nat}{b:Bool}(ho:o.op=.fieldAddr t x i)(hx:bJ g x=some x')(hf:Yp P t i=some (off,n,b)):
 cN P g o (.Yn off x'):=by
 intro s a G H w v H' hw hs h;have vx:=bG hw hs hx;unfold Yp at hf;split at hf
 . rename_i fs hu;split at hf
   . rename_i f hfi;split at hf
     . rename_i n' b' hn hb;split at hf
       . cases hf
       rename_i Qk;simp only[Ab,Af] at hf;obtain⟨rfl,rfl,rfl⟩:=hf
       have iX:∀bl o',a.eval x=.pointer (some ⟨bl,o',none⟩)->(execOp a.eval o).run P w=.ok (.value (.pointer (some ⟨bl,o'+f.offset,none⟩))) w:=fun bl o' he=>by simp[execOp,ho,he,Instr.fieldAt,run_underlying hu w,hfi,Instr.sureAddr,fieldPlace,eE hn w,Qk,jQ]
       simp only[dE] at h;split at h
       . rename_i id o' hid;rw[hid] at vx;simp only[Ab,Af] at h;obtain⟨rfl,rfl⟩:=h
         cases eA:a.eval x with
         |pointer p=>
          rw[eA] at vx
          cases vx with
          |ref _ _ l hl=>exact cN.pure' hw (iX _ _ eA) (by rw[Bh];exact .ref id (o'+f.offset) l hl)
         |_=>rw[eA] at vx;cases vx
       . rename_i cs hid;rw[hid] at vx;simp only[Ab,Af] at h;obtain⟨rfl,rfl⟩:=h
         cases eA:a.eval x with
         |pointer p=>
          rw[eA] at vx
          cases vx with
          |pl _ bl o' us hh hv=>
           refine cN.pure' hw (iX _ _ eA) (.pl _ bl (o'+f.offset) (fun j=>us (f.offset+j)) (fun j hj=>?_) (fun j hj=>?_))
           . simp at hj;rw[Bh,DF];exact hh (f.offset+j) A0
           simp at hj;rw[DF];exact hv (f.offset+j) A0
         |_=>rw[eA] at vx;cases vx
       cases h
     cases hf
   cases hf
 cases hf
theorem XD{t:TypeId}{n:Nat}{b:Bool}(hn:jY P t=some n)(hb:fS P t=some b){G:Gh}{w:World}{cs:List AV}{us:List Value}{off:Nat}
 (hl:us.length=cs.length) (h1:∀c∈cs,c.one=true) (hv:∀j,j<cs.length->VR G w (cs.getD j aB) (us.getD j undef)) (iE:off+n<=cs.length) (AD:b=false->n=1):
 ∃u,(part t us.toArray off).run P w=.ok u w/\VR G w (if b then .agg ((cs.drop off).take n) else cs.getD off aB) u:=by
 cases b with
 |true=>
  refine⟨.agg ((us.drop off).take n).toArray,?_,?_⟩
  . simp only[part,Sem.run_bind,qO hb w,Result.andThen_ok,if_true,eE hn w,Sem.run_pure];congr 2;apply Fh;simp[Ic]
  simp only[if_true];refine .agg _ _ Zaf (fun c hc=>h1 c (Gr (De hc))) (fun j hj=>?_);simp at hj;rw[eZ _ _ _ _ _ A0,eZ _ _ _ _ _ A0];exact hv _ A0
 |false=>have :=AD rfl;refine⟨us.getD off undef,?_,hv off A0⟩;simp only[part,Sem.run_bind,qO hb w,Result.andThen_ok,Au,Ca,Em,qJ us undef off A0];rfl
theorem VR.uN{G:Gh}{w:World}{cs:List AV}{u:Value}(h:VR G w (.agg cs) u):∃us:List Value,u=.agg us.toArray/\us.length=cs.length/\(∀c∈cs,c.one=true)/\
 ∀j,j<cs.length->VR G w (cs.getD j aB) (us.getD j undef):=by
 cases h with
 |agg _ us hl h1 hv=>exact⟨us,rfl,hl,h1,hv⟩
end
end
section
theorem IL{els:List (List AV)}{sz:Nat}(hu:∀e∈els,e.length=sz):∀{i j:Nat},i<els.length->j<sz->els.flatten.getD (i*sz+j) aB=(els.getD i []).getD j aB:=by
 induction els with
 |nil=>intro i j hi;simp at hi
 |cons e r ih=>
  intro i j hi hj;have he:e.length=sz:=hu e A2
  cases i with
  |zero=>simp only[getD_eq,Cd,Hk,Dg,Hc,Bl];rw[Es A0]
  |succ i=>have :=ih (fun e he=>hu e (by simp[he])) (i:=i) (j:=j) (by simpa using hi) hj;simp only[getD_eq,Cd,Gb] at this ⊢;rw[Gi (by rw[he,Fc];omega)];rw[show(i+1)*sz+j -e.length=i*sz+j by rw[he,Fc];omega];exact this
theorem length_flatten{els:List (List AV)}{sz:Nat}(hu:∀e∈els,e.length=sz):els.flatten.length=els.length*sz:=by
 induction els with
 |nil=>simp
 |cons e r ih=>simp only[Cd,Ap,As,Fc];rw[ih (fun e he=>hu e (by simp[he])),hu e A2];omega
section
variable {P:Program} {g:bF} {o:Oper}
def AN(P:Program)(t:TypeId):Option (Nat×Nat×Bool):=
 match P.underlying t with
 |some (.array n e)=>match jY P e,fS P e with
  |some sz,some b=>some (n,sz,b)
  |_,_=>none
 |_=>none
def nK(P:Program)(t:TypeId):Option (TypeId×Nat):=
 match P.underlying t with
 |some (.slice e)=>match jY P e with
  |some sz=>some (e,sz)
  |none=>none
 |_=>none
theorem AO{t:TypeId}{n sz:Nat}{b:Bool}(h:AN P t=some (n,sz,b)):∃e,P.underlying t=some (.array n e)/\jY P e=some sz/\fS P e=some b:=by
 unfold AN at h;split at h
 . rename_i n' e hu;split at h
   . rename_i eO b' h1 h2;simp only[Ab,Af] at h;obtain⟨rfl,rfl,rfl⟩:=h;exact⟨e,hu,h1,h2⟩
   cases h
 cases h
theorem kV{t e:TypeId}{sz:Nat}(h:nK P t=some (e,sz)):P.underlying t=some (.slice e)/\jY P e=some sz:=by
 unfold nK at h;split at h
 . rename_i e' hu;split at h
   . rename_i eO h1;simp only[Ab,Af] at h;obtain⟨rfl,rfl⟩:=h;exact⟨hu,h1⟩
   cases h
 cases h
theorem Wf{t:TypeId}{x i:Operand}{x' i':Arg}{n sz:Nat}{b:Bool}(ho:o.op=.indexAddr t x i)(hx:bJ g x=some x')(hi:bJ g i=some i')(ht:AN P t=some (n,sz,b)):
 cN P g o (.UB (some n) sz x' i'):=by
 intro s a G H w v H' hw hs h;have vx:=bG hw hs hx;have vi:=bG hw hs hi;obtain⟨e,hu,he,hb⟩:=AO ht;simp only[dE] at h;split at h
 . rename_i k hk;obtain⟨kk,Mj,hkv⟩:=tL hk vi
   have iX:∀bl o',a.eval x=.pointer (some ⟨bl,o',none⟩)->k<n->(execOp a.eval o).run P w=.ok (.value (.pointer (some ⟨bl,o'+k*sz,none⟩))) w:=fun bl o' hxe dT=>by have h0:(0:Int)<=(k:Int)/\(k:Int)<(n:Int):=A0;simp[execOp,ho,Instr.indexAt,hkv,asIntOf,run_underlying hu w,hxe,Instr.sureAddr,h0,eE he w,jQ];intro KM;omega
   split at h
   . rename_i n' id off hn hid;cases hn;rw[hid] at vx;split at h
     . rename_i dT;simp only[Ab,Af] at h;obtain⟨rfl,rfl⟩:=h
       cases eA:a.eval x with
       |pointer p=>
        rw[eA] at vx
        cases vx with
        |ref _ _ l hl=>exact cN.pure' hw (iX _ _ eA dT) (by rw[Bh];exact .ref id (off+k*sz) l hl)
       |_=>rw[eA] at vx;cases vx
     cases h
   . rename_i n' cs hn hid;cases hn;rw[hid] at vx;split at h
     . rename_i dT;simp only[Ab,Af] at h;obtain⟨rfl,rfl⟩:=h
       cases eA:a.eval x with
       |pointer p=>
        rw[eA] at vx
        cases vx with
        |pl _ bl o' us hh hv=>
         refine cN.pure' hw (iX _ _ eA dT) (.pl _ bl (o'+k*sz) (fun j=>us (k*sz+j)) (fun j hj=>?_) (fun j hj=>?_))
         . simp at hj;rw[Bh,DF];exact hh (k*sz+j) A0
         simp at hj;rw[DF];exact hv (k*sz+j) A0
       |_=>rw[eA] at vx;cases vx
     cases h
   . rename_i hn _;cases hn
   . rename_i hn _;cases hn
   cases h
 cases h
theorem Zd{t e:TypeId}{x i:Operand}{x' i':Arg}{sz:Nat}(ho:o.op=.indexAddr t x i)(hx:bJ g x=some x')(hi:bJ g i=some i')(ht:nK P t=some (e,sz)):
 cN P g o (.UB none sz x' i'):=by
 intro s a G H w v H' hw hs h;have vx:=bG hw hs hx;have vi:=bG hw hs hi;obtain⟨hu,he⟩:=kV ht;simp only[dE] at h;split at h
 . rename_i k hk;obtain⟨kk,Mj,hkv⟩:=tL hk vi
   have iX:∀bl o' n cap,a.eval x=.slice (some ⟨bl,o',none⟩) n cap->k<n->(execOp a.eval o).run P w=.ok (.value (.pointer (some ⟨bl,o'+k*sz,none⟩))) w:=fun bl o' n cap hxe dT=>by have h0:(0:Int)<=(k:Int)/\(k:Int)<(n:Int):=A0;simp[execOp,ho,Instr.indexAt,hkv,asIntOf,run_underlying hu w,hxe,Instr.sureAddr,h0,eE he w,jQ];intro KM;omega
   split at h
   . rename_i hn _;cases hn
   . rename_i hn _;cases hn
   . rename_i tag eO els hn hid;rw[hid] at vx;split at h
     . rename_i hc;obtain⟨rfl,dT⟩:=hc;simp only[Ab,Af] at h;obtain⟨rfl,rfl⟩:=h
       cases eA:a.eval x with
       |slice p n cap=>
        rw[eA] at vx
        cases vx with
        |uJ=>exact absurd dT (Ar _)
        |bC _ _ _ bl o' _ us Uv hh hv rZ=>
         have Xl:(els.getD k []).length=eO:=by rw[getD_eq,Ac dT];exact Uv _ (Ah dT)
         have zQ:=length_flatten Uv
         have iE:∀j,j<eO->k*eO+j<els.flatten.length:=fun j hj=>by
          rw[zQ]
          calc k*eO+j<k*eO+eO:=by omega
           _=(k+1)*eO:=by rw[Fc]
           _<=els.length*eO:=Bq _ dT
         refine cN.pure' hw (iX _ _ _ _ eA dT) (.pl _ bl (o'+k*eO) (fun j=>us (k*eO+j)) (fun j hj=>?_) (fun j hj=>?_))
         . rw[Xl] at hj;rw[Bh,<-IL Uv dT hj];exact hh _ (iE j hj)
         rw[Xl] at hj;rw[<-IL Uv dT hj];exact hv _ (iE j hj)
       |_=>rw[eA] at vx;cases vx
     cases h
   . rename_i id eO off len cap hn hid;rw[hid] at vx;split at h
     . rename_i hc;obtain⟨rfl,dT⟩:=hc;simp only[Ab,Af] at h;obtain⟨rfl,rfl⟩:=h
       cases eA:a.eval x with
       |slice p n cap=>
        rw[eA] at vx
        cases vx with
        |sl _ _ _ _ _ _ l hl hlen iE oY=>exact cN.pure' hw (iX _ _ _ _ eA dT) (by rw[Bh];exact .ref id (off+k*eO) l hl)
       |_=>rw[eA] at vx;cases vx
     cases h
   cases h
 cases h
theorem aWt{t:TypeId}{x i:Operand}{x' i':Arg}{n sz:Nat}{b:Bool}(ho:o.op=.index t x i)(hx:bJ g x=some x')(hi:bJ g i=some i')(ht:AN P t=some (n,sz,b)):
 cN P g o (.idx n sz b x' i'):=by
 intro s a G H w v H' hw hs h;have vx:=bG hw hs hx;have vi:=bG hw hs hi;obtain⟨e,hu,he,hb⟩:=AO ht;simp only[dE] at h;split at h
 . rename_i k cs hk hid;rw[hid] at vx;obtain⟨kk,Mj,hkv⟩:=tL hk vi;obtain⟨us,eA,hl,h1,hv⟩:=vx.uN;split at h
   . rename_i hc;obtain⟨dT,iE⟩:=hc
     have iX:∀u,(part e us.toArray (k*sz)).run P w=.ok u w->(execOp a.eval o).run P w=.ok (.value u) w:=fun u hr=>by have h0:(0:Int)<=(k:Int)/\(k:Int)<(n:Int):=A0;simp[execOp,ho,eA,Instr.index,hkv,asIntOf,run_underlying hu w,h0,eE he w,hr];intro KM;omega
     split at h
     . rename_i rD;simp only[Ab,Af] at h;obtain⟨rfl,rfl⟩:=h;obtain⟨u,hr,NP⟩:=XD (P:=P) he hb hl h1 hv iE (fun hf=>by rw[rD] at hf;cases hf);rw[if_pos rD] at NP;exact cN.pure' hw (iX u hr) NP
     rename_i rD;split at h
     . rename_i AD;simp only[Ab,Af] at h;obtain⟨rfl,rfl⟩:=h;obtain⟨u,hr,NP⟩:=XD (P:=P) he hb hl h1 hv iE (fun _=>AD);rw[if_neg rD,AD,Dc] at NP;rw[AD,Dc] at hr;exact cN.pure' hw (iX u (by rw[AD,Dc];exact hr)) NP
     cases h
   cases h
 cases h
theorem aJt{t:TypeId}{x i:Operand}{x' i':Arg}(ho:o.op=.index t x i)(hx:bJ g x=some x')(hi:bJ g i=some i')(ht:P.underlying t=some .string):
 cN P g o (.idxs x' i'):=by
 intro s a G H w v H' hw hs h;have vx:=bG hw hs hx;have vi:=bG hw hs hi;simp only[dE] at h;split at h
 . rename_i k str hk hid;rw[hid] at vx;obtain⟨kk,Mj,hkv⟩:=tL hk vi;have eA:=vx.iM;split at h
   . rename_i b hb;simp only[Ab,Af] at h;obtain⟨rfl,rfl⟩:=h;refine cN.pure' hw (u:=.int .u8 b.toNat) ?_ (.int _ _);have dT:=(Be.1 hb).1
     have KM:(⟨str.toArray⟩:ByteArray)[k]?=some b:=by have bIe:k<(⟨str.toArray⟩:ByteArray).size:=(by simpa [ByteArray.size] using dT);rw[getElem?_pos (⟨str.toArray⟩:ByteArray) k bIe];have :=(Be.1 hb).2;simpa [ByteArray.getElem_eq_getElem_data] using this
     simp[execOp,ho,Instr.index,hkv,asIntOf,run_underlying ht w,eA,KM]
   cases h
 cases h
theorem aJv{c:Call}{x:Operand}{x':Arg}{t:TypeId}(ho:o.op=.call c)(hc:c.callee=.builtin .len)(ha:c.args= #[x])(hx:bJ g x=some x')(RE:c.argTypes[0]?=some t)
 (ht:P.underlying t=some .string):cN P g o (.lens x'):=by
 intro s a G H w v H' hw hs h;have vx:=bG hw hs hx;simp only[dE] at h;split at h
 . rename_i str hid;rw[hid] at vx;simp only[Ab,Af] at h;obtain⟨rfl,rfl⟩:=h;have eA:=vx.iM;refine cN.pure' hw (u:=.int .i64 str.length) ?_ (.int _ _);have lF:(⟨str.toArray⟩:ByteArray).size=str.length:=by simp[ByteArray.size]
   simp[execOp,ho,resolve,hc,ha,invoke,builtin,Builtin.len_,RE,run_underlying ht w,eA,goInt];exact Ao (fun n:Nat=>(n:Int)) lF
 cases h
theorem aJx{c:Call}{x y:Operand}{x' y':Arg}(ho:o.op=.call c)(hc:c.callee=.builtin .max)(ha:c.args= #[x,y])(hx:bJ g x=some x')(hy:bJ g y=some y'):cN P g o (.WW x' y'):=by
 intro s a G H w v H' hw hs h;have vx:=bG hw hs hx;have vy:=bG hw hs hy;simp only[dE] at h;split at h
 . rename_i k m k' n h1 h2;rw[h1] at vx;rw[h2] at vy;simp only[Ab,Af] at h;obtain⟨rfl,rfl⟩:=h;have eA:=vx.iK;have hyv:=vy.iK;refine cN.pure' hw (u:=.int k (if n>m then n else m)) ?_ (.int _ _);simp[execOp,ho,resolve,hc,ha,invoke,builtin,Builtin.max_,Builtin.max2,eA,hyv]
 cases h
theorem aJy{c:Call}{x y:Operand}{x' y':Arg}(ho:o.op=.call c)(hc:c.callee=.builtin .min)(ha:c.args= #[x,y])(hx:bJ g x=some x')(hy:bJ g y=some y'):cN P g o (.WY x' y'):=by
 intro s a G H w v H' hw hs h;have vx:=bG hw hs hx;have vy:=bG hw hs hy;simp only[dE] at h;split at h
 . rename_i k m k' n h1 h2;rw[h1] at vx;rw[h2] at vy;simp only[Ab,Af] at h;obtain⟨rfl,rfl⟩:=h;have eA:=vx.iK;have hyv:=vy.iK;refine cN.pure' hw (u:=.int k (if n<m then n else m)) ?_ (.int _ _);simp[execOp,ho,resolve,hc,ha,invoke,builtin,Builtin.min_,Builtin.min2,eA,hyv]
 cases h
theorem aJu{c:Call}{x:Operand}{x':Arg}{t e:TypeId}(ho:o.op=.call c)(hc:c.callee=.builtin .len)(ha:c.args= #[x])(hx:bJ g x=some x')(RE:c.argTypes[0]?=some t)
 (ht:P.underlying t=some (.slice e)):cN P g o (.WQ x'):=by
 intro s a G H w v H' hw hs h;have vx:=bG hw hs hx
 have iX:∀p n cap,a.eval x=.slice p n cap->(execOp a.eval o).run P w=.ok (.value (.int .i64 n)) w:=fun p n cap eA=>by simp[execOp,ho,resolve,hc,ha,invoke,builtin,Builtin.len_,RE,run_underlying ht w,eA,goInt]
 simp only[dE] at h;split at h
 . rename_i hid;exact Za4
 . rename_i tag sz els hid;rw[hid] at vx;simp only[Ab,Af] at h;obtain⟨rfl,rfl⟩:=h;generalize eA:a.eval x=u at vx
   cases vx<;>
    exact cN.pure' hw (iX _ _ _ eA) (.int _ _)
 . rename_i id sz off len cap hid;exact Za4
 cases h
theorem tX{op:BinOp}{t:TypeId}{x y:Operand}{u v:Value}(w:World)(h:∀c,u≠ .agg c)(h':u≠ .nilIface):(eqGuard op t x y u v).run P w=.ok () w:=by
 unfold eqGuard
 cases u<;>first
  |exact absurd rfl h'
  |exact absurd rfl (h _)
  |(cases op<;>rfl)
theorem aJo{op:BinOp}{k k':IntKind}{m n:Int}{v:AV}{t:TypeId}(h:qD op k m k' n=some v)(w:World):
 ∃u,(Go.binOp op t (.int k m) (.int k' n)).run P w=.ok u w/\∀G,VR G w v u:=by
 have key:∀{k:IntKind} {z:Int},∀G,VR G w (.int k z) (.int k z):=fun G=>.int _ _;have aWe:∀{z:Bool},∀G,VR G w (.bool z) (.bool z):=fun G=>.bool _;cases op<;>simp only[qD] at h
 all_goals first
  |(split at h<;>first
     |(cases h;done)
     |(rename_i hk
       first
        |(subst hk
          first
           |(obtain rfl:=Aa h
             refine⟨_,?_,key⟩;simp[Go.binOp,Op.intArith]
             done)
           |(obtain rfl:=Aa h
             refine⟨_,?_,aWe⟩;simp[Go.binOp,Op.intCmp]
             done)
           |(simp only[tN] at h
             obtain rfl:=Aa h;refine⟨_,?_,key⟩;simp[Go.binOp,Op.intBits]
             done)
           |(split at h
             . cases h
             rename_i h0;obtain rfl:=Aa h;refine⟨_,?_,key⟩
             simp[Go.binOp,Op.intDiv,h0]))
        |(obtain rfl:=Aa h
          refine⟨_,?_,key⟩;simp[Go.binOp,Op.shift,hk]
          done)))
theorem aJp{op:BinOp}{x y:List UInt8}{v:AV}{t:TypeId}(h:aSx op x y=some v)(w:World):
 ∃u,(Go.binOp op t (.string ⟨x.toArray⟩) (.string ⟨y.toArray⟩)).run P w=.ok u w/\∀G,VR G w v u:=by
 have aWe:∀{z:Bool},∀G,VR G w (.bool z) (.bool z):=fun G=>.bool _;have e1:(⟨x.toArray⟩:ByteArray).toList=x:=ByteArray.toList_mk x;have e2:(⟨y.toArray⟩:ByteArray).toList=y:=ByteArray.toList_mk y;cases op<;>simp only[aSx] at h
 case add=>
  split at h
  . rename_i hle;obtain rfl:=Aa h;refine⟨.string (⟨x.toArray⟩++⟨y.toArray⟩),?_,fun G=>?_⟩
    . have h1:(⟨x.toArray⟩:ByteArray).size=x.length:=(by simp[ByteArray.size]);have h2:(⟨y.toArray⟩:ByteArray).size=y.length:=by simp[ByteArray.size]
      have hm:¬(((⟨x.toArray⟩:ByteArray).size+(⟨y.toArray⟩:ByteArray).size:Nat):Int)>IntKind.i64.max:=by rw[h1,h2];have :IntKind.i64.max=9223372036854775807:=A1;omega
      simp only[Go.binOp,Op.stringOp,if_neg hm];rfl
    have :(⟨x.toArray⟩++⟨y.toArray⟩:ByteArray)=⟨(x++y).toArray⟩:=by apply ByteArray.ext;simp
    rw[this];exact VR.Uf G w _
  cases h
 all_goals first
  |(cases h;done)
  |(obtain rfl:=Aa h
    refine⟨_,?_,aWe⟩;simp only[Go.binOp,Op.stringOp,e1,e2]
    rfl)
theorem aDa{op:BinOp}{t t2:TypeId}{x y:Operand}{x' y':Arg}(ho:o.op=.binOp op t x y t2)(hx:bJ g x=some x')(hy:bJ g y=some y'):cN P g o (.bin op x' y'):=by
 intro s a G H w v H' hw hs h;have vx:=bG hw hs hx;have vy:=bG hw hs hy;simp only[dE] at h;split at h
 . rename_i k m k' n h1 h2;rw[h1] at vx;rw[h2] at vy;have e1:=vx.iK;have e2:=vy.iK;simp only[Ae,Af] at h;obtain⟨v',lB,rfl,rfl⟩:=h;obtain⟨u,hr,hv⟩:=aJo (P:=P) (t:=t) lB w;refine cN.pure' hw (u:=u) ?_ (hv G);have SI:=tX (P:=P) (op:=op) (t:=t) (x:=x) (y:=y) (u:=.int k m) (v:=.int k' n) w (fun c=>by simp) A2;simp[execOp,ho,e1,e2,SI,hr]
 . rename_i m n h1 h2;rw[h1] at vx;rw[h2] at vy;have e1:=vx.iM;have e2:=vy.iM;simp only[Ae,Af] at h;obtain⟨v',lB,rfl,rfl⟩:=h;obtain⟨u,hr,hv⟩:=aJp (P:=P) (t:=t) lB w;refine cN.pure' hw (u:=u) ?_ (hv G);have SI:=tX (P:=P) (op:=op) (t:=t) (x:=x) (y:=y) (u:=.string ⟨m.toArray⟩) (v:=.string ⟨n.toArray⟩) w (fun c=>by simp) A2;simp[execOp,ho,e1,e2,SI,hr]
 cases h
theorem IF(d:Nat){t:TypeId}(ht:P.underlying t=some .bool)(w:World)(m n:Bool):(Op.equalIn (d+1) t (.bool m) (.bool n)).run P w=.ok (m==n) w:=by rw[Op.equalIn];simp only[Sem.run_bind,run_underlying ht w,Result.andThen_ok];rfl
theorem aWq{op:BinOp}{neg:Bool}{t t2:TypeId}{x y:Operand}{x' y':Arg}(ho:o.op=.binOp op t x y t2)(fP:op=if neg then .neq else .eql)(ht:P.underlying t=some .bool)
 (hx:bJ g x=some x') (hy:bJ g y=some y'):cN P g o (.eqb neg x' y'):=by
 intro s a G H w v H' hw hs h;have vx:=bG hw hs hx;have vy:=bG hw hs hy;simp only[dE] at h;split at h
 . rename_i m n h1 h2;rw[h1] at vx;rw[h2] at vy;have e1:=vx.jR;have e2:=vy.jR;simp only[Ab,Af] at h;obtain⟨rfl,rfl⟩:=h;refine cN.pure' hw (u:=.bool (if neg then !(m==n) else(m==n))) ?_ (.bool _);have SI:=tX (P:=P) (op:=op) (t:=t) (x:=x) (y:=y) (u:=.bool m) (v:=.bool n) w (fun c=>by simp) A2
   have heq:(Op.equal t (.bool m) (.bool n)).run P w=.ok (m==n) w:=by exact IF 9999 ht w m n
   subst fP;cases neg<;>simp only[Au,Ca,if_true] at ho SI<;>simp[execOp,ho,e1,e2,SI,Go.binOp,heq]
 cases h
theorem bFn{op:UnOp}{t:TypeId}{x:Operand}{x':Arg}(ho:o.op=.unOp op t x)(hx:bJ g x=some x'):cN P g o (.un op x'):=by
 intro s a G H w v H' hw hs h;have vx:=bG hw hs hx;simp only[dE,Ae,Af] at h;obtain⟨v',lB,rfl,rfl⟩:=h;unfold unA at lB;split at lB
 . rename_i k n h1;rw[h1] at vx;have e1:=vx.iK;split at lB
   . obtain rfl:=Aa lB;exact cN.pure' hw (u:=.int k (k.wrap (0 -n))) (by simp[execOp,ho,e1,Op.unary,Op.intArith]) (.int _ _)
   . simp only[tN] at lB;obtain rfl:=Aa lB;exact cN.pure' hw (u:=.int k _) (by simp[execOp,ho,e1,Op.unary,Op.intBits]) (.int _ _)
   cases lB
 . rename_i b h1;rw[h1] at vx;have e1:=vx.jR;split at lB
   . obtain rfl:=Aa lB;exact cN.pure' hw (u:=.bool !b) (by simp[execOp,ho,e1,Op.unary]) (.bool _)
   cases lB
 cases lB
theorem aDb{src dst:TypeId}{k:IntKind}{d:TypeDesc}{x:Operand}{x':Arg}(ho:o.op=.convert src dst x)(hx:bJ g x=some x')(BL:P.underlying src=some d)
 (hd:P.underlying dst=some (.int k)):cN P g o (.OX k x'):=by
 intro s a G H w v H' hw hs h;have vx:=bG hw hs hx;simp only[dE] at h;split at h
 . rename_i k' n h1;rw[h1] at vx;have e1:=vx.iK;simp only[Ab,Af] at h;obtain⟨rfl,rfl⟩:=h;refine cN.pure' hw (u:=.int k (k.wrap n)) ?_ (.int _ _);simp only[execOp,ho,e1,Go.convert,Sem.run_bind,run_underlying BL w,run_underlying hd w,Result.andThen_ok,Conv.intToInt];rfl
 cases h
theorem aKe{t ti:TypeId}{ok:Bool}{d:TypeDesc}{z:AV}{zv:Value}{x:Operand}{x':Arg}(ho:o.op=.typeAssert x ti t ok)(hx:bJ g x=some x')
 (hd:P.underlying t=some d) (hni:∀ms,d≠ .interface ms) (hz:lX P t=some zv) (hzc:ofConst zv=some z):cN P g o (.bd t ok z x'):=by
 intro s a G H w v H' hw hs h;have vx:=bG hw hs hx;have hzero:=lL hz w;have fx:=GO hzc G w
 have two:∀{p q:AV} {u1 u2:Value},VR G w p u1->VR G w q u2->VR G w (.jZ [p,q]) (.tuple #[u1,u2]):=fun h1 h2=>.jZ [_,_] [_,_] rfl (h1.cons (h2.cons (gW.nil G w))).2
 have hh:∀(y:Value) (r:Value),(Instr.typeAssert y ti t ok).run P w=.ok r w->a.eval x=y->(execOp a.eval o).run P w=.ok (.value r) w:=fun y r hr he=>by simp[execOp,ho,he,hr]
 have rE:∀(ms:Array (String×TypeId)),d=TypeDesc.interface ms->False:=fun ms he=>hni ms he;simp only[dE] at h;split at h
 . rename_i t' y h1;rw[h1] at vx;generalize eA:a.eval x=u at vx
   cases vx with
   |iface _ _ yv hy=>
    split at h
    . rename_i htt;subst htt;simp only[Ab,Af] at h;obtain⟨rfl,rfl⟩:=h;refine cN.pure' hw (u:=if ok then .tuple #[yv,.bool true] else yv) (hh _ _ ?_ eA) (by cases ok<;>simp <;>first|exact hy|exact two hy (.bool true));unfold Instr.typeAssert;simp only[Sem.run_bind,run_underlying hd w,Result.andThen_ok]
      cases d<;>first|exact absurd rfl (hni _)|simp
    rename_i htt;split at h
    . rename_i NO;simp only[Ab,Af] at h;obtain⟨rfl,rfl⟩:=h;refine cN.pure' hw (u:=.tuple #[zv,.bool false]) (hh _ _ ?_ eA) (two fx (.bool false));unfold Instr.typeAssert;simp only[Sem.run_bind,run_underlying hd w,Result.andThen_ok]
      cases d<;>first|exact absurd rfl (hni _)|simp[htt,NO,hzero]
    cases h
 . rename_i h1;rw[h1] at vx;generalize eA:a.eval x=u at vx;cases vx;split at h
   . rename_i NO;simp only[Ab,Af] at h;obtain⟨rfl,rfl⟩:=h;refine cN.pure' hw (u:=.tuple #[zv,.bool false]) (hh _ _ ?_ eA) (two fx (.bool false));unfold Instr.typeAssert;simp only[Sem.run_bind,run_underlying hd w,Result.andThen_ok]
     cases d<;>first|exact absurd rfl (hni _)|simp[NO,hzero]
   cases h
 cases h
end
end
end Go.Av
