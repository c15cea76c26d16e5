/-
  Part of the proof of statement 9
-/
import Derived.Calls
import Derived.Orders
import Derived.Laws.Sem
import Derived.Laws.Cells
import Derived.Laws.Entries
import Derived.Laws.Strings
import Derived.Laws.StructEq
import Derived.ChangeKeysEq
set_option linter.unusedVariables false
set_option linter.unusedSimpArgs false
set_option linter.defProp false
namespace Go
def Aa:=@Option.some.inj
def Ab:=@decide_eq_false
def Ac:=@List.getElem_mem
def Ad:=@Option.map_eq_some_iff
def Ae:=@Nat.le_refl
def Af:=@List.getElem?_eq_getElem
def Ag:=@decide_eq_true
def Ah:=@List.length_map
def Ai:=@Nat.le_of_ble_eq_true
def Aj:=@Option.some.injEq
def Ak:=@Bool.and_eq_true
def Al:=@Nat.not_lt_zero
def Am:=@congrArg
def An:=@List.length_append
def Ao:=@List.take_add_one
def Ap:=@Prod.mk.injEq
def Aq:=@List.take_length
def Ar:=@List.mem_append
def As:=@List.mem_cons_of_mem
def Au:=@List.take_of_length_le
def Aw:=@decide_eq_decide
def Ax:=@List.mem_range
def Ay:=@Nat.le_trans
def Az:=@List.mem_cons_self
def Ba:=@List.length_cons
def Bb:=@List.mem_map
def Bc:=@List.drop_of_length_le
def Bd:=@List.mem_cons
def Be:=@Nat.mul_le_mul
def Bf:=@Nat.mul_le_mul_right
def Bg:=@Nat.lt_of_lt_of_le
def Bh:=@List.all_eq_true
def Bi:=@Option.isSome_some
def Bj:=@List.getElem?_eq_some_iff
def Bk:=@Nat.zero_le
def Bl:=@Nat.mod_eq_of_lt
def Bm:=@Nat.add_assoc
def Bn:=@Nat.lt_of_le_of_lt
def Bo:=@Nat.add_mul
def Br:=@decide_eq_true_eq
def Bs:=@Bool.false_eq_true
def Bt:=@Nat.lt_trans
def Bu:=@Nat.pow_le_pow_right
def Bv:=@List.length_range
def Bw:=@List.mem_singleton
def Bx:=@List.append_nil
def By:=@Option.getD_some
def Bz:=@Nat.mod_lt
def Ca:=@List.length_nil
def Cb:=@List.take_append_of_le_length
def Cc:=@Nat.mul_comm
def Cd:=@List.map_append
def Ce:=@decide_eq_false_iff_not
def Cf:=@Nat.mul_assoc
def Cg:=@List.map_cons
def Ch:=@Nat.eq_of_beq_eq_true
def Ci:=@List.not_mem_nil
def Cj:=@List.any_eq_true
def Ck:=@List.pairwise_cons
def Cl:=@List.flatten_cons
def Cm:=@List.eq_nil_of_length_eq_zero
def Cn:=@Nat.div_lt_iff_lt_mul
def Co:=@Option.isSome_none
def Cp:=@Int.natAbs_natCast
def Cq:=@Classical.byContradiction
def Cr:=@List.getElem_map
def Cs:=@Array.getD_eq_getD_getElem?
def Ct:=@Option.map_some
def Cu:=@List.getElem?_eq_none
def Cv:=@if_false
def Cw:=@List.mem_of_mem_take
def Cx:=@Bool.not_eq_true'
def Cy:=@beq_eq_false_iff_ne
def Cz:=@List.getElem_of_mem
def Da:=@List.map_map
def Db:=@List.length_filter_le
def Dc:=@Bool.eq_iff_iff
def Dd:=@List.map_congr_left
def De:=@Nat.pow_succ
def Df:=@Nat.mul_one
def Dg:=@List.append_assoc
def Dh:=@List.getD_eq_getElem?_getD
def Di:=@Nat.add_zero
def Dj:=@List.getD_cons_zero
def Dk:=@Bool.true_and
def Dl:=@beq_iff_eq
def Dm:=@Nat.succ_mul
def Dn:=@Nat.div_div_eq_div_mul
def Dp:=@List.getElem?_append
def Dq:=@Int.gcd_dvd_right
def Dr:=@Nat.mul_le_mul_left
def Ds:=@List.range_succ
def Dt:=@List.nil_append
def Du:=@Nat.div_eq_of_lt
def Dv:=@of_decide_eq_true
def Dw:=@List.flatMap_cons
def Dx:=@Int.mul_le_mul_of_nonneg_left
def Dy:=@Nat.div_add_mod
def Ea:=@Bool.or_eq_true
def Eb:=@Option.getD_none
def Ec:=@Nat.lt_irrefl
def Ed:=@List.mem_flatMap
def Ee:=@Bool.and_self
def Ef:=@Array.length_toList
def Eg:=@List.getElem?_map
def Eh:=@List.any_eq_false
def Ei:=@of_decide_eq_false
def Ej:=@Nat.pow_add
def Ek:=@List.exists_cons_of_ne_nil
def El:=@Int.natAbs_mul
def Em:=@Nat.zero_add
def En:=@Int.gcd_dvd_left
def Eo:=@List.pairwise_map
def Ep:=@List.drop_append_of_le_length
def Er:=@Nat.lt_or_ge
def Es:=@Int.lt_or_eq_of_le
def Et:=@List.length_take
def Eu:=@List.drop_append
def Ev:=@Int.mul_pos
def Ew:=@Bool.not_eq_true
def Ex:=@Int.mul_lt_mul_of_pos_right
def Ey:=@Bool.not_false
def Ez:=@Array.getElem?_eq_some_iff
def Fa:=@List.flatten_append
def Fb:=@List.drop_eq_getElem_cons
def Fc:=@Decidable.byContradiction
def Fe:=@or_false
def Ff:=@List.getElem?_toArray
def Fg:=@Nat.lt_succ_self
def Fh:=@List.ext_getElem
def Fj:=@List.eq_nil_iff_forall_not_mem
def Fk:=@Nat.one_mul
def Fl:=@Nat.add_mul_div_left
def Fm:=@List.drop_zero
def Fo:=@not_false_eq_true
def Fp:=@List.getElem?_cons_succ
def Fq:=@Int.lt_trichotomy
def Fs:=@Nat.div_le_self
def Ft:=@List.mem_filter
def Fu:=@List.map_eq_nil_iff
def Fv:=@List.map_id
def Fx:=@Int.tmod_eq_emod_of_nonneg
def Fy:=@List.pairwise_iff_getElem
def Fz:=@Nat.mul_add
def Ga:=@List.ext_getElem?
def Gb:=@Int.mul_zero
def Gc:=@bne_iff_ne
def Gd:=@List.Pairwise.imp_of_mem
def Ge:=@Bool.not_true
def Gf:=@List.take_succ_cons
def Gg:=@List.flatMap_append
def Gi:=@List.length_drop
def Gj:=@List.getElem?_cons_zero
def Gk:=@List.cons_append
def Gl:=@Nat.pow_pos
def Gm:=@Nat.le_succ
def Gn:=@Int.neg_mul
def Gp:=@Nat.zero_mul
def Gq:=@Nat.pow_zero
def Gr:=@Nat.le_mul_of_pos_left
def Gs:=@Int.dvd_trans
def Gt:=@Array.getElem?_modify
def Gu:=@List.size_toArray
def Gv:=@List.Pairwise.imp
def Gw:=@decide_true
def Gx:=@List.mem_of_mem_drop
def Gy:=@List.mem_iff_getElem
def Gz:=@Int.tdiv_eq_ediv_of_nonneg
def Hd:=@Int.mul_nonneg
def Hg:=@beq_self_eq_true
def Hh:=@List.take_append
def Hi:=@List.map_nil
def Hj:=@Int.mul_comm
def Hk:=@List.length_pos_iff
def Hl:=@List.getD_cons_succ
def Hn:=@List.eq_of_mem_replicate
def Ho:=@Nat.eq_zero_or_pos
def Hq:=@List.getElem_range
def Hr:=@List.find?_eq_none
def Ht:=@Nat.div_one
def Hu:=@Nat.add_left_cancel_iff
def Hv:=@List.length_eq_zero_iff
def Hw:=@List.getElem?_replicate
def Hx:=@Int.tdiv_eq_ediv_of_dvd
def Hy:=@Nat.sub_zero
def Hz:=@Nat.lt_trichotomy
def Ia:=@List.take_zero
def Ib:=@List.pairwise_lt_range
def Ic:=@List.foldl_append
def Ie:=@List.all_eq_false
def Ig:=@Int.le_of_lt
def Ih:=@List.take_append_drop
def Ii:=@Bool.beq_eq_decide_eq
def Ij:=@decide_not
def Ik:=@Nat.mul_lt_mul''
def Il:=@Nat.le_add_right
def Im:=@Nat.blt_eq
def Io:=@Array.toList_map
def Ip:=@Nat.mod_one
def Iq:=@Bool.or_eq_false_iff
def Ir:=@Nat.min_le_left
def Is:=@List.any_append
def It:=@Nat.div_mul_le_self
def Iu:=@List.replicate_succ
def Iv:=@List.drop_succ_cons
def Iw:=@decide_false
def Ix:=@Nat.gcd_comm
def Iy:=@Nat.add_comm
def Iz:=@decide_eq_true_iff
def Ja:=@Nat.mul_right_comm
def Jb:=@List.mem_filterMap
def Jc:=@List.getElem?_append_right
def Jd:=@List.filter_append
def Je:=@List.drop_drop
def Jf:=@Int.sub_eq_add_neg
def Jg:=@Int.natAbs_neg
def Jh:=@Int.lt_or_gt_of_ne
def Ji:=@BitVec.toNat_ofNat
def Jj:=@List.mem_of_find?_eq_some
def Jk:=@List.getElem?_append_left
def Jl:=@Int.mul_pos_of_neg_of_neg
def Jm:=@Int.mul_neg_of_pos_of_neg
def Jn:=@Int.eq_of_mul_eq_mul_left
def Jo:=@bne_self_eq_false
def Jp:=@Nat.mul_pos
def Jq:=@Nat.div_pos
def Jr:=@Nat.pow_succ'
def Js:=@Int.mul_ediv_cancel_left
def Jt:=@Bool.and_true
def Ju:=@true_and
def Jv:=@Nat.le_of_not_lt
def Jw:=@List.filter_cons
def Jx:=@List.drop_length
def Jy:=@Int.zero_mul
def Jz:=@Int.ne_of_gt
def Ka:=@Array.toList_replicate
def Kb:=@Nat.mod_add_div
def Kc:=@List.length_set
def Kd:=@List.filter_nil
def Ke:=@Int.mul_eq_zero
def Kh:=@List.sizeOf_lt_of_mem
def Ki:=@List.length_replicate
def Kk:=@Classical.choose_spec
def Kl:=@Bool.and_eq_false_iff
def Km:=@List.range_eq_range'
def Kn:=@Int.mul_neg
def Ko:=@Int.mul_ediv_cancel'
def Kq:=@List.getElem?_range
def Kr:=@Int.gcd_eq_zero_iff
def Ky:=@Array.toList_append
def Lc:=@List.drop_nil
def Ld:=@Bool.or_false
variable{p:Prop}
theorem A0(h:p:=by omega):p:=h
theorem A1(h:p:=by decide):p:=h
theorem A2(h:p:=by simp):p:=h
theorem Zaa{p:Prop}(h:p:=by exact⟨rfl,_,by simp only[↓zP,zR,seval];rfl,rfl⟩):p:=h
theorem Zab{p:Prop}(h:p:=by simp[eJ.args]):p:=h
theorem Zac{p:Prop}(h:p:=by simp only[sf]):p:=h
theorem Zad{p:Prop}(h:p:=by
 generalize hZ:aA.set _ (H1.next+4) _=HZ;have hz:Over D HZ:=(by subst hZ;exact(((((((((Over.refl D).alloc _).alloc _).set A0 _).set A0 _).alloc _).alloc _).set A0 _).set A0 _));clear hZ;have ak:=hz.le;refine⟨rfl,_,_,by rw[aA.aH,if_neg A1];exact(hz.same 6 A0).trans z6,by rw[a6];rfl,?_,by simp only[aA.aZ];omega,fun j O Z=>?_⟩
 . rw[a6,if_pos rfl];exact⟨by rw[aA.aH,if_neg A1,aA.aH,if_pos rfl],by simp only[aA.aZ];omega,by rw[aA.aH,if_neg A1,aA.aH,if_neg A1];exact(hz.same 5 A0).trans ((zo 5 A1 A0).trans c),_,_,by rw[aA.aH,if_pos rfl]⟩
 by_cases j6:j=6
 . omega
 rw[aA.aH,if_neg j6,aA.aH,if_neg A0];exact(hz.same j A0).trans (zo j j6 Z)):p:=h
theorem Zae{p:Prop}(h:p:=by simp only[sf,bV]):p:=h
theorem Zaf{p:Prop}(h:p:=by simp;omega):p:=h
theorem Zag{p:Prop}(h:p:=by simp only[↓zP,zJ,seval,U,h,d,C,R,F,oL F];refine⟨rfl,_,by simp only[↓zP,zR,seval,U,h,R,oL (R _)];rfl,?_⟩;rw[e];rfl):p:=h
theorem Zah{p:Prop}(h:p:=by
 refine aJ ?_;refine bP ?_;refine Wy ?_;refine bQ ?_;refine Dz ?_;simp only[↓zP,zJ,seval,zD,k2,k3,aD,a,g0,g,jC P,jC n,D,b,show k*36+36<=108 by omega];refine gH (mk _) ?_;simp only[↓zP,zJ,seval,zD,k2,aD,a,g0,W,jC P,show k*36+36<=108 by omega];rw[RL P a (W _)];refine⟨Am (fun l=>eG.cells l false) (iJ fun j _=>?_),g,o⟩;by_cases h:j=k
 . subst h;rw[if_pos rfl,if_pos A0]
 rw[if_neg h];by_cases Z:j<k
 . rw[if_pos Z,if_pos A0]
 rw[if_neg Z,if_neg A0]):p:=h
theorem Zai{p:Prop}(h:p:=by
 dsimp only;have hd:=QA I X;have p:=I.len;have S:=X.len;have F:(AV.bool false::AV.bool false::wC zs).length=18:=by simp[cE];rfl
 have R:∀z,(cO z).length=18:=fun z=>jU z;generalize pM x y=d at *;refine bP ?_;refine Ty ?_;refine bQ ?_;simp only[↓zP,zJ,seval,oL p,oL S];refine fC (hd _) ?_;simp only[↓zP,zJ,seval,R,F,oL F,oL (R _)];refine⟨rfl,_,by simp only[↓zP,zR,seval,R,oL (R _)];rfl,?_⟩;rfl):p:=h
theorem Zaj{p:Prop}(h:p:=by simp only[sf,dG]):p:=h
theorem Zak{p:Prop}(h:p:=by
 dsimp only;refine Tz ?_;refine cL [3] (fun i vs H'=>vs=[.bE]) 0 0 (Bk _) A0 A1 ?_ ?_ ?_ ?_ ?_
 . exact zq
 . simp only[sm,zB,seval]
 . rintro i f H1 o F E T J;have A:f 0=.bE:=E 0 rfl;simp only[↓zP,zG,seval,T,A];exact tB A0
 . rintro i f H1 o F E;exact absurd F (Al _)
 rintro f H1 E J;simp only[zM] at J;simp only[↓zP,seval,J];refine Rx ?_;rfl):p:=h
theorem Zal{p:Prop}(h:p:=by
 rw[if_neg h];by_cases Z:j<k
 . rw[if_pos Z,if_pos A0]
 rw[if_neg Z,if_neg A0]):p:=h
theorem Zam{p:Prop}(h:p:=by
 rw[Ao,Ar] at J
 rcases J with h|h
 . exact .inl h
 simp[F] at h;exact .inr h):p:=h
theorem Zan{p:Prop}(h:p:=by subst G;simp only[aA.aZ,aA.bK];omega):p:=h
theorem Zao{p:Prop}(h:p:=by simp only[aA.bK];omega):p:=h
theorem Zap{p:Prop}(h:p:=by refine Tx ?_;apply hK;clear hK K;have :=oL (jC P);have :=oL rO;refine Wz ?_;refine⟨rfl,_,by simp only[↓zP,zR,seval,k4,oL (jC P)];rfl,?_⟩;rfl):p:=h
theorem Zaq{p:Prop}(h:p:=by simp only[sf,I.free,X.free]):p:=h
theorem Zar{p:Prop}(h:p:=by
 rcases qo with ⟨rfl,h⟩|⟨k,rfl,O,Z⟩
 . rw[h];rfl
 have cU:¬bR (gZ C S L)=[]:=fun h=>by have :=qe (by simpa [bR] using h);cases this
 rw[show mB 3 (bR (gZ C S L))=.bJ 0 3 (bR (gZ C S L)) from if_neg cU];have uK:fN (bR (gZ C S L))=true:=dP bV _;simp[jB,NS,mJ,uK,GY,nN,AV.free]):p:=h
theorem Zas{p:Prop}(h:p:=by rw[S.1];omega):p:=h
theorem Zat{p:Prop}(h:p:=by simp only[sf,cS]):p:=h
theorem Zau{p:Prop}(h:p:=by simp only[sf,J.free,L.free]):p:=h
theorem Zav{p:Prop}(h:p:=by simp only[AV.free,dG]):p:=h
theorem Zaw{p:Prop}(h:p:=by simp only[sf];exact dZ fun i _=>cS _):p:=h
theorem Zax{p:Prop}(h:p:=by refine⟨rfl,_,by simp only[↓zP,zR,seval,E 2 rfl];rfl,?_⟩;rw[hO];exact⟨_,2,rfl,fun d=>rfl⟩):p:=h
theorem Zay{p:Prop}(h:p:=by apply n;clear n K2;refine Wz ?_;refine⟨rfl,_,by simp only[↓zP,zR,seval,u2];rfl,?_⟩;rw[show iW l C S L=(.bE,1) from (if_neg Xn).trans (if_pos (LR A0))];exact⟨_,2,rfl,fun nw=>rfl⟩):p:=h
theorem Zaz{p:Prop}(h:p:=by rename_i d;rw[d] at W;generalize f:a.eval x=u at W;cases W;simp only[Aj,Ap] at h;obtain⟨rfl,rfl⟩:=h;exact cV.pure' L (b f (by simp[Builtin.clear_,O,run_underlying q w])) (VR.oV G w)):p:=h
theorem ZaA{p:Prop}(h:p:=by simp only[sm,Nh,ne_eq,Nat.reduceEqDiff,Fo];exact rfl):p:=h
theorem ZaB{p:Prop}(h:p:=by refine fC (Nf (decide (z<0)) U _) ?_;simp only[↓zP,zJ,Nat.reduceEqDiff,Nat.reduceAdd,iL U,y,fs];exact⟨rfl,_,by simp only[↓zP,zR,Nat.reduceEqDiff,Nat.reduceAdd,iL U];rfl,rfl⟩):p:=h
theorem ZaC{p:Prop}(h:p:=by exact⟨.bE,by simp only[sm,zB,seval],.nil _ _,by simp only[zI,seval],by simp only[zI,seval]⟩):p:=h
theorem ZaD{p:Prop}(h:p:=by refine Rx ?_;rfl):p:=h
theorem ZaE{p:Prop}(h:p:=by subst h;rw[if_pos rfl,if_pos A0]):p:=h
theorem ZaF{p:Prop}(h:p:=by refine⟨rfl,_,by simp only[↓zP,zR,seval,N 2 rfl,E 2 rfl];rfl,?_⟩;rw[show iW l C S L=(.bE,1) from (if_neg Xn).trans (if_pos (z A0))];exact⟨_,2,rfl,fun d=>rfl⟩):p:=h
theorem ZaG{p:Prop}(h:p:=by simp only[sm,Nh,Nat.reduceEqDiff,fD];exact rfl):p:=h
theorem ZaH{p:Prop}(h:p:=by refine bQ ?_;refine Tx ?_;refine⟨rfl,_,by simp only[↓zP,zR,seval,E];rfl,?_⟩;rfl):p:=h
theorem ZaI{p:Prop}(h:p:=by
 constructor
 . rintro(h|h|h)
   . exact .inr (.inl h)
   . exact .inl h
   exact .inr (.inr h)
 rintro(h|h|h)
 . exact .inr (.inl h)
 . exact .inl h
 exact .inr (.inr h)):p:=h
theorem ZaJ{p:Prop}(h:p:=by simp only[sf,cT q]):p:=h
theorem ZaK{p:Prop}(h:p:=by simp only[↓zP,zG,seval,T];exact tB A0):p:=h
theorem ZaL{p:Prop}(h:p:=by simp only[Aj,Ap] at h ⊢;simp_all):p:=h
theorem ZaM{p:Prop}(h:p:=by simp only[zB,Nat.reduceEqDiff]):p:=h
theorem ZaN{p:Prop}(h:p:=by split<;>omega):p:=h
theorem ZaO{p:Prop}(h:p:=by simp only[sf,I.free]):p:=h
theorem ZaP{p:Prop}(h:p:=by refine key _ ?_ ?_ ?_ ?_<;>simp only[zB,seval,s,f3,f4,j]):p:=h
theorem ZaQ{p:Prop}(h:p:=by rename_i hu;simp only[Sem.run_bind,run_underlying hu w,Result.andThen_ok];rfl):p:=h
theorem ZaR{p:Prop}(h:p:=by rw[aA.aH,if_pos rfl]):p:=h
theorem ZaS{p:Prop}(h:p:=by
 obtain⟨O,vs,Z,W⟩:=q;refine y _ W (eW (fun e s d h X=>?_) n);obtain⟨rfl,rfl|⟨_,x,C⟩,rfl,rfl⟩:=X
 . exact⟨O,vs,Z,rfl,rfl⟩
 grind):p:=h
theorem ZaT{p:Prop}(h:p:=by simp only[sf];exact dZ fun i _=>dG _):p:=h
theorem ZaU{p:Prop}(h:p:=by simp only[sK,Ky,Ka,Gu,Q,h4];refine J.append ⟨by simp,fun j Y=>?_⟩;simp only[Ki] at Y;simp only[Dh,Hw,Y,if_true,By];exact VR.oV G w):p:=h
theorem ZaV{p:Prop}(h:p:=by rw[J];decide):p:=h
theorem ZaW{p:Prop}(h:p:=by exact⟨trivial,trivial,Am AV.bool (Ab A0).symm⟩):p:=h
theorem ZaX{p:Prop}(h:p:=by simp only[sm,zB,seval]):p:=h
theorem ZaY{p:Prop}(h:p:=by simp only[zI,seval];omega):p:=h
theorem ZaZ{p:Prop}(h:p:=by
 refine Tx ?_;refine⟨fun v J=>?_,FP,Le⟩
 rcases hx v J with h|rfl
 . exact iG v h
 simp only[ey,Bh,Ax,Br];exact fun c h=>R c h):p:=h
theorem Za0{p:Prop}(h:p:=by simpa using Y):p:=h
theorem Za1{p:Prop}(h:p:=by simp only[sf,cT ht]):p:=h
theorem Za2{p:Prop}(h:p:=by obtain⟨q,m,A,c,seen,es,N,O,Z,W,h4,M⟩:=h;exact⟨q,m,A,c,seen,es,N,O,Z,W,fun k=>z D (h4 k),fun j k1 k2=>z D (M j k1 k2)⟩):p:=h
theorem Za3{p:Prop}(h:p:=by simp only[zB];rfl):p:=h
theorem Za4{p:Prop}(h:p:=by refine⟨rfl,_,by simp only[↓zP,zR,seval,U];rfl,?_⟩;rw[V];rfl):p:=h
theorem Za5{p:Prop}(h:p:=by
 simp only[dS] at h ⊢;split at h
 . rename_i O Z;simp only[Aj,Ap] at h;obtain⟨rfl,rfl⟩:=h;exact⟨rfl,rfl⟩
 cases h):p:=h
theorem Za6{p:Prop}(h:p:=by
 rw[E 0 rfl];simp only[zB,seval,fD,Dj]
 rcases kZ L S with ⟨h,e⟩|⟨h,e⟩
 . rw[h] at F;exact absurd F (Al _)
 exact e):p:=h
theorem Za7{p:Prop}(h:p:=by
 split at h
 . obtain rfl:=Aa h;cases w
 cases h):p:=h
theorem Za8{p:Prop}(h:p:=by simp only[sf,dZ fun i _=>dG _]):p:=h
theorem Za9{p:Prop}(h:p:=by simp only[eJ.args,Bd,Ar];exact .inr (.inl Q)):p:=h
theorem Zba{p:Prop}(h:p:=by rw[GR] at I';exact ih _ _ _ _ _ _ _ Td I' z):p:=h
theorem Zbb{p:Prop}(h:p:=by simp only[zB,seval];exact v7):p:=h
theorem Zbc{p:Prop}(h:p:=by simp only[zB,seval];exact g4):p:=h
theorem Zbd{p:Prop}(h:p:=by simp only[zB,seval];exact g3):p:=h
theorem Zbe{p:Prop}(h:p:=by simp only[zB,seval];exact g0):p:=h
theorem Zbf{p:Prop}(h:p:=by rw[d] at W;obtain⟨rfl,rfl⟩:=h;generalize f:a.eval x=u at W;cases W;exact cV.pure' L (z _ _ _ f) (.int _ _)):p:=h
theorem Zbg{p:Prop}(h:p:=by simp only[vec,sub,V.mk.injEq] at this;exact V.ext' A0 A0 A0):p:=h
theorem Zbh{p:Prop}(h:p:=by refine⟨rfl,_,by simp only[↓zP,zR,seval,e];rfl,?_⟩;rfl):p:=h
theorem Zbi{p:Prop}(h:p:=by unfold tW at *;omega):p:=h
theorem Zbj{p:Prop}(h:p:=by simp only[sf,J.free]):p:=h
theorem Zbk{p:Prop}(h:p:=by simp only[zB,seval];exact P):p:=h
theorem Zbl{p:Prop}(h:p:=by simp only[zB,seval];exact L):p:=h
theorem Zbm{p:Prop}(h:p:=by rw[gA 5 rfl];simp only[zB,seval];exact u5):p:=h
theorem Zbn{p:Prop}(h:p:=by refine⟨rfl,_,by simp only[↓zP,zR,seval];rfl,?_⟩;rfl):p:=h
theorem Zbo{p:Prop}(h:p:=by simp only[dH,dot,aY];grind):p:=h
theorem Zbp{p:Prop}(h:p:=by rw[u 6 rfl];simp only[zB,seval];exact w6):p:=h
theorem Zbq{p:Prop}(h:p:=by rw[gA 5 rfl];simp only[zB,seval];exact P):p:=h
theorem Zbr{p:Prop}(h:p:=by rw[E 5 rfl];simp only[zB,seval];exact f5):p:=h
theorem Zbs{p:Prop}(h:p:=by rw[E 4 rfl];simp only[zB,seval];exact k4):p:=h
theorem Zbt{p:Prop}(h:p:=by rw[E 3 rfl];simp only[zB,seval];exact f3):p:=h
theorem Zbu{p:Prop}(h:p:=by rw[E 3 rfl];simp only[zB,seval];exact c):p:=h
theorem Zbv{p:Prop}(h:p:=by rw[Bm,<-Bo];congr 2;omega):p:=h
theorem Zbw{p:Prop}(h:p:=by
 obtain⟨rfl,rfl⟩:=h;have :=y _ _ _ rfl Q E (fun N=>by rw[m] at N;cases N) k
 rwa [if_pos m] at this):p:=h
theorem Zbx{p:Prop}(h:p:=by simp only[↓zP,zG,seval]):p:=h
theorem Zby{p:Prop}(h:p:=by rw[e] at h;exact h):p:=h
theorem Zbz{p:Prop}(h:p:=by refine ab _ HC r a7 A0 ?_ ?_ ?_ ?_ ?_ g d C w (by rw[a6];exact X)<;>simp only[zB,seval,k3,k4,k5,e,a]):p:=h
theorem ZbA{p:Prop}(h:p:=by
 obtain⟨rfl,rfl⟩:=h;have :=y _ _ _ f Q E (fun N=>by rw[m] at N;cases N) k
 rwa [if_pos m] at this):p:=h
theorem ZbB{p:Prop}(h:p:=by exact⟨rfl,fun j Y=>absurd Y (Al _)⟩):p:=h
theorem ZbC{p:Prop}(h:p:=by rw[fG];decide):p:=h
theorem ZbD{p:Prop}(h:p:=by obtain⟨rfl,rfl⟩:=h;exact⟨rfl,rfl,k2,Z,M,rfl⟩):p:=h
theorem ZbE{p:Prop}(h:p:=by refine⟨rfl,_,by simp only[↓zP,zR,seval,Q];rfl,?_⟩;rw[hO];exact⟨_,2,rfl,fun nw=>rfl⟩):p:=h
theorem ZbF{p:Prop}(h:p:=by exact D.Rc j e ((K.cmp e j b r q2 q3 V (I.YU D K Y T)).2.2.2.2 q4 t) r b V q3 L q5 _ (.inl d)):p:=h
theorem ZbG{p:Prop}(h:p:=by simp only[sf,sP]):p:=h
theorem ZbH{p:Prop}(h:p:=by simp only[aA.aZ];omega):p:=h
theorem ZbI{p:Prop}(h:p:=by obtain⟨q,m,A,c,seen,es,N,j,O,Z,W,h4,M⟩:=h;exact⟨q,m,A,c,seen,es,N,j,O,Z,W,h4,z D M⟩):p:=h
theorem ZbJ{p:Prop}(h:p:=by exact⟨rfl,rfl⟩):p:=h
theorem ZbK{p:Prop}(h:p:=by subst G;rw[aA.aH,if_neg A0,aA.aH,if_neg A0,aA.aH,if_neg A0,aA.aH,if_neg A0,P];exact this):p:=h
theorem ZbL{p:Prop}(h:p:=by simpa using Q.2):p:=h
theorem ZbM{p:Prop}(h:p:=by simp only[zB,seval,aU]):p:=h
theorem ZbN{p:Prop}(h:p:=by simp only[sf,dZ fun i F=>(I i F).free,dZ fun i F=>(X i F).free]):p:=h
theorem ZbO{p:Prop}(h:p:=by
 by_cases e:j=i
 . subst e;exact h
 exact r j A0 U):p:=h
theorem ZbP{p:Prop}(h:p:=by subst G;simp only[aA.aZ];omega):p:=h
theorem ZbQ{p:Prop}(h:p:=by subst G;simp only[aA.aZ,aA.bK]):p:=h
theorem ZbR{p:Prop}(h:p:=by simp only[↓zP,zJ,Nat.reduceLT,T];exact tB A0):p:=h
theorem ZbS{p:Prop}(h:p:=by refine Wz ?_;refine⟨rfl,_,by simp only[↓zP,zR,seval,j4,t];rfl,?_⟩;rw[<-V];rfl):p:=h
theorem ZbT{p:Prop}(h:p:=by obtain⟨m,es,O,Z,W⟩:=h;exact⟨m,es,O,Z,fun N c A k1 k2=>z D (W N c A k1 k2)⟩):p:=h
theorem ZbU{p:Prop}(h:p:=by rw[if_neg A0,if_pos A0];rfl):p:=h
theorem ZbV{p:Prop}(h:p:=by
 rename_i f R;split at h
 . rename_i s a N i;cases h;exact⟨c,f,S,R,N,i⟩
 cases h):p:=h
theorem ZbW{p:Prop}(h:p:=by
 obtain⟨v,J⟩:=h.jJ _ _ F;have :=sY J
 grind):p:=h
theorem ZbX{p:Prop}(h:p:=by
 obtain⟨t,O,Z⟩:=h;refine⟨t,O,?_⟩
 grind):p:=h
theorem ZbY{p:Prop}(h:p:=by simpa using B):p:=h
theorem ZbZ{p:Prop}(h:p:=by simp only[zB,seval];exact e1):p:=h
theorem Zb0{p:Prop}(h:p:=by simp only[zB,seval];exact ab):p:=h
theorem Zb1{p:Prop}(h:p:=by rw[aU,Ba,Ca];omega):p:=h
theorem Zb2{p:Prop}(h:p:=by rw[CZ];intro h;rcases h with h|h;exact Ei O h;exact Ei Z h):p:=h
theorem Zb3{p:Prop}(h:p:=by decide+kernel):p:=h
theorem Zb4{p:Prop}(h:p:=by rw[d];intro h;rcases h with h|h;exact Ei O h;exact Ei Z h):p:=h
theorem Zb5{p:Prop}(h:p:=by exact⟨rfl,by simp only[sm,zB,seval];rfl⟩):p:=h
theorem Zb6{p:Prop}(h:p:=by simp only[zB,seval];exact A):p:=h
theorem Zb7{p:Prop}(h:p:=by exact⟨fun v J=>by simp at J,by simp only[zI,seval],by simp only[zI,seval]⟩):p:=h
theorem Zb8{p:Prop}(h:p:=by cases ok<;>simp <;>first|exact V|exact J V (.bool false)):p:=h
theorem Zb9{p:Prop}(h:p:=by rw[this];simp only[lL,hr,Result.andThen_ok]):p:=h
theorem Zca{p:Prop}(h:p:=by rw[<-Ij,Aw];omega):p:=h
theorem Zcb{p:Prop}(h:p:=by refine⟨a1,Q,s,i,fun j Y=>?_⟩;obtain⟨u,K,J⟩:=M j Y;exact⟨u,K,p J⟩):p:=h
theorem Zcc{p:Prop}(h:p:=by subst G;rw[aA.aH,if_neg Zc,aA.aI,if_neg Zc];exact g0):p:=h
theorem Zcd{p:Prop}(h:p:=by simp only[eJ.args,Bd,Ar];exact .inr (.inr (.inr Q))):p:=h
theorem Zce{p:Prop}(h:p:=by simp only[eJ.args,Bd,Ar];exact .inr (.inr (.inl Q))):p:=h
theorem Zcf{p:Prop}(h:p:=by subst G;rw[aA.aH,if_neg b,aA.aI,if_neg b];exact g0):p:=h
theorem Zcg{p:Prop}(h:p:=by rw[Rs (k:=.u32) rfl];simp only[IntKind.bits];omega):p:=h
theorem Zch{p:Prop}(h:p:=by rw[E 6 rfl];simp only[zB,Nat.reduceEqDiff];exact L):p:=h
theorem Zci{p:Prop}(h:p:=by rw[E 5 rfl];simp only[zB,Nat.reduceEqDiff];exact j):p:=h
theorem Zcj{p:Prop}(h:p:=by rw[<-(Ln m U).1];exact Z):p:=h
theorem Zck{p:Prop}(h:p:=by simpa using N.2):p:=h
theorem Zcl{p:Prop}(h:p:=by simp only[sf,cT (show Nat.blt 0 2=true from rfl)]):p:=h
theorem Zcm{p:Prop}(h:p:=by rw[S.1];exact m):p:=h
theorem Zcn{p:Prop}(h:p:=by refine⟨rfl,_,by simp only[↓zP,zR,seval,k4,R,oL (R _)];rfl,?_⟩;rfl):p:=h
theorem Zco{p:Prop}(h:p:=by simp only[zB,seval];rfl):p:=h
theorem Zcp{p:Prop}(h:p:=by
 dsimp only;simp only[↓zP,zJ,seval,cG,AR,w1,w2,G]
 (refine Rx ?_;rfl)):p:=h
theorem Zcq{p:Prop}(h:p:=by simp only[↓zP,zJ,Nat.reduceLT,Nat.reduceEqDiff,T,A,aU];exact tB A0):p:=h
theorem Zcr{p:Prop}(h:p:=by simp only[Ba,Ca];omega):p:=h
theorem Zcs{p:Prop}(h:p:=by rw[VO (CH rfl)];decide):p:=h
theorem Zct{p:Prop}(h:p:=by exact⟨trivial,trivial,Am AV.bool (Aw.2 (by simp at R;simp[R]))⟩):p:=h
theorem Zcu{p:Prop}(h:p:=by exact⟨trivial,trivial,Am AV.bool (Aw.2 (by simp at F;simp[F]))⟩):p:=h
theorem Zcv{p:Prop}(h:p:=by simp only[qV,seval,zI,Option.isNone_none,Ee]):p:=h
theorem Zcw{p:Prop}(h:p:=by rw[<-QQ id m];exact Z):p:=h
theorem Zcx{p:Prop}(h:p:=by simpa using h):p:=h
theorem Zcy{p:Prop}(h:p:=by simpa using A):p:=h
theorem Zcz{p:Prop}(h:p:=by rw[cC];decide):p:=h
theorem ZcA{p:Prop}(h:p:=by rw[F];exact m):p:=h
theorem ZcB{p:Prop}(h:p:=by
 rw[El];have :=Ik C Q;have e:(2:Nat)^31*2^31=2^62:=by decide
 omega):p:=h
theorem ZcC{p:Prop}(h:p:=by simp only[sf,xM];rfl):p:=h
end Go
namespace Go.Av
open Go
inductive AV where
 |bool (b:Bool)
 |int (k:IntKind) (n:Int)
 |str (s:List UInt8)
 |NX
 |ref (id off:Nat)
 |pl (cells:List AV)
 |bE
 |bJ (tag sz:Nat) (els:List (List AV))
 |sl (id sz off len cap:Nat)
 |func (fn:Fn) (first captured:List AV)
 |EL
 |iface (t:TypeId) (v:AV)
 |rE
 |agg (cs:List AV)
 |jS (vs:List AV)
 |map (id:Nat)
 |uD
 |yield (id:Nat)
instance:Inhabited AV:=⟨.NX⟩
def aB:AV:=.jS []
def AV.one:AV->Bool
 |.agg _|.jS _=>false
 |_=>true
def AV.HO:AV->Bool
 |.jS _=>true
 |_=>false
def AV.cells:AV->List AV
 |.agg cs=>cs
 |v=>[v]
inductive Arg where
 |tmp (t:Nat)
 |const (v:AV)
 |kQ (g:Nat)
inductive Sk where
 |b|i|s
 |f (sh:List Sk)
inductive Nk where
 |ptr|ifc|sli|mp|fn
 deriving DecidableEq
inductive eJ where
 |wE (x:Arg)
 |pick (c a b:Arg)
 |alloc (zero:List AV)
 |box (x:Arg)
 |build (zero:List AV) (parts:List (Nat×Nat×Arg))
 |Qs (sz:Nat) (parts:List Arg)
 |load (agg:Bool) (n:Nat) (a:Arg)
 |store (n:Nat) (a x:Arg)
 |Qv (x:Arg)
 |bin (op:BinOp) (x y:Arg)
 |eqb (neg:Bool) (x y:Arg)
 |eqf (neg:Bool) (shape:List Sk) (x y:Arg)
 |eqn (neg:Bool) (k:Nk) (lit:Bool) (x y:Arg)
 |un (op:UnOp) (x:Arg)
 |Pw (k:IntKind) (x:Arg)
 |EY (x:Arg)
 |HI (x:Arg)
 |jz (n:Nat) (x:Arg)
 |h8 (t:TypeId) (x:Arg)
 |gq (fn:Fn) (first cap:List Arg)
 |CN
 |mO (sz bytes:Nat) (zero:List AV) (l c:Arg)
 |RZ (x:Arg) (lo hi:Option Arg)
 |j9 (sz:Nat) (x:Arg) (lo hi mx:Option Arg)
 |HW (n sz:Nat) (x:Arg) (lo hi mx:Option Arg)
 |VA (off:Nat) (x:Arg)
 |VZ (arr:Option Nat) (sz:Nat) (x i:Arg)
 |idx (n sz:Nat) (agg:Bool) (x i:Arg)
 |idxs (x i:Arg)
 |ki (t:TypeId) (ok:Bool) (zero:AV) (x:Arg)
 |QD (x:Arg) (i:Nat)
 |lens (x:Arg)
 |fh (x:Arg)
 |YP (x y:Arg)
 |YR (x y:Arg)
 |clr (sz:Nat) (zero:List AV) (x:Arg)
 |append (sz bytes:Nat) (mu:Bool) (x y:Arg)
 |copy (sz:Nat) (d s:Arg)
 |lookup (kind:Sk) (zero:AV) (ok:Bool) (x i:Arg)
 |Qm (kind:Sk) (m k v:Arg)
 |yK (x:Arg)
 |HP (x:Arg)
 |BQ (x:Arg)
 |call (f:Arg) (args:List Arg)
 |panic (x:Arg)
 |nD (f:Arg) (args:List Arg)
structure bG where
 dst:Option Nat
 op:eJ
 guard:Option (Nat×Bool)
inductive bY where
 |skip
 |ops (rl:List bG)
 |draw (rl:List bG) (pairs:List (Nat×Nat))
 |seq (a b:bY)
 |cond (c:Arg) (a b:bY)
 |block (id:Nat) (a:bY)
 |loop (a:bY)
 |exit (id:Nat)
 |ret
 |pT (c:Arg) (ps:List Nat) (Nr body:bY)
structure Mm where
 ps:List Nat
 Nr:bY
 body:bY
structure bL where
 val:Nat->Option (List AV)
 lok:Mm->Loop->Prop
instance:CoeFun bL (fun _=>Nat->Option (List AV)):=⟨bL.val⟩
def bL.mo(g:bL):Bool:=(g.val 999999999).isNone
def g0:bL:=⟨fun _=>none,fun _ _=>False⟩
inductive LEx where
 |ret
 |exit (id:Nat)
inductive LSt where
 |ready
 |busy
 |done (e:LEx)
 |over (e:Option LEx)
inductive eG where
 |cells (cs:List AV) (fB:Bool)
 |tok
 |map (es:List (AV×AV))
 |uW (es:List (AV×AV)) (bs:List Nat) (c mb:Nat)
 |iter (m mb c:Nat) (seen:List Nat)
 |loop (k:Mm) (sn:List AV) (st:LSt)
 |Nu
 |dfx
 |dead
def eG.dE:eG->Bool
 |.map _|.uW _ _ _ _|.iter _ _ _ _|.loop _ _ _|.Nu|.dfx=>true
 |_=>false
def LEx.code:LEx->Code
 |.ret=>.ret
 |.exit id=>.exit id
def oQ(r:Loop):LSt->Loop
 |.ready=>{r with state:=.ready,pending:=none}
 |.busy=>{r with state:=.busy,pending:=none}
 |.done e=>{r with state:=.done,pending:=some e.code}
 |.over e=>{r with state:=.exhausted,pending:=e.map LEx.code}
def eG.live:eG->Bool
 |.dead=>false
 |_=>true
inductive Tr where
 |nil
 |node (o:Option eG) (l r:Tr)
def Tr.get:Tr->Nat->Option eG
 |.nil,_=>none
 |.node o l r,n=>if n=0 then o else if n%2=1 then l.get (n / 2) else r.get (n / 2 -1)
def Tr.root:Tr->Option eG
 |.nil=>none
 |.node o _ _=>o
def Tr.left:Tr->Tr
 |.nil=>.nil
 |.node _ l _=>l
def Tr.right:Tr->Tr
 |.nil=>.nil
 |.node _ _ r=>r
def Tr.KA:Nat->Tr->Nat->eG->Tr
 |0,t,_,o=>.node (some o) t.left t.right
 |f+1,t,n,o=>
  if n=0 then .node (some o) t.left t.right
  else if n%2=1 then .node t.root (Tr.KA f t.left (n / 2) o) t.right
  else .node t.root t.left (Tr.KA f t.right (n / 2 -1) o)
def Tr.set(t:Tr)(n:Nat)(o:eG):Tr:=Tr.KA n t n o
theorem Tr.mz(t:Tr)(n:Nat):t.get n=if n=0 then t.root else if n%2=1 then t.left.get (n / 2) else t.right.get (n / 2 -1):=by
 cases t with
 |nil=>simp[Tr.get,Tr.root,Tr.left,Tr.right]
 |node o l r=>rfl
theorem Tr.LM:∀(f:Nat) (t:Tr) (n:Nat) (o:eG) (m:Nat),n<=f->(Tr.KA f t n o).get m=if m=n then some o else t.get m:=by
 intro f
 induction f with
 |zero=>grind[Tr.mz,Tr.KA,Tr.get]
 |succ f z=>
  intro t n o m A;rw[Tr.mz t m]
  grind[Tr.KA,Tr.get]
structure aA where
 next:Nat
 tr:Tr
def aA.get(H:aA)(id:Nat):Option eG:=H.tr.get id
def aA.set(H:aA)(id:Nat)(o:eG):aA:={H with tr:=H.tr.set id o}
def aA.alloc(H:aA)(o:eG):aA:={next:=H.next+1,tr:=H.tr.set H.next o}
theorem aA.aH(H:aA)(id:Nat)(o:eG)(m:Nat):(H.set id o).get m=if m=id then some o else H.get m:=
 Tr.LM _ _ _ _ _ (Ae _)
theorem aA.aI(H:aA)(o:eG)(m:Nat):(H.alloc o).get m=if m=H.next then some o else H.get m:=
 Tr.LM _ _ _ _ _ (Ae _)
@[simp] theorem aA.aZ (H:aA) (id:Nat) (o:eG):(H.set id o).next=H.next:=rfl
@[simp] theorem aA.bK (H:aA) (o:eG):(H.alloc o).next=H.next+1:=rfl
def Arg.eval(g:bL)(s:List AV):Arg->AV
 |.tmp t=>s.getD t aB
 |.const v=>v
 |.kQ n=>match g n with
  |some cs=>.pl cs
  |none=>aB
def gO(sz:Nat):Nat->List AV->List (List AV)
 |0,_=>[]
 |n+1,cs=>cs.take sz::gO sz n (cs.drop sz)
def iT(cs:List AV)(off:Nat)(vs:List AV):List AV:=cs.take off++vs++cs.drop (off+vs.length)
def LG(ev:Arg->AV):List AV->List (Nat×Nat×Arg)->Option (List AV)
 |cs,[]=>some cs
 |cs,(off,n,x)::rest=>
  let vs:=(ev x).cells
  if vs.length=n/\off+n<=cs.length/\(ev x).HO=false then LG ev (iT cs off vs) rest else none
def NQ(ev:Arg->AV)(sz:Nat):List Arg->Option (List (List AV))
 |[]=>some []
 |x::rest=>
  let vs:=(ev x).cells
  if vs.length=sz/\(ev x).HO=false then(NQ ev sz rest).map (vs:: ·) else none
def cD:List Sk->List AV->List AV->Option Bool
 |[],[],[]=>some true
 |.b::ks,.bool a::xs,.bool b::ys=>(cD ks xs ys).map ((a==b)&& ·)
 |.i::ks,.int j a::xs,.int k b::ys=>if j=k then(cD ks xs ys).map ((a==b)&& ·) else none
 |.s::ks,.str a::xs,.str b::ys=>(cD ks xs ys).map ((a==b)&& ·)
 |_,_,_=>none
def JN(k:Nk):AV->Option Bool
 |.NX=>if k=.ptr then some true else none
 |.ref _ _|.pl _=>if k=.ptr then some false else none
 |.bE=>if k=.sli then some true else none
 |.bJ _ _ _|.sl _ _ _ _ _=>if k=.sli then some false else none
 |.rE=>if k=.ifc then some true else none
 |.iface _ _=>if k=.ifc then some false else none
 |.EL=>if k=.fn then some true else none
 |.func _ _ _=>if k=.fn then some false else none
 |.uD=>if k=.mp then some true else none
 |.map _=>if k=.mp then some false else none
 |_=>none
def zK(op:BinOp)(k:IntKind)(x y:Int):Option AV:=
 let a:=BitVec.ofInt k.bits x;let b:=BitVec.ofInt k.bits y
 match op with
 |.and=>some (.int k (k.wrap (a&&& b).toNat))
 |.or=>some (.int k (k.wrap (a|||b).toNat))
 |.xor=>some (.int k (k.wrap (a^^^b).toNat))
 |.andNot=>some (.int k (k.wrap (a&&& ~~~b).toNat))
 |_=>none
def rX(op:BinOp)(k:IntKind)(a:Int)(p:IntKind)(b:Int):Option AV:=
 match op with
 |.shl=>if b<0 then none else some (.int k (k.wrap (a*2^(min b.toNat k.bits))))
 |.shr=>if b<0 then none else some (.int k (a.fdiv (2^(min b.toNat k.bits))))
 |.add=>if k=p then some (.int k (k.wrap (a+b))) else none
 |.sub=>if k=p then some (.int k (k.wrap (a -b))) else none
 |.mul=>if k=p then some (.int k (k.wrap (a*b))) else none
 |.quo=>if k=p then(if b=0 then none else some (.int k (k.wrap (a.tdiv b)))) else none
 |.rem=>if k=p then(if b=0 then none else some (.int k (a.tmod b))) else none
 |.and|.or|.xor|.andNot=>if k=p then zK op k a b else none
 |.eql=>if k=p then some (.bool (a==b)) else none
 |.neq=>if k=p then some (.bool (a != b)) else none
 |.lss=>if k=p then some (.bool (a<b)) else none
 |.leq=>if k=p then some (.bool (a<=b)) else none
 |.gtr=>if k=p then some (.bool (a>b)) else none
 |.geq=>if k=p then some (.bool (a≥b)) else none
def aDu(op:BinOp)(x y:List UInt8):Option AV:=
 let eq:=x==y;let lt:=Op.bytesLess x y
 match op with
 |.add=>if x.length+y.length<=2^40 then some (.str (x++y)) else none
 |.eql=>some (.bool eq)
 |.neq=>some (.bool !eq)
 |.lss=>some (.bool lt)
 |.leq=>some (.bool (lt||eq))
 |.gtr=>some (.bool !(lt||eq))
 |.geq=>some (.bool !lt)
 |_=>none
def unA(op:UnOp):AV->Option AV
 |.int k n=>match op with
  |.neg=>some (.int k (k.wrap (0 -n)))
  |.xor=>zK .xor k (if k.signed then -1 else k.max) n
  |_=>none
 |.bool b=>match op with
  |.not=>some (.bool !b)
  |_=>none
 |_=>none
def asNat:AV->Option Nat
 |.int _ n=>if 0<=n then some n.toNat else none
 |_=>none
def eM(ev:Arg->AV):Option Arg->Option (Option Nat)
 |none=>some none
 |some x=>(asNat (ev x)).map some
def UH(s:List UInt8):List (List AV):=s.map fun b=>[.int .u8 b.toNat]
def bytesOf:List (List AV)->Option (List UInt8)
 |[]=>some []
 |[.int .u8 n]::rest=>(bytesOf rest).map (UInt8.ofNat n.toNat:: ·)
 |_=>none
def aA.fP(H:aA)(id:Nat):Option (List AV):=
 match H.get id with
 |some (.cells cs _)=>some cs
 |_=>none
def dJ(H:aA)(sz:Nat):AV->Option (List (List AV))
 |.bE=>some []
 |.bJ _ fJ els=>if fJ=sz then some els else none
 |.str s=>if sz=1 then some (UH s) else none
 |.sl id fJ off len _=>
  if fJ=sz then
   match H.fP id with
   |some cs=>if off+len*sz<=cs.length then some (gO sz len (cs.drop off)) else none
   |none=>none
  else none
 |_=>none
def mQ(H:aA)(N:Bool)(sz:Nat)(els:List (List AV)):AV×aA:=
 if N then(.sl H.next sz 0 els.length els.length,H.alloc (.cells els.flatten true))
 else(.bJ (H.next+2) sz els,H.alloc .tok)
def gE(H:aA)(sz bytes:Nat)(N:Bool)(x:AV)(ys:List (List AV)):Option (AV×aA):=
 if ys.isEmpty then
  match x with
  |.bE|.bJ _ _ _|.sl _ _ _ _ _=>some (x,H)
  |_=>none
 else
 match x with
 |.bE=>if ys.length*bytes<=2^40 then some (mQ H N sz ys) else none
 |.bJ tag fJ els=>
  if fJ=sz/\(els.length+ys.length)*bytes<=2^40 then
   match tag with
   |0=>none
   |1=>some (mQ H N sz (els++ys))
   |k+2=>
    match H.get k with
    |some .tok=>some (.bJ (H.next+2) sz (els++ys),(H.set k .dead).alloc .tok)
    |_=>none
  else none
 |.sl id fJ off len cap=>
  if fJ=sz/\(len+ys.length)*bytes<=2^40/\1<=sz then
   match H.get id with
   |some (.cells cs fB)=>
    if len+ys.length<=cap then
     if off+cap*sz<=cs.length then
      some (.sl id sz off (len+ys.length) cap,H.set id (.cells (iT cs (off+len*sz) ys.flatten) fB))
     else none
    else if off+len*sz<=cs.length/\(fB=false\/off+cap*sz<cs.length) then
     some (mQ H N sz (gO sz len (cs.drop off)++ys))
    else if N=true/\off=0/\len=cap/\cs.length=len*sz then
     some (.sl H.next sz 0 (len+ys.length) (len+ys.length),(H.set id .dead).alloc (.cells (cs++ys.flatten) true))
    else none
   |_=>none
  else none
 |_=>none
def uG(sz:Nat)(x:AV)(lo F mx:Option Nat):Option AV:=
 match x with
 |.bE=>if lo.getD 0=0/\F.getD 0=0/\mx.getD 0=0 then some .bE else none
 |.bJ tag fJ els=>
  let l:=lo.getD 0;let h:=F.getD els.length
  if fJ=sz/\l<=h/\h<=els.length then
   match mx with
   |some m=>
    if h<=m/\m<=els.length then
     some (.bJ (if m=h then 1 else 0) sz ((els.drop l).take (h -l)))
    else none
   |none=>
    if h=els.length/\(l<h\/tag<2) then some (.bJ tag sz (els.drop l))
    else some (.bJ 0 sz ((els.drop l).take (h -l)))
  else none
 |.sl id fJ off len cap=>
  let l:=lo.getD 0;let h:=F.getD len
  if fJ=sz/\l<=h then
   match mx with
   |some m=>
    if h<=m/\m<=cap then
     if m=l then some (.sl id sz off 0 0) else some (.sl id sz (off+l*sz) (h -l) (m -l))
    else none
   |none=>
    if h<=cap then
     if l=cap then some (.bJ 0 sz []) else some (.sl id sz (off+l*sz) (h -l) (cap -l))
    else none
  else none
 |_=>none
def jZ(H:aA)(n sz:Nat)(x:AV)(lo F mx:Option Nat):Option AV:=
 let l:=lo.getD 0;let m:=mx.getD n;let h:=F.getD n
 if l<=h/\h<=m/\m<=n/\(mx.isSome->F.isSome) then
  match x with
  |.ref id o=>
   match H.fP id with
   |some cs=>if o+n*sz<=cs.length then(if m=l then some (.sl id sz o 0 0) else some (.sl id sz (o+l*sz) (h -l) (m -l))) else none
   |none=>none
  |.pl cs=>if n*sz<=cs.length then some (.bJ (if m=h then 1 else 0) sz ((gO sz n cs).drop l |>.take (h -l))) else none
  |_=>none
 else none
def sameKey(k:Sk):AV->AV->Option Bool
 |.int j a,.int j' b=>match k with
  |.i=>if j=j' then some (a==b) else none
  |_=>none
 |.str a,.str b=>match k with
  |.s=>some (a==b)
  |_=>none
 |.bool a,.bool b=>match k with
  |.b=>some (a==b)
  |_=>none
 |.agg xs,.agg ys=>match k with
  |.f sh=>cD sh xs ys
  |_=>none
 |_,_=>none
def nX(k:Sk)(x:AV):List (AV×AV)->Nat->Option (Option (Nat×AV))
 |[],_=>some none
 |(y,v)::es,i=>
  match sameKey k x y with
  |some true=>some (some (i,v))
  |some false=>nX k x es (i+1)
  |none=>none
def Qd(k:Sk):AV->Bool
 |.int _ _=>match k with|.i=>true|_=>false
 |.str _=>match k with|.s=>true|_=>false
 |.bool _=>match k with|.b=>true|_=>false
 |.agg xs=>match k with|.f sh=>decide (xs.length=sh.length)|_=>false
 |_=>false
def CS(ev:Arg->AV):eJ->Option (eG×(Nat->AV))
 |.alloc zero=>some (.cells zero false,fun id=>.ref id 0)
 |.box x=>if(ev x).HO then none else some (.cells (ev x).cells false,fun id=>.ref id 0)
 |.CN=>some (.map [],fun id=>.map id)
 |.mO sz bytes zero l c=>match asNat (ev l),asNat (ev c) with
  |some l,some c=>if l<=c/\bytes*c<=2^40/\zero.length=sz then some (.cells (List.replicate c zero).flatten false,fun id=>.sl id sz 0 l c) else none
  |_,_=>none
 |.EY x=>match ev x with
  |.str s=>some (.tok,fun id=>.bJ (id+2) 1 (UH s))
  |_=>none
 |_=>none
def dS(ev:Arg->AV)(H:aA):eJ->Option (AV×aA)
 |.wE x=>some (ev x,H)
 |.pick c a b=>match ev c with
  |.bool t=>some (if t then ev a else ev b,H)
  |_=>none
 |.alloc zero=>(CS ev (.alloc zero)).map fun p=>(p.2 H.next,H.alloc p.1)
 |.box x=>(CS ev (.box x)).map fun p=>(p.2 H.next,H.alloc p.1)
 |.build zero parts=>(LG ev zero parts).map fun cs=>(.agg cs,H)
 |.Qs sz parts=>(NQ ev sz parts).map fun els=>(.bJ 1 sz els,H)
 |.load agg n a=>match ev a with
  |.ref id off=>match H.fP id with
   |some cs=>if off+n<=cs.length then(if agg then some (.agg ((cs.drop off).take n),H) else if n=1 then some (cs.getD off aB,H) else none) else none
   |none=>none
  |.pl cs=>if n<=cs.length then(if agg then some (.agg (cs.take n),H) else if n=1 then some (cs.getD 0 aB,H) else none) else none
  |_=>none
 |.store n a x=>match ev a with
  |.ref id off=>match H.get id with
   |some (.cells cs fB)=>
    let vs:=(ev x).cells
    if vs.length=n/\off+n<=cs.length/\(ev x).HO=false then some (aB,H.set id (.cells (iT cs off vs) fB)) else none
   |_=>none
  |_=>none
 |.Qv x=>match ev x with
  |.ref id off=>some (.ref id off,H)
  |.pl cs=>some (.pl cs,H)
  |.func (.func f) a b=>some (.func (.func f) a b,H)
  |.iface t v=>some (.iface t v,H)
  |_=>none
 |.bin op x y=>match ev x,ev y with
  |.int k a,.int k' b=>(rX op k a k' b).map (·,H)
  |.str a,.str b=>(aDu op a b).map (·,H)
  |_,_=>none
 |.eqb neg x y=>match ev x,ev y with
  |.bool a,.bool b=>some (.bool (if neg then !(a==b) else(a==b)),H)
  |_,_=>none
 |.eqf neg shape x y=>match ev x,ev y with
  |.agg xs,.agg ys=>(cD shape xs ys).map fun e=>(.bool (if neg then !e else e),H)
  |_,_=>none
 |.eqn neg k lit x y=>match JN k (ev x),JN k (ev y) with
  |some a,some b=>if(a||b)&&(k != .ifc|| !(a&&b)||lit) then some (.bool (if neg then !(a&&b) else(a&&b)),H) else none
  |_,_=>none
 |.un op x=>(unA op (ev x)).map (·,H)
 |.Pw k x=>match ev x with
  |.int _ n=>some (.int k (k.wrap n),H)
  |_=>none
 |.EY x=>(CS ev (.EY x)).map fun p=>(p.2 H.next,H.alloc p.1)
 |.HI x=>match ev x with
  |.str _=>none
  |v=>match dJ H 1 v with
   |some els=>(bytesOf els).map fun s=>(.str s,H)
   |none=>none
 |.jz n x=>match ev x with
  |.bJ _ _ els=>if n<=els.length/\1<=els.length then some (.pl els.flatten,H) else none
  |.sl id _ off len _=>if n<=len then some (.ref id off,H) else none
  |_=>none
 |.h8 t x=>some (.iface t (ev x),H)
 |.gq fn first cap=>some (.func fn (first.map ev) (cap.map ev),H)
 |.CN=>(CS ev .CN).map fun p=>(p.2 H.next,H.alloc p.1)
 |.mO sz bytes zero l c=>(CS ev (.mO sz bytes zero l c)).map fun p=>(p.2 H.next,H.alloc p.1)
 |.RZ x lo hi=>match ev x,eM ev lo,eM ev hi with
  |.str s,some lo,some hi=>
   let l:=lo.getD 0;let h:=hi.getD s.length
   if l<=h/\h<=s.length then some (.str ((s.drop l).take (h -l)),H) else none
  |_,_,_=>none
 |.j9 sz x lo hi mx=>match eM ev lo,eM ev hi,eM ev mx with
  |some lo,some hi,some mx=>if mx.isSome->hi.isSome then(uG sz (ev x) lo hi mx).map (·,H) else none
  |_,_,_=>none
 |.HW n sz x lo hi mx=>match eM ev lo,eM ev hi,eM ev mx with
  |some lo,some hi,some mx=>(jZ H n sz (ev x) lo hi mx).map (·,H)
  |_,_,_=>none
 |.VA off x=>match ev x with
  |.ref id o=>some (.ref id (o+off),H)
  |.pl cs=>some (.pl (cs.drop off),H)
  |_=>none
 |.VZ arr sz x i=>match asNat (ev i) with
  |some i=>match arr,ev x with
   |some n,.ref id o=>if i<n then some (.ref id (o+i*sz),H) else none
   |some n,.pl cs=>if i<n then some (.pl (cs.drop (i*sz)),H) else none
   |none,.bJ _ fJ els=>if fJ=sz/\i<els.length then some (.pl (els.getD i []),H) else none
   |none,.sl id fJ off len _=>if fJ=sz/\i<len then some (.ref id (off+i*sz),H) else none
   |_,_=>none
  |none=>none
 |.idx n sz agg x i=>match asNat (ev i),ev x with
  |some i,.agg cs=>if i<n/\i*sz+sz<=cs.length then(if agg then some (.agg ((cs.drop (i*sz)).take sz),H) else if sz=1 then some (cs.getD i aB,H) else none) else none
  |_,_=>none
 |.idxs x i=>match asNat (ev i),ev x with
  |some i,.str s=>match s[i]? with
   |some b=>some (.int .u8 b.toNat,H)
   |none=>none
  |_,_=>none
 |.ki t ok zero x=>match ev x with
  |.iface t' v=>if t'=t then some (if ok then .jS [v,.bool true] else v,H) else if ok then some (.jS [zero,.bool false],H) else none
  |.rE=>if ok then some (.jS [zero,.bool false],H) else none
  |_=>none
 |.QD x i=>match ev x with
  |.jS vs=>if i<vs.length then some (vs.getD i aB,H) else none
  |_=>none
 |.lens x=>match ev x with
  |.str s=>some (.int .i64 s.length,H)
  |_=>none
 |.fh x=>match ev x with
  |.bE=>some (.int .i64 0,H)
  |.bJ _ _ els=>some (.int .i64 els.length,H)
  |.sl _ _ _ len _=>some (.int .i64 len,H)
  |_=>none
 |.YP x y=>match ev x,ev y with
  |.int k a,.int _ b=>some (.int k (if b>a then b else a),H)
  |_,_=>none
 |.YR x y=>match ev x,ev y with
  |.int k a,.int _ b=>some (.int k (if b<a then b else a),H)
  |_,_=>none
 |.clr sz zero x=>match ev x with
  |.bE|.bJ _ _ []|.sl _ _ _ 0 _=>some (aB,H)
  |.sl id fJ off len _=>if fJ=sz/\zero.length=sz then
    match H.get id with
    |some (.cells cs fB)=>if off+len*sz<=cs.length then some (aB,H.set id (.cells (iT cs off (List.replicate len zero).flatten) fB)) else none
    |_=>none
   else none
  |_=>none
 |.append sz bytes mu x y=>match dJ H sz (ev y) with
  |some ys=>gE H sz bytes mu (ev x) ys
  |none=>none
 |.copy sz d s=>match dJ H sz (ev s),ev d with
  |some ys,.bE=>some (.int .i64 (min ys.length 0:Nat),H)
  |some ys,.sl id fJ off len _=>
   let n:=min ys.length len
   if fJ=sz then
    match H.get id with
    |some (.cells cs fB)=>if off+n*sz<=cs.length then some (.int .i64 n,H.set id (.cells (iT cs off (ys.take n).flatten) fB)) else none
    |_=>none
   else none
  |_,_=>none
 |.lookup kind zero ok x i=>if Qd kind (ev i) then
   match ev x with
   |.uD=>some (if ok then .jS [zero,.bool false] else zero,H)
   |.map id=>match H.get id with
    |some (.map es)=>match nX kind (ev i) es 0 with
     |some (some (_,v))=>some (if ok then .jS [v,.bool true] else v,H)
     |some none=>some (if ok then .jS [zero,.bool false] else zero,H)
     |none=>none
    |_=>none
   |_=>none
  else none
 |.Qm kind m k v=>if Qd kind (ev k) then
   match ev m with
   |.map id=>match H.get id with
    |some (.map es)=>match nX kind (ev k) es 0 with
     |some (some (i,_))=>some (aB,H.set id (.map (es.set i (ev k,ev v))))
     |some none=>some (aB,H.set id (.map (es++[(ev k,ev v)])))
     |none=>none
    |_=>none
   |_=>none
  else none
 |.call _ _|.panic _|.nD _ _|.yK _|.HP _|.BQ _=>none
structure Loc where
 dE:Nat
 base:Nat
 Wa:Nat
 ext:Nat
structure Gh where
 loc:Nat->Option Loc
 iZ:Nat->Nat->Prop
 mo:Bool
def aRn(G:Gh)(tag b e sz len cap:Nat):Prop:=
 len<=cap/\match tag with
 |0=>True
 |1=>cap=len
 |k+2=>∃l,G.loc k=some l/\l.dE=b/\l.base=e/\l.Wa=0/\l.ext=(cap -len)*sz
inductive VR (G:Gh) (w:World):AV->Value->Prop
 |bool (b:Bool):VR G w (.bool b) (.bool b)
 |int (k:IntKind) (n:Int):VR G w (.int k n) (.int k n)
 |str (s:ByteArray):VR G w (.str s.data.toList) (.string s)
 |NX:VR G w .NX (.pointer none)
 |ref (id off:Nat) (l:Loc) (h:G.loc id=some l):VR G w (.ref id off) (.pointer (some ⟨l.dE,l.base+off,none⟩))
 |pl (cells:List AV) (b o:Nat) (us:Nat->Value)
   (h:∀j,j<cells.length->G.iZ b (o+j)/\w.cell? ⟨b,o+j,none⟩=some (us j)/\(cells.getD j aB).one=true)
   (hv:∀j,j<cells.length->VR G w (cells.getD j aB) (us j)):VR G w (.pl cells) (.pointer (some ⟨b,o,none⟩))
 |bE:VR G w .bE (.slice none 0 0)
 |bJ (tag sz:Nat) (els:List (List AV)) (b o cap:Nat) (us:Nat->Value)
   (hu:∀e∈els,e.length=sz)
   (h:∀j,j<els.flatten.length->G.iZ b (o+j)/\w.cell? ⟨b,o+j,none⟩=some (us j)/\(els.flatten.getD j aB).one=true)
   (hv:∀j,j<els.flatten.length->VR G w (els.flatten.getD j aB) (us j))
   (ht:aRn G tag b (o+els.length*sz) sz els.length cap):VR G w (.bJ tag sz els) (.slice (some ⟨b,o,none⟩) els.length cap)
 |wY (tag sz b o s:Nat) (ht:tag<2):VR G w (.bJ tag sz []) (.slice (some ⟨b,o,some s⟩) 0 0)
 |sl (id sz off len cap lN:Nat) (l:Loc) (h:G.loc id=some l) (hlen:len<=cap) (iG:off+cap*sz<=l.Wa)
   (pP:lN=cap\/(off+cap*sz=l.Wa/\cap<=lN/\off+lN*sz=l.ext)):
   VR G w (.sl id sz off len cap) (.slice (some ⟨l.dE,l.base+off,none⟩) len lN)
 |func (fn:Fn) (fs cs:List AV) (azs bs:List Value) (ha:azs.length=fs.length) (hb:bs.length=cs.length)
   (hav:∀j,j<fs.length->VR G w (fs.getD j aB) (azs.getD j undef)) (hbv:∀j,j<cs.length->VR G w (cs.getD j aB) (bs.getD j undef)):
   VR G w (.func fn fs cs) (.func fn azs.toArray bs.toArray)
 |EL:VR G w .EL .nilFunc
 |iface (t:TypeId) (a:AV) (v:Value) (h:VR G w a v):VR G w (.iface t a) (.iface t v)
 |rE:VR G w .rE .nilIface
 |agg (cs:List AV) (vs:List Value) (hl:vs.length=cs.length) (h1:∀c∈cs,c.one=true)
   (hv:∀j,j<cs.length->VR G w (cs.getD j aB) (vs.getD j undef)):VR G w (.agg cs) (.agg vs.toArray)
 |jS (cs:List AV) (vs:List Value) (hl:vs.length=cs.length)
   (hv:∀j,j<cs.length->VR G w (cs.getD j aB) (vs.getD j undef)):VR G w (.jS cs) (.tuple vs.toArray)
 |map (id:Nat) (l:Loc) (h:G.loc id=some l):VR G w (.map id) (.map (some l.dE))
 |uD:VR G w .uD (.map none)
 |yield (id:Nat) (l:Loc) (h:G.loc id=some l):VR G w (.yield id) (.func (.yield l.dE) #[] #[])
def jH(G:Gh)(w:World)(xs:List AV)(vs:List Value):Prop:=
 vs.length=xs.length/\∀j,j<xs.length->VR G w (xs.getD j aB) (vs.getD j undef)
theorem VR.oV(G:Gh)(w:World):VR G w aB Go.undef:=VR.jS [] [] rfl (fun j Y=>absurd Y (Al j))
variable{G E:Gh}{w w':World}{a:AV}{u:Value}
theorem VR.mono(h:VR G w a u)(U:∀id l,G.loc id=some l->E.loc id=some l)
 (F:∀b o,G.iZ b o->E.iZ b o/\w'.cell? ⟨b,o,none⟩=w.cell? ⟨b,o,none⟩):VR E w' a u:=by
 induction h with
 |bool b=>exact .bool b
 |int k n=>exact .int k n
 |str s=>exact .str s
 |NX=>exact .NX
 |ref id off l h=>exact .ref id off l (U _ _ h)
 |pl cells b o us h J z=>exact .pl cells b o us (fun j Y=>⟨(F _ _ (h j Y).1).1,by grind,(h j Y).2.2⟩) z
 |bE=>exact .bE
 |bJ tag sz els b o cap us d h J q z=>
  refine .bJ tag sz els b o cap us d (fun j Y=>⟨(F _ _ (h j Y).1).1,by grind,(h j Y).2.2⟩) z ?_;refine⟨q.1,?_⟩;have Z:=q.2
  grind
 |wY tag sz b o s q=>exact .wY tag sz b o s q
 |sl id sz off len cap V l h Q T A=>exact .sl id sz off len cap V l (U _ _ h) Q T A
 |func fn fs cs K N I X c O R r=>exact .func fn fs cs K N I X R r
 |EL=>exact .EL
 |iface t a v h z=>exact .iface t a v z
 |rE=>exact .rE
 |agg cs vs L e J z=>exact .agg cs vs L e z
 |jS cs vs L J z=>exact .jS cs vs L z
 |map id l h=>exact .map id l (U _ _ h)
 |uD=>exact .uD
 |yield id l h=>exact .yield id l (U _ _ h)
def aHy:Value->Bool
 |.agg _|.tuple _=>false
 |_=>true
theorem VR.one(h:VR G w a u):a.one=aHy u:=by cases h<;>rfl
def aA.live(H:aA)(id:Nat):Prop:=∃o,H.get id=some o/\o.live=true
def Wd(ents:Array MapEntry)(n:Nat):Prop:=
 (∀i,i<ents.size->(ents.getD i default).born<n)/\∀i j,i<ents.size->j<ents.size->(ents.getD i default).born=(ents.getD j default).born->i=j
def Mn(g:bL)(G:Gh)(w:World)(l:Loc):eG->Prop
 |.map es=>∃ents n,w.heap[l.dE]?=some (.map ents n)/\ents.size=es.length/\Wd ents n/\
   ∀j,j<es.length->VR G w (es.getD j (aB,aB)).1 (ents.getD j default).key/\VR G w (es.getD j (aB,aB)).2 (ents.getD j default).val
 |.uW es bs c mb=>l.dE=mb/\bs.Nodup/\(∀b∈bs,b<c)/\∃ents:Array MapEntry,w.heap[l.dE]?=some (.map ents c)/\ents.toList.map (·.born)=bs/\bs.length=es.length/\
   ∀j,j<es.length->VR G w (es.getD j (aB,aB)).1 (ents.getD j default).key/\VR G w (es.getD j (aB,aB)).2 (ents.getD j default).val
 |.iter m mb c seen=>w.heap[l.dE]?=some (.mapIter (some mb) c seen.toArray c)/\VR G w (.map m) (.map (some mb))
 |.loop k sn st=>∃r,g.lok k r/\w.heap[l.dE]?=some (.loop (oQ r st))/\jH G w sn r.tmps.toList
 |.Nu=>w.heap[l.dE]?=some (.deferred (some []))
 |.dfx=>w.heap[l.dE]?=some (.deferred none)
 |_=>True
variable{l:Loc}
theorem Mn.mono{g:bL}{o:eG}(h:Mn g G w l o)(X:w'.heap[l.dE]?=w.heap[l.dE]?)(J:∀a u,VR G w a u->VR E w' a u):Mn g E w' l o:=by
 cases o with
 |map es=>obtain⟨ents,n,a1,Q,s,i⟩:=h;exact⟨ents,n,by grind,Q,s,fun j Y=>⟨J _ _ (i j Y).1,J _ _ (i j Y).2⟩⟩
 |uW es N c A=>obtain⟨a1,Q,s,ents,i,M,d,b⟩:=h;exact⟨a1,Q,s,ents,X.trans i,M,d,fun j Y=>⟨J _ _ (b j Y).1,J _ _ (b j Y).2⟩⟩
 |iter m A c seen=>exact⟨X.trans h.1,J _ _ h.2⟩
 |loop k sn y=>obtain⟨r,e,O,Z⟩:=h;exact⟨r,e,X.trans O,Z.1,fun j Y=>J _ _ (Z.2 j Y)⟩
 |Nu=>exact X.trans h
 |dfx=>exact X.trans h
 |_=>trivial
theorem Mn.lt{g:bL}{o:eG}(S:o.dE=true)(h:Mn g G w l o):l.dE<w.heap.size:=by
 cases o with
 |map es=>obtain⟨ents,n,a1,_⟩:=h;grind
 |uW es N c A=>obtain⟨_,_,_,ents,a1,_⟩:=h;grind
 |iter m A c seen=>exact(Ez.1 h.1).1
 |loop k sn y=>obtain⟨r,_,O,_⟩:=h;grind
 |Nu=>exact(Ez.1 (show w.heap[l.dE]?=some _ from h)).1
 |dfx=>exact(Ez.1 (show w.heap[l.dE]?=some _ from h)).1
 |_=>cases S
theorem Qh{o:eG}(h:o.dE=true):o.live=true:=by cases o<;>first|rfl|cases h
theorem Mn.EM{g:bL}{o:eG}(S:o.dE=true)(h:Mn g G w l o){c:Array Value}{q:TypeId}{fz:Nat×Nat}:w.heap[l.dE]?≠some (.cells c q fz):=by
 cases o with
 |map es=>obtain⟨ents,n,a1,_⟩:=h;grind
 |uW es N c A=>obtain⟨_,_,_,ents,a1,_⟩:=h;grind
 |iter m A c seen=>have h:=h.1;grind
 |loop k sn y=>obtain⟨r,_,h,_⟩:=h;grind
 |Nu=>have h:w.heap[l.dE]?=some _:=h;grind
 |dfx=>have h:w.heap[l.dE]?=some _:=h;grind
 |_=>cases S
structure WR (g:bL) (G:Gh) (H:aA) (w:World):Prop where
 cells:∀id l cs fB,G.loc id=some l->H.get id=some (.cells cs fB)->
  l.Wa=cs.length/\l.Wa<=l.ext/\(fB=false->l.Wa=l.ext)/\(∀c∈cs,c.one=true)/\
  ∀j,j<cs.length->∃u,w.cell? ⟨l.dE,l.base+j,none⟩=some u/\VR G w (cs.getD j aB) u
 room:∀id l,G.loc id=some l->((∃cs fB,H.get id=some (.cells cs fB))\/H.get id=some .tok)->
  ∃c el fz,w.heap[l.dE]?=some (.cells c el fz)/\l.base+l.ext<=c.size/\∀j,j<l.ext->w.frozen? ⟨l.dE,l.base+j,none⟩=false
 mV:∀id mI l l',id≠mI->G.loc id=some l->G.loc mI=some l'->H.live id->H.live mI->
  l.dE≠l'.dE\/l.base+l.ext<=l'.base\/l'.base+l'.ext<=l.base
 lV:∀id l,G.loc id=some l->H.live id->∀j,j<l.ext->¬G.iZ l.dE (l.base+j)
 jK:∀id l o,G.loc id=some l->H.get id=some o->o.dE=true->l.base=0/\l.ext=1/\Mn g G w l o
 lt:∀id l,G.loc id=some l->id<H.next
 jJ:∀b o,G.iZ b o->∃v,w.cell? ⟨b,o,none⟩=some v
 kQ:∀n cs,g n=some cs->VR G w (.pl cs) (.pointer (some ⟨n,0,none⟩))
 FV:∀n cs,g n=some cs->cs≠[]->∃c el fz,w.heap[n]?=some (.cells c el fz)/\c.size=cs.length
 mo:G.mo=g.mo
structure DJ (w w':World):Prop where
 os:w'.os=w.os
 output:w'.output=w.output
 tape:w'.tape=w.tape
 drawn:w.drawn<=w'.drawn
theorem DJ.now(O:w'.os=w.os:=by rfl)(Z:w'.output=w.output:=by rfl)(W:w'.tape=w.tape:=by rfl)(h4:w.drawn<=w'.drawn:=by first|exact Ae _|exact Gm _|exact Il _ _):DJ w w':=⟨O,Z,W,h4⟩
theorem DJ.trans{a:World}(h:DJ w w')(K:DJ w' a):DJ w a:=⟨K.os.trans h.os,K.output.trans h.output,K.tape.trans h.tape,Ay h.drawn K.drawn⟩
structure Pc (b:Bool) (w w':World):Prop where
 os:w'.os=w.os
 output:w'.output=w.output
 tape:w'.tape=w.tape
 drawn:b=true->w.drawn<=w'.drawn
theorem DJ.toB(h:DJ w w')(b:Bool):Pc b w w':=⟨h.os,h.output,h.tape,fun _=>h.drawn⟩
theorem Pc.trans{b:Bool}{a:World}(h:Pc b w w')(K:Pc b w' a):Pc b w a:=⟨K.os.trans h.os,K.output.trans h.output,K.tape.trans h.tape,fun X=>Ay (h.drawn X) (K.drawn X)⟩
structure Ext (G:Gh) (H:aA) (w:World) (G':Gh) (H':aA) (w':World):Prop where
 loc:∀id l,G.loc id=some l->G'.loc id=some l
 iZ:∀b o,G.iZ b o->G'.iZ b o/\w'.cell? ⟨b,o,none⟩=w.cell? ⟨b,o,none⟩
 size:w.heap.size<=w'.heap.size
 frame:∀b,b<w.heap.size->(∀id l,G.loc id=some l->H.live id->l.dE≠b)->w'.heap[b]?=w.heap[b]?
 nM:∀id l,G'.loc id=some l->H'.live id->w.heap.size<=l.dE\/∃fQ l0,G.loc fQ=some l0/\H.live fQ/\l0.dE=l.dE
 qG:∀b o,G'.iZ b o->G.iZ b o\/w.heap.size<=b\/∃fQ l0,G.loc fQ=some l0/\H.live fQ/\l0.dE=b
 next:H.next<=H'.next
 news:∀id l,G'.loc id=some l->G.loc id=none->H.next<=id
 dead:∀id l,G.loc id=some l->H'.live id->H.live id
 mo:G'.mo=G.mo
 same:Pc G.mo w w'
theorem Ext.refl(G:Gh)(H:aA)(w:World):Ext G H w G H w where
 loc:=fun _ _ h=>h
 iZ:=fun _ _ h=>⟨h,rfl⟩
 size:=Ae _
 frame:=fun _ _ _=>rfl
 nM:=fun id l h U=>.inr ⟨id,l,h,U,rfl⟩
 qG:=fun _ _ h=>.inl h
 next:=Ae _
 news:=fun _ _ h K=>by grind
 dead:=fun _ _ _ h=>h
 mo:=rfl
 same:=DJ.toB .now _
variable{H H':aA}
theorem Ext.trans{c:Gh}{j:aA}{a:World}(h:Ext G H w E H' w')(K:Ext E H' w' c j a):Ext G H w c j a where
 loc:=fun id l U=>K.loc _ _ (h.loc _ _ U)
 iZ:=fun b o F=>⟨(K.iZ _ _ (h.iZ _ _ F).1).1,((K.iZ _ _ (h.iZ _ _ F).1).2).trans (h.iZ _ _ F).2⟩
 size:=Ay h.size K.size
 frame:=fun b X A=>by
  rw[K.frame b (Bg X h.size) (fun id l U J=>?_),h.frame b X A]
  rcases h.nM id l U J with PB|⟨N,t,d,e,B⟩<;>grind
 nM:=fun id l U J=>by
  rcases K.nM id l U J with PB|⟨N,t,d,e,B⟩
  . exact .inl (Ay h.size PB)
  rcases h.nM N t d e with PB|⟨f,D,g,W,V⟩<;>grind
 qG:=fun b o F=>by
  rcases K.qG b o F with F|PB|⟨N,t,d,e,B⟩
  . exact h.qG b o F
  . exact .inr (.inl (Ay h.size PB))
  rcases h.nM N t d e with PB|⟨f,D,g,W,V⟩<;>grind
 next:=Ay h.next K.next
 news:=fun id l U A=>by
  cases O:E.loc id with
  |none=>exact Ay h.next (K.news id l U O)
  |some D=>exact h.news id D O A
 dead:=fun id l U J=>h.dead id l U (K.dead id l (h.loc _ _ U) J)
 mo:=K.mo.trans h.mo
 same:=h.same.trans (h.mo▸K.same)
theorem VR.ext(h:VR G w a u)(e:Ext G H w E H' w'):VR E w' a u:=
 h.mono e.loc e.iZ
variable{vs:List Value}
theorem jH.ext{xs:List AV}(h:jH G w xs vs)(e:Ext G H w E H' w'):jH E w' xs vs:=
 ⟨h.1,fun j Y=>(h.2 j Y).ext e⟩
variable{id:Nat}
theorem aA.mX{o:eG}{m:Nat}:(H.set id o).live m↔(m=id/\o.live=true)\/(m≠id/\H.live m):=by grind[aA.live,aA.aH]
variable{b:Nat}{c:Array Value}{q:TypeId}{fz:Nat×Nat}
theorem nQ{o:Nat}(h:w.heap[b]?=some (.cells c q fz)):
 w.cell? ⟨b,o,none⟩=c[o]?:=by
 simp[World.cell?,h]
theorem yE{o:Nat}(h:w.heap[b]?=some (.cells c q fz)):
 w.frozen? ⟨b,o,none⟩=(decide (fz.1<=o)&&decide (o<fz.2)):=by
 simp[World.frozen?,h]
variable{v:Value}
theorem DP{o:Nat}(h:w.cell? ⟨b,o,none⟩=some v):∃c q fz,w.heap[b]?=some (.cells c q fz)/\c[o]?=some v:=by
 unfold World.cell? at h
 grind
theorem gL{o:Nat}(h:w'.heap[b]?=w.heap[b]?):w'.cell? ⟨b,o,none⟩=w.cell? ⟨b,o,none⟩:=by simp[World.cell?,h]
theorem mY{o:Nat}(h:w'.heap[b]?=w.heap[b]?):w'.frozen? ⟨b,o,none⟩=w.frozen? ⟨b,o,none⟩:=by simp[World.frozen?,h]
theorem WR.of_heap{g:bL}(h:WR g G H w)(L:w'.heap=w.heap):WR g G H w':=by
 have X:∀b:Nat,w'.heap[b]?=w.heap[b]?:=fun b=>by grind
 have R:∀b o,w'.cell? ⟨b,o,none⟩=w.cell? ⟨b,o,none⟩:=fun b o=>gL (X b);have p:∀{a u},VR G w a u->VR G w' a u:=fun J=>J.mono (fun _ _ h=>h) (fun b o F=>⟨F,R b o⟩)
 exact {
  cells:=fun id l cs r O Z=>by
   obtain⟨a1,Q,s,i,M⟩:=h.cells id l cs r O Z
   grind
  room:=fun id l O Z=>by
   obtain⟨c,q,fz,a1,Q,s⟩:=h.room id l O Z
   grind[mY]
  mV:=h.mV
  lV:=h.lV
  jK:=fun id l o O Z E=>let⟨a1,Q,s⟩:=h.jK id l o O Z E;⟨a1,Q,s.mono (X _) fun _ _=>p⟩
  lt:=h.lt
  jJ:=fun b o F=>by rw[R];exact h.jJ b o F
  kQ:=fun n cs A=>p (h.kQ n cs A)
  FV:=fun n cs A d=>by rw[X];exact h.FV n cs A d
  mo:=h.mo}
theorem Ext.of_heap(L:w'.heap=w.heap)(M:DJ w w'):Ext G H w G H w' where
 loc:=fun _ _ h=>h
 iZ:=fun b o h=>⟨h,gL (by grind)⟩
 size:=by grind
 frame:=fun _ _ _=>by grind
 nM:=fun id l h U=>.inr ⟨id,l,h,U,rfl⟩
 qG:=fun _ _ h=>.inl h
 next:=Ae _
 news:=fun _ _ h K=>by grind
 dead:=fun _ _ _ h=>h
 mo:=rfl
 same:=M.toB _
variable{α:Type}
theorem GP(a:Array α)(x:α):(a.push x)[a.size]?=some x:=by simp
theorem sY{o:Nat}(h:w.cell? ⟨b,o,none⟩=some v):b<w.heap.size:=by
 obtain⟨c,q,fz,O,_⟩:=DP h
 grind
def Gh.pK(G:Gh)(b lo n:Nat):Gh:={G with iZ:=fun I o=>G.iZ I o\/(I=b/\lo<=o/\o<lo+n)}
def Gh.eA(G:Gh)(id:Nat)(l:Loc):Gh:={G with loc:=fun i=>if i=id then some l else G.loc i}
theorem WR.oP{g:bL}(h:WR g G H w){id:Nat}{l:Loc}(U:G.loc id=some l)(J:H.live id):l.dE<w.heap.size:=by
 obtain⟨o,S,d⟩:=J
 have :∃x,w.heap[l.dE]?=some x:=by
  cases o with
  |cells cs r=>obtain⟨c,q,fz,O,_⟩:=h.room id l U (.inl ⟨cs,r,S⟩);grind
  |tok=>obtain⟨c,q,fz,O,_⟩:=h.room id l U (.inr S);grind
  |dead=>cases d
  |_=>have :=(h.jK id l _ U S rfl).2.2.lt rfl;simp_all
 grind
theorem WR.grow{g:bL}(h:WR g G H w)
 (X:∀b,b<w.heap.size->w'.heap[b]?=w.heap[b]?):WR g G H w':=by
 have R:∀b o,G.iZ b o->w'.cell? ⟨b,o,none⟩=w.cell? ⟨b,o,none⟩:=fun b o F=>by obtain⟨v,J⟩:=h.jJ b o F;exact gL (X b (sY J))
 have p:∀{a u},VR G w a u->VR G w' a u:=fun J=>J.mono (fun _ _ h=>h) (fun b o F=>⟨F,R b o F⟩)
 exact {
  cells:=fun id l cs r O Z=>by obtain⟨a1,Q,s,i,M⟩:=h.cells id l cs r O Z;refine⟨a1,Q,s,i,fun j Y=>?_⟩;obtain⟨u,K,J⟩:=M j Y;exact⟨u,by rw[gL (X _ (h.oP O ⟨_,Z,rfl⟩))];omega,p J⟩
  room:=fun id l O Z=>by
   obtain⟨c,q,fz,a1,Q,s⟩:=h.room id l O Z
   grind[mY]
  mV:=h.mV
  lV:=h.lV
  jK:=fun id l o O Z E=>let⟨a1,Q,s⟩:=h.jK id l o O Z E;⟨a1,Q,s.mono (X _ (s.lt E)) fun _ _=>p⟩
  lt:=h.lt
  jJ:=fun b o F=>by rw[R b o F];exact h.jJ b o F
  kQ:=fun n cs A=>p (h.kQ n cs A)
  FV:=fun n cs A d=>let⟨c,q,fz,a1,Q⟩:=h.FV n cs A d;⟨c,q,fz,by grind,Q⟩
  mo:=h.mo}
theorem Ext.grow(S:∀b o,G.iZ b o->∃v,w.cell? ⟨b,o,none⟩=some v)
 (X:∀b,b<w.heap.size->w'.heap[b]?=w.heap[b]?) (I:w.heap.size<=w'.heap.size) (M:DJ w w'):Ext G H w G H w' where
 loc:=fun _ _ h=>h
 iZ:=fun b o F=>⟨F,by obtain⟨v,J⟩:=S b o F;exact gL (X b (sY J))⟩
 size:=I
 frame:=fun b r _=>X b r
 nM:=fun id l h U=>.inr ⟨id,l,h,U,rfl⟩
 qG:=fun _ _ h=>.inl h
 next:=Ae _
 news:=fun _ _ h K=>by grind
 dead:=fun _ _ _ h=>h
 mo:=rfl
 same:=M.toB _
theorem WR.pK{g:bL}(h:WR g G H w)(b lo n:Nat)
 (c:∀j,j<n->∃v,w.cell? ⟨b,lo+j,none⟩=some v)
 (e:∀id l,G.loc id=some l->H.live id->l.dE≠b\/l.base+l.ext<=lo\/lo+n<=l.base):WR g (G.pK b lo n) H w:=by
 have p:∀{a u},VR G w a u->VR (G.pK b lo n) w a u:=fun J=>J.mono (fun _ _ h=>h) (fun b o F=>⟨.inl F,rfl⟩)
 exact {
  cells:=fun id l cs r O Z=>by
   obtain⟨a1,Q,s,i,M⟩:=h.cells id l cs r O Z
   grind
  room:=h.room
  mV:=h.mV
  lV:=fun id l U J j Y F=>by
   rcases F with F|⟨O,Z,W⟩
   . exact h.lV id l U J j Y F
   rcases e id l U J with hd|hd|hd<;>grind
  jK:=fun id l o O Z E=>let⟨a1,Q,s⟩:=h.jK id l o O Z E;⟨a1,Q,s.mono rfl fun _ _=>p⟩
  lt:=h.lt
  jJ:=fun I o F=>by
   rcases F with F|⟨rfl,Z,W⟩
   . exact h.jJ I o F
   have :=c (o -lo) A0
   grind
  kQ:=fun n cs A=>p (h.kQ n cs A)
  FV:=h.FV
  mo:=h.mo}
theorem Ext.pK(e:Ext G H w E H' w')(b lo n:Nat)
 (X:w.heap.size<=b\/∃N t,G.loc N=some t/\H.live N/\t.dE=b):Ext G H w (E.pK b lo n) H' w' where
 loc:=e.loc
 iZ:=fun I o F=>⟨.inl (e.iZ I o F).1,(e.iZ I o F).2⟩
 size:=e.size
 frame:=e.frame
 nM:=e.nM
 qG:=fun I o F=>by
  rcases F with F|⟨rfl,_,_⟩
  . exact e.qG I o F
  grind
 next:=e.next
 news:=e.news
 dead:=e.dead
 mo:=e.mo
 same:=e.same
theorem WR.KV{g:bL}(h:WR g G H w)(N:Nat)(o:eG)(l:Loc)(d:G.loc N=none)
 (y:∀m,H'.get m=if m=N then some o else H.get m) (V:H.next<=H'.next) (JK:N<H'.next)
 (e:∀id l',G.loc id=some l'->H.live id->l.dE≠l'.dE\/l.base+l.ext<=l'.base\/l'.base+l'.ext<=l.base)
 (S:∀j,j<l.ext->¬G.iZ l.dE (l.base+j))
 (QN:∀cs r,o=.cells cs r->l.Wa=cs.length/\l.Wa<=l.ext/\(r=false->l.Wa=l.ext)/\(∀c∈cs,c.one=true)/\
   ∀j,j<cs.length->∃u,w.cell? ⟨l.dE,l.base+j,none⟩=some u/\VR G w (cs.getD j aB) u)
 (v:((∃cs r,o=.cells cs r)\/o=.tok)->∃c q fz,w.heap[l.dE]?=some (.cells c q fz)/\l.base+l.ext<=c.size/\∀j,j<l.ext->w.frozen? ⟨l.dE,l.base+j,none⟩=false)
 (VL:o.dE=true->l.base=0/\l.ext=1/\Mn g G w l o):
 WR g (G.eA N l) H' w:=by
 have z:∀{id l'},G.loc id=some l'->id≠N:=fun U he=>by rw[he,d] at U;cases U
 have p:∀{a u},VR G w a u->VR (G.eA N l) w a u:=fun J=>J.mono (fun id l' U=>by simp only[Gh.eA];rw[if_neg (z U)];exact U) (fun b o F=>⟨F,rfl⟩)
 have R:∀{id l'},(G.eA N l).loc id=some l'->(id=N/\l'=l)\/(id≠N/\G.loc id=some l'):=fun {id l'} U=>by
  simp only[Gh.eA] at U;split at U
  . exact .inl ⟨by assumption,by cases U;rfl⟩
  exact .inr ⟨by assumption,U⟩
 have k:∀{id},id≠N->H'.live id->H.live id:=fun A ⟨x,C,L⟩=>⟨x,by rw[y,if_neg A] at C;exact C,L⟩
 exact {
  cells:=fun id l' cs r O Z=>by
   rw[y] at Z
   rcases R O with ⟨rfl,rfl⟩|⟨A,O⟩
   . rw[if_pos rfl] at Z;obtain⟨a1,Q,s,i,M⟩:=QN cs r (Aa Z);exact Zcb
   rw[if_neg A] at Z;obtain⟨a1,Q,s,i,M⟩:=h.cells id l' cs r O Z;exact Zcb
  room:=fun id l' O Z=>by
   simp only[y] at Z
   rcases R O with ⟨rfl,rfl⟩|⟨A,O⟩
   . simp only[if_true] at Z;refine v (Z.imp (fun⟨cs,r,X⟩=>⟨cs,r,Aa X⟩) (fun X=>Aa X))
   simp only[if_neg A] at Z;exact h.room id l' O Z
  mV:=fun id f D B yt O Z W I=>by
   rcases R O with ⟨e1,t⟩|⟨A,k1⟩
   . rcases R Z with ⟨P,a6⟩|⟨Lg,k2⟩
     . exact absurd (e1.trans P.symm) yt
     rw[t];exact e f B k2 (k Lg I)
   rcases R Z with ⟨P,a6⟩|⟨Lg,k2⟩
   . rw[a6]
     rcases e id D k1 (k A W) with hd|hd|hd
     . exact .inl (Ne.symm hd)
     . exact .inr (.inr hd)
     exact .inr (.inl hd)
   exact h.mV id f D B yt k1 k2 (k A W) (k Lg I)
  lV:=fun id l' O J j Y=>by
   rcases R O with ⟨rfl,rfl⟩|⟨A,O⟩
   . exact S j Y
   exact h.lV id l' O (k A J) j Y
  jK:=fun id l' T O Z E=>by
   rw[y] at Z
   rcases R O with ⟨rfl,rfl⟩|⟨A,O⟩
   . rw[if_pos rfl] at Z;obtain rfl:=Aa Z;obtain⟨a1,Q,s⟩:=VL E;exact⟨a1,Q,s.mono rfl fun _ _=>p⟩
   rw[if_neg A] at Z;obtain⟨a1,Q,s⟩:=h.jK id l' T O Z E;exact⟨a1,Q,s.mono rfl fun _ _=>p⟩
  lt:=fun id l' O=>by
   rcases R O with ⟨rfl,rfl⟩|⟨A,O⟩
   . exact JK
   exact Bg (h.lt id l' O) V
  jJ:=h.jJ
  kQ:=fun n cs A=>p (h.kQ n cs A)
  FV:=h.FV
  mo:=h.mo}
theorem WR.Pg{g:bL}(h:WR g G H w)(o:eG)(l:Loc)
 (e:∀id l',G.loc id=some l'->H.live id->l.dE≠l'.dE\/l.base+l.ext<=l'.base\/l'.base+l'.ext<=l.base)
 (S:∀j,j<l.ext->¬G.iZ l.dE (l.base+j))
 (b:∀cs r,o=.cells cs r->l.Wa=cs.length/\l.Wa<=l.ext/\(r=false->l.Wa=l.ext)/\(∀c∈cs,c.one=true)/\
   ∀j,j<cs.length->∃u,w.cell? ⟨l.dE,l.base+j,none⟩=some u/\VR G w (cs.getD j aB) u)
 (v:((∃cs r,o=.cells cs r)\/o=.tok)->∃c q fz,w.heap[l.dE]?=some (.cells c q fz)/\l.base+l.ext<=c.size/\∀j,j<l.ext->w.frozen? ⟨l.dE,l.base+j,none⟩=false)
 (Y:o.dE=true->l.base=0/\l.ext=1/\Mn g G w l o):
 WR g (G.eA H.next l) (H.alloc o) w:=
 h.KV H.next o l (by
  cases U:G.loc H.next with
  |none=>rfl
  |some l'=>exact absurd (h.lt _ _ U) (Ec _)) (aA.aI H o) (Gm _) (Fg _) e S b v Y
theorem Ext.KV{j:aA}(e:Ext G H w E H' w')(N:Nat)(o:eG)(l:Loc)(d:E.loc N=none)
 (y:∀m,j.get m=if m=N then some o else H'.get m) (V:H'.next<=j.next) (I:H.next<=N)
 (X:w.heap.size<=l.dE\/∃N t,G.loc N=some t/\H.live N/\t.dE=l.dE):Ext G H w (E.eA N l) j w' where
 loc:=fun id l' U=>by
  have O:=e.loc id l' U
  grind[Gh.eA]
 iZ:=e.iZ
 size:=e.size
 frame:=e.frame
 nM:=fun id l' U J=>by
  simp only[Gh.eA] at U;split at U
  . grind
  rename_i A;obtain⟨x,C,L⟩:=J;rw[y,if_neg A] at C;exact e.nM id l' U ⟨x,C,L⟩
 qG:=e.qG
 next:=Ay e.next V
 news:=fun id l' U A=>by
  simp only[Gh.eA] at U;split at U
  . omega
  exact e.news id l' U A
 dead:=fun id l' U J=>by have O:=e.loc id l' U;obtain⟨x,C,L⟩:=J;rw[y,if_neg (fun B=>by grind)] at C;exact e.dead id l' U ⟨x,C,L⟩
 mo:=e.mo
 same:=e.same
theorem Ext.Pg(e:Ext G H w E H' w')(o:eG)(l:Loc)(r:∀id l',E.loc id=some l'->id<H'.next)
 (X:w.heap.size<=l.dE\/∃N t,G.loc N=some t/\H.live N/\t.dE=l.dE):Ext G H w (E.eA H'.next l) (H'.alloc o) w':=
 e.KV H'.next o l (by
  cases U:E.loc H'.next with
  |none=>rfl
  |some l'=>grind) (aA.aI H' o) (Gm _) e.next X
theorem WR.kill{g:bL}(h:WR g G H w)(id:Nat):WR g G (H.set id .dead) w where
 cells:=fun i l cs r O Z=>by
  rw[aA.aH] at Z;split at Z
  . grind
  exact h.cells i l cs r O Z
 room:=fun i l O Z=>by
  simp only[aA.aH] at Z;split at Z
  . grind
  exact h.room i l O Z
 mV:=fun i c l l' z O Z W I=>by
  rcases aA.mX.1 W with ⟨_,X⟩|⟨_,W⟩
  . cases X
  rcases aA.mX.1 I with ⟨_,X⟩|⟨_,I⟩
  . cases X
  exact h.mV i c l l' z O Z W I
 lV:=fun i l O J=>by
  rcases aA.mX.1 J with ⟨_,X⟩|⟨_,J⟩
  . cases X
  exact h.lV i l O J
 jK:=fun i l T O Z E=>by
  rw[aA.aH] at Z;split at Z
  . cases Z;cases E
  exact h.jK i l T O Z E
 lt:=h.lt
 jJ:=h.jJ
 kQ:=h.kQ
 FV:=h.FV
 mo:=h.mo
theorem Ext.kill(e:Ext G H w E H' w')(id:Nat):Ext G H w E (H'.set id .dead) w' where
 loc:=e.loc
 iZ:=e.iZ
 size:=e.size
 frame:=e.frame
 nM:=fun i l U J=>by
  rcases aA.mX.1 J with ⟨_,X⟩|⟨_,J⟩
  . cases X
  exact e.nM i l U J
 qG:=e.qG
 next:=e.next
 news:=e.news
 dead:=fun i l U J=>by
  rcases aA.mX.1 J with ⟨_,X⟩|⟨_,J⟩
  . cases X
  exact e.dead i l U J
 mo:=e.mo
 same:=e.same
structure WS (w w':World) (b lo:Nat) (vs:List Value):Prop where
 size:w'.heap.size=w.heap.size
 other:∀b',b'≠b->w'.heap[b']?=w.heap[b']?
 row:∀c el fz,w.heap[b]?=some (.cells c el fz)->∃c',w'.heap[b]?=some (.cells c' el fz)/\c'.size=c.size/\
  (∀o,(o<lo\/lo+vs.length<=o)->c'[o]?=c[o]?)/\(∀j,j<vs.length->lo+j<c.size->c'[lo+j]?=some (vs.getD j undef))
 same:DJ w w'
variable{lo:Nat}
theorem WS.cell(u:WS w w' b lo vs){I o:Nat}(h:I≠b\/o<lo\/lo+vs.length<=o){v:Value}
 (R:w.cell? ⟨I,o,none⟩=some v):w'.cell? ⟨I,o,none⟩=some v:=by
 by_cases X:I=b
 . subst X;obtain⟨c,q,fz,O,Z⟩:=DP R;obtain⟨K,W,h4,M,_⟩:=u.row c q fz O
   grind[nQ]
 rw[gL (u.other I X)];omega
theorem WS.frozen(u:WS w w' b lo vs){I o:Nat}{c:Array Value}{q:TypeId}{fz:Nat×Nat}
 (R:w.heap[I]?=some (.cells c q fz)):w'.frozen? ⟨I,o,none⟩=w.frozen? ⟨I,o,none⟩:=by
 by_cases X:I=b
 . subst X;obtain⟨K,W,_⟩:=u.row c q fz R
   grind[yE]
 exact mY (u.other I X)
theorem WR.write{g:bL}(h:WR g G H w){b lo:Nat}{vs:List Value}(u:WS w w' b lo vs)
 (S:∀j,j<vs.length->¬G.iZ b (lo+j))
 (e:∀id l,G.loc id=some l->H.live id->l.dE≠b\/l.base+l.ext<=lo\/lo+vs.length<=l.base)
 (f:∃c q fz,w.heap[b]?=some (.cells c q fz)):WR g G H w':=by
 have R:∀I o,G.iZ I o->w'.cell? ⟨I,o,none⟩=w.cell? ⟨I,o,none⟩:=fun I o F=>by
  obtain⟨v,J⟩:=h.jJ I o F;rw[J];refine u.cell ?_ J;by_cases X:I=b
  . subst X;by_cases O:o<lo
    . exact .inr (.inl O)
    refine .inr (.inr (Jv fun Z=>S (o -lo) A0 ?_))
    rwa [show lo+(o -lo)=o by omega]
  exact .inl X
 have p:∀{a u},VR G w a u->VR G w' a u:=fun J=>J.mono (fun _ _ h=>h) (fun b o F=>⟨F,R b o F⟩)
 exact {
  cells:=fun id l cs r O Z=>by
   obtain⟨a1,Q,s,i,M⟩:=h.cells id l cs r O Z;refine⟨a1,Q,s,i,fun j Y=>?_⟩;obtain⟨x,C,J⟩:=M j Y;refine⟨x,u.cell ?_ C,p J⟩
   rcases e id l O ⟨_,Z,rfl⟩ with hd|hd|hd<;>grind
  room:=fun id l O Z=>by
   obtain⟨c,q,fz,a1,Q,s⟩:=h.room id l O Z;by_cases X:l.dE=b
   . subst X;obtain⟨K,W,h4,_⟩:=u.row c q fz a1;exact⟨K,q,fz,W,by omega,fun j Y=>by rw[u.frozen a1];exact s j Y⟩
   exact⟨c,q,fz,by rw[u.other _ X];exact a1,Q,fun j Y=>by rw[u.frozen a1];exact s j Y⟩
  mV:=h.mV
  lV:=h.lV
  jK:=fun id l T O Z E=>by
   obtain⟨a1,Q,s⟩:=h.jK id l T O Z E
   have X:l.dE≠b:=fun X=>by obtain⟨c,q,fz,V⟩:=f;rw[<-X] at V;exact s.EM E V
   exact⟨a1,Q,s.mono (u.other _ X) fun _ _=>p⟩
  lt:=h.lt
  jJ:=fun b o F=>by rw[R b o F];exact h.jJ b o F
  kQ:=fun n cs A=>p (h.kQ n cs A)
  FV:=fun n cs A d=>by
   obtain⟨c,q,fz,a1,Q⟩:=h.FV n cs A d;by_cases X:n=b
   . subst X;obtain⟨K,W,h4,_⟩:=u.row c q fz a1;exact⟨K,q,fz,W,by omega⟩
   exact⟨c,q,fz,by rw[u.other _ X];exact a1,Q⟩
  mo:=h.mo}
theorem Ext.write{w1:World}(e:Ext G H w E H' w1){b lo:Nat}{vs:List Value}(u:WS w1 w' b lo vs)
 (S:∀j,j<vs.length->¬E.iZ b (lo+j)) (c:∀b o,E.iZ b o->∃v,w1.cell? ⟨b,o,none⟩=some v)
 (X:w.heap.size<=b\/∃N t,G.loc N=some t/\H.live N/\t.dE=b):Ext G H w E H' w' where
 loc:=e.loc
 iZ:=fun I o F=>by
  have O:=e.iZ I o F;refine⟨O.1,?_⟩;rw[<-O.2];obtain⟨v,J⟩:=c I o O.1;rw[J];refine u.cell ?_ J;by_cases d:I=b
  . by_cases Z:o<lo
    . omega
    refine .inr (.inr (Jv fun W=>S (o -lo) A0 ?_))
    grind
  omega
 size:=by rw[u.size];exact e.size
 frame:=fun I r A=>by
  have z:I≠b:=fun B=>by grind
  rw[u.other I z];exact e.frame I r A
 nM:=e.nM
 qG:=e.qG
 next:=e.next
 news:=e.news
 dead:=e.dead
 mo:=e.mo
 same:=e.same.trans (u.same.toB _)
theorem WR.bCy{g:bL}(h:WR g G (H.set id .dead) w)(o:eG)(l:Loc)(U:G.loc id=some l)
 (e:∀f l',f≠id->G.loc f=some l'->H.live f->l.dE≠l'.dE\/l.base+l.ext<=l'.base\/l'.base+l'.ext<=l.base)
 (S:∀j,j<l.ext->¬G.iZ l.dE (l.base+j))
 (b:∀cs r,o=.cells cs r->l.Wa=cs.length/\l.Wa<=l.ext/\(r=false->l.Wa=l.ext)/\(∀c∈cs,c.one=true)/\
   ∀j,j<cs.length->∃u,w.cell? ⟨l.dE,l.base+j,none⟩=some u/\VR G w (cs.getD j aB) u)
 (v:((∃cs r,o=.cells cs r)\/o=.tok)->∃c q fz,w.heap[l.dE]?=some (.cells c q fz)/\l.base+l.ext<=c.size/\∀j,j<l.ext->w.frozen? ⟨l.dE,l.base+j,none⟩=false)
 (Y:o.dE=true->l.base=0/\l.ext=1/\Mn g G w l o):
 WR g G (H.set id o) w:=by
 have y:∀{m},m≠id->(H.set id o).get m=(H.set id .dead).get m:=fun p=>by rw[aA.aH,aA.aH,if_neg p,if_neg p]
 have a:∀{l'},G.loc id=some l'->l'=l:=fun K=>Aa (K.symm.trans U)
 have k:∀{m},m≠id->(H.set id o).live m->(H.set id .dead).live m:=fun p J=>by obtain⟨x,C,L⟩:=J;exact⟨x,by rw[<-y p];exact C,L⟩
 have d:∀{m},m≠id->(H.set id o).live m->H.live m:=fun p J=>by
  rcases aA.mX.1 J with ⟨s,_⟩|⟨_,J⟩
  . exact absurd s p
  exact J
 exact {
  cells:=fun i l' cs r O Z=>by
   by_cases F:i=id
   . subst F;rw[aA.aH,if_pos rfl] at Z;obtain rfl:=a O;exact b cs r (Aa Z)
   rw[y F] at Z;exact h.cells i l' cs r O Z
  room:=fun i l' O Z=>by
   by_cases F:i=id
   . subst F;simp only[aA.aH,if_true] at Z;obtain rfl:=a O;exact v (Z.imp (fun⟨cs,r,X⟩=>⟨cs,r,Aa X⟩) (fun X=>Aa X))
   simp only[y F] at Z;exact h.room i l' O Z
  mV:=fun i n D B z O Z W I=>by
   by_cases F:i=id
   . subst F;obtain rfl:=a O;exact e n B (Ne.symm z) Z (d (Ne.symm z) I)
   by_cases N:n=id
   . subst N;obtain rfl:=a Z
     rcases e i D z O (d z W) with hd|hd|hd
     . exact .inl (Ne.symm hd)
     . exact .inr (.inr hd)
     exact .inr (.inl hd)
   exact h.mV i n D B z O Z (k F W) (k N I)
  lV:=fun i l' O J=>by
   by_cases F:i=id
   . subst F;obtain rfl:=a O;exact S
   exact h.lV i l' O (k F J)
  jK:=fun i l' T O Z E=>by
   by_cases F:i=id
   . subst F;rw[aA.aH,if_pos rfl] at Z;obtain rfl:=Aa Z;obtain rfl:=a O;exact Y E
   rw[y F] at Z;exact h.jK i l' T O Z E
  lt:=h.lt
  jJ:=h.jJ
  kQ:=h.kQ
  FV:=h.FV
  mo:=h.mo}
theorem Ext.aQs(e:Ext G H w E H' w')(id:Nat)(o:eG)(J:H'.live id):Ext G H w E (H'.set id o) w' where
 loc:=e.loc
 iZ:=e.iZ
 size:=e.size
 frame:=e.frame
 nM:=fun i l U R=>by
  rcases aA.mX.1 R with ⟨B,_⟩|⟨_,R⟩
  . subst B;exact e.nM i l U J
  exact e.nM i l U R
 qG:=e.qG
 next:=e.next
 news:=e.news
 dead:=fun i l U R=>by
  rcases aA.mX.1 R with ⟨B,_⟩|⟨_,R⟩
  . subst B;exact e.dead i l U J
  exact e.dead i l U R
 mo:=e.mo
 same:=e.same
theorem lL(b o i:Nat):(⟨b,o,none⟩:Addr).add i=⟨b,o+i,none⟩:=by simp[Addr.add]
theorem zT(l:List α)(d:α)(j:Nat)(h:j<l.length):l[j]?=some (l.getD j d):=by grind
theorem xR(P:Program)(w:World)(b o:Nat)(us:List Value)(h:∀j,j<us.length->w.cell? ⟨b,o+j,none⟩=some (us.getD j undef)):
 (loadCells ⟨b,o,none⟩ us.length).run P w=.ok us.toArray w:=
 run_loadCells_list w ⟨b,o,none⟩ us (fun j v Y=>by grind[lL,zT])
theorem Yu{o:Nat}:WS w (w.setCell ⟨b,o,none⟩ v) b o [v] where
 size:=by simp
 other:=fun I X=>by
  simp only[World.setCell,Gt]
  grind
 row:=fun c q fz h=>by
  refine⟨c.setIfInBounds o v,?_,by simp,fun o' S=>?_,fun j Y r=>?_⟩
  . simp[World.setCell,Gt,h]
  all_goals grind
 same:=.now
theorem WS.refl(w:World)(b lo:Nat):WS w w b lo [] where
 size:=rfl
 other:=fun _ _=>rfl
 row:=fun c q fz h=>⟨c,h,rfl,fun _ _=>rfl,fun j Y=>absurd Y (Al j)⟩
 same:=.now
theorem WS.cons{w1 w2:World}(O:WS w w1 b lo [v])(Z:WS w1 w2 b (lo+1) vs):WS w w2 b lo (v::vs) where
 size:=Z.size.trans O.size
 other:=fun I X=>(Z.other I X).trans (O.other I X)
 row:=fun c q fz h=>by
  obtain⟨y,a1,Q,s,i⟩:=O.row c q fz h;obtain⟨m,R,L,k,a⟩:=Z.row y q fz a1
  grind
 same:=O.same.trans Z.same
theorem Si(P:Program)(w:World)(b o:Nat)(v:Value)(u:Value)(R:w.cell? ⟨b,o,none⟩=some u)(N:w.frozen? ⟨b,o,none⟩=false)(O:aHy v=true):
 (store ⟨b,o,none⟩ v).run P w=.ok () (w.setCell ⟨b,o,none⟩ v):=by
 cases v<;>first
  |(simp[aHy] at O;done)
  |simp[store,Sem.run,R,N]
theorem fY(P:Program)(b o:Nat):∀(vs:List Value) (i:Nat) (w:World),(∃c q fz,w.heap[b]?=some (.cells c q fz)/\o+i+vs.length<=c.size)->
 (∀j,j<vs.length->w.frozen? ⟨b,o+i+j,none⟩=false)->(∀v∈vs,aHy v=true)->
 ∃w',(storeCells ⟨b,o,none⟩ vs i).run P w=.ok () w'/\WS w w' b (o+i) vs
 |[],i,w,_,_,_=>⟨w,rfl,WS.refl w b _⟩
 |v::r,i,w,⟨c,q,fz,vX,nO⟩,hf,h1=>by
  simp only[Ba] at nO;have k:w.cell? ⟨b,o+i,none⟩=some c[o+i]:=by rw[nQ vX,Array.getElem?_eq_getElem A0]
  have A:=Si P w b (o+i) v _ k (by simpa using hf 0 A2) (h1 v A2);have K:WS w (w.setCell ⟨b,o+i,none⟩ v) b (o+i) [v]:=Yu;obtain⟨y,a1,Q,_,_⟩:=K.row c q fz vX
  obtain⟨w',V,a⟩:=fY P b o r (i+1) (w.setCell ⟨b,o+i,none⟩ v) ⟨y,q,fz,a1,by omega⟩
   (fun j Y=>by
     rw[K.frozen vX];have :=hf (j+1) Za0
     rwa [show o+(i+1)+j=o+i+(j+1) by omega]) (fun x C=>h1 x (by simp[C]))
  refine⟨w',?_,K.cons (by rwa [show o+i+1=o+(i+1) by omega])⟩;simp_all[storeCells,Sem.run_bind,lL,A,Result.andThen_ok]
structure jI (w w':World) (o:Go.Obj):Prop where
 heap:w'.heap=w.heap.push o
 same:DJ w w'
theorem jI.WZ{o:Go.Obj}(p:jI w w' o)(b:Nat)(h:b<w.heap.size):w'.heap[b]?=w.heap[b]?:=by grind[p.heap]
theorem jI.new{o:Go.Obj}(p:jI w w' o):w'.heap[w.heap.size]?=some o:=by simp[p.heap]
theorem jI.size{o:Go.Obj}(p:jI w w' o):w'.heap.size=w.heap.size+1:=by simp[p.heap]
theorem WR.JU{g:bL}{o:Go.Obj}(h:WR g G H w)(p:jI w w' o):WR g G H w':=
 h.grow p.WZ
theorem Ext.JU{g:bL}{o:Go.Obj}(h:WR g G H w)(p:jI w w' o):Ext G H w G H w':=
 Ext.grow h.jJ p.WZ (by simp[p.size]) p.same
theorem jH.nil(G:Gh)(w:World):jH G w [] []:=⟨rfl,fun j Y=>absurd Y (Al j)⟩
def Clear(a:Array Value)(fz:Nat×Nat):Prop:=∀o,o<a.size->(decide (fz.1<=o)&&decide (o<fz.2))=false
theorem Clear.zero(a:Array Value):Clear a (0,0):=fun o _=>by simp
structure Made (g:bL) (G:Gh) (H:aA) (w:World) (fQ:Nat) (o:eG) (G':Gh) (H':aA) (w':World):Prop where
 rel:WR g G' H' w'
 bRg:∃l,l.dE=w.heap.size/\G'.loc fQ=some l/\∀id,id≠fQ->G'.loc id=G.loc id
 ext:∀{G0:Gh} {H0:aA} {w0:World},Ext G0 H0 w0 G H w->H0.next<=fQ->Ext G0 H0 w0 G' H' w'
 qG:∀b o,G'.iZ b o->G.iZ b o\/b=w.heap.size
 bPz:∀b o,G.iZ b o->G'.iZ b o
 size:w'.heap.size=w.heap.size+1
 WZ:∀b,b<w.heap.size->w'.heap[b]?=w.heap[b]?
theorem WR.AI{g:bL}(h:WR g G H w)(N:Nat)(d:G.loc N=none)(cs:List AV)(vs rest:List Value)(J:jH G w cs vs)(O:∀c∈cs,c.one=true)
 (r:Bool) (S:r=false->rest=[]) (y:∀m,H'.get m=if m=N then some (.cells cs r) else H.get m) (V:H.next<=H'.next) (e:N<H'.next)
 {q:TypeId} {fz:Nat×Nat} (f:Clear (vs++rest).toArray fz) (p:jI w w' (.cells (vs++rest).toArray q fz)):
 Made g G H w N (.cells cs r) (G.eA N ⟨w.heap.size,0,cs.length,(vs++rest).length⟩) H' w':=by
 have a:=h.JU p;have B:=Ext.JU h p;have n:=p.new
 refine⟨a.KV N _ _ d y V e (fun id l' U J=>.inl (Ne.symm (Nat.ne_of_lt (h.oP U J)))) (fun j _ F=>?_) (fun I D A=>?_) (fun _=>?_) (fun A=>by cases A),
  ⟨⟨w.heap.size,0,cs.length,(vs++rest).length⟩,rfl,by simp[Gh.eA],fun id z=>by grind[Gh.eA]⟩,fun {G0 H0 w0} e0 PB=>(e0.trans B).KV N _ _ d y V PB (.inl ?_),fun b o F=>.inl F,fun b o F=>F,p.size,p.WZ⟩
 . exact ZbW
 . cases A;have Q:=J.1;refine⟨rfl,by grind,fun i=>by grind,O,fun j Y=>⟨vs.getD j undef,?_,(J.2 j Y).mono B.loc B.iZ⟩⟩;rw[nQ n]
   grind
 . exact⟨_,q,fz,n,by simp,fun j Y=>by rw[yE n];exact f _ (by grind)⟩
 exact e0.size
theorem WR.aQf{g:bL}(h:WR g G H w)(cs:List AV)(vs rest:List Value)(J:jH G w cs vs)(O:∀c∈cs,c.one=true)
 (r:Bool) (S:r=false->rest=[]) {q:TypeId} {fz:Nat×Nat} (f:Clear (vs++rest).toArray fz) (p:jI w w' (.cells (vs++rest).toArray q fz)):
 WR g (G.eA H.next ⟨w.heap.size,0,cs.length,(vs++rest).length⟩) (H.alloc (.cells cs r)) w'/\
  Ext G H w (G.eA H.next ⟨w.heap.size,0,cs.length,(vs++rest).length⟩) (H.alloc (.cells cs r)) w':=by
 have d:G.loc H.next=none:=by
  cases U:G.loc H.next with
  |none=>rfl
  |some l'=>exact absurd (h.lt _ _ U) (Ec _)
 have :=h.AI H.next d cs vs rest J O r S (aA.aI H _) (Gm _) (Fg _) f p;exact⟨this.rel,this.ext (Ext.refl G H w) (Ae _)⟩
theorem WR.rn{g:bL}(h:WR g G H w)(cs:List AV)(vs rest:List Value)(J:jH G w cs vs)
 {q:TypeId} {fz:Nat×Nat} (p:jI w w' (.cells (vs++rest).toArray q fz)):
 WR g (G.pK w.heap.size 0 cs.length) H w'/\Ext G H w (G.pK w.heap.size 0 cs.length) H w'/\
  ∀j,j<cs.length->(G.pK w.heap.size 0 cs.length).iZ w.heap.size (0+j)/\w'.cell? ⟨w.heap.size,0+j,none⟩=some (vs.getD j undef)/\
   VR (G.pK w.heap.size 0 cs.length) w' (cs.getD j aB) (vs.getD j undef):=by
 have m:=h.JU p;have B:=Ext.JU h p;have n:=p.new;have Q:=J.1
 have k:∀j,j<cs.length->w'.cell? ⟨w.heap.size,0+j,none⟩=some (vs.getD j undef):=fun j Y=>by
  rw[nQ n]
  grind
 have A:=B.pK w.heap.size 0 cs.length (.inl (Ae _));refine⟨m.pK _ _ _ (fun j Y=>⟨_,k j Y⟩) (fun id l U J=>.inl (Nat.ne_of_lt (h.oP U J))),A,fun j Y=>⟨.inr ⟨rfl,by omega,by omega⟩,k j Y,(J.2 j Y).mono A.loc A.iZ⟩⟩
theorem WR.Tu{g:bL}(h:WR g G H w)(N:Nat)(d:G.loc N=none)(cs:List AV)(vs rest:List Value)(J:jH G w cs vs)
 (y:∀m,H'.get m=if m=N then some .tok else H.get m) (V:H.next<=H'.next) (e:N<H'.next)
 {q:TypeId} {fz:Nat×Nat} (f:Clear (vs++rest).toArray fz) (p:jI w w' (.cells (vs++rest).toArray q fz)):
 ∃E,E.loc N=some ⟨w.heap.size,cs.length,0,rest.length⟩/\Made g G H w N .tok E H' w'/\
  ∀j,j<cs.length->E.iZ w.heap.size (0+j)/\w'.cell? ⟨w.heap.size,0+j,none⟩=some (vs.getD j undef)/\VR E w' (cs.getD j aB) (vs.getD j undef):=by
 obtain⟨L,B,R⟩:=h.rn cs vs rest J p;have n:=p.new;have Q:=J.1;have u:(G.pK w.heap.size 0 cs.length).loc N=none:=d
 refine⟨(G.pK w.heap.size 0 cs.length).eA N ⟨w.heap.size,cs.length,0,rest.length⟩,by simp[Gh.eA],⟨?_,⟨_,rfl,by simp[Gh.eA];rfl,fun id z=>by simp only[Gh.eA];rw[if_neg z];rfl⟩,fun {G0 H0 w0} e0 PB=>?_,fun b o F=>F.imp id (fun X=>X.1),fun b o F=>.inl F,p.size,p.WZ⟩,
  fun j Y=>⟨(R j Y).1,(R j Y).2.1,(R j Y).2.2.mono (fun id l U=>?_) (fun b o F=>⟨F,rfl⟩)⟩⟩
 . refine L.KV N .tok _ u y V e (fun id l' U J=>.inl (Ne.symm (Nat.ne_of_lt (h.oP U J)))) (fun j _ F=>?_) (fun I D A=>by grind) (fun _=>?_) (fun A=>by cases A)
   . rcases F with F|⟨_,_,F⟩
     . exact ZbW
     grind
   exact⟨_,q,fz,n,by grind,fun j Y=>by rw[yE n];exact f _ (by grind)⟩
 . exact(e0.trans B).KV N .tok _ u y V PB (.inl e0.size)
 grind[Gh.eA]
theorem WR.aQg{g:bL}(h:WR g G H w)(cs:List AV)(vs rest:List Value)(J:jH G w cs vs)
 {q:TypeId} {fz:Nat×Nat} (f:Clear (vs++rest).toArray fz) (p:jI w w' (.cells (vs++rest).toArray q fz)):
 ∃E,E.loc H.next=some ⟨w.heap.size,cs.length,0,rest.length⟩/\WR g E (H.alloc .tok) w'/\Ext G H w E (H.alloc .tok) w'/\
  ∀j,j<cs.length->E.iZ w.heap.size (0+j)/\w'.cell? ⟨w.heap.size,0+j,none⟩=some (vs.getD j undef)/\VR E w' (cs.getD j aB) (vs.getD j undef):=by
 have d:G.loc H.next=none:=by
  cases U:G.loc H.next with
  |none=>rfl
  |some l'=>exact absurd (h.lt _ _ U) (Ec _)
 obtain⟨E,O,Z,W⟩:=h.Tu H.next d cs vs rest J (aA.aI H _) (Gm _) (Fg _) f p;exact⟨E,O,Z.rel,Z.ext (Ext.refl G H w) (Ae _),W⟩
section
def Ly:Value->Option AV
 |.bool b=>some (.bool b)
 |.int k n=>some (.int k n)
 |.string s=>some (.str s.data.toList)
 |.pointer none=>some .NX
 |.slice none 0 0=>some .bE
 |.nilFunc=>some .EL
 |.nilIface=>some .rE
 |.map none=>some .uD
 |_=>none
def lG:List Value->Option (List AV)
 |[]=>some []
 |v::r=>match Ly v,lG r with
  |some a,some b=>some (a::b)
  |_,_=>none
def ofConst:Value->Option AV
 |.agg cs=>(lG cs.toList).map .agg
 |v=>Ly v
variable{v:Value}{a:AV}
theorem OM(h:Ly v=some a)(G:Gh)(w:World):VR G w a v/\a.one=true:=by
 unfold Ly at h
 split at h<;>first
  |(cases h;done)
  |(obtain rfl:=Aa h;exact⟨by constructor,rfl⟩)
variable{G:Gh}{w:World}{x:AV}{xs:List AV}{vs:List Value}
theorem jH.cons(h:VR G w x v)(M:jH G w xs vs):jH G w (x::xs) (v::vs):=
 ⟨by simp[M.1],fun j Y=>by
   cases j with
   |zero=>grind
   |succ j=>simpa using M.2 j (by grind)⟩
theorem VR.cons(h:VR G w x v)(M:jH G w xs vs):jH G w (x::xs) (v::vs):=
 jH.cons h M
theorem nR:∀{vs:List Value} {cs:List AV},lG vs=some cs->∀(G:Gh) (w:World),jH G w cs vs/\∀c∈cs,c.one=true
 |[],cs,h,G,w=>by obtain rfl:=Aa h;exact⟨jH.nil G w,fun c R=>by grind⟩
 |v::r,cs,h,G,w=>by
  unfold lG at h;split at h
  . rename_i a b I X;obtain rfl:=Aa h;have O:=OM I G w;have Z:=nR X G w
    exact⟨O.1.cons Z.1,fun c R=>by grind⟩
  grind
theorem VR.Zr{cs:List AV}(h:jH G w cs vs)(O:∀c∈cs,c.one=true):VR G w (.agg cs) (.agg vs.toArray):=
 .agg cs vs h.1 O h.2
theorem JR(h:ofConst v=some a)(G:Gh)(w:World):VR G w a v:=by
 unfold ofConst at h;split at h
 . rename_i cs
   cases R:lG cs.toList with
   |none=>grind
   |some b=>simp[R] at h;subst h;have :=nR R G w;simpa using VR.Zr this.1 this.2
 exact(OM h G w).1
theorem VR.cellsOf(h:VR G w a v)(q:a.HO=false):jH G w a.cells v.cells.toList/\∀c∈a.cells,c.one=true:=by
 cases h with
 |agg cs vs U O J=>exact⟨⟨by assumption,by assumption⟩,O⟩
 |jS cs vs U J=>grind[AV.HO]
 |_=>exact⟨jH.cons (by constructor<;>assumption) (jH.nil G w),fun c R=>by
   simp only[AV.cells,Bw] at R;subst R
   rfl⟩
def bO(g:bL):Operand->Option Arg
 |.tmp t=>some (.tmp t)
 |.const v=>(ofConst v).map .const
 |.global n=>if(g n).isSome then some (.kQ n) else none
 |.func f=>some (.const (.func (.func f) [] []))
def SR(G:Gh)(w:World)(s:List AV)(a:Act):Prop:=jH G w s a.tmps.toList
variable{a:Act}{s:List AV}
theorem SR.getD(h:SR G w s a)(t:Nat):VR G w (s.getD t aB) (a.tmps.getD t undef):=by
 have Q:=h.1;by_cases q:t<s.length
 . have :=h.2 t q;simp_all
 have T:s.getD t aB=aB:=by grind
 have P:a.tmps.getD t undef=undef:=by grind
 rw[T,P];exact VR.oV G w
variable{H:aA}
theorem bM{g:bL}(L:WR g G H w)(M:SR G w s a){x:Operand}{y:Arg}(h:bO g x=some y):
 VR G w (y.eval g s) (a.eval x):=by
 cases x with
 |tmp t=>obtain rfl:=Aa h;exact M.getD t
 |const v=>simp only[bO,Ad] at h;obtain⟨c,R,rfl⟩:=h;exact JR R G w
 |global n=>
  simp only[bO] at h;split at h
  . rename_i b;obtain rfl:=Aa h;obtain⟨cs,F⟩:=Option.isSome_iff_exists.1 b;simp only[Arg.eval,F,Act.eval];exact L.kQ n cs F
  grind
 |func f=>obtain rfl:=Aa h;exact VR.func _ [] [] [] [] rfl rfl (fun j Y=>absurd Y (Al j)) (fun j Y=>absurd Y (Al j))
def pL(g:bL):List Operand->Option (List Arg)
 |[]=>some []
 |x::r=>match bO g x,pL g r with
  |some a,some b=>some (a::b)
  |_,_=>none
theorem vL{g:bL}{G:Gh}{H:aA}{w:World}{s:List AV}{a:Act}(L:WR g G H w)(M:SR G w s a):∀{xs:List Operand} {ys:List Arg},pL g xs=some ys->
 jH G w (ys.map (Arg.eval g s)) (xs.map a.eval)
 |[],ys,h=>by obtain rfl:=Aa h;exact jH.nil G w
 |x::r,ys,h=>by
  unfold pL at h;split at h
  . rename_i y b Q X;obtain rfl:=Aa h;exact(bM L M Q).cons (vL L M X)
  grind
def sD(g:bL):Option Operand->Option (Option Arg)
 |none=>some none
 |some x=>(bO g x).map some
def gP(P:Program)(t:TypeId):Option Bool:=
 match P.underlying t with
 |some (.struct _)|some (.array _ _)=>some true
 |some _=>some false
 |none=>none
variable{t:TypeId}
theorem sH{P:Program}{b:Bool}(h:gP P t=some b)(w:World):(isAgg t).run P w=.ok b w:=by
 unfold gP at h;unfold isAgg;split at h
 . rename_i fs K;obtain rfl:=Aa h;simp[run_underlying K w]
 . rename_i n e K;obtain rfl:=Aa h;simp[run_underlying K w]
 . rename_i d O Z K;obtain rfl:=Aa h;simp only[Sem.run_bind,run_underlying K w,Result.andThen_ok];rfl
 grind
def mD(P:Program)(t:TypeId):Option Nat:=(P.info? t).map (·.size)
theorem eV{P:Program}{n:Nat}(h:mD P t=some n)(w:World):(sizeOf t).run P w=.ok n w:=by simp only[mD,Ad] at h;obtain⟨i,F,rfl⟩:=h;simp[sizeOf,typeInfo,program,Sem.run,F]
def nK(P:Program)(t:TypeId):Option Value:=(P.info? t).bind (·.zero)
theorem nA{P:Program}(h:nK P t=some v)(w:World):(zeroValue t).run P w=.ok v w:=by simp only[nK,Option.bind_eq_some_iff] at h;obtain⟨i,F,s⟩:=h;simp[zeroValue,typeInfo,program,Sem.run,F,s]
def Su(n:Next)(u:Value):Prop:=n=.value u\/(n=.skip/\u=undef)
def cV(P:Program)(g:bL)(o:Oper)(r:eJ):Prop:=
 ∀(s:List AV) (a:Act) (G:Gh) (H:aA) (w:World) (v:AV) (H':aA),WR g G H w->SR G w s a->dS (Arg.eval g s) H r=some (v,H')->
  ∃n u w' E,(execOp a.eval o).run P w=.ok n w'/\Su n u/\WR g E H' w'/\Ext G H w E H' w'/\VR E w' v u
theorem cV.pure'{P:Program}{g:bL}{o:Oper}{v:AV}{u:Value}(L:WR g G H w)
 (V:(execOp a.eval o).run P w=.ok (.value u) w) (J:VR G w v u):
 ∃n u w' E,(execOp a.eval o).run P w=.ok n w'/\Su n u/\WR g E H w'/\Ext G H w E H w'/\VR E w' v u:=
 ⟨_,u,w,G,V,.inl rfl,L,Ext.refl G H w,J⟩
def HG(P:Program)(g:bL)(o:Oper)(r:eJ):Prop:=
 ∀(s:List AV) (a:Act) (G:Gh) (H H':aA) (w:World) (T:eG) (val:Nat->AV) (N:Nat),WR g G H w->SR G w s a->CS (Arg.eval g s) r=some (T,val)->
  G.loc N=none->(∀m,H'.get m=if m=N then some T else H.get m)->H.next<=H'.next->N<H'.next->
  ∃u w' E,(execOp a.eval o).run P w=.ok (.value u) w'/\Made g G H w N T E H' w'/\VR E w' (val N) u
theorem HG.op{P:Program}{g:bL}{o:Oper}{r:eJ}(h:HG P g o r)(V:∀ev H,dS ev H r=(CS ev r).map fun p=>(p.2 H.next,H.alloc p.1)):cV P g o r:=by
 intro s a G H w v H' L M I;rw[V] at I;simp only[Ad,Ap] at I;obtain⟨⟨T,val⟩,N,rfl,rfl⟩:=I
 have d:G.loc H.next=none:=by
  cases U:G.loc H.next with
  |none=>rfl
  |some l'=>exact absurd (L.lt _ _ U) (Ec _)
 obtain⟨u,w',E,O,Z,W⟩:=h s a G H (H.alloc T) w T val H.next L M N d (aA.aI H _) (Gm _) (Fg _);exact⟨_,u,w',E,O,.inl rfl,Z.rel,Z.ext (Ext.refl G H w) (Ae _),W⟩
section
variable {P:Program} {g:bL} {o:Oper}
variable{x:Operand}
theorem qt{y:Arg}(ho:o.op=.move x\/o.op=.assign x)(C:bO g x=some y):cV P g o (.wE y):=by
 intro s a G H w v H' L M h;obtain⟨rfl,rfl⟩:=h;refine cV.pure' L (u:=a.eval x) ?_ (bM L M C)
 rcases ho with ho|ho<;>simp[execOp,ho]
variable{D:Arg}
theorem aPp{c y:Operand}{K J:Arg}(S:o.op=.pick c x y)(R:bO g c=some K)(C:bO g x=some D)(Q:bO g y=some J):cV P g o (.pick K D J):=by
 intro s a G H w v H' L M h;have e:=bM L M R;have W:=bM L M C;have A:=bM L M Q;simp only[dS] at h;split at h
 . rename_i t q;rw[q] at e;obtain⟨rfl,rfl⟩:=h
   cases d:a.eval c with
   |bool b=>rw[d] at e;cases e;refine cV.pure' L (u:=if t then a.eval x else a.eval y) ?_ (by grind);simp[execOp,S,d,asBool]
   |_=>rw[d] at e;cases e
 grind
variable{t:TypeId}{z:Value}{zs:List AV}
theorem TL(S:o.op=.alloc t)(b:nK P t=some z)(Z:lG z.cells.toList=some zs):HG P g o (.alloc zs):=by
 intro s a G H H' w T val N L M h d y V r;obtain⟨rfl,rfl⟩:=h;have R:=nR Z G w;have m:jI w {w with heap:=w.heap.push (.cells z.cells t)} (.cells (z.cells.toList++[]).toArray t (0,0)):=⟨by simp,.now⟩;have p:=L.AI N d zs z.cells.toList [] R.1 R.2 false (fun _=>rfl) y V r (Clear.zero _) m;refine⟨.pointer (some ⟨w.heap.size,0,none⟩),_,_,?_,p,?_⟩
 . simp[execOp,S,Instr.alloc,nA b w,newVar,newRow,newObj,Sem.run]
 exact VR.ref N 0 ⟨w.heap.size,0,zs.length,(z.cells.toList++[]).length⟩ (by simp[Gh.eA])
theorem aHo(S:o.op=.alloc t)(s:nK P t=some z)(Z:lG z.cells.toList=some zs):cV P g o (.alloc zs):=
 (TL S s Z).op fun _ _=>rfl
theorem my(S:o.op=.box t x)(C:bO g x=some D):HG P g o (.box D):=by
 intro s a G H H' w T val N L M h d y V r;simp only[CS] at h;split at h
 . grind
 obtain⟨rfl,rfl⟩:=h;have R:=(bM L M C).cellsOf (by grind);have m:jI w {w with heap:=w.heap.push (.cells (a.eval x).cells t)} (.cells ((a.eval x).cells.toList++[]).toArray t (0,0)):=⟨by simp,.now⟩;have p:=L.AI N d _ _ [] R.1 R.2 false (fun _=>rfl) y V r (Clear.zero _) m;refine⟨.pointer (some ⟨w.heap.size,0,none⟩),_,_,?_,p,?_⟩
 . simp[execOp,S,Instr.box,newVar,newRow,newObj,Sem.run]
 exact VR.ref N 0 ⟨w.heap.size,0,(D.eval g s).cells.length,((a.eval x).cells.toList++[]).length⟩ (by simp[Gh.eA])
theorem bCh(S:o.op=.box t x)(C:bO g x=some D):cV P g o (.box D):=
 (my S C).op fun _ _=>rfl
theorem aPo(S:o.op=.makeInterface t x)(C:bO g x=some D)
 (q:(match P.underlying t with|some (.interface _)=>false|some _=>true|none=>false)=true):cV P g o (.h8 t D):=by
 intro s a G H w v H' L M h;obtain⟨rfl,rfl⟩:=h;refine cV.pure' L (u:=.iface t (a.eval x)) ?_ (.iface t _ _ (bM L M C));split at q
 . grind
 . rename_i d hd K;simp only[execOp,S,Instr.makeInterface,Sem.run_bind,run_underlying K w,Result.andThen_ok];rfl
 grind
theorem aPn{fn:Fn}{fs cs:Array Operand}{W I:List Arg}(S:o.op=.makeFunc fn fs cs)(N:pL g fs.toList=some W)(R:pL g cs.toList=some I):cV P g o (.gq fn W I):=by intro s a G H w v H' L M h;obtain⟨rfl,rfl⟩:=h;have O:=vL L M N;have Z:=vL L M R;refine cV.pure' L (u:=.func fn (fs.toList.map a.eval).toArray (cs.toList.map a.eval).toArray) ?_ (.func fn _ _ _ _ O.1 Z.1 O.2 Z.2);simp only[execOp,S,Instr.makeFunc,Sem.run_bind,Sem.run_pure,Result.andThen_ok];congr 3<;>(grind)
theorem aPf{i:Nat}(S:o.op=.extract x i)(C:bO g x=some D):cV P g o (.QD D i):=by
 intro s a G H w v H' L M h;have W:=bM L M C;simp only[dS] at h;split at h
 . rename_i vs z;rw[z] at W;split at h
   . rename_i F;obtain⟨rfl,rfl⟩:=h
     cases f:a.eval x with
     |tuple us=>
      rw[f] at W
      cases W with
      |jS _ b U J=>refine cV.pure' L (u:=b.getD i undef) ?_ (J i F);have N:i<b.length:=A0;simp only[execOp,S,f,Instr.extract,Ff,zT b undef i N,Sem.run_bind,Sem.run_pure,Result.andThen_ok]
     |_=>rw[f] at W;cases W
   grind
 grind
theorem aHt(S:o.op=.nilCheck x)(C:bO g x=some D):cV P g o (.Qv D):=by
 intro s a G H w v H' L M h;have W:=bM L M C
 have key:∀{b:AV} {u:Value},VR G w b u->(∃id off,b=.ref id off)\/(∃cs,b=.pl cs)\/(∃f p q,b=.func (.func f) p q)\/(∃t y,b=.iface t y)->a.eval x=u->(execOp a.eval o).run P w=.ok (.value u) w:=by
  intro b u J R B
  rcases R with ⟨id,off,rfl⟩|⟨cs,rfl⟩|⟨f,p,q,rfl⟩|⟨t,y,rfl⟩<;>cases J<;>simp[execOp,S,B]
 simp only[dS] at h
 split at h<;>first
  |(cases h;done)
  |(rename_i z
    obtain⟨rfl,rfl⟩:=h;rw[z] at W
    exact cV.pure' L (key W A2 rfl) W)
variable{G:Gh}{w:World}{u:Value}
theorem VR.jP{k:IntKind}{n:Int}(h:VR G w (.int k n) u):u=.int k n:=by cases h;rfl
theorem VR.lM{b:Bool}(h:VR G w (.bool b) u):u=.bool b:=by cases h;rfl
theorem VR.jQ{s:List UInt8}(h:VR G w (.str s) u):u=.string ⟨s.toArray⟩:=by cases h;rfl
theorem VR.WE(G:Gh)(w:World)(s:List UInt8):VR G w (.str s) (.string ⟨s.toArray⟩):=by have :=VR.str (G:=G) (w:=w) ⟨s.toArray⟩;omega
theorem vM{a:AV}{n:Nat}(h:asNat a=some n)(J:VR G w a u):∃k,a=.int k n/\u=.int k n:=by
 cases a<;>simp only[asNat] at h<;>try (cases h)
 rename_i k m;split at h
 . rename_i p;obtain rfl:=Aa h;refine⟨k,by grind,by rw[Int.toNat_of_nonneg p];exact J.jP⟩
 grind
end
end
section
variable{α:Type}
theorem getD_eq(l:List α)(d:α)(j:Nat):l.getD j d=(l[j]?).getD d:=rfl
theorem qW(l:List α)(d:α)(o n j:Nat)(h:j<n):((l.drop o).take n).getD j d=l.getD (o+j) d:=by grind
theorem FR(l:List α)(d:α)(o j:Nat):(l.drop o).getD j d=l.getD (o+j) d:=by simp
theorem getD_take(l:List α)(d:α)(n j:Nat)(h:j<n):(l.take n).getD j d=l.getD j d:=by grind
theorem sO(cs:List AV)(off:Nat)(vs:List AV)(h:off+vs.length<=cs.length):(iT cs off vs).length=cs.length:=by grind[iT]
theorem OE(cs:List AV)(off:Nat)(vs:List AV)(d:AV)(h:off+vs.length<=cs.length)(j:Nat):
 (iT cs off vs).getD j d=if off<=j/\j<off+vs.length then vs.getD (j -off) d else cs.getD j d:=by
 simp only[getD_eq,iT];rw[Dp]
 grind
variable{cs:List AV}
theorem Qo{off:Nat}{vs:List AV}{c:AV}(h:c∈iT cs off vs):c∈cs\/c∈vs:=by grind[iT]
theorem Qn{j:Nat}(h:j<cs.length):cs.getD j aB∈cs:=by grind
variable{G:Gh}{w:World}
theorem Ps{b o n:Nat}(h:∀j,j<n->∃u,w.cell? ⟨b,o+j,none⟩=some u/\VR G w (cs.getD j aB) u):
 ∃us:List Value,us.length=n/\(∀j,j<n->w.cell? ⟨b,o+j,none⟩=some (us.getD j undef))/\∀j,j<n->VR G w (cs.getD j aB) (us.getD j undef):=by
 refine⟨(List.range n).map fun j=>(w.cell? ⟨b,o+j,none⟩).getD undef,by simp,fun j Y=>?_,fun j Y=>?_⟩
 all_goals grind
theorem ML{P:Program}{t:TypeId}{e:Bool}{n b o:Nat}(i:gP P t=some e)(I:mD P t=some n)
 (Q:n=cs.length) (O:∀c∈cs,c.one=true) (A:e=false->n=1)
 (h:∀j,j<n->∃u,w.cell? ⟨b,o+j,none⟩=some u/\VR G w (cs.getD j aB) u):
 ∃u,(loadVar t ⟨b,o,none⟩).run P w=.ok u w/\VR G w (if e then .agg cs else cs.getD 0 aB) u:=by
 obtain⟨us,U,R,J⟩:=Ps h
 cases e with
 |true=>refine⟨.agg us.toArray,?_,.agg cs us A0 O (fun j Y=>J j A0)⟩;have V:=xR P w b o us (fun j Y=>R j A0);rw[U] at V;simp[loadVar,sH i w,eV I w,V]
 |false=>have a:=A rfl;have l:=R 0 A0;have d:=J 0 A0;refine⟨us.getD 0 undef,?_,d⟩;simp only[Di] at l;simp only[loadVar,Sem.run_bind,sH i w,Result.andThen_ok,Bs,Cv,run_load,l]
variable{H:aA}
theorem WR.store{g:bL}{w':World}(h:WR g G H w){id:Nat}{l:Loc}{cs:List AV}{r:Bool}(U:G.loc id=some l)(t:H.get id=some (.cells cs r))
 {off:Nat} {xs:List AV} {vs:List Value} (J:jH G w xs vs) (O:∀c∈xs,c.one=true) (T:off+xs.length<=cs.length) (u:WS w w' l.dE (l.base+off) vs):
 WR g G (H.set id (.cells (iT cs off xs) r)) w'/\Ext G H w G (H.set id (.cells (iT cs off xs) r)) w':=by
 have d:H.live id:=⟨_,t,rfl⟩;obtain⟨a1,P,s,i,M⟩:=h.cells id l cs r U t;obtain⟨c,q,fz,n,Z,k⟩:=h.room id l U (.inl ⟨cs,r,t⟩);have Q:=J.1
 have S:∀j,j<vs.length->¬G.iZ l.dE (l.base+off+j):=fun j Y=>by rw[Bm];exact h.lV id l U d (off+j) A0
 have e:∀f l',f≠id->G.loc f=some l'->H.live f->l.dE≠l'.dE\/l.base+l.ext<=l'.base\/l'.base+l'.ext<=l.base:=
  fun f l' z L R=>h.mV id f l l' (Ne.symm z) U L d R
 have E:=h.kill id
 have V:=E.write u S (fun f l' L R=>by
  rcases aA.mX.1 R with ⟨_,X⟩|⟨z,R⟩
  . cases X
  rcases e f l' z L R with hd|hd|hd
  . exact .inl (Ne.symm hd)
  . exact .inr (.inr A0)
  exact .inr (.inl A0)) ⟨c,q,fz,n⟩
 have p:=((Ext.refl G H w).write u S h.jJ (.inr ⟨id,l,U,d,rfl⟩)).aQs id (.cells (iT cs off xs) r) d;have N:∀{a:AV} {x:Value},VR G w a x->VR G w' a x:=fun C=>C.mono (fun _ _ h=>h) (fun b o F=>⟨F,(p.iZ b o F).2⟩);obtain⟨K,y,W,d3,A⟩:=u.row c q fz n;refine⟨V.bCy _ l U e (fun j Y=>h.lV id l U d j Y) (fun I D B=>?_) (fun _=>⟨K,q,fz,y,by omega,fun j Y=>by rw[u.frozen n];exact k j Y⟩) (fun B=>by cases B),p⟩;cases B;refine⟨by rw[sO _ _ _ T];exact a1,P,s,fun x C=>(Qo C).elim (i x) (O x),fun j Y=>?_⟩;rw[sO _ _ _ T] at Y;rw[OE _ _ _ _ T];by_cases v:off<=j/\j<off+xs.length
 . rw[if_pos v];refine⟨vs.getD (j -off) undef,?_,N (J.2 (j -off) A0)⟩;have :=A (j -off) A0 A0;rw[nQ y,<-this];congr 1;omega
 rw[if_neg v];obtain⟨x,C,m⟩:=M j Y;exact⟨x,u.cell (.inr A0) C,N m⟩
theorem aA.qS{id:Nat}(h:H.fP id=some cs):∃r,H.get id=some (.cells cs r):=by grind[aA.fP]
theorem Na{g:bL}(L:WR g G H w){id off n:Nat}{l:Loc}{cs:List AV}{r:Bool}(U:G.loc id=some l)(t:H.get id=some (.cells cs r))
 (T:off+n<=cs.length):∀j,j<n->∃u,w.cell? ⟨l.dE,l.base+off+j,none⟩=some u/\VR G w (((cs.drop off).take n).getD j aB) u:=fun j Y=>by
 obtain⟨u,K,J⟩:=(L.cells id l cs r U t).2.2.2.2 (off+j) A0
 grind
section
variable {P:Program} {g:bL} {o:Oper}
variable{t:TypeId}{x:Operand}{D:Arg}{n:Nat}
theorem aPk{e:Bool}(S:o.op=.load t x)(C:bO g x=some D)(i:gP P t=some e)(I:mD P t=some n):
 cV P g o (.load e n D):=by
 intro s a G H w v H' L M h;have W:=bM L M C
 have y:∀(b o':Nat) (cs:List AV),a.eval x=.pointer (some ⟨b,o',none⟩)->n=cs.length->(∀c∈cs,c.one=true)->(e=false->n=1)->
  (∀j,j<n->∃u,w.cell? ⟨b,o'+j,none⟩=some u/\VR G w (cs.getD j aB) u)->
  ∃n u w' q,(execOp a.eval o).run P w=.ok n w'/\Su n u/\WR g q H w'/\Ext G H w q H w'/\VR q w' (if e then .agg cs else cs.getD 0 aB) u:=by
  intro b o' cs B U O A R;obtain⟨u,V,J⟩:=ML (P:=P) i I U O A R;refine cV.pure' L (u:=u) ?_ J;simp[execOp,S,B,Instr.loadAt,Instr.sureAddr,V]
 simp only[dS] at h;split at h
 . rename_i id off d;rw[d] at W;split at h
   . rename_i cs F;obtain⟨r,z⟩:=aA.qS F;split at h
     . rename_i T
       cases f:a.eval x with
       |pointer p=>
        rw[f] at W
        cases W with
        |ref _ _ l U=>
         have h4:=(L.cells id l cs r U z).2.2.2.1;have k:=Na L U z T;have Q:n=((cs.drop off).take n).length:=Zaf;have E:∀c∈(cs.drop off).take n,c.one=true:=fun c R=>h4 c (Gx (Cw R));split at h
         . rename_i m;simp only[Aj,Ap] at h;exact ZbA
         rename_i m;split at h
         . rename_i A;simp only[Aj,Ap] at h;obtain⟨rfl,rfl⟩:=h;have :=y _ _ _ f Q E (fun _=>A) k
           rwa [if_neg m,qW _ _ _ _ _ A0,Di] at this
         cases h
       |_=>rw[f] at W;cases W
     cases h
   cases h
 . rename_i cs d;rw[d] at W;split at h
   . rename_i T
     cases f:a.eval x with
     |pointer p=>
      rw[f] at W
      cases W with
      |pl _ b o' us X J=>
       have k:∀j,j<n->∃u,w.cell? ⟨b,o'+j,none⟩=some u/\VR G w ((cs.take n).getD j aB) u:=fun j Y=>by rw[getD_take _ _ _ _ Y];exact⟨us j,(X j A0).2.1,J j A0⟩
       have Q:n=(cs.take n).length:=by simp;omega
       have E:∀c∈cs.take n,c.one=true:=fun c R=>by obtain⟨j,Y,rfl⟩:=Gy.1 (Cw R);have :=(X j Y).2.2;simpa [getD_eq,Af Y] using this
       split at h
       . rename_i m;exact ZbA
       rename_i m;split at h
       . rename_i A;obtain⟨rfl,rfl⟩:=h;have :=y _ _ _ f Q E (fun _=>A) k
         rwa [if_neg m,getD_take _ _ _ _ A0] at this
       cases h
     |_=>rw[f] at W;cases W
   cases h
 cases h
variable{G:Gh}{w:World}
theorem qC{xs:List AV}{vs:List Value}(J:jH G w xs vs)(O:∀c∈xs,c.one=true):∀v∈vs,aHy v=true:=by
 intro v R;obtain⟨j,Y,rfl⟩:=Gy.1 R;have S:j<xs.length:=by have :=J.1;omega
 have :=(J.2 j S).one
 grind
theorem aHw{y:Operand}{J:Arg}(S:o.op=.store t x y)(C:bO g x=some D)(m:bO g y=some J)(I:mD P t=some n):
 cV P g o (.store n D J):=by
 intro s a G H w v H' L M h;have W:=bM L M C;have A:=bM L M m;simp only[dS] at h;split at h
 . rename_i id off d;rw[d] at W;split at h
   . rename_i cs r i;split at h
     . rename_i R;obtain⟨N,O,b⟩:=R;obtain⟨rfl,rfl⟩:=h;obtain⟨z,E⟩:=A.cellsOf b
       cases f:a.eval x with
       |pointer p=>
        rw[f] at W
        cases W with
        |ref _ _ l U=>
         obtain⟨a1,F,_,_,_⟩:=L.cells id l cs r U i;obtain⟨c,q,fz,u,B,k⟩:=L.room id l U (.inl ⟨cs,r,i⟩);have Q:=z.1
         obtain⟨w',V,K⟩:=fY P l.dE (l.base+off) (a.eval y).cells.toList 0 w ⟨c,q,fz,u,by omega⟩
          (fun j Y=>by grind) (qC z E)
         obtain⟨r1,r2⟩:=L.store U i z E A0 K;refine⟨.skip,undef,w',G,?_,.inr ⟨rfl,rfl⟩,r1,r2,VR.oV G w'⟩;have e:(a.eval y).cells.size=n:=(by grind);simp[execOp,S,f,Instr.storeAt,Instr.sureAddr,storeVar,eV I w,e,V]
       |_=>rw[f] at W;cases W
     grind
   grind
 grind
def cu(P:Program)(t:TypeId)(i:Nat):Option (Nat×Nat×Bool):=
 match P.underlying t with
 |some (.struct fs)=>match fs[i]? with
  |some f=>match mD P f.type,gP P f.type with
   |some n,some b=>if n=0 then none else some (f.offset,n,b)
   |_,_=>none
  |none=>none
 |_=>none
variable{b:Bool}
theorem aPg{i:Nat}{off:Nat}(S:o.op=.fieldAddr t x i)(C:bO g x=some D)(N:cu P t i=some (off,n,b)):
 cV P g o (.VA off D):=by
 intro s a G H w v H' L M h;have W:=bM L M C;unfold cu at N;split at N
 . rename_i fs K;split at N
   . rename_i f c;split at N
     . rename_i k I A m;split at N
       . cases N
       rename_i Z;simp only[Aj,Ap] at N;obtain⟨rfl,rfl,rfl⟩:=N
       have z:∀u o',a.eval x=.pointer (some ⟨u,o',none⟩)->(execOp a.eval o).run P w=.ok (.value (.pointer (some ⟨u,o'+f.offset,none⟩))) w:=fun u o' B=>by simp[execOp,S,B,Instr.fieldAt,run_underlying K w,c,Instr.sureAddr,fieldPlace,eV A w,Z,lL]
       simp only[dS] at h;split at h
       . rename_i id o' d;rw[d] at W;simp only[Aj,Ap] at h;obtain⟨rfl,rfl⟩:=h
         cases e:a.eval x with
         |pointer p=>
          rw[e] at W
          cases W with
          |ref _ _ l U=>exact cV.pure' L (z _ _ e) (by rw[Bm];exact .ref id (o'+f.offset) l U)
         |_=>rw[e] at W;cases W
       . rename_i cs d;rw[d] at W;obtain⟨rfl,rfl⟩:=h
         cases e:a.eval x with
         |pointer p=>
          rw[e] at W
          cases W with
          |pl _ u o' us X J=>
           refine cV.pure' L (z _ _ e) (.pl _ u (o'+f.offset) (fun j=>us (f.offset+j)) (fun j Y=>?_) (fun j Y=>?_))
           . simp at Y;rw[Bm,FR];exact X (f.offset+j) A0
           simp at Y;rw[FR];exact J (f.offset+j) A0
         |_=>rw[e] at W;cases W
       cases h
     cases N
   cases N
 cases N
theorem Yt(A:mD P t=some n)(X:gP P t=some b){G:Gh}{w:World}{cs:List AV}{us:List Value}{off:Nat}
 (U:us.length=cs.length) (O:∀c∈cs,c.one=true) (J:∀j,j<cs.length->VR G w (cs.getD j aB) (us.getD j undef)) (T:off+n<=cs.length) (K:b=false->n=1):
 ∃u,(part t us.toArray off).run P w=.ok u w/\VR G w (if b then .agg ((cs.drop off).take n) else cs.getD off aB) u:=by
 cases b with
 |true=>
  refine⟨.agg ((us.drop off).take n).toArray,?_,?_⟩
  . simp only[part,Sem.run_bind,sH X w,Result.andThen_ok,if_true,eV A w,Sem.run_pure];simp
  refine .agg _ _ (by grind) (fun c R=>O c (Gx (Cw R))) (fun j Y=>?_)
  grind
 |false=>have :=K rfl;refine⟨us.getD off undef,?_,J off A0⟩;simp only[part,Sem.run_bind,sH X w,Result.andThen_ok,Bs,Cv,Ff,zT us undef off A0];rfl
theorem VR.xD{cs:List AV}{u:Value}(h:VR G w (.agg cs) u):∃us:List Value,u=.agg us.toArray/\us.length=cs.length/\(∀c∈cs,c.one=true)/\
 ∀j,j<cs.length->VR G w (cs.getD j aB) (us.getD j undef):=by
 cases h with
 |agg _ us U O J=>grind
end
end
section
variable{els:List (List AV)}{sz:Nat}
theorem LL(K:∀e∈els,e.length=sz):∀{i j:Nat},i<els.length->j<sz->els.flatten.getD (i*sz+j) aB=(els.getD i []).getD j aB:=by
 induction els with
 |nil=>intro i j F;simp at F
 |cons e r z=>
  intro i j F Y;have B:e.length=sz:=K e A2
  cases i with
  |zero=>simp only[getD_eq,Cl,Gp,Em,Gj,By];rw[Jk A0]
  |succ i=>have :=z (fun e B=>K e (by simp[B])) (i:=i) (j:=j) (by simpa using F) Y;simp only[getD_eq,Cl,Fp] at this ⊢;rw[Jc (by rw[B,Dm];omega)];rw[show(i+1)*sz+j -e.length=i*sz+j by rw[B,Dm];omega];exact this
theorem length_flatten(K:∀e∈els,e.length=sz):els.flatten.length=els.length*sz:=by induction els<;>grind
section
variable {P:Program} {g:bL} {o:Oper}
def DM(P:Program)(t:TypeId):Option (Nat×Nat×Bool):=
 match P.underlying t with
 |some (.array n e)=>match mD P e,gP P e with
  |some sz,some b=>some (n,sz,b)
  |_,_=>none
 |_=>none
def oU(P:Program)(t:TypeId):Option (TypeId×Nat):=
 match P.underlying t with
 |some (.slice e)=>match mD P e with
  |some sz=>some (e,sz)
  |none=>none
 |_=>none
variable{t:TypeId}{n sz:Nat}{b:Bool}
theorem DN(h:DM P t=some (n,sz,b)):∃e,P.underlying t=some (.array n e)/\mD P e=some sz/\gP P e=some b:=by grind[DM]
variable{e:TypeId}
theorem mK(h:oU P t=some (e,sz)):P.underlying t=some (.slice e)/\mD P e=some sz:=by grind[oU]
variable{x i:Operand}{D c:Arg}
theorem YV(S:o.op=.indexAddr t x i)(C:bO g x=some D)(F:bO g i=some c)(q:DM P t=some (n,sz,b)):
 cV P g o (.VZ (some n) sz D c):=by
 intro s a G H w v H' L M h;have W:=bM L M C;have R:=bM L M F;obtain⟨e,K,B,T⟩:=DN q;simp only[dS] at h;split at h
 . rename_i k E;obtain⟨Q,V,m⟩:=vM E R
   have z:∀u o',a.eval x=.pointer (some ⟨u,o',none⟩)->k<n->(execOp a.eval o).run P w=.ok (.value (.pointer (some ⟨u,o'+k*sz,none⟩))) w:=fun u o' y r=>by have O:(0:Int)<=(k:Int)/\(k:Int)<(n:Int):=A0;simp[execOp,S,Instr.indexAt,m,asIntOf,run_underlying K w,y,Instr.sureAddr,O,eV B w,lL];intro I;omega
   split at h
   . rename_i N id off A d;cases A;rw[d] at W;split at h
     . rename_i r;simp only[Aj,Ap] at h;obtain⟨rfl,rfl⟩:=h
       cases f:a.eval x with
       |pointer p=>
        rw[f] at W
        cases W with
        |ref _ _ l U=>exact cV.pure' L (z _ _ f r) (by rw[Bm];exact .ref id (off+k*sz) l U)
       |_=>rw[f] at W;cases W
     cases h
   . rename_i N cs A d;cases A;rw[d] at W;split at h
     . rename_i r;simp only[Aj,Ap] at h;obtain⟨rfl,rfl⟩:=h
       cases f:a.eval x with
       |pointer p=>
        rw[f] at W
        cases W with
        |pl _ u o' us X J=>
         refine cV.pure' L (z _ _ f r) (.pl _ u (o'+k*sz) (fun j=>us (k*sz+j)) (fun j Y=>?_) (fun j Y=>?_))
         . simp at Y;rw[Bm,FR];exact X (k*sz+j) A0
         simp at Y;rw[FR];exact J (k*sz+j) A0
       |_=>rw[f] at W;cases W
     cases h
   . rename_i A _;cases A
   . rename_i A _;cases A
   cases h
 cases h
theorem ij(S:o.op=.indexAddr t x i)(C:bO g x=some D)(F:bO g i=some c)(q:oU P t=some (e,sz)):
 cV P g o (.VZ none sz D c):=by
 intro s a G H w v H' L M h;have W:=bM L M C;have O:=bM L M F;obtain⟨K,B⟩:=mK q;simp only[dS] at h;split at h
 . rename_i k E;obtain⟨kk,Oi,m⟩:=vM E O
   have z:∀u o' n cap,a.eval x=.slice (some ⟨u,o',none⟩) n cap->k<n->(execOp a.eval o).run P w=.ok (.value (.pointer (some ⟨u,o'+k*sz,none⟩))) w:=fun u o' n cap y r=>by have V:(0:Int)<=(k:Int)/\(k:Int)<(n:Int):=A0;simp[execOp,S,Instr.indexAt,m,asIntOf,run_underlying K w,y,Instr.sureAddr,V,eV B w,lL];intro PB;omega
   split at h
   . rename_i A _;cases A
   . rename_i A _;cases A
   . rename_i tag N els A d;rw[d] at W;split at h
     . rename_i R;obtain⟨rfl,r⟩:=R;simp only[Aj,Ap] at h;obtain⟨rfl,rfl⟩:=h
       cases f:a.eval x with
       |slice p n cap=>
        rw[f] at W
        cases W with
        |wY=>exact absurd r (Al _)
        |bJ _ _ _ u o' _ us I X J vZ=>
         have b:(els.getD k []).length=N:=by rw[getD_eq,Af r];exact I _ (Ac r)
         have Z:=length_flatten I
         have T:∀j,j<N->k*N+j<els.flatten.length:=fun j Y=>by
          rw[Z]
          calc k*N+j<k*N+N:=by omega
           _=(k+1)*N:=by rw[Dm]
           _<=els.length*N:=Bf _ r
         refine cV.pure' L (z _ _ _ _ f r) (.pl _ u (o'+k*N) (fun j=>us (k*N+j)) (fun j Y=>?_) (fun j Y=>?_))
         . rw[b] at Y;rw[Bm,<-LL I r Y];exact X _ (T j Y)
         rw[b] at Y;rw[<-LL I r Y];exact J _ (T j Y)
       |_=>rw[f] at W;cases W
     cases h
   . rename_i id N off len cap A d;rw[d] at W;split at h
     . rename_i R;obtain⟨rfl,r⟩:=R;obtain⟨rfl,rfl⟩:=h
       cases f:a.eval x with
       |slice p n cap=>
        rw[f] at W
        cases W with
        |sl _ _ _ _ _ _ l U Q T pP=>exact cV.pure' L (z _ _ _ _ f r) (by rw[Bm];exact .ref id (off+k*N) l U)
       |_=>rw[f] at W;cases W
     cases h
   cases h
 cases h
theorem bCm(S:o.op=.index t x i)(C:bO g x=some D)(F:bO g i=some c)(q:DM P t=some (n,sz,b)):
 cV P g o (.idx n sz b D c):=by
 intro s a G H w v H' L M h;have W:=bM L M C;have R:=bM L M F;obtain⟨e,p,B,X⟩:=DN q;simp only[dS] at h;split at h
 . rename_i k cs E d;rw[d] at W;obtain⟨A,Q,l⟩:=vM E R;obtain⟨us,f,U,O,J⟩:=W.xD;split at h
   . rename_i y;obtain⟨r,T⟩:=y
     have z:∀u,(part e us.toArray (k*sz)).run P w=.ok u w->(execOp a.eval o).run P w=.ok (.value u) w:=fun u V=>by have I:(0:Int)<=(k:Int)/\(k:Int)<(n:Int):=A0;simp[execOp,S,f,Instr.index,l,asIntOf,run_underlying p w,I,eV B w,V];omega
     split at h
     . rename_i j;obtain⟨rfl,rfl⟩:=h;obtain⟨u,V,m⟩:=Yt (P:=P) B X U O J T (fun N=>by rw[j] at N;cases N);rw[if_pos j] at m;exact cV.pure' L (z u V) m
     rename_i j;split at h
     . rename_i K;obtain⟨rfl,rfl⟩:=h;obtain⟨u,V,m⟩:=Yt (P:=P) B X U O J T (fun _=>K);rw[if_neg j,K,Df] at m;rw[K,Df] at V;exact cV.pure' L (z u (by rw[K,Df];exact V)) m
     cases h
   cases h
 cases h
theorem aPh(S:o.op=.index t x i)(C:bO g x=some D)(F:bO g i=some c)(q:P.underlying t=some .string):
 cV P g o (.idxs D c):=by
 intro s a G H w v H' L M h;have W:=bM L M C;have R:=bM L M F;simp only[dS] at h;split at h
 . rename_i k n E d;rw[d] at W;obtain⟨A,j,m⟩:=vM E R;have f:=W.jQ;split at h
   . rename_i b X;obtain⟨rfl,rfl⟩:=h;refine cV.pure' L (u:=.int .u8 b.toNat) ?_ (.int _ _);have r:=(Bj.1 X).1
     have I:(⟨n.toArray⟩:ByteArray)[k]?=some b:=by
      have e:k<(⟨n.toArray⟩:ByteArray).size:=by assumption
      grind[ByteArray.getElem_eq_getElem_data]
     simp[execOp,S,Instr.index,m,asIntOf,run_underlying q w,f,I]
   grind
 grind
variable{c:Call}
theorem aPj(S:o.op=.call c)(R:c.callee=.builtin .len)(I:c.args= #[x])(C:bO g x=some D)(O:c.argTypes[0]?=some t)
 (q:P.underlying t=some .string):cV P g o (.lens D):=by
 intro s a G H w v H' L M h;have W:=bM L M C;simp only[dS] at h;split at h
 . rename_i n d;rw[d] at W;obtain⟨rfl,rfl⟩:=h;have f:=W.jQ;refine cV.pure' L (u:=.int .i64 n.length) ?_ (.int _ _);simp[execOp,S,resolve,R,I,invoke,builtin,Builtin.len_,O,run_underlying q w,f,goInt];rfl
 grind
variable{y:Operand}{J:Arg}
theorem aPl(S:o.op=.call c)(R:c.callee=.builtin .max)(I:c.args= #[x,y])(C:bO g x=some D)(Q:bO g y=some J):cV P g o (.YP D J):=by
 intro s a G H w v H' L M h;have W:=bM L M C;have A:=bM L M Q;simp only[dS] at h;split at h
 . rename_i k m p n O Z;rw[O] at W;rw[Z] at A;obtain⟨rfl,rfl⟩:=h;have f:=W.jP;have e:=A.jP;refine cV.pure' L (u:=.int k (if n>m then n else m)) ?_ (.int _ _);simp[execOp,S,resolve,R,I,invoke,builtin,Builtin.max_,Builtin.max2,f,e]
 grind
theorem aPm(S:o.op=.call c)(R:c.callee=.builtin .min)(I:c.args= #[x,y])(C:bO g x=some D)(Q:bO g y=some J):cV P g o (.YR D J):=by
 intro s a G H w v H' L M h;have W:=bM L M C;have A:=bM L M Q;simp only[dS] at h;split at h
 . rename_i k m p n O Z;rw[O] at W;rw[Z] at A;obtain⟨rfl,rfl⟩:=h;have f:=W.jP;have e:=A.jP;refine cV.pure' L (u:=.int k (if n<m then n else m)) ?_ (.int _ _);simp[execOp,S,resolve,R,I,invoke,builtin,Builtin.min_,Builtin.min2,f,e]
 grind
theorem aPi(S:o.op=.call c)(R:c.callee=.builtin .len)(I:c.args= #[x])(C:bO g x=some D)(O:c.argTypes[0]?=some t)
 (q:P.underlying t=some (.slice e)):cV P g o (.fh D):=by
 intro s a G H w v H' L M h;have W:=bM L M C
 have z:∀p n cap,a.eval x=.slice p n cap->(execOp a.eval o).run P w=.ok (.value (.int .i64 n)) w:=fun p n cap f=>by simp[execOp,S,resolve,R,I,invoke,builtin,Builtin.len_,O,run_underlying q w,f,goInt]
 simp only[dS] at h;split at h
 . rename_i d;exact Zbf
 . rename_i tag sz els d;rw[d] at W;obtain⟨rfl,rfl⟩:=h;generalize f:a.eval x=u at W
   cases W<;>
    exact cV.pure' L (z _ _ _ f) (.int _ _)
 . rename_i id sz off len cap d;exact Zbf
 grind
variable{op:BinOp}
theorem wP{u v:Value}(w:World)(h:∀c,u≠ .agg c)(K:u≠ .nilIface):(eqGuard op t x y u v).run P w=.ok () w:=by simp_all[eqGuard]
variable{v:AV}{k:IntKind}
theorem aPc{p:IntKind}{m n:Int}(h:rX op k m p n=some v)(w:World):
 ∃u,(Go.binOp op t (.int k m) (.int p n)).run P w=.ok u w/\∀G,VR G w v u:=by
 have key:∀{k:IntKind} {z:Int},∀G,VR G w (.int k z) (.int k z):=fun G=>.int _ _;have a:∀{z:Bool},∀G,VR G w (.bool z) (.bool z):=fun G=>.bool _;cases op<;>simp only[rX] at h
 all_goals first
  |(split at h<;>first
     |(cases h;done)
     |(rename_i E
       first
        |(subst E
          first
           |(obtain rfl:=Aa h
             refine⟨_,?_,key⟩;simp[Go.binOp,Op.intArith]
             done)
           |(obtain rfl:=Aa h
             refine⟨_,?_,a⟩
             simp[Go.binOp,Op.intCmp])
           |(obtain rfl:=Aa h
             simp_all[Go.binOp,Op.intBits])
           |(split at h
             . grind
             rename_i o;obtain rfl:=Aa h
             simp_all[Go.binOp,Op.intDiv,o]))
        |(obtain rfl:=Aa h
          refine⟨_,?_,key⟩
          simp[Go.binOp,Op.shift,E])))
theorem aPd{x y:List UInt8}(h:aDu op x y=some v)(w:World):
 ∃u,(Go.binOp op t (.string ⟨x.toArray⟩) (.string ⟨y.toArray⟩)).run P w=.ok u w/\∀G,VR G w v u:=by
 have a:∀{z:Bool},∀G,VR G w (.bool z) (.bool z):=fun G=>.bool _;have T:(⟨x.toArray⟩:ByteArray).toList=x:=ByteArray.toList_mk x;have b:(⟨y.toArray⟩:ByteArray).toList=y:=ByteArray.toList_mk y;cases op<;>simp only[aDu] at h
 case add=>
  split at h
  . obtain rfl:=Aa h;refine⟨.string (⟨x.toArray⟩++⟨y.toArray⟩),?_,fun G=>?_⟩
    . have O:(⟨x.toArray⟩:ByteArray).size=x.length:=(by rfl);have Z:(⟨y.toArray⟩:ByteArray).size=y.length:=by rfl
      have p:¬(((⟨x.toArray⟩:ByteArray).size+(⟨y.toArray⟩:ByteArray).size:Nat):Int)>IntKind.i64.max:=by have :IntKind.i64.max=9223372036854775807:=A1;omega
      simp_all[Go.binOp,Op.stringOp,if_neg,p]
    exact VR.WE G w _
  grind
 all_goals first
  |(cases h;done)
  |(obtain rfl:=Aa h
    refine⟨_,?_,a⟩
    simp[Go.binOp,Op.stringOp,T,b])
variable{t2:TypeId}
theorem aHq{d:Arg}(S:o.op=.binOp op t x y t2)(C:bO g x=some D)(Q:bO g y=some d):cV P g o (.bin op D d):=by
 intro s a G H w v H' L M h;have W:=bM L M C;have A:=bM L M Q;simp only[dS] at h;split at h
 . rename_i k m p n O Z;rw[O] at W;rw[Z] at A;have T:=W.jP;have b:=A.jP;simp only[Ad,Ap] at h;obtain⟨f,R,rfl,rfl⟩:=h;obtain⟨u,V,J⟩:=aPc (P:=P) (t:=t) R w;refine cV.pure' L (u:=u) ?_ (J G);have e:=wP (P:=P) (op:=op) (t:=t) (x:=x) (y:=y) (u:=.int k m) (v:=.int p n) w (fun c=>by simp) A2;simp[execOp,S,T,b,e,V]
 . rename_i m n O Z;rw[O] at W;rw[Z] at A;have T:=W.jQ;have b:=A.jQ;simp only[Ad,Ap] at h;obtain⟨f,R,rfl,rfl⟩:=h;obtain⟨u,V,J⟩:=aPd (P:=P) (t:=t) R w;refine cV.pure' L (u:=u) ?_ (J G);have e:=wP (P:=P) (op:=op) (t:=t) (x:=x) (y:=y) (u:=.string ⟨m.toArray⟩) (v:=.string ⟨n.toArray⟩) w (fun c=>by simp) A2;simp[execOp,S,T,b,e,V]
 grind
theorem LD(d:Nat){t:TypeId}(q:P.underlying t=some .bool)(w:World)(m n:Bool):(Op.equalIn (d+1) t (.bool m) (.bool n)).run P w=.ok (m==n) w:=by rw[Op.equalIn];simp only[Sem.run_bind,run_underlying q w,Result.andThen_ok];rfl
theorem bCj{neg:Bool}(S:o.op=.binOp op t x y t2)(b:op=if neg then .neq else .eql)(q:P.underlying t=some .bool)
 (C:bO g x=some D) (Q:bO g y=some J):cV P g o (.eqb neg D J):=by
 intro s a G H w v H' L M h;have W:=bM L M C;have A:=bM L M Q;simp only[dS] at h;split at h
 . rename_i m n O Z;rw[O] at W;rw[Z] at A;have T:=W.lM;have f:=A.lM;obtain⟨rfl,rfl⟩:=h;refine cV.pure' L (u:=.bool (if neg then !(m==n) else(m==n))) ?_ (.bool _);have e:=wP (P:=P) (op:=op) (t:=t) (x:=x) (y:=y) (u:=.bool m) (v:=.bool n) w (fun c=>by simp) A2
   have d:(Op.equal t (.bool m) (.bool n)).run P w=.ok (m==n) w:=by exact LD 9999 q w m n
   subst b;cases neg<;>simp only[Bs,Cv,if_true] at S e<;>simp[execOp,S,T,f,e,Go.binOp,d]
 grind
theorem bMi{op:UnOp}(S:o.op=.unOp op t x)(C:bO g x=some D):cV P g o (.un op D):=by
 intro s a G H w v H' L M h;have W:=bM L M C;simp only[dS,Ad,Ap] at h;obtain⟨c,R,rfl,rfl⟩:=h;unfold unA at R;split at R
 . rename_i k n O;rw[O] at W;have T:=W.jP;split at R
   . obtain rfl:=Aa R;exact cV.pure' L (u:=.int k (k.wrap (0 -n))) (by simp[execOp,S,T,Op.unary,Op.intArith]) (.int _ _)
   . obtain rfl:=Aa R;exact cV.pure' L (u:=.int k _) (by simp[execOp,S,T,Op.unary,Op.intBits]) (.int _ _)
   grind
 . rename_i b O;rw[O] at W;have T:=W.lM;split at R
   . obtain rfl:=Aa R;exact cV.pure' L (u:=.bool !b) (by simp[execOp,S,T,Op.unary]) (.bool _)
   grind
 grind
variable{d:TypeDesc}
theorem aHr{c A:TypeId}(S:o.op=.convert c A x)(C:bO g x=some D)(b:P.underlying c=some d)
 (hd:P.underlying A=some (.int k)):cV P g o (.Pw k D):=by
 intro s a G H w v H' L M h;have W:=bM L M C;simp only[dS] at h;split at h
 . rename_i p n O;rw[O] at W;have T:=W.jP;obtain⟨rfl,rfl⟩:=h;refine cV.pure' L (u:=.int k (k.wrap n)) ?_ (.int _ _);simp only[execOp,S,T,Go.convert,Sem.run_bind,run_underlying b w,run_underlying hd w,Result.andThen_ok,Conv.intToInt];rfl
 grind
theorem aPs{l:TypeId}{ok:Bool}{z:AV}{Q:Value}(S:o.op=.typeAssert x l t ok)(C:bO g x=some D)
 (hd:P.underlying t=some d) (b:∀j,d≠ .interface j) (I:nK P t=some Q) (k:ofConst Q=some z):cV P g o (.ki t ok z D):=by
 intro s a G H w v H' L M h;have W:=bM L M C;have e:=nA I w;have V:=JR k G w
 have J:∀{p q:AV} {A n:Value},VR G w p A->VR G w q n->VR G w (.jS [p,q]) (.tuple #[A,n]):=fun O Z=>.jS [_,_] [_,_] rfl (O.cons (Z.cons (jH.nil G w))).2
 have X:∀(y:Value) (r:Value),(Instr.typeAssert y l t ok).run P w=.ok r w->a.eval x=y->(execOp a.eval o).run P w=.ok (.value r) w:=fun y r K B=>by simp[execOp,S,B,K]
 have i:∀(j:Array (String×TypeId)),d=TypeDesc.interface j->False:=fun j B=>b j B;simp only[dS] at h;split at h
 . rename_i m y O;rw[O] at W;generalize f:a.eval x=u at W
   cases W with
   |iface _ _ F E=>
    split at h
    . rename_i c;subst c;simp only[Aj,Ap] at h;obtain⟨rfl,rfl⟩:=h;refine cV.pure' L (u:=if ok then .tuple #[F,.bool true] else F) (X _ _ ?_ f) (by cases ok<;>simp <;>first|exact E|exact J E (.bool true));unfold Instr.typeAssert;simp only[Sem.run_bind,run_underlying hd w,Result.andThen_ok]
      cases d<;>first|exact absurd rfl (b _)|simp
    rename_i c;split at h
    . rename_i N;obtain⟨rfl,rfl⟩:=h;refine cV.pure' L (u:=.tuple #[Q,.bool false]) (X _ _ ?_ f) (J V (.bool false));unfold Instr.typeAssert;simp only[Sem.run_bind,run_underlying hd w,Result.andThen_ok]
      cases d<;>first|exact absurd rfl (b _)|simp[c,N,e]
    cases h
 . rename_i O;rw[O] at W;generalize f:a.eval x=u at W;cases W;split at h
   . rename_i N;obtain⟨rfl,rfl⟩:=h;refine cV.pure' L (u:=.tuple #[Q,.bool false]) (X _ _ ?_ f) (J V (.bool false));unfold Instr.typeAssert;simp only[Sem.run_bind,run_underlying hd w,Result.andThen_ok]
     cases d<;>first|exact absurd rfl (b _)|simp[N,e]
   cases h
 cases h
end
end
section
def GK(P:Program)(sh:TypeId->Option (List Sk)):Nat->List Field->Option (List Sk)
 |_,[]=>some []
 |off,f::fs=>
  if f.name≠ "_" /\f.offset=off then
   match sh f.type with
   |some k=>if mD P f.type=some k.length then(GK P sh (off+k.length) fs).map (k++ ·) else none
   |none=>none
  else none
def pU(P:Program):Nat->TypeId->Option (List Sk)
 |0,_=>none
 |d+1,t=>
  match P.underlying t with
  |some .bool=>some [.b]
  |some (.int _)=>some [.i]
  |some .string=>some [.s]
  |some (.struct fs)=>if P.stoodInHeld t then none else GK P (pU P d) 0 fs.toList
  |some (.array n e)=>
   match pU P d e with
   |some k=>if mD P e=some k.length then some (List.replicate n k).flatten else none
   |none=>none
  |_=>none
theorem yC:∀(k1 k2:List Sk) (xs ys:List AV) (r:Bool),cD (k1++k2) xs ys=some r->
 ∃r1 r2,cD k1 (xs.take k1.length) (ys.take k1.length)=some r1/\cD k2 (xs.drop k1.length) (ys.drop k1.length)=some r2/\r=(r1&&r2)
 |[],k2,xs,ys,r,h=>⟨true,r,rfl,by simpa using h,by simp⟩
 |k::k1,k2,xs,ys,r,h=>by
  have step:∀{x y:AV} {a d:List AV} {c:Bool},xs=x::a->ys=y::d->(cD (k1++k2) a d).map (c&& ·)=some r->
   (∀l m,cD (k::k1) (x::l) (y::m)=(cD k1 l m).map (c&& ·))->
   ∃r1 r2,cD (k::k1) (xs.take (k::k1).length) (ys.take (k::k1).length)=some r1/\cD k2 (xs.drop (k::k1).length) (ys.drop (k::k1).length)=some r2/\r=(r1&&r2):=by
   intro x y a d c C Q p R;simp only[Ad] at p;obtain⟨S,b,rfl⟩:=p;obtain⟨r1,r2,O,Z,W⟩:=yC k1 k2 a d S b
   grind
  cases k<;>cases xs with
  |nil=>simp[cD] at h
  |cons x a=>
   cases ys with
   |nil=>cases x<;>simp[cD] at h
   |cons y d=>
    cases x<;>cases y<;>simp only[Gk,cD] at h<;>first
     |(cases h;done)
     |exact step rfl rfl h (fun l m=>rfl)
     |grind[cD]
def valOf(e:Bool)(us:List Value):Value:=if e then .agg us.toArray else us.getD 0 undef
variable{t:TypeId}{n:Nat}
theorem oI{P:Program}{b:Bool}(A:mD P t=some n)(X:gP P t=some b)(w:World){us:List Value}{off:Nat}(T:off+n<=us.length)(K:b=false->n=1):
 (part t us.toArray off).run P w=.ok (valOf b ((us.drop off).take n)) w:=by
 cases b with
 |true=>simp only[part,Sem.run_bind,sH X w,Result.andThen_ok,if_true,eV A w,Sem.run_pure,valOf];simp
 |false=>have :=K rfl;simp only[part,Sem.run_bind,sH X w,Result.andThen_ok,Bs,Cv,Ff,zT us undef off A0,valOf];simp_all
theorem jH.take_drop{G:Gh}{w:World}{xs:List AV}{us:List Value}(h:jH G w xs us)(off n:Nat)(T:off+n<=xs.length):jH G w ((xs.drop off).take n) ((us.drop off).take n):=by have U:=h.1;refine⟨by grind,fun j Y=>?_⟩;simp at Y;rw[qW _ _ _ _ _ A0,qW _ _ _ _ _ A0];exact h.2 _ A0
theorem HK:∀{c:List Sk} {xs ys:List AV} {r:Bool},cD c xs ys=some r->xs.length=c.length/\ys.length=c.length
 |[],[],[],_,_=>⟨rfl,rfl⟩
 |[],_::_,ys,r,h=>by grind[cD]
 |[],[],_::_,r,h=>by grind[cD]
 |k::c,[],ys,r,h=>by grind[cD]
 |k::c,x::xs,[],r,h=>by grind[cD]
 |k::c,x::xs,y::ys,r,h=>by
  have :∃S,cD c xs ys=some S:=by
   cases k<;>cases x<;>cases y<;>simp only[cD] at h<;>first
    |(cases h;done)
    |(grind[Option.map_eq_some_iff])
    |grind[Option.map_eq_some_iff]
  obtain⟨S,K⟩:=this;have :=HK K
  grind
theorem BY{P:Program}{d:Nat}{c:List Sk}(h:pU P d t=some c):∃b,gP P t=some b/\(b=false->c.length=1):=by
 cases d with
 |zero=>cases h
 |succ d=>
  simp only[pU] at h;unfold gP
  split at h<;>rename_i K<;>first
   |(done)
   |(obtain rfl:=Aa h;simp_all)
   |simp_all
theorem SD{P:Program}{e:TypeId}(h:mD P e=some n):P.cellsOf e=n/\∃i,P.info? e=some i:=by simp only[mD,Ad] at h;obtain⟨i,F,rfl⟩:=h;simp[Program.cellsOf,F]
theorem XX{P:Program}:∀(f:Nat) (t:TypeId) (c:List Sk),pU P f t=some c->∀(b:Bool),gP P t=some b->∀(d:Nat) (G:Gh) (w:World) (xs ys:List AV) (us vs:List Value) (r:Bool),
 cD c xs ys=some r->jH G w xs us->jH G w ys vs->(Op.equalIn (d+f) t (valOf b us) (valOf b vs)).run P w=.ok r w:=by
 intro f
 induction f with
 |zero=>intro t c h;cases h
 |succ f ih=>
  intro t c h b X d G w xs ys us vs r V C hy;have Q:=HK V
  have a:∀{k:Sk},c=[k]->∃x y,xs=[x]/\ys=[y]/\VR G w x (us.getD 0 undef)/\VR G w y (vs.getD 0 undef):=fun {k} E=>by
   subst E
   match xs,ys,Q with
   |[x],[y],_=>exact⟨x,y,rfl,rfl,by simpa using C.2 0 A2,by simpa using hy.2 0 A2⟩
  rw[show d+(f+1)=(d+f)+1 from rfl];simp only[pU] at h;split at h
  . rename_i K;obtain rfl:=Aa h;have L:b=false:=by simp only[gP,K,Aj] at X;exact X.symm
    subst L;obtain⟨x,y,rfl,rfl,O,Z⟩:=a rfl;simp only[valOf,Bs,Cv]
    cases x<;>cases y<;>simp only[cD] at V<;>first|(cases V;done)|skip
    rename_i p q;rw[O.lM,Z.lM,LD _ K w];simp at V;rw[<-V]
  . rename_i k K;obtain rfl:=Aa h;have L:b=false:=by simp only[gP,K,Aj] at X;exact X.symm
    subst L;obtain⟨x,y,rfl,rfl,O,Z⟩:=a rfl;simp only[valOf,Bs,Cv]
    cases x<;>cases y<;>simp only[cD] at V<;>first|(cases V;done)|skip
    rename_i j p j' q;split at V
    . rename_i Y;subst Y;rw[O.jP,Z.jP,run_equalIn_int w _ t j k p q K];simp at V;rw[<-V]
    cases V
  . rename_i K;obtain rfl:=Aa h;have L:b=false:=by simp only[gP,K,Aj] at X;exact X.symm
    subst L;obtain⟨x,y,rfl,rfl,O,Z⟩:=a rfl;simp only[valOf,Bs,Cv]
    cases x<;>cases y<;>simp only[cD] at V<;>first|(cases V;done)|skip
    rename_i p q;rw[O.jQ,Z.jQ,run_equalIn_string w _ t _ _ K,ByteArray.toList_mk,ByteArray.toList_mk];simp at V;rw[<-V]
  . rename_i fs K;split at h
    . cases h
    rename_i A;have g:b=true:=(by simp only[gP,K,Aj] at X;exact X.symm);subst g;simp only[valOf,if_true];have a6:P.fieldsOf t=fs:=(by simp[Program.fieldsOf,K]);rw[run_equalIn_struct w _ t _ _ (by rw[a6];exact K) Zcy,a6];have ae:=C.1;have ad:=hy.1
    have key:∀(l:List Field) (off:Nat) (zc:List Sk),GK P (pU P f) off l=some zc->off+zc.length<=xs.length->off+zc.length<=ys.length->∀r,cD zc ((xs.drop off).take zc.length) ((ys.drop off).take zc.length)=some r->
     (Op.eqFields (d+f) us.toArray vs.toArray l).run P w=.ok r w:=by
     intro l
     induction l with
     |nil=>intro off zc M _ _ r V;obtain rfl:=Aa M;simp[cD] at V;subst V;simp[Op.eqFields]
     |cons fd l ab=>
      intro off zc M o J r V;simp only[GK] at M;split at M
      . rename_i R;obtain⟨N,CT⟩:=R;split at M
        . rename_i k E;split at M
          . rename_i I;simp only[Ad] at M;obtain⟨H,af,rfl⟩:=M;simp only[An] at o J V;obtain⟨r1,r2,T,e2,rfl⟩:=yC _ _ _ _ _ V;obtain⟨bf,L,VH⟩:=BY E
            have t1:∀(z:List AV),off+(k.length+H.length)<=z.length->List.take k.length (List.take (k.length+H.length) (z.drop off))=(z.drop off).take k.length:=fun z s=>by rw[List.take_take];congr 1;omega
            have t2:∀(z:List AV),off+(k.length+H.length)<=z.length->List.drop k.length (List.take (k.length+H.length) (z.drop off))=(z.drop (off+k.length)).take H.length:=fun z s=>by rw[List.drop_take,Je];congr 1;omega
            rw[t1 _ o,t1 _ J] at T;rw[t2 _ o,t2 _ J] at e2;have p1:=oI I L w (us:=us) (off:=fd.offset) A0 VH;have S:=oI I L w (us:=vs) (off:=fd.offset) A0 VH;have u:=ih fd.type k E bf L d G w _ _ _ _ r1 T (C.take_drop off k.length A0) (hy.take_drop off k.length A0);rw[<-CT] at u;simp only[Op.eqFields,if_pos N,Sem.run_bind,p1,S,u,Result.andThen_ok]
            cases r1 with
            |false=>simp
            |true=>simp only[Ge,Bs,Cv,Dk];exact ab (off+k.length) H af A0 A0 r2 e2
          cases M
        cases M
      cases M
    have :=key fs.toList 0 c h A0 A0 r (by
     simp only[Fm];rw[Au A0,Au A0]
     exact V)
    exact this
  . rename_i n e K;have g:b=true:=by simp only[gP,K,Aj] at X;exact X.symm
    subst g;simp only[valOf,if_true];split at h
    . rename_i k E;split at h
      . rename_i I;obtain rfl:=Aa h;obtain⟨kR,i,F⟩:=SD I;rw[run_equalIn_array w (d+f) _ _ K F,kR];obtain⟨bf,L,VH⟩:=BY E;have ae:=C.1;have ad:=hy.1;have U:∀m,((List.replicate m k).flatten).length=m*k.length:=fun m=>by simp
        have key:∀(m j:Nat),(j+m)*k.length<=xs.length->(j+m)*k.length<=ys.length->∀r,cD (List.replicate m k).flatten ((xs.drop (j*k.length)).take (m*k.length)) ((ys.drop (j*k.length)).take (m*k.length))=some r->
         (Op.eqItems (d+f) e k.length us.toArray vs.toArray (List.range' j m)).run P w=.ok r w:=by
         intro m
         induction m with
         |zero=>intro j _ _ r V;simp[cD] at V;subst V;simp[Op.eqItems]
         |succ m a7=>
          intro j o J r V;have B:(m+1)*k.length=k.length+m*k.length:=(by rw[Dm];omega);have D:(j+(m+1))*k.length=j*k.length+(k.length+m*k.length):=(by rw[Bo,B]);have v:(j+1)*k.length=j*k.length+k.length:=(by rw[Dm]);rw[D] at o J;rw[B] at V;rw[Iu,Cl] at V;obtain⟨r1,r2,T,e2,rfl⟩:=yC _ _ _ _ _ V
          have t1:∀(z:List AV),List.take k.length (List.take (k.length+m*k.length) (z.drop (j*k.length)))=(z.drop (j*k.length)).take k.length:=fun z=>by rw[List.take_take];congr 1;omega
          have t2:∀(z:List AV),List.drop k.length (List.take (k.length+m*k.length) (z.drop (j*k.length)))=(z.drop ((j+1)*k.length)).take (m*k.length):=fun z=>by rw[List.drop_take,Je,v];congr 1;omega
          rw[t1,t1] at T;rw[t2,t2] at e2;have p1:=oI I L w (us:=us) (off:=j*k.length) A0 VH;have S:=oI I L w (us:=vs) (off:=j*k.length) A0 VH;have u:=ih e k E bf L d G w _ _ _ _ r1 T (C.take_drop (j*k.length) k.length A0) (hy.take_drop (j*k.length) k.length A0);simp only[List.range'_succ,Op.eqItems,Sem.run_bind,p1,S,u,Result.andThen_ok]
          cases r1 with
          |false=>simp
          |true=>simp only[Ge,Bs,Cv,Dk];have W:(j+1+m)*k.length=j*k.length+(k.length+m*k.length):=(by rw[Bo,v];omega);exact a7 (j+1) (by rw[W];exact o) (by rw[W];exact J) r2 e2
        have :=key n 0 (by rw[Em];rw[U] at Q;omega) (by rw[Em];rw[U] at Q;omega) r (by
         rw[U] at Q;simp only[Gp,Fm];rw[Au A0,Au A0]
         exact V)
        rw[Km];exact this
      cases h
    cases h
  cases h
section
variable {P:Program} {g:bL} {o:Oper}
variable{op:BinOp}{neg:Bool}{t2:TypeId}
theorem bCk{t:TypeId}{f:Nat}{c:List Sk}{x y:Operand}{D J:Arg}(S:o.op=.binOp op t x y t2)(b:op=if neg then .neq else .eql)(N:f<=9999)
 (E:pU P f t=some c) (X:gP P t=some true) (k:P.eqGuardType P.depth t=false) (C:bO g x=some D) (Q:bO g y=some J):cV P g o (.eqf neg c D J):=by
 intro s a G H w v H' L M h;have W:=bM L M C;have A:=bM L M Q;simp only[dS] at h;split at h
 . rename_i xs ys O Z;rw[O] at W;rw[Z] at A;obtain⟨us,T,j,_,l⟩:=W.xD;obtain⟨vs,m,B,_,v2⟩:=A.xD;simp only[Ad,Ap] at h;obtain⟨r,V,rfl,rfl⟩:=h;refine cV.pure' L (u:=.bool (if neg then !r else r)) ?_ (.bool _);have e:=run_eqGuard_agg (P:=P) w op t x y us.toArray vs.toArray k;have d:=XX f t c E true X (10000 -f) G w xs ys us vs r V ⟨j,l⟩ ⟨B,v2⟩;rw[show 10000 -f+f=10000 by omega] at d;have i:(Op.equal t (.agg us.toArray) (.agg vs.toArray)).run P w=.ok r w:=d;subst b;cases neg<;>simp only[Bs,Cv,if_true] at S e<;>simp[execOp,S,T,m,e,Go.binOp,i]
 grind
def nkP(P:Program)(t:TypeId):Option Nk:=
 match P.underlying t with
 |some (.pointer _)=>some .ptr
 |some (.interface _)=>some .ifc
 |some (.slice _)=>some .sli
 |some (.map _ _)=>some .mp
 |some (.func _ _ _)=>some .fn
 |_=>none
def EH:Value->Bool
 |.pointer none|.nilIface|.slice none _ _|.map none|.nilFunc=>true
 |_=>false
variable{G:Gh}{w:World}{k:Nk}{a:AV}{u:Value}{b:Bool}
theorem YF(h:JN k a=some b)(J:VR G w a u):EH u=b:=by
 cases J<;>simp only[JN] at h<;>first
  |(cases h)
  |(split at h
    . obtain rfl:=Aa h;rfl
    cases h)
def c7:Nk->Value->Prop
 |.ptr,.pointer _=>True
 |.ifc,.nilIface|.ifc,.iface _ _=>True
 |.sli,.slice _ _ _=>True
 |.mp,.map _=>True
 |.fn,.nilFunc|.fn,.func _ _ _=>True
 |_,_=>False
theorem OI(h:JN k a=some b)(J:VR G w a u):c7 k u:=by
 cases J<;>simp only[JN] at h<;>first
  |(cases h)
  |(split at h
    . rename_i E;subst E;trivial
    cases h)
theorem Oq(d:Nat){t:TypeId}{k:Nk}(E:nkP P t=some k)(w:World){u v:Value}(K:c7 k u)(J:c7 k v)(h:(EH u||EH v)=true):
 (Op.equalIn (d+1) t u v).run P w=.ok (EH u&&EH v) w:=by
 unfold nkP at E;rw[Op.equalIn]
 split at E<;>rename_i I<;>first
  |(cases E;done)
  |(obtain rfl:=Aa E
    simp only[Sem.run_bind,run_underlying I w,Result.andThen_ok]
    cases u<;>first|exact K.elim|skip
    all_goals (cases v<;>first|exact J.elim|skip)
    all_goals first
     |rfl
     |(rename_i p q;cases p<;>cases q<;>first|rfl|(simp[EH] at h;done))
     |(rename_i p _ _ q _ _;cases p<;>cases q<;>first|rfl|(simp[EH] at h;done))
     |(simp[EH] at h;done))
theorem bCl{t:TypeId}{i:Bool}{x y:Operand}{D J:Arg}(S:o.op=.binOp op t x y t2)(K:op=if neg then .neq else .eql)
 (E:nkP P t=some k) (f:i=true->(∃c,x=.const c)\/∃c,y=.const c) (C:bO g x=some D) (Q:bO g y=some J):cV P g o (.eqn neg k i D J):=by
 intro s a G H w v H' L M h;have W:=bM L M C;have A:=bM L M Q;simp only[dS] at h;split at h
 . rename_i p q O Z;have b:=OI O W;have F:=OI Z A;have n1:=YF O W;have n2:=YF Z A;split at h
   . rename_i R;simp only[Aj,Ap] at h;obtain⟨rfl,rfl⟩:=h;simp only[Ak] at R;obtain⟨N,j⟩:=R;refine cV.pure' L (u:=.bool (if neg then !(p&&q) else(p&&q))) ?_ (.bool _);generalize T:a.eval x=B at *;generalize U:a.eval y=n at *
     have d:(Op.equal t B n).run P w=.ok (p&&q) w:=by have :=Oq (P:=P) 9999 E w b F (by rw[n1,n2];exact N);rw[n1,n2] at this;exact this
     have e:(eqGuard op t x y B n).run P w=.ok () w:=by
      unfold eqGuard;by_cases r:B=.nilIface/\n=.nilIface
      . obtain⟨rfl,rfl⟩:=r
        have l:k=.ifc:=(by cases k<;>first|rfl|exact b.elim);have m:p=true:=n1.symm;have I:q=true:=n2.symm;subst l m I;simp at j
        rcases f j with ⟨c,rfl⟩|⟨c,rfl⟩
        . cases op<;>simp
        cases op<;>simp
      cases B<;>first
       |(cases k<;>exact b.elim)
       |(cases op<;>rfl)
       |(cases n<;>first|exact absurd ⟨rfl,rfl⟩ r|(cases op<;>rfl))
     have z:(Go.binOp op t B n).run P w=.ok (.bool (if neg then !(p&&q) else(p&&q))) w:=by
      subst K
      cases neg with
      |false=>
       cases B<;>first
        |(cases k<;>exact b.elim)
        |(cases n<;>first
           |(cases k<;>first|exact b.elim|exact F.elim)
           |simp[Go.binOp,d])
      |true=>
       cases B<;>first
        |(cases k<;>exact b.elim)
        |(cases n<;>first
           |(cases k<;>first|exact b.elim|exact F.elim)
           |simp[Go.binOp,d])
     simp only[execOp,S,T,U,Sem.run_bind,e,z,Result.andThen_ok];rfl
   cases h
 cases h
end
end
end Go.Av
