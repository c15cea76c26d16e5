/-
  Part of the proof of statement 13
-/
import Derived.Calls
import Derived.Orders
import Derived.Laws.Sem
import Derived.Laws.Cells
import Derived.Laws.Entries
import Derived.Laws.Strings
import Derived.Laws.StructEq
import Derived.ChangeKeysEq
set_option linter.unusedVariables false
set_option linter.unusedSimpArgs false
set_option linter.defProp false
namespace Go
def Aa:=@Option.some.inj
def Ab:=@Nat.le_of_ble_eq_true
def Ac:=@decide_eq_false
def Ad:=@Nat.le_refl
def Ae:=@Option.map_eq_some_iff
def Af:=@decide_eq_true
def Ag:=@List.getElem_mem
def Ah:=@List.length_map
def Ai:=@List.getElem?_eq_getElem
def Aj:=@Option.some.injEq
def Ak:=@Bool.and_eq_true
def Al:=@congrArg
def Am:=@Nat.not_lt_zero
def An:=@Prod.mk.injEq
def Ao:=@List.take_add_one
def Ap:=@List.take_length
def Aq:=@List.length_append
def Ar:=@List.mem_append
def As:=@List.length_cons
def Au:=@Nat.lt_of_lt_of_le
def Aw:=@Nat.le_trans
def Ax:=@List.mem_cons_of_mem
def Ay:=@List.mem_cons_self
def Az:=@Nat.mul_le_mul
def Ba:=@List.mem_cons
def Bb:=@List.mem_range
def Bc:=@Nat.mul_le_mul_right
def Bd:=@List.take_of_length_le
def Be:=@List.mem_map
def Bf:=@List.getElem?_eq_some_iff
def Bg:=@Option.isSome_some
def Bh:=@Nat.zero_le
def Bi:=@List.all_eq_true
def Bj:=@decide_eq_decide
def Bk:=@Nat.mod_eq_of_lt
def Bl:=@List.drop_of_length_le
def Bm:=@Nat.add_assoc
def Bn:=@Nat.add_mul
def Bo:=@List.length_nil
def Br:=@Bool.false_eq_true
def Bs:=@decide_eq_true_eq
def Bt:=@List.length_range
def Bu:=@Nat.pow_le_pow_right
def Bv:=@Nat.lt_of_le_of_lt
def Bw:=@List.map_cons
def Bx:=@List.append_nil
def By:=@Option.getD_some
def Bz:=@Nat.mod_lt
def Ca:=@List.mem_singleton
def Cb:=@List.flatten_cons
def Cc:=@Nat.mul_comm
def Cd:=@decide_eq_false_iff_not
def Ce:=@List.getD_cons_zero
def Cf:=@Nat.mul_assoc
def Cg:=@List.map_append
def Ch:=@Nat.eq_of_beq_eq_true
def Ci:=@Option.isSome_none
def Cj:=@List.pairwise_cons
def Ck:=@List.take_append_of_le_length
def Cl:=@List.eq_nil_of_length_eq_zero
def Cm:=@Nat.div_lt_iff_lt_mul
def Cn:=@List.not_mem_nil
def Co:=@Classical.byContradiction
def Cp:=@Array.getD_eq_getD_getElem?
def Cq:=@Option.map_some
def Cr:=@List.getElem?_eq_none
def Cs:=@Int.natAbs_natCast
def Ct:=@Bool.not_eq_true'
def Cu:=@List.mem_of_mem_take
def Cv:=@Nat.add_zero
def Cw:=@List.nil_append
def Cx:=@Nat.lt_trans
def Cy:=@Nat.succ_mul
def Cz:=@List.any_eq_true
def Da:=@List.length_filter_le
def Db:=@if_false
def Dc:=@beq_eq_false_iff_ne
def Dd:=@Nat.mul_le_mul_left
def De:=@Nat.pow_succ
def Df:=@Nat.mul_one
def Dg:=@Nat.div_eq_of_lt
def Dh:=@List.range_succ
def Di:=@List.append_assoc
def Dj:=@List.getD_eq_getElem?_getD
def Dk:=@List.map_congr_left
def Dl:=@List.getElem_of_mem
def Dm:=@Bool.true_and
def Dn:=@Nat.div_div_eq_div_mul
def Dp:=@List.getElem?_append
def Dq:=@Int.gcd_dvd_right
def Dr:=@beq_iff_eq
def Ds:=@Nat.zero_add
def Dt:=@Nat.div_add_mod
def Du:=@Option.getD_none
def Dv:=@List.getElem_map
def Dw:=@List.getElem?_map
def Dx:=@Bool.and_self
def Dy:=@Int.mul_le_mul_of_nonneg_left
def Ea:=@List.map_map
def Eb:=@Bool.or_eq_true
def Ec:=@List.mem_flatMap
def Ed:=@List.getD_cons_succ
def Ee:=@Nat.pow_add
def Ef:=@List.exists_cons_of_ne_nil
def Eg:=@Array.getElem?_eq_some_iff
def Eh:=@Bool.eq_iff_iff
def Ei:=@Int.gcd_dvd_left
def Ej:=@Array.length_toList
def Ek:=@of_decide_eq_true
def El:=@List.flatMap_cons
def Em:=@List.drop_append_of_le_length
def En:=@Int.mul_pos
def Eo:=@List.drop_zero
def Ep:=@Nat.lt_or_ge
def Er:=@List.map_nil
def Es:=@Int.lt_or_eq_of_le
def Et:=@List.ext_getElem
def Eu:=@Int.mul_lt_mul_of_pos_right
def Ev:=@List.pairwise_map
def Ew:=@Int.natAbs_mul
def Ex:=@List.flatten_append
def Ey:=@Decidable.byContradiction
def Ez:=@List.getElem?_toArray
def Fa:=@Nat.lt_succ_self
def Fb:=@List.length_take
def Fc:=@List.eq_nil_iff_forall_not_mem
def Fe:=@List.cons_append
def Ff:=@Nat.lt_irrefl
def Fg:=@or_false
def Fh:=@Nat.one_mul
def Fj:=@Nat.add_mul_div_left
def Fk:=@Int.mul_nonneg
def Fl:=@Bool.not_false
def Fm:=@not_false_eq_true
def Fo:=@List.getElem?_cons_succ
def Fp:=@List.any_eq_false
def Fq:=@Nat.div_le_self
def Fs:=@List.mem_filter
def Ft:=@List.take_succ_cons
def Fu:=@Int.mul_zero
def Fv:=@Int.le_of_lt
def Fx:=@Bool.not_eq_true
def Fy:=@Nat.eq_zero_or_pos
def Fz:=@Int.tmod_eq_emod_of_nonneg
def Ga:=@List.pairwise_iff_getElem
def Gb:=@List.drop_eq_getElem_cons
def Gc:=@Nat.mul_add
def Gd:=@List.ext_getElem?
def Ge:=@bne_iff_ne
def Gf:=@List.Pairwise.imp_of_mem
def Gg:=@Bool.not_true
def Gi:=@List.flatMap_append
def Gj:=@List.drop_succ_cons
def Gk:=@List.getElem?_cons_zero
def Gl:=@Nat.pow_pos
def Gm:=@Nat.le_succ
def Gn:=@List.map_id
def Gp:=@of_decide_eq_false
def Gq:=@Nat.zero_mul
def Gr:=@Nat.pow_zero
def Gs:=@Nat.le_mul_of_pos_left
def Gt:=@List.getElem_range
def Gu:=@Int.dvd_trans
def Gv:=@Array.getElem?_modify
def Gw:=@List.size_toArray
def Gx:=@List.Pairwise.imp
def Gy:=@decide_true
def Gz:=@List.mem_of_mem_drop
def Hd:=@List.mem_iff_getElem
def Hg:=@Int.tdiv_eq_ediv_of_nonneg
def Hh:=@beq_self_eq_true
def Hi:=@List.length_drop
def Hj:=@List.drop_append
def Hk:=@List.eq_of_mem_replicate
def Hl:=@List.find?_eq_none
def Hn:=@Nat.mul_pos
def Ho:=@Nat.div_one
def Hq:=@Nat.add_left_cancel_iff
def Hr:=@List.getElem?_replicate
def Ht:=@Int.tdiv_eq_ediv_of_dvd
def Hu:=@Int.neg_mul
def Hv:=@List.take_zero
def Hw:=@List.pairwise_lt_range
def Hx:=@List.foldl_append
def Hy:=@Int.lt_trichotomy
def Hz:=@Nat.mul_lt_mul''
def Ia:=@Nat.le_add_right
def Ib:=@Nat.blt_eq
def Ic:=@List.take_append
def Ie:=@Array.toList_map
def Ig:=@Bool.and_true
def Ih:=@Nat.mod_one
def Ii:=@Bool.or_eq_false_iff
def Ij:=@Nat.mul_add_mod
def Ik:=@Nat.min_le_left
def Il:=@List.length_set
def Im:=@List.any_append
def Io:=@Int.mul_eq_zero
def Ip:=@Nat.div_mul_le_self
def Iq:=@List.replicate_succ
def Ir:=@List.map_eq_nil_iff
def Is:=@Nat.sub_zero
def It:=@Nat.gcd_comm
def Iu:=@Nat.add_comm
def Iv:=@List.drop_length_add_append
def Iw:=@Int.mul_comm
def Ix:=@List.mem_filterMap
def Iy:=@List.getElem?_append_right
def Iz:=@List.filter_append
def Ja:=@Int.natAbs_neg
def Jb:=@Int.lt_or_gt_of_ne
def Jc:=@List.mem_of_find?_eq_some
def Jd:=@List.getElem?_append_left
def Je:=@Int.mul_pos_of_neg_of_neg
def Jf:=@Int.mul_neg_of_pos_of_neg
def Jg:=@Int.eq_of_mul_eq_mul_left
def Jh:=@bne_self_eq_false
def Ji:=@Nat.lt_trichotomy
def Jj:=@Nat.div_pos
def Jk:=@List.all_eq_false
def Jl:=@Nat.pow_succ'
def Jm:=@Int.mul_ediv_cancel_left
def Jn:=@Nat.le_of_not_lt
def Jo:=@List.length_eq_zero_iff
def Jp:=@List.filter_cons
def Jq:=@List.drop_length
def Jr:=@decide_not
def Js:=@Int.zero_mul
def Jt:=@Array.toList_replicate
def Ju:=@Nat.mul_add_div
def Jv:=@Nat.mod_add_div
def Jw:=@List.find?_some
def Jx:=@List.filter_nil
def Jy:=@Nat.ble_eq_true_of_le
def Jz:=@List.take_append_drop
def Ka:=@List.sizeOf_lt_of_mem
def Kb:=@List.length_replicate
def Kc:=@Classical.choose_spec
def Kd:=@Bool.and_eq_false_iff
def Ke:=@true_and
def Kh:=@Nat.div_lt_of_lt_mul
def Ki:=@List.range_eq_range'
def Kk:=@List.drop_drop
def Kl:=@Int.mul_neg
def Km:=@Int.mul_ediv_cancel'
def Kn:=@List.length_pos_iff
def Ko:=@List.getElem?_range
def Kq:=@Int.gcd_eq_zero_iff
def Kr:=@Array.toList_append
def Ky:=@List.drop_nil
def Lc:=@Bool.or_false
variable{p:Prop}
theorem A0(h:p:=by omega):p:=h
theorem A1(h:p:=by decide):p:=h
theorem A3(h:p:=by simp):p:=h
theorem Zaa{p:Prop}(h:p:=by exact⟨rfl,_,by simp only[↓zP,zR,seval];rfl,rfl⟩):p:=h
theorem Zab{p:Prop}(h:p:=by simp[eN.args]):p:=h
theorem Zac{p:Prop}(h:p:=by
 generalize d:aB.set _ (H1.next+4) _=HZ;have hz:Over t HZ:=(by subst d;exact(((((((((Over.refl t).alloc _).alloc _).set A0 _).set A0 _).alloc _).alloc _).set A0 _).set A0 _));clear d;have aj:=hz.le;refine⟨rfl,_,_,by rw[aB.aD,if_neg A1];exact(hz.same 6 A0).trans z6,by rw[a6];rfl,?_,by simp only[aB.bB];omega,fun j O Z=>?_⟩
 . rw[a6,if_pos rfl];exact⟨by rw[aB.aD,if_neg A1,aB.aD,if_pos rfl],by simp only[aB.bB];omega,by rw[aB.aD,if_neg A1,aB.aD,if_neg A1];exact(hz.same 5 A0).trans ((zo 5 A1 A0).trans w7),_,_,by rw[aB.aD,if_pos rfl]⟩
 by_cases j6:j=6
 . omega
 rw[aB.aD,if_neg j6,aB.aD,if_neg A0];exact(hz.same j A0).trans (zo j j6 Z)):p:=h
theorem Zad{p:Prop}(h:p:=by simp only[sf]):p:=h
theorem Zae{p:Prop}(h:p:=by simp only[sf,cD]):p:=h
theorem Zaf{p:Prop}(h:p:=by simp only[↓zP,zJ,seval,p,C,e,U,k,F,oL F];refine⟨rfl,_,by simp only[↓zP,zR,seval,p,C,k,oL (k _)];rfl,?_⟩;rw[q];rfl):p:=h
theorem Zag{p:Prop}(h:p:=by simp;omega):p:=h
theorem Zah{p:Prop}(h:p:=by simp only[zI,seval];omega):p:=h
theorem Zai{p:Prop}(h:p:=by
 dsimp only;have hd:=Po I X;have G:=I.len;have j:=X.len;have F:(AV.bool false::AV.bool false::wC zs).length=18:=by simp[cK];rfl
 have k:∀z,(cO z).length=18:=fun z=>mG z;generalize rO x y=d at *;refine bP ?_;refine Ty ?_;refine bQ ?_;simp only[↓zP,zJ,seval,oL G,oL j];refine eI (hd _) ?_;simp only[↓zP,zJ,seval,k,F,oL F,oL (k _)];refine⟨rfl,_,by simp only[↓zP,zR,seval,k,oL (k _)];rfl,?_⟩;rfl):p:=h
theorem Zaj{p:Prop}(h:p:=by simp only[sf,dG]):p:=h
theorem Zak{p:Prop}(h:p:=by
 dsimp only;refine Tz ?_;refine cH [3] (fun i vs H'=>vs=[.bG]) 0 0 (Bh _) A0 A1 ?_ ?_ ?_ ?_ ?_
 . exact zq
 . simp only[sm,zB,seval]
 . rintro i f H1 G F E T J;have A:f 0=.bG:=E 0 rfl;simp only[↓zP,zG,seval,T,A];exact tB A0
 . rintro i f H1 G F E;exact absurd F (Am _)
 rintro f H1 E J;simp only[zM] at J;simp only[↓zP,seval,J];refine Rx ?_;rfl):p:=h
theorem Zal{p:Prop}(h:p:=by simp only[aB.bJ];omega):p:=h
theorem Zam{p:Prop}(h:p:=by
 rw[Ao,Ar] at J
 rcases J with h|h
 . exact .inl h
 simp[F] at h;exact .inr h):p:=h
theorem Zan{p:Prop}(h:p:=by simp only[sf,I.free,X.free]):p:=h
theorem Zao{p:Prop}(h:p:=by simp only[sf,eW]):p:=h
theorem Zap{p:Prop}(h:p:=by
 rcases qo with ⟨rfl,h⟩|⟨k,rfl,O,Z⟩
 . rw[h];rfl
 have cU:¬bU (jB C S L)=[]:=fun h=>by have :=qe (by simpa [bU] using h);cases this
 rw[show lT 3 (bU (jB C S L))=.bK 0 3 (bU (jB C S L)) from if_neg cU];have uD:fK (bU (jB C S L))=true:=dQ cD _;simp[iH,GI,kK,uD,EK,nJ,AV.free]):p:=h
theorem Zaq{p:Prop}(h:p:=by rw[S.1];omega):p:=h
theorem Zar{p:Prop}(h:p:=by rw[show jO l C S L=(.bG,1) from (if_neg bj).trans (if_pos (LB A0))];exact⟨_,2,rfl,fun t=>rfl⟩):p:=h
theorem Zas{p:Prop}(h:p:=by exact⟨_,2,rfl,fun t=>rfl⟩):p:=h
theorem Zat{p:Prop}(h:p:=by simp only[AV.free,dG]):p:=h
theorem Zau{p:Prop}(h:p:=by subst hX;simp only[aB.bB,aB.bJ];omega):p:=h
theorem Zav{p:Prop}(h:p:=by simp only[sf,cT W]):p:=h
theorem Zaw{p:Prop}(h:p:=by simp only[aB.bB];omega):p:=h
theorem Zax{p:Prop}(h:p:=by rename_i f;rw[f] at K;generalize q:a.eval x=u at K;cases K;simp only[Aj,An] at h;obtain⟨rfl,rfl⟩:=h;exact cV.pure' L (b q (by simp[Builtin.clear_,O,run_underlying W w])) (VR.oQ G w)):p:=h
theorem Zay{p:Prop}(h:p:=by simp only[sm,NL,ne_eq,Nat.reduceEqDiff,Fm];exact rfl):p:=h
theorem Zaz{p:Prop}(h:p:=by refine eI (NK (decide (z<0)) U _) ?_;simp only[↓zP,zJ,Nat.reduceEqDiff,Nat.reduceAdd,iL U,p,fs];exact⟨rfl,_,by simp only[↓zP,zR,Nat.reduceEqDiff,Nat.reduceAdd,iL U];rfl,rfl⟩):p:=h
theorem ZaA{p:Prop}(h:p:=by exact⟨.bG,by simp only[sm,zB,seval],.nil _ _,by simp only[zI,seval],by simp only[zI,seval]⟩):p:=h
theorem ZaB{p:Prop}(h:p:=by refine Rx ?_;rfl):p:=h
theorem ZaC{p:Prop}(h:p:=by simp only[sm,NL,Nat.reduceEqDiff,dY];exact rfl):p:=h
theorem ZaD{p:Prop}(h:p:=by refine bQ ?_;refine Tx ?_;refine⟨rfl,_,by simp only[↓zP,zR,seval,E];rfl,?_⟩;rfl):p:=h
theorem ZaE{p:Prop}(h:p:=by
 constructor
 . rintro(h|h|h)
   . exact .inr (.inl h)
   . exact .inl h
   exact .inr (.inr h)
 rintro(h|h|h)
 . exact .inr (.inl h)
 . exact .inl h
 exact .inr (.inr h)):p:=h
theorem ZaF{p:Prop}(h:p:=by simp only[↓zP,zG,seval,T];exact tB A0):p:=h
theorem ZaG{p:Prop}(h:p:=by simp only[Aj,An] at h ⊢;simp_all):p:=h
theorem ZaH{p:Prop}(h:p:=by simp only[zB,Nat.reduceEqDiff]):p:=h
theorem ZaI{p:Prop}(h:p:=by simp only[sm,zB,seval]):p:=h
theorem ZaJ{p:Prop}(h:p:=by simp only[sf,I.free]):p:=h
theorem ZaK{p:Prop}(h:p:=by rw[aB.aD,if_pos rfl]):p:=h
theorem ZaL{p:Prop}(h:p:=by rename_i hu;simp only[Sem.run_bind,run_underlying hu w,Result.andThen_ok];rfl):p:=h
theorem ZaM{p:Prop}(h:p:=by refine key _ ?_ ?_ ?_ ?_<;>simp only[zB,seval,P,S,l,s]):p:=h
theorem ZaN{p:Prop}(h:p:=by
 obtain⟨O,vs,Z,B⟩:=q;refine p _ B (fD (fun e s d h X=>?_) n);obtain⟨rfl,rfl|⟨_,x,C⟩,rfl,rfl⟩:=X
 . exact⟨O,vs,Z,rfl,rfl⟩
 grind):p:=h
theorem ZaO{p:Prop}(h:p:=by rw[<-A];rfl):p:=h
theorem ZaP{p:Prop}(h:p:=by simp only[sf,J.free,L.free]):p:=h
theorem ZaQ{p:Prop}(h:p:=by simp only[sf];exact lB fun i _=>dG _):p:=h
theorem ZaR{p:Prop}(h:p:=by simp only[sC,Kr,Jt,Gw,Q,h4];refine J.append ⟨by simp,fun j Y=>?_⟩;simp only[Kb] at Y;simp only[Dj,Hr,Y,if_true,By];exact VR.oQ G w):p:=h
theorem ZaS{p:Prop}(h:p:=by exact⟨trivial,trivial,Al AV.bool (Ac A0).symm⟩):p:=h
theorem ZaT{p:Prop}(h:p:=by obtain⟨w,m,mb,c,seen,es,N,O,Z,B,h4,M⟩:=h;exact⟨w,m,mb,c,seen,es,N,O,Z,B,fun k=>K D (h4 k),fun j k1 k2=>K D (M j k1 k2)⟩):p:=h
theorem ZaU{p:Prop}(h:p:=by split<;>omega):p:=h
theorem ZaV{p:Prop}(h:p:=by simpa using Y):p:=h
theorem ZaW{p:Prop}(h:p:=by simp only[zB];rfl):p:=h
theorem ZaX{p:Prop}(h:p:=by refine⟨rfl,_,by simp only[↓zP,zR,seval,U];rfl,?_⟩;rw[V];rfl):p:=h
theorem ZaY{p:Prop}(h:p:=by
 simp only[dU] at h ⊢;split at h
 . rename_i O Z;simp only[Aj,An] at h;obtain⟨rfl,rfl⟩:=h;exact⟨rfl,rfl⟩
 cases h):p:=h
theorem ZaZ{p:Prop}(h:p:=by
 rw[E 0 rfl];simp only[zB,seval,dY,Ce]
 rcases kS L S with ⟨h,e⟩|⟨h,e⟩
 . rw[h] at F;exact absurd F (Am _)
 exact e):p:=h
theorem Za0{p:Prop}(h:p:=by
 split at h
 . obtain rfl:=Aa h;cases H
 cases h):p:=h
theorem Za1{p:Prop}(h:p:=by exact⟨rfl,rfl⟩):p:=h
theorem Za2{p:Prop}(h:p:=by simp only[sf,lB fun i _=>dG _]):p:=h
theorem Za3{p:Prop}(h:p:=by rw[GD] at I';exact ih _ _ _ _ _ _ _ TS I' cU):p:=h
theorem Za4{p:Prop}(h:p:=by simp only[eN.args,Ba,Ar];exact .inr (.inl Q)):p:=h
theorem Za5{p:Prop}(h:p:=by simp only[zB,seval];exact v7):p:=h
theorem Za6{p:Prop}(h:p:=by simp only[zB,seval];exact g0):p:=h
theorem Za7{p:Prop}(h:p:=by simp only[zB,seval];exact e2):p:=h
theorem Za8{p:Prop}(h:p:=by rw[f] at K;obtain⟨rfl,rfl⟩:=h;generalize q:a.eval x=u at K;cases K;exact cV.pure' L (b _ _ _ q) (.int _ _)):p:=h
theorem Za9{p:Prop}(h:p:=by simp only[vec,sub,V.mk.injEq] at this;exact V.ext' A0 A0 A0):p:=h
theorem Zba{p:Prop}(h:p:=by refine⟨rfl,_,by simp only[↓zP,zR,seval,k];rfl,?_⟩;rfl):p:=h
theorem Zbb{p:Prop}(h:p:=by unfold tE at *;omega):p:=h
theorem Zbc{p:Prop}(h:p:=by simp only[zB,seval];exact U):p:=h
theorem Zbd{p:Prop}(h:p:=by simp only[zB,seval];exact R):p:=h
theorem Zbe{p:Prop}(h:p:=by simp only[dL,dot,bC];grind):p:=h
theorem Zbf{p:Prop}(h:p:=by rw[n 5 rfl];simp only[zB,seval];exact u5):p:=h
theorem Zbg{p:Prop}(h:p:=by rw[Bm,<-Bn];congr 2;omega):p:=h
theorem Zbh{p:Prop}(h:p:=by refine p _ HC r ab A0 ?_ ?_ ?_ ?_ ?_ g e U g5 (by rw[a7];exact V)<;>simp only[zB,seval,k3,k4,k5,a,a6]):p:=h
theorem Zbi{p:Prop}(h:p:=by
 obtain⟨rfl,rfl⟩:=h;have :=p _ _ _ rfl Q W (fun N=>by rw[T] at N;cases N) k
 rwa [if_pos T] at this):p:=h
theorem Zbj{p:Prop}(h:p:=by simp only[↓zP,zG,seval]):p:=h
theorem Zbk{p:Prop}(h:p:=by rw[e] at h;exact h):p:=h
theorem Zbl{p:Prop}(h:p:=by
 obtain⟨rfl,rfl⟩:=h;have :=i _ _ _ q Q W (fun N=>by rw[T] at N;cases N) k
 rwa [if_pos T] at this):p:=h
theorem Zbm{p:Prop}(h:p:=by exact⟨rfl,fun j Y=>absurd Y (Am _)⟩):p:=h
theorem Zbn{p:Prop}(h:p:=by obtain⟨x,C,_⟩:=N (o -l.base) A0;exact⟨x,by rw[show o=l.base+(o -l.base) by omega];exact C⟩):p:=h
theorem Zbo{p:Prop}(h:p:=by obtain⟨rfl,rfl⟩:=h;exact⟨rfl,rfl,k2,s2,M,rfl⟩):p:=h
theorem Zbp{p:Prop}(h:p:=by rw[iO];decide):p:=h
theorem Zbq{p:Prop}(h:p:=by obtain⟨w,m,mb,c,seen,es,N,j,O,Z,B,h4,M⟩:=h;exact⟨w,m,mb,c,seen,es,N,j,O,Z,B,h4,K D M⟩):p:=h
theorem Zbr{p:Prop}(h:p:=by exact D.RM j e ((K.cmp e j d r q2 q3 V (I.YC D K Y y)).2.2.2.2 q4 w) r d V q3 L q5 _ (.inl f)):p:=h
theorem Zbs{p:Prop}(h:p:=by simp only[sf,FH]):p:=h
theorem Zbt{p:Prop}(h:p:=by simp only[sf,FG]):p:=h
theorem Zbu{p:Prop}(h:p:=by subst hX;rw[aB.aD,if_neg A0,aB.aD,if_neg A0,aB.aD,if_neg A0,aB.aD,if_neg A0,o];exact this):p:=h
theorem Zbv{p:Prop}(h:p:=by simpa using Q.2):p:=h
theorem Zbw{p:Prop}(h:p:=by simp only[zB,seval,aX]):p:=h
theorem Zbx{p:Prop}(h:p:=by subst hX;simp only[aB.bB];omega):p:=h
theorem Zby{p:Prop}(h:p:=by simp only[sf,J.free]):p:=h
theorem Zbz{p:Prop}(h:p:=by simp only[sf,lB fun i F=>(I i F).free,lB fun i F=>(X i F).free]):p:=h
theorem ZbA{p:Prop}(h:p:=by obtain⟨m,es,O,Z,B⟩:=h;exact⟨m,es,O,Z,fun N c mb k1 k2=>K D (B N c mb k1 k2)⟩):p:=h
theorem ZbB{p:Prop}(h:p:=by simp only[↓zP,zJ,Nat.reduceLT,T];exact tB A0):p:=h
theorem ZbC{p:Prop}(h:p:=by simp only[sf,cT ht]):p:=h
theorem ZbD{p:Prop}(h:p:=by refine Wz ?_;refine⟨rfl,_,by simp only[↓zP,zR,seval,j4,V];rfl,?_⟩;rw[<-S];rfl):p:=h
theorem ZbE{p:Prop}(h:p:=by
 rcases hx v J with h|rfl
 . exact y v h
 simp only[nr,Bi,Bb,Bs];exact fun c h=>R c h):p:=h
theorem ZbF{p:Prop}(h:p:=by rw[if_neg A0,if_pos A0];rfl):p:=h
theorem ZbG{p:Prop}(h:p:=by
 rename_i f R;split at h
 . rename_i b a N i;cases h;exact⟨c,f,S,R,N,i⟩
 cases h):p:=h
theorem ZbH{p:Prop}(h:p:=by
 obtain⟨v,J⟩:=h.iE _ _ F;have :=qK J
 grind):p:=h
theorem ZbI{p:Prop}(h:p:=by
 obtain⟨t,O,Z⟩:=h;refine⟨t,O,?_⟩
 grind):p:=h
theorem ZbJ{p:Prop}(h:p:=by exact⟨c,T,fz,by rw[q _ X];exact b1,b2,fun j Y=>by rw[kV (q _ X)];exact D j Y⟩):p:=h
theorem ZbK{p:Prop}(h:p:=by simpa using z):p:=h
theorem ZbL{p:Prop}(h:p:=by simpa using s):p:=h
theorem ZbM{p:Prop}(h:p:=by simp only[zB,seval];exact e1):p:=h
theorem ZbN{p:Prop}(h:p:=by simp only[zB,seval];exact ab):p:=h
theorem ZbO{p:Prop}(h:p:=by rw[aX,As,Bo];omega):p:=h
theorem ZbP{p:Prop}(h:p:=by cases ok<;>simp <;>first|exact nq|exact A nq (.bool false)):p:=h
theorem ZbQ{p:Prop}(h:p:=by rw[if_pos (jk.2 s),s,Rat.zero_mul,Rat.sub_eq_add_neg,Rat.neg_zero,Rat.add_zero]):p:=h
theorem ZbR{p:Prop}(h:p:=by rw[D];intro h;rcases h with h|h;exact Gp O h;exact Gp Z h):p:=h
theorem ZbS{p:Prop}(h:p:=by exact⟨rfl,by simp only[sm,zB,seval];rfl⟩):p:=h
theorem ZbT{p:Prop}(h:p:=by simp only[zB,seval];exact A):p:=h
theorem ZbU{p:Prop}(h:p:=by exact⟨fun v J=>by simp at J,by simp only[zI,seval],by simp only[zI,seval]⟩):p:=h
theorem ZbV{p:Prop}(h:p:=by rw[this];simp only[lI,hr,Result.andThen_ok]):p:=h
theorem ZbW{p:Prop}(h:p:=by rw[J];decide):p:=h
theorem ZbX{p:Prop}(h:p:=by refine⟨a1,y,Q,i,fun j Y=>?_⟩;obtain⟨u,B,J⟩:=N j Y;exact⟨u,B,t J⟩):p:=h
theorem ZbY{p:Prop}(h:p:=by subst hX;rw[aB.aD,if_neg u,aB.aJ,if_neg u];exact g0):p:=h
theorem ZbZ{p:Prop}(h:p:=by simp only[eN.args,Ba,Ar];exact .inr (.inr (.inr Q))):p:=h
theorem Zb0{p:Prop}(h:p:=by simp only[eN.args,Ba,Ar];exact .inr (.inr (.inl Q))):p:=h
theorem Zb1{p:Prop}(h:p:=by rw[Tt (k:=.u32) rfl];simp only[IntKind.bits];omega):p:=h
theorem Zb2{p:Prop}(h:p:=by rw[E 6 rfl];simp only[zB,Nat.reduceEqDiff];exact L):p:=h
theorem Zb3{p:Prop}(h:p:=by rw[E 5 rfl];simp only[zB,Nat.reduceEqDiff];exact s):p:=h
theorem Zb4{p:Prop}(h:p:=by rw[<-(LS f U).1];exact Z):p:=h
theorem Zb5{p:Prop}(h:p:=by simp only[sf,cT (show Nat.blt 0 2=true from rfl)]):p:=h
theorem Zb6{p:Prop}(h:p:=by rw[S.1];exact m):p:=h
theorem Zb7{p:Prop}(h:p:=by refine⟨rfl,_,by simp only[↓zP,zR,seval,k4,k,oL (k _)];rfl,?_⟩;rfl):p:=h
theorem Zb8{p:Prop}(h:p:=by
 dsimp only;simp only[↓zP,zJ,seval,cS,AH,w1,w2,R]
 (refine Rx ?_;rfl)):p:=h
theorem Zb9{p:Prop}(h:p:=by simp only[↓zP,zJ,Nat.reduceLT,Nat.reduceEqDiff,T,A,aX];exact tB A0):p:=h
theorem Zca{p:Prop}(h:p:=by exact⟨trivial,trivial,Al AV.bool (Bj.2 (by simp at F;simp[F]))⟩):p:=h
theorem Zcb{p:Prop}(h:p:=by
 by_cases Z:p<i\/p=k
 . rw[if_pos Z,if_pos A0]
 rw[if_neg Z,if_neg A0]):p:=h
theorem Zcc{p:Prop}(h:p:=by simp only[oJ,seval,zI,Option.isNone_none,Dx]):p:=h
theorem Zcd{p:Prop}(h:p:=by rw[<-QD id f];exact Z):p:=h
theorem Zce{p:Prop}(h:p:=by
 split
 . exact(Bq.tm h A0 h.db (h.mb 1 1)).mono A1 A1
 exact .z _ _):p:=h
theorem Zcf{p:Prop}(h:p:=by rw[cL];decide):p:=h
theorem Zcg{p:Prop}(h:p:=by rw[F];exact m):p:=h
theorem Zch{p:Prop}(h:p:=by
 rw[Ew];have :=Hz C Q;have e:(2:Nat)^31*2^31=2^62:=by decide
 omega):p:=h
theorem Zci{p:Prop}(h:p:=by simp only[sf,pB];rfl):p:=h
end Go
namespace Go.Av
open Go
inductive AV where
 |bool (b:Bool)
 |int (k:IntKind) (n:Int)
 |str (s:List UInt8)
 |Li
 |ref (id off:Nat)
 |pl (cells:List AV)
 |bG
 |bK (tag sz:Nat) (els:List (List AV))
 |sl (id sz off len cap:Nat)
 |func (fn:Fn) (first captured:List AV)
 |BU
 |iface (t:TypeId) (v:AV)
 |pY
 |agg (cs:List AV)
 |iV (vs:List AV)
 |map (id:Nat)
 |rV
 |yield (id:Nat)
instance:Inhabited AV:=⟨.Li⟩
def aC:AV:=.iV []
def AV.one:AV->Bool
 |.agg _|.iV _=>false
 |_=>true
def AV.DS:AV->Bool
 |.iV _=>true
 |_=>false
def AV.cells:AV->List AV
 |.agg cs=>cs
 |v=>[v]
inductive Arg where
 |tmp (t:Nat)
 |const (v:AV)
 |jE (g:Nat)
inductive Sk where
 |b|i|s
 |f (sh:List Sk)
inductive Nk where
 |ptr|ifc|sli|mp|fn
 deriving DecidableEq
inductive eN where
 |mO (x:Arg)
 |pick (c a b:Arg)
 |alloc (zero:List AV)
 |box (x:Arg)
 |build (zero:List AV) (parts:List (Nat×Nat×Arg))
 |Qf (sz:Nat) (parts:List Arg)
 |load (agg:Bool) (n:Nat) (a:Arg)
 |store (n:Nat) (a x:Arg)
 |Qh (x:Arg)
 |bin (op:BinOp) (x y:Arg)
 |eqb (neg:Bool) (x y:Arg)
 |eqf (neg:Bool) (shape:List Sk) (x y:Arg)
 |eqn (neg:Bool) (k:Nk) (lit:Bool) (x y:Arg)
 |un (op:UnOp) (x:Arg)
 |NW (k:IntKind) (x:Arg)
 |EG (x:Arg)
 |GO (x:Arg)
 |jj (n:Nat) (x:Arg)
 |ed (t:TypeId) (x:Arg)
 |SE (fn:Fn) (first cap:List Arg)
 |BT
 |mJ (sz bytes:Nat) (zero:List AV) (l c:Arg)
 |RJ (x:Arg) (lo hi:Option Arg)
 |Yi (sz:Nat) (x:Arg) (lo hi mx:Option Arg)
 |HL (n sz:Nat) (x:Arg) (lo hi mx:Option Arg)
 |xM (off:Nat) (x:Arg)
 |rH (arr:Option Nat) (sz:Nat) (x i:Arg)
 |idx (n sz:Nat) (agg:Bool) (x i:Arg)
 |idxs (x i:Arg)
 |ju (t:TypeId) (ok:Bool) (zero:AV) (x:Arg)
 |Ul (x:Arg) (i:Nat)
 |lens (x:Arg)
 |QT (x:Arg)
 |VO (x y:Arg)
 |YA (x y:Arg)
 |clr (sz:Nat) (zero:List AV) (x:Arg)
 |append (sz bytes:Nat) (mu:Bool) (x y:Arg)
 |copy (sz:Nat) (d s:Arg)
 |lookup (kind:Sk) (zero:AV) (ok:Bool) (x i:Arg)
 |Qa (kind:Sk) (m k v:Arg)
 |xU (x:Arg)
 |GY (x:Arg)
 |AZ (x:Arg)
 |call (f:Arg) (args:List Arg)
 |panic (x:Arg)
 |mY (f:Arg) (args:List Arg)
structure bH where
 dst:Option Nat
 op:eN
 guard:Option (Nat×Bool)
inductive bX where
 |skip
 |ops (rl:List bH)
 |draw (rl:List bH) (pairs:List (Nat×Nat))
 |seq (a b:bX)
 |cond (c:Arg) (a b:bX)
 |block (id:Nat) (a:bX)
 |loop (a:bX)
 |exit (id:Nat)
 |ret
 |pO (c:Arg) (ps:List Nat) (MI body:bX)
structure HU where
 ps:List Nat
 MI:bX
 body:bX
structure bL where
 val:Nat->Option (List AV)
 lok:HU->Loop->Prop
instance:CoeFun bL (fun _=>Nat->Option (List AV)):=⟨bL.val⟩
def bL.mo(g:bL):Bool:=(g.val 999999999).isNone
def g0:bL:=⟨fun _=>none,fun _ _=>False⟩
inductive LEx where
 |ret
 |exit (id:Nat)
inductive LSt where
 |ready
 |busy
 |done (e:LEx)
 |over (e:Option LEx)
inductive eS where
 |cells (cs:List AV) (eU:Bool)
 |tok
 |map (es:List (AV×AV))
 |tW (es:List (AV×AV)) (bs:List Nat) (c mb:Nat)
 |iter (m mb c:Nat) (seen:List Nat)
 |loop (k:HU) (sn:List AV) (st:LSt)
 |AN
 |dfx
 |dead
def eS.dE:eS->Bool
 |.map _|.tW _ _ _ _|.iter _ _ _ _|.loop _ _ _|.AN|.dfx=>true
 |_=>false
def LEx.code:LEx->Code
 |.ret=>.ret
 |.exit id=>.exit id
def oK(r:Loop):LSt->Loop
 |.ready=>{r with state:=.ready,pending:=none}
 |.busy=>{r with state:=.busy,pending:=none}
 |.done e=>{r with state:=.done,pending:=some e.code}
 |.over e=>{r with state:=.exhausted,pending:=e.map LEx.code}
def eS.live:eS->Bool
 |.dead=>false
 |_=>true
inductive Tr where
 |nil
 |node (o:Option eS) (l r:Tr)
def Tr.get:Tr->Nat->Option eS
 |.nil,_=>none
 |.node o l r,n=>if n=0 then o else if n%2=1 then l.get (n / 2) else r.get (n / 2 -1)
def Tr.root:Tr->Option eS
 |.nil=>none
 |.node o _ _=>o
def Tr.left:Tr->Tr
 |.nil=>.nil
 |.node _ l _=>l
def Tr.right:Tr->Tr
 |.nil=>.nil
 |.node _ _ r=>r
def Tr.JO:Nat->Tr->Nat->eS->Tr
 |0,t,_,o=>.node (some o) t.left t.right
 |f+1,t,n,o=>
  if n=0 then .node (some o) t.left t.right
  else if n%2=1 then .node t.root (Tr.JO f t.left (n / 2) o) t.right
  else .node t.root t.left (Tr.JO f t.right (n / 2 -1) o)
def Tr.set(t:Tr)(n:Nat)(o:eS):Tr:=Tr.JO n t n o
theorem Tr.lj(t:Tr)(n:Nat):t.get n=if n=0 then t.root else if n%2=1 then t.left.get (n / 2) else t.right.get (n / 2 -1):=by
 cases t with
 |nil=>simp[Tr.get,Tr.root,Tr.left,Tr.right]
 |node o l r=>rfl
theorem Tr.KX:∀(f:Nat) (t:Tr) (n:Nat) (o:eS) (m:Nat),n<=f->(Tr.JO f t n o).get m=if m=n then some o else t.get m:=by
 intro f
 induction f with
 |zero=>grind[Tr.lj,Tr.JO,Tr.get]
 |succ f K=>
  intro t n o m A;rw[Tr.lj t m]
  grind[Tr.JO,Tr.get]
structure aB where
 next:Nat
 tr:Tr
def aB.get(H:aB)(id:Nat):Option eS:=H.tr.get id
def aB.set(H:aB)(id:Nat)(o:eS):aB:={H with tr:=H.tr.set id o}
def aB.alloc(H:aB)(o:eS):aB:={next:=H.next+1,tr:=H.tr.set H.next o}
theorem aB.aD(H:aB)(id:Nat)(o:eS)(m:Nat):(H.set id o).get m=if m=id then some o else H.get m:=
 Tr.KX _ _ _ _ _ (Ad _)
theorem aB.aJ(H:aB)(o:eS)(m:Nat):(H.alloc o).get m=if m=H.next then some o else H.get m:=
 Tr.KX _ _ _ _ _ (Ad _)
@[simp] theorem aB.bB (H:aB) (id:Nat) (o:eS):(H.set id o).next=H.next:=rfl
@[simp] theorem aB.bJ (H:aB) (o:eS):(H.alloc o).next=H.next+1:=rfl
def Arg.eval(g:bL)(s:List AV):Arg->AV
 |.tmp t=>s.getD t aC
 |.const v=>v
 |.jE n=>match g n with
  |some cs=>.pl cs
  |none=>aC
def gE(sz:Nat):Nat->List AV->List (List AV)
 |0,_=>[]
 |n+1,cs=>cs.take sz::gE sz n (cs.drop sz)
def gH(cs:List AV)(off:Nat)(vs:List AV):List AV:=cs.take off++vs++cs.drop (off+vs.length)
def KR(ev:Arg->AV):List AV->List (Nat×Nat×Arg)->Option (List AV)
 |cs,[]=>some cs
 |cs,(off,n,x)::rest=>
  let vs:=(ev x).cells
  if vs.length=n/\off+n<=cs.length/\(ev x).DS=false then KR ev (gH cs off vs) rest else none
def Mu(ev:Arg->AV)(sz:Nat):List Arg->Option (List (List AV))
 |[]=>some []
 |x::rest=>
  let vs:=(ev x).cells
  if vs.length=sz/\(ev x).DS=false then(Mu ev sz rest).map (vs:: ·) else none
def cE:List Sk->List AV->List AV->Option Bool
 |[],[],[]=>some true
 |.b::ks,.bool a::xs,.bool b::ys=>(cE ks xs ys).map ((a==b)&& ·)
 |.i::ks,.int j a::xs,.int k b::ys=>if j=k then(cE ks xs ys).map ((a==b)&& ·) else none
 |.s::ks,.str a::xs,.str b::ys=>(cE ks xs ys).map ((a==b)&& ·)
 |_,_,_=>none
def DQ(k:Nk):AV->Option Bool
 |.Li=>if k=.ptr then some true else none
 |.ref _ _|.pl _=>if k=.ptr then some false else none
 |.bG=>if k=.sli then some true else none
 |.bK _ _ _|.sl _ _ _ _ _=>if k=.sli then some false else none
 |.pY=>if k=.ifc then some true else none
 |.iface _ _=>if k=.ifc then some false else none
 |.BU=>if k=.fn then some true else none
 |.func _ _ _=>if k=.fn then some false else none
 |.rV=>if k=.mp then some true else none
 |.map _=>if k=.mp then some false else none
 |_=>none
def GP(op:BinOp)(k:IntKind)(x y:Int):Option AV:=
 let a:=BitVec.ofInt k.bits x;let b:=BitVec.ofInt k.bits y
 match op with
 |.and=>some (.int k (k.wrap (a&&& b).toNat))
 |.or=>some (.int k (k.wrap (a|||b).toNat))
 |.xor=>some (.int k (k.wrap (a^^^b).toNat))
 |.andNot=>some (.int k (k.wrap (a&&& ~~~b).toNat))
 |_=>none
def rL(op:BinOp)(k:IntKind)(a:Int)(p:IntKind)(b:Int):Option AV:=
 match op with
 |.shl=>if b<0 then none else some (.int k (k.wrap (a*2^(min b.toNat k.bits))))
 |.shr=>if b<0 then none else some (.int k (a.fdiv (2^(min b.toNat k.bits))))
 |.add=>if k=p then some (.int k (k.wrap (a+b))) else none
 |.sub=>if k=p then some (.int k (k.wrap (a -b))) else none
 |.mul=>if k=p then some (.int k (k.wrap (a*b))) else none
 |.quo=>if k=p then(if b=0 then none else some (.int k (k.wrap (a.tdiv b)))) else none
 |.rem=>if k=p then(if b=0 then none else some (.int k (a.tmod b))) else none
 |.and|.or|.xor|.andNot=>if k=p then GP op k a b else none
 |.eql=>if k=p then some (.bool (a==b)) else none
 |.neq=>if k=p then some (.bool (a != b)) else none
 |.lss=>if k=p then some (.bool (a<b)) else none
 |.leq=>if k=p then some (.bool (a<=b)) else none
 |.gtr=>if k=p then some (.bool (a>b)) else none
 |.geq=>if k=p then some (.bool (a≥b)) else none
def aYn(op:BinOp)(x y:List UInt8):Option AV:=
 let eq:=x==y;let lt:=Op.bytesLess x y
 match op with
 |.add=>if x.length+y.length<=2^40 then some (.str (x++y)) else none
 |.eql=>some (.bool eq)
 |.neq=>some (.bool !eq)
 |.lss=>some (.bool lt)
 |.leq=>some (.bool (lt||eq))
 |.gtr=>some (.bool !(lt||eq))
 |.geq=>some (.bool !lt)
 |_=>none
def unA(op:UnOp):AV->Option AV
 |.int k n=>match op with
  |.neg=>some (.int k (k.wrap (0 -n)))
  |.xor=>GP .xor k (if k.signed then -1 else k.max) n
  |_=>none
 |.bool b=>match op with
  |.not=>some (.bool !b)
  |_=>none
 |_=>none
def asNat:AV->Option Nat
 |.int _ n=>if 0<=n then some n.toNat else none
 |_=>none
def eD(ev:Arg->AV):Option Arg->Option (Option Nat)
 |none=>some none
 |some x=>(asNat (ev x)).map some
def ZM(s:List UInt8):List (List AV):=s.map fun b=>[.int .u8 b.toNat]
def bytesOf:List (List AV)->Option (List UInt8)
 |[]=>some []
 |[.int .u8 n]::rest=>(bytesOf rest).map (UInt8.ofNat n.toNat:: ·)
 |_=>none
def aB.eV(H:aB)(id:Nat):Option (List AV):=
 match H.get id with
 |some (.cells cs _)=>some cs
 |_=>none
def dM(H:aB)(sz:Nat):AV->Option (List (List AV))
 |.bG=>some []
 |.bK _ fH els=>if fH=sz then some els else none
 |.str s=>if sz=1 then some (ZM s) else none
 |.sl id fH off len _=>
  if fH=sz then
   match H.eV id with
   |some cs=>if off+len*sz<=cs.length then some (gE sz len (cs.drop off)) else none
   |none=>none
  else none
 |_=>none
def lE(H:aB)(N:Bool)(sz:Nat)(els:List (List AV)):AV×aB:=
 if N then(.sl H.next sz 0 els.length els.length,H.alloc (.cells els.flatten true))
 else(.bK (H.next+2) sz els,H.alloc .tok)
def fM(H:aB)(sz bytes:Nat)(N:Bool)(x:AV)(ys:List (List AV)):Option (AV×aB):=
 if ys.isEmpty then
  match x with
  |.bG|.bK _ _ _|.sl _ _ _ _ _=>some (x,H)
  |_=>none
 else
 match x with
 |.bG=>if ys.length*bytes<=2^40 then some (lE H N sz ys) else none
 |.bK tag fH els=>
  if fH=sz/\(els.length+ys.length)*bytes<=2^40 then
   match tag with
   |0=>none
   |1=>some (lE H N sz (els++ys))
   |k+2=>
    match H.get k with
    |some .tok=>some (.bK (H.next+2) sz (els++ys),(H.set k .dead).alloc .tok)
    |_=>none
  else none
 |.sl id fH off len cap=>
  if fH=sz/\(len+ys.length)*bytes<=2^40/\1<=sz then
   match H.get id with
   |some (.cells cs eU)=>
    if len+ys.length<=cap then
     if off+cap*sz<=cs.length then
      some (.sl id sz off (len+ys.length) cap,H.set id (.cells (gH cs (off+len*sz) ys.flatten) eU))
     else none
    else if off+len*sz<=cs.length/\(eU=false\/off+cap*sz<cs.length) then
     some (lE H N sz (gE sz len (cs.drop off)++ys))
    else if N=true/\off=0/\len=cap/\cs.length=len*sz then
     some (.sl H.next sz 0 (len+ys.length) (len+ys.length),(H.set id .dead).alloc (.cells (cs++ys.flatten) true))
    else none
   |_=>none
  else none
 |_=>none
def nA(sz:Nat)(x:AV)(lo F mx:Option Nat):Option AV:=
 match x with
 |.bG=>if lo.getD 0=0/\F.getD 0=0/\mx.getD 0=0 then some .bG else none
 |.bK tag fH els=>
  let l:=lo.getD 0;let h:=F.getD els.length
  if fH=sz/\l<=h/\h<=els.length then
   match mx with
   |some m=>
    if h<=m/\m<=els.length then
     some (.bK (if m=h then 1 else 0) sz ((els.drop l).take (h -l)))
    else none
   |none=>
    if h=els.length/\(l<h\/tag<2) then some (.bK tag sz (els.drop l))
    else some (.bK 0 sz ((els.drop l).take (h -l)))
  else none
 |.sl id fH off len cap=>
  let l:=lo.getD 0;let h:=F.getD len
  if fH=sz/\l<=h then
   match mx with
   |some m=>
    if h<=m/\m<=cap then
     if m=l then some (.sl id sz off 0 0) else some (.sl id sz (off+l*sz) (h -l) (m -l))
    else none
   |none=>
    if h<=cap then
     if l=cap then some (.bK 0 sz []) else some (.sl id sz (off+l*sz) (h -l) (cap -l))
    else none
  else none
 |_=>none
def jV(H:aB)(n sz:Nat)(x:AV)(lo F mx:Option Nat):Option AV:=
 let l:=lo.getD 0;let m:=mx.getD n;let h:=F.getD n
 if l<=h/\h<=m/\m<=n/\(mx.isSome->F.isSome) then
  match x with
  |.ref id o=>
   match H.eV id with
   |some cs=>if o+n*sz<=cs.length then(if m=l then some (.sl id sz o 0 0) else some (.sl id sz (o+l*sz) (h -l) (m -l))) else none
   |none=>none
  |.pl cs=>if n*sz<=cs.length then some (.bK (if m=h then 1 else 0) sz ((gE sz n cs).drop l |>.take (h -l))) else none
  |_=>none
 else none
def sameKey(k:Sk):AV->AV->Option Bool
 |.int j a,.int j' b=>match k with
  |.i=>if j=j' then some (a==b) else none
  |_=>none
 |.str a,.str b=>match k with
  |.s=>some (a==b)
  |_=>none
 |.bool a,.bool b=>match k with
  |.b=>some (a==b)
  |_=>none
 |.agg xs,.agg ys=>match k with
  |.f sh=>cE sh xs ys
  |_=>none
 |_,_=>none
def nS(k:Sk)(x:AV):List (AV×AV)->Nat->Option (Option (Nat×AV))
 |[],_=>some none
 |(y,v)::es,i=>
  match sameKey k x y with
  |some true=>some (some (i,v))
  |some false=>nS k x es (i+1)
  |none=>none
def QQ(k:Sk):AV->Bool
 |.int _ _=>match k with|.i=>true|_=>false
 |.str _=>match k with|.s=>true|_=>false
 |.bool _=>match k with|.b=>true|_=>false
 |.agg xs=>match k with|.f sh=>decide (xs.length=sh.length)|_=>false
 |_=>false
def BX(ev:Arg->AV):eN->Option (eS×(Nat->AV))
 |.alloc zero=>some (.cells zero false,fun id=>.ref id 0)
 |.box x=>if(ev x).DS then none else some (.cells (ev x).cells false,fun id=>.ref id 0)
 |.BT=>some (.map [],fun id=>.map id)
 |.mJ sz bytes zero l c=>match asNat (ev l),asNat (ev c) with
  |some l,some c=>if l<=c/\bytes*c<=2^40/\zero.length=sz then some (.cells (List.replicate c zero).flatten false,fun id=>.sl id sz 0 l c) else none
  |_,_=>none
 |.EG x=>match ev x with
  |.str s=>some (.tok,fun id=>.bK (id+2) 1 (ZM s))
  |_=>none
 |_=>none
def dU(ev:Arg->AV)(H:aB):eN->Option (AV×aB)
 |.mO x=>some (ev x,H)
 |.pick c a b=>match ev c with
  |.bool t=>some (if t then ev a else ev b,H)
  |_=>none
 |.alloc zero=>(BX ev (.alloc zero)).map fun p=>(p.2 H.next,H.alloc p.1)
 |.box x=>(BX ev (.box x)).map fun p=>(p.2 H.next,H.alloc p.1)
 |.build zero parts=>(KR ev zero parts).map fun cs=>(.agg cs,H)
 |.Qf sz parts=>(Mu ev sz parts).map fun els=>(.bK 1 sz els,H)
 |.load agg n a=>match ev a with
  |.ref id off=>match H.eV id with
   |some cs=>if off+n<=cs.length then(if agg then some (.agg ((cs.drop off).take n),H) else if n=1 then some (cs.getD off aC,H) else none) else none
   |none=>none
  |.pl cs=>if n<=cs.length then(if agg then some (.agg (cs.take n),H) else if n=1 then some (cs.getD 0 aC,H) else none) else none
  |_=>none
 |.store n a x=>match ev a with
  |.ref id off=>match H.get id with
   |some (.cells cs eU)=>
    let vs:=(ev x).cells
    if vs.length=n/\off+n<=cs.length/\(ev x).DS=false then some (aC,H.set id (.cells (gH cs off vs) eU)) else none
   |_=>none
  |_=>none
 |.Qh x=>match ev x with
  |.ref id off=>some (.ref id off,H)
  |.pl cs=>some (.pl cs,H)
  |.func (.func f) a b=>some (.func (.func f) a b,H)
  |.iface t v=>some (.iface t v,H)
  |_=>none
 |.bin op x y=>match ev x,ev y with
  |.int k a,.int k' b=>(rL op k a k' b).map (·,H)
  |.str a,.str b=>(aYn op a b).map (·,H)
  |_,_=>none
 |.eqb neg x y=>match ev x,ev y with
  |.bool a,.bool b=>some (.bool (if neg then !(a==b) else(a==b)),H)
  |_,_=>none
 |.eqf neg shape x y=>match ev x,ev y with
  |.agg xs,.agg ys=>(cE shape xs ys).map fun e=>(.bool (if neg then !e else e),H)
  |_,_=>none
 |.eqn neg k lit x y=>match DQ k (ev x),DQ k (ev y) with
  |some a,some b=>if(a||b)&&(k != .ifc|| !(a&&b)||lit) then some (.bool (if neg then !(a&&b) else(a&&b)),H) else none
  |_,_=>none
 |.un op x=>(unA op (ev x)).map (·,H)
 |.NW k x=>match ev x with
  |.int _ n=>some (.int k (k.wrap n),H)
  |_=>none
 |.EG x=>(BX ev (.EG x)).map fun p=>(p.2 H.next,H.alloc p.1)
 |.GO x=>match ev x with
  |.str _=>none
  |v=>match dM H 1 v with
   |some els=>(bytesOf els).map fun s=>(.str s,H)
   |none=>none
 |.jj n x=>match ev x with
  |.bK _ _ els=>if n<=els.length/\1<=els.length then some (.pl els.flatten,H) else none
  |.sl id _ off len _=>if n<=len then some (.ref id off,H) else none
  |_=>none
 |.ed t x=>some (.iface t (ev x),H)
 |.SE fn first cap=>some (.func fn (first.map ev) (cap.map ev),H)
 |.BT=>(BX ev .BT).map fun p=>(p.2 H.next,H.alloc p.1)
 |.mJ sz bytes zero l c=>(BX ev (.mJ sz bytes zero l c)).map fun p=>(p.2 H.next,H.alloc p.1)
 |.RJ x lo hi=>match ev x,eD ev lo,eD ev hi with
  |.str s,some lo,some hi=>
   let l:=lo.getD 0;let h:=hi.getD s.length
   if l<=h/\h<=s.length then some (.str ((s.drop l).take (h -l)),H) else none
  |_,_,_=>none
 |.Yi sz x lo hi mx=>match eD ev lo,eD ev hi,eD ev mx with
  |some lo,some hi,some mx=>if mx.isSome->hi.isSome then(nA sz (ev x) lo hi mx).map (·,H) else none
  |_,_,_=>none
 |.HL n sz x lo hi mx=>match eD ev lo,eD ev hi,eD ev mx with
  |some lo,some hi,some mx=>(jV H n sz (ev x) lo hi mx).map (·,H)
  |_,_,_=>none
 |.xM off x=>match ev x with
  |.ref id o=>some (.ref id (o+off),H)
  |.pl cs=>some (.pl (cs.drop off),H)
  |_=>none
 |.rH arr sz x i=>match asNat (ev i) with
  |some i=>match arr,ev x with
   |some n,.ref id o=>if i<n then some (.ref id (o+i*sz),H) else none
   |some n,.pl cs=>if i<n then some (.pl (cs.drop (i*sz)),H) else none
   |none,.bK _ fH els=>if fH=sz/\i<els.length then some (.pl (els.getD i []),H) else none
   |none,.sl id fH off len _=>if fH=sz/\i<len then some (.ref id (off+i*sz),H) else none
   |_,_=>none
  |none=>none
 |.idx n sz agg x i=>match asNat (ev i),ev x with
  |some i,.agg cs=>if i<n/\i*sz+sz<=cs.length then(if agg then some (.agg ((cs.drop (i*sz)).take sz),H) else if sz=1 then some (cs.getD i aC,H) else none) else none
  |_,_=>none
 |.idxs x i=>match asNat (ev i),ev x with
  |some i,.str s=>match s[i]? with
   |some b=>some (.int .u8 b.toNat,H)
   |none=>none
  |_,_=>none
 |.ju t ok zero x=>match ev x with
  |.iface t' v=>if t'=t then some (if ok then .iV [v,.bool true] else v,H) else if ok then some (.iV [zero,.bool false],H) else none
  |.pY=>if ok then some (.iV [zero,.bool false],H) else none
  |_=>none
 |.Ul x i=>match ev x with
  |.iV vs=>if i<vs.length then some (vs.getD i aC,H) else none
  |_=>none
 |.lens x=>match ev x with
  |.str s=>some (.int .i64 s.length,H)
  |_=>none
 |.QT x=>match ev x with
  |.bG=>some (.int .i64 0,H)
  |.bK _ _ els=>some (.int .i64 els.length,H)
  |.sl _ _ _ len _=>some (.int .i64 len,H)
  |_=>none
 |.VO x y=>match ev x,ev y with
  |.int k a,.int _ b=>some (.int k (if b>a then b else a),H)
  |_,_=>none
 |.YA x y=>match ev x,ev y with
  |.int k a,.int _ b=>some (.int k (if b<a then b else a),H)
  |_,_=>none
 |.clr sz zero x=>match ev x with
  |.bG|.bK _ _ []|.sl _ _ _ 0 _=>some (aC,H)
  |.sl id fH off len _=>if fH=sz/\zero.length=sz then
    match H.get id with
    |some (.cells cs eU)=>if off+len*sz<=cs.length then some (aC,H.set id (.cells (gH cs off (List.replicate len zero).flatten) eU)) else none
    |_=>none
   else none
  |_=>none
 |.append sz bytes mu x y=>match dM H sz (ev y) with
  |some ys=>fM H sz bytes mu (ev x) ys
  |none=>none
 |.copy sz d s=>match dM H sz (ev s),ev d with
  |some ys,.bG=>some (.int .i64 (min ys.length 0:Nat),H)
  |some ys,.sl id fH off len _=>
   let n:=min ys.length len
   if fH=sz then
    match H.get id with
    |some (.cells cs eU)=>if off+n*sz<=cs.length then some (.int .i64 n,H.set id (.cells (gH cs off (ys.take n).flatten) eU)) else none
    |_=>none
   else none
  |_,_=>none
 |.lookup kind zero ok x i=>if QQ kind (ev i) then
   match ev x with
   |.rV=>some (if ok then .iV [zero,.bool false] else zero,H)
   |.map id=>match H.get id with
    |some (.map es)=>match nS kind (ev i) es 0 with
     |some (some (_,v))=>some (if ok then .iV [v,.bool true] else v,H)
     |some none=>some (if ok then .iV [zero,.bool false] else zero,H)
     |none=>none
    |_=>none
   |_=>none
  else none
 |.Qa kind m k v=>if QQ kind (ev k) then
   match ev m with
   |.map id=>match H.get id with
    |some (.map es)=>match nS kind (ev k) es 0 with
     |some (some (i,_))=>some (aC,H.set id (.map (es.set i (ev k,ev v))))
     |some none=>some (aC,H.set id (.map (es++[(ev k,ev v)])))
     |none=>none
    |_=>none
   |_=>none
  else none
 |.call _ _|.panic _|.mY _ _|.xU _|.GY _|.AZ _=>none
structure Loc where
 dE:Nat
 base:Nat
 WO:Nat
 ext:Nat
structure Gh where
 loc:Nat->Option Loc
 iA:Nat->Nat->Prop
 mo:Bool
def aQy(G:Gh)(tag b e sz len cap:Nat):Prop:=
 len<=cap/\match tag with
 |0=>True
 |1=>cap=len
 |k+2=>∃l,G.loc k=some l/\l.dE=b/\l.base=e/\l.WO=0/\l.ext=(cap -len)*sz
inductive VR (G:Gh) (w:World):AV->Value->Prop
 |bool (b:Bool):VR G w (.bool b) (.bool b)
 |int (k:IntKind) (n:Int):VR G w (.int k n) (.int k n)
 |str (s:ByteArray):VR G w (.str s.data.toList) (.string s)
 |Li:VR G w .Li (.pointer none)
 |ref (id off:Nat) (l:Loc) (h:G.loc id=some l):VR G w (.ref id off) (.pointer (some ⟨l.dE,l.base+off,none⟩))
 |pl (cells:List AV) (b o:Nat) (us:Nat->Value)
   (h:∀j,j<cells.length->G.iA b (o+j)/\w.cell? ⟨b,o+j,none⟩=some (us j)/\(cells.getD j aC).one=true)
   (hv:∀j,j<cells.length->VR G w (cells.getD j aC) (us j)):VR G w (.pl cells) (.pointer (some ⟨b,o,none⟩))
 |bG:VR G w .bG (.slice none 0 0)
 |bK (tag sz:Nat) (els:List (List AV)) (b o cap:Nat) (us:Nat->Value)
   (hu:∀e∈els,e.length=sz)
   (h:∀j,j<els.flatten.length->G.iA b (o+j)/\w.cell? ⟨b,o+j,none⟩=some (us j)/\(els.flatten.getD j aC).one=true)
   (hv:∀j,j<els.flatten.length->VR G w (els.flatten.getD j aC) (us j))
   (ht:aQy G tag b (o+els.length*sz) sz els.length cap):VR G w (.bK tag sz els) (.slice (some ⟨b,o,none⟩) els.length cap)
 |wE (tag sz b o s:Nat) (ht:tag<2):VR G w (.bK tag sz []) (.slice (some ⟨b,o,some s⟩) 0 0)
 |sl (id sz off len cap lK:Nat) (l:Loc) (h:G.loc id=some l) (hlen:len<=cap) (iP:off+cap*sz<=l.WO)
   (pI:lK=cap\/(off+cap*sz=l.WO/\cap<=lK/\off+lK*sz=l.ext)):
   VR G w (.sl id sz off len cap) (.slice (some ⟨l.dE,l.base+off,none⟩) len lK)
 |func (fn:Fn) (fs cs:List AV) (azs bs:List Value) (ha:azs.length=fs.length) (hb:bs.length=cs.length)
   (hav:∀j,j<fs.length->VR G w (fs.getD j aC) (azs.getD j undef)) (hbv:∀j,j<cs.length->VR G w (cs.getD j aC) (bs.getD j undef)):
   VR G w (.func fn fs cs) (.func fn azs.toArray bs.toArray)
 |BU:VR G w .BU .nilFunc
 |iface (t:TypeId) (a:AV) (v:Value) (h:VR G w a v):VR G w (.iface t a) (.iface t v)
 |pY:VR G w .pY .nilIface
 |agg (cs:List AV) (vs:List Value) (hl:vs.length=cs.length) (h1:∀c∈cs,c.one=true)
   (hv:∀j,j<cs.length->VR G w (cs.getD j aC) (vs.getD j undef)):VR G w (.agg cs) (.agg vs.toArray)
 |iV (cs:List AV) (vs:List Value) (hl:vs.length=cs.length)
   (hv:∀j,j<cs.length->VR G w (cs.getD j aC) (vs.getD j undef)):VR G w (.iV cs) (.tuple vs.toArray)
 |map (id:Nat) (l:Loc) (h:G.loc id=some l):VR G w (.map id) (.map (some l.dE))
 |rV:VR G w .rV (.map none)
 |yield (id:Nat) (l:Loc) (h:G.loc id=some l):VR G w (.yield id) (.func (.yield l.dE) #[] #[])
def jD(G:Gh)(w:World)(xs:List AV)(vs:List Value):Prop:=
 vs.length=xs.length/\∀j,j<xs.length->VR G w (xs.getD j aC) (vs.getD j undef)
theorem VR.oQ(G:Gh)(w:World):VR G w aC Go.undef:=VR.iV [] [] rfl (fun j Y=>absurd Y (Am j))
variable{G E:Gh}{w w':World}{a:AV}{u:Value}
theorem VR.mono(h:VR G w a u)(U:∀id l,G.loc id=some l->E.loc id=some l)
 (F:∀b o,G.iA b o->E.iA b o/\w'.cell? ⟨b,o,none⟩=w.cell? ⟨b,o,none⟩):VR E w' a u:=by
 induction h with
 |bool b=>exact .bool b
 |int k n=>exact .int k n
 |str s=>exact .str s
 |Li=>exact .Li
 |ref id off l h=>exact .ref id off l (U _ _ h)
 |pl cells b o us h J K=>exact .pl cells b o us (fun j Y=>⟨(F _ _ (h j Y).1).1,by grind,(h j Y).2.2⟩) K
 |bG=>exact .bG
 |bK tag sz els b o cap us B h J W K=>
  refine .bK tag sz els b o cap us B (fun j Y=>⟨(F _ _ (h j Y).1).1,by grind,(h j Y).2.2⟩) K ?_;refine⟨W.1,?_⟩;have Z:=W.2
  grind
 |wE tag sz b o s W=>exact .wE tag sz b o s W
 |sl id sz off len cap V l h Q y T=>exact .sl id sz off len cap V l (U _ _ h) Q y T
 |func fn fs cs X N I d c P R e=>exact .func fn fs cs X N I d R e
 |BU=>exact .BU
 |iface t a v h K=>exact .iface t a v K
 |pY=>exact .pY
 |agg cs vs L O J K=>exact .agg cs vs L O K
 |iV cs vs L J K=>exact .iV cs vs L K
 |map id l h=>exact .map id l (U _ _ h)
 |rV=>exact .rV
 |yield id l h=>exact .yield id l (U _ _ h)
def aHg:Value->Bool
 |.agg _|.tuple _=>false
 |_=>true
theorem VR.one(h:VR G w a u):a.one=aHg u:=by cases h<;>rfl
def aB.live(H:aB)(id:Nat):Prop:=∃o,H.get id=some o/\o.live=true
def WT(ents:Array MapEntry)(n:Nat):Prop:=
 (∀i,i<ents.size->(ents.getD i default).born<n)/\∀i j,i<ents.size->j<ents.size->(ents.getD i default).born=(ents.getD j default).born->i=j
def MQ(g:bL)(G:Gh)(w:World)(l:Loc):eS->Prop
 |.map es=>∃ents n,w.heap[l.dE]?=some (.map ents n)/\ents.size=es.length/\WT ents n/\
   ∀j,j<es.length->VR G w (es.getD j (aC,aC)).1 (ents.getD j default).key/\VR G w (es.getD j (aC,aC)).2 (ents.getD j default).val
 |.tW es bs c mb=>l.dE=mb/\bs.Nodup/\(∀b∈bs,b<c)/\∃ents:Array MapEntry,w.heap[l.dE]?=some (.map ents c)/\ents.toList.map (·.born)=bs/\bs.length=es.length/\
   ∀j,j<es.length->VR G w (es.getD j (aC,aC)).1 (ents.getD j default).key/\VR G w (es.getD j (aC,aC)).2 (ents.getD j default).val
 |.iter m mb c seen=>w.heap[l.dE]?=some (.mapIter (some mb) c seen.toArray c)/\VR G w (.map m) (.map (some mb))
 |.loop k sn st=>∃r,g.lok k r/\w.heap[l.dE]?=some (.loop (oK r st))/\jD G w sn r.tmps.toList
 |.AN=>w.heap[l.dE]?=some (.deferred (some []))
 |.dfx=>w.heap[l.dE]?=some (.deferred none)
 |_=>True
variable{l:Loc}
theorem MQ.mono{g:bL}{o:eS}(h:MQ g G w l o)(X:w'.heap[l.dE]?=w.heap[l.dE]?)(J:∀a u,VR G w a u->VR E w' a u):MQ g E w' l o:=by
 cases o with
 |map es=>obtain⟨ents,n,a1,y,Q,i⟩:=h;exact⟨ents,n,by grind,y,Q,fun j Y=>⟨J _ _ (i j Y).1,J _ _ (i j Y).2⟩⟩
 |tW es f c mb=>obtain⟨a1,y,Q,ents,i,N,d,b⟩:=h;exact⟨a1,y,Q,ents,X.trans i,N,d,fun j Y=>⟨J _ _ (b j Y).1,J _ _ (b j Y).2⟩⟩
 |iter m mb c seen=>exact⟨X.trans h.1,J _ _ h.2⟩
 |loop k sn A=>obtain⟨r,e,O,Z⟩:=h;exact⟨r,e,X.trans O,Z.1,fun j Y=>J _ _ (Z.2 j Y)⟩
 |AN=>exact X.trans h
 |dfx=>exact X.trans h
 |_=>trivial
theorem MQ.lt{g:bL}{o:eS}(S:o.dE=true)(h:MQ g G w l o):l.dE<w.heap.size:=by
 cases o with
 |map es=>obtain⟨ents,n,a1,_⟩:=h;grind
 |tW es N c mb=>obtain⟨_,_,_,ents,a1,_⟩:=h;grind
 |iter m mb c seen=>exact(Eg.1 h.1).1
 |loop k sn A=>obtain⟨r,_,O,_⟩:=h;grind
 |AN=>exact(Eg.1 (show w.heap[l.dE]?=some _ from h)).1
 |dfx=>exact(Eg.1 (show w.heap[l.dE]?=some _ from h)).1
 |_=>cases S
theorem LZ{o:eS}(h:o.dE=true):o.live=true:=by cases o<;>first|rfl|cases h
theorem MQ.DW{g:bL}{o:eS}(S:o.dE=true)(h:MQ g G w l o){c:Array Value}{T:TypeId}{fz:Nat×Nat}:w.heap[l.dE]?≠some (.cells c T fz):=by
 cases o with
 |map es=>obtain⟨ents,n,a1,_⟩:=h;grind
 |tW es N c mb=>obtain⟨_,_,_,ents,a1,_⟩:=h;grind
 |iter m mb c seen=>have h:=h.1;grind
 |loop k sn A=>obtain⟨r,_,h,_⟩:=h;grind
 |AN=>have h:w.heap[l.dE]?=some _:=h;grind
 |dfx=>have h:w.heap[l.dE]?=some _:=h;grind
 |_=>cases S
structure WR (g:bL) (G:Gh) (H:aB) (w:World):Prop where
 cells:∀id l cs eU,G.loc id=some l->H.get id=some (.cells cs eU)->
  l.WO=cs.length/\l.WO<=l.ext/\(eU=false->l.WO=l.ext)/\(∀c∈cs,c.one=true)/\
  ∀j,j<cs.length->∃u,w.cell? ⟨l.dE,l.base+j,none⟩=some u/\VR G w (cs.getD j aC) u
 room:∀id l,G.loc id=some l->((∃cs eU,H.get id=some (.cells cs eU))\/H.get id=some .tok)->
  ∃c el fz,w.heap[l.dE]?=some (.cells c el fz)/\l.base+l.ext<=c.size/\∀j,j<l.ext->w.frozen? ⟨l.dE,l.base+j,none⟩=false
 lL:∀id lZ l l',id≠lZ->G.loc id=some l->G.loc lZ=some l'->H.live id->H.live lZ->
  l.dE≠l'.dE\/l.base+l.ext<=l'.base\/l'.base+l'.ext<=l.base
 kI:∀id l,G.loc id=some l->H.live id->∀j,j<l.ext->¬G.iA l.dE (l.base+j)
 iT:∀id l o,G.loc id=some l->H.get id=some o->o.dE=true->l.base=0/\l.ext=1/\MQ g G w l o
 lt:∀id l,G.loc id=some l->id<H.next
 iE:∀b o,G.iA b o->∃v,w.cell? ⟨b,o,none⟩=some v
 jE:∀n cs,g n=some cs->VR G w (.pl cs) (.pointer (some ⟨n,0,none⟩))
 BP:∀n cs,g n=some cs->cs≠[]->∃c el fz,w.heap[n]?=some (.cells c el fz)/\c.size=cs.length
 mo:G.mo=g.mo
structure CK (w w':World):Prop where
 os:w'.os=w.os
 output:w'.output=w.output
 tape:w'.tape=w.tape
 drawn:w.drawn<=w'.drawn
theorem CK.now(O:w'.os=w.os:=by rfl)(Z:w'.output=w.output:=by rfl)(B:w'.tape=w.tape:=by rfl)(h4:w.drawn<=w'.drawn:=by first|exact Ad _|exact Gm _|exact Ia _ _):CK w w':=⟨O,Z,B,h4⟩
theorem CK.trans{a:World}(h:CK w w')(M:CK w' a):CK w a:=⟨M.os.trans h.os,M.output.trans h.output,M.tape.trans h.tape,Aw h.drawn M.drawn⟩
structure PR (b:Bool) (w w':World):Prop where
 os:w'.os=w.os
 output:w'.output=w.output
 tape:w'.tape=w.tape
 drawn:b=true->w.drawn<=w'.drawn
theorem CK.toB(h:CK w w')(b:Bool):PR b w w':=⟨h.os,h.output,h.tape,fun _=>h.drawn⟩
theorem PR.trans{b:Bool}{a:World}(h:PR b w w')(M:PR b w' a):PR b w a:=⟨M.os.trans h.os,M.output.trans h.output,M.tape.trans h.tape,fun X=>Aw (h.drawn X) (M.drawn X)⟩
structure Ext (G:Gh) (H:aB) (w:World) (G':Gh) (H':aB) (w':World):Prop where
 loc:∀id l,G.loc id=some l->G'.loc id=some l
 iA:∀b o,G.iA b o->G'.iA b o/\w'.cell? ⟨b,o,none⟩=w.cell? ⟨b,o,none⟩
 size:w.heap.size<=w'.heap.size
 frame:∀b,b<w.heap.size->(∀id l,G.loc id=some l->H.live id->l.dE≠b)->w'.heap[b]?=w.heap[b]?
 mV:∀id l,G'.loc id=some l->H'.live id->w.heap.size<=l.dE\/∃fO l0,G.loc fO=some l0/\H.live fO/\l0.dE=l.dE
 pM:∀b o,G'.iA b o->G.iA b o\/w.heap.size<=b\/∃fO l0,G.loc fO=some l0/\H.live fO/\l0.dE=b
 next:H.next<=H'.next
 news:∀id l,G'.loc id=some l->G.loc id=none->H.next<=id
 dead:∀id l,G.loc id=some l->H'.live id->H.live id
 mo:G'.mo=G.mo
 same:PR G.mo w w'
theorem Ext.refl(G:Gh)(H:aB)(w:World):Ext G H w G H w where
 loc:=fun _ _ h=>h
 iA:=fun _ _ h=>⟨h,rfl⟩
 size:=Ad _
 frame:=fun _ _ _=>rfl
 mV:=fun id l h U=>.inr ⟨id,l,h,U,rfl⟩
 pM:=fun _ _ h=>.inl h
 next:=Ad _
 news:=fun _ _ h M=>by grind
 dead:=fun _ _ _ h=>h
 mo:=rfl
 same:=CK.toB .now _
variable{H H':aB}
theorem Ext.trans{c:Gh}{j:aB}{a:World}(h:Ext G H w E H' w')(M:Ext E H' w' c j a):Ext G H w c j a where
 loc:=fun id l U=>M.loc _ _ (h.loc _ _ U)
 iA:=fun b o F=>⟨(M.iA _ _ (h.iA _ _ F).1).1,((M.iA _ _ (h.iA _ _ F).1).2).trans (h.iA _ _ F).2⟩
 size:=Aw h.size M.size
 frame:=fun b X A=>by
  rw[M.frame b (Au X h.size) (fun id l U J=>?_),h.frame b X A]
  rcases h.mV id l U J with Oj|⟨d,m,n,Z,z⟩<;>grind
 mV:=fun id l U J=>by
  rcases M.mV id l U J with Oj|⟨d,m,n,Z,z⟩
  . exact .inl (Aw h.size Oj)
  rcases h.mV d m n Z with Oj|⟨e,L,f,K,V⟩<;>grind
 pM:=fun b o F=>by
  rcases M.pM b o F with F|Oj|⟨d,m,n,Z,z⟩
  . exact h.pM b o F
  . exact .inr (.inl (Aw h.size Oj))
  rcases h.mV d m n Z with Oj|⟨e,L,f,K,V⟩<;>grind
 next:=Aw h.next M.next
 news:=fun id l U A=>by
  cases O:E.loc id with
  |none=>exact Aw h.next (M.news id l U O)
  |some L=>exact h.news id L O A
 dead:=fun id l U J=>h.dead id l U (M.dead id l (h.loc _ _ U) J)
 mo:=M.mo.trans h.mo
 same:=h.same.trans (h.mo▸M.same)
theorem VR.ext(h:VR G w a u)(e:Ext G H w E H' w'):VR E w' a u:=
 h.mono e.loc e.iA
variable{vs:List Value}
theorem jD.ext{xs:List AV}(h:jD G w xs vs)(e:Ext G H w E H' w'):jD E w' xs vs:=
 ⟨h.1,fun j Y=>(h.2 j Y).ext e⟩
variable{id:Nat}
theorem aB.mM{o:eS}{m:Nat}:(H.set id o).live m↔(m=id/\o.live=true)\/(m≠id/\H.live m):=by grind[aB.live,aB.aD]
variable{b:Nat}{c:Array Value}{T:TypeId}{fz:Nat×Nat}
theorem nO{o:Nat}(h:w.heap[b]?=some (.cells c T fz)):
 w.cell? ⟨b,o,none⟩=c[o]?:=by
 simp[World.cell?,h]
theorem xN{o:Nat}(h:w.heap[b]?=some (.cells c T fz)):
 w.frozen? ⟨b,o,none⟩=(decide (fz.1<=o)&&decide (o<fz.2)):=by
 simp[World.frozen?,h]
variable{v:Value}
theorem CT{o:Nat}(h:w.cell? ⟨b,o,none⟩=some v):∃c T fz,w.heap[b]?=some (.cells c T fz)/\c[o]?=some v:=by
 unfold World.cell? at h
 grind
theorem fN{o:Nat}(h:w'.heap[b]?=w.heap[b]?):w'.cell? ⟨b,o,none⟩=w.cell? ⟨b,o,none⟩:=by simp[World.cell?,h]
theorem kV{o:Nat}(h:w'.heap[b]?=w.heap[b]?):w'.frozen? ⟨b,o,none⟩=w.frozen? ⟨b,o,none⟩:=by simp[World.frozen?,h]
theorem WR.of_heap{g:bL}(h:WR g G H w)(L:w'.heap=w.heap):WR g G H w':=by
 have X:∀b:Nat,w'.heap[b]?=w.heap[b]?:=fun b=>by grind
 have R:∀b o,w'.cell? ⟨b,o,none⟩=w.cell? ⟨b,o,none⟩:=fun b o=>fN (X b);have t:∀{a u},VR G w a u->VR G w' a u:=fun J=>J.mono (fun _ _ h=>h) (fun b o F=>⟨F,R b o⟩)
 exact {
  cells:=fun id l cs r O Z=>by
   obtain⟨a1,y,Q,i,N⟩:=h.cells id l cs r O Z
   grind
  room:=fun id l O Z=>by
   obtain⟨c,T,fz,a1,y,Q⟩:=h.room id l O Z
   grind[kV]
  lL:=h.lL
  kI:=h.kI
  iT:=fun id l o O Z E=>let⟨a1,y,Q⟩:=h.iT id l o O Z E;⟨a1,y,Q.mono (X _) fun _ _=>t⟩
  lt:=h.lt
  iE:=fun b o F=>by rw[R];exact h.iE b o F
  jE:=fun n cs A=>t (h.jE n cs A)
  BP:=fun n cs A d=>by rw[X];exact h.BP n cs A d
  mo:=h.mo}
theorem Ext.of_heap(L:w'.heap=w.heap)(M:CK w w'):Ext G H w G H w' where
 loc:=fun _ _ h=>h
 iA:=fun b o h=>⟨h,fN (by grind)⟩
 size:=by grind
 frame:=fun _ _ _=>by grind
 mV:=fun id l h U=>.inr ⟨id,l,h,U,rfl⟩
 pM:=fun _ _ h=>.inl h
 next:=Ad _
 news:=fun _ _ h a=>by grind
 dead:=fun _ _ _ h=>h
 mo:=rfl
 same:=M.toB _
variable{α:Type}
theorem GB(a:Array α)(x:α):(a.push x)[a.size]?=some x:=by simp
theorem qK{o:Nat}(h:w.cell? ⟨b,o,none⟩=some v):b<w.heap.size:=by
 obtain⟨c,T,fz,O,_⟩:=CT h
 grind
def Gh.pF(G:Gh)(b lo n:Nat):Gh:={G with iA:=fun k o=>G.iA k o\/(k=b/\lo<=o/\o<lo+n)}
def Gh.eG(G:Gh)(id:Nat)(l:Loc):Gh:={G with loc:=fun i=>if i=id then some l else G.loc i}
theorem WR.mE{g:bL}(h:WR g G H w){id:Nat}{l:Loc}(U:G.loc id=some l)(J:H.live id):l.dE<w.heap.size:=by
 obtain⟨o,S,f⟩:=J
 have :∃x,w.heap[l.dE]?=some x:=by
  cases o with
  |cells cs r=>obtain⟨c,T,fz,O,_⟩:=h.room id l U (.inl ⟨cs,r,S⟩);grind
  |tok=>obtain⟨c,T,fz,O,_⟩:=h.room id l U (.inr S);grind
  |dead=>cases f
  |_=>have :=(h.iT id l _ U S rfl).2.2.lt rfl;simp_all
 grind
theorem WR.grow{g:bL}(h:WR g G H w)
 (X:∀b,b<w.heap.size->w'.heap[b]?=w.heap[b]?):WR g G H w':=by
 have R:∀b o,G.iA b o->w'.cell? ⟨b,o,none⟩=w.cell? ⟨b,o,none⟩:=fun b o F=>by obtain⟨v,J⟩:=h.iE b o F;exact fN (X b (qK J))
 have t:∀{a u},VR G w a u->VR G w' a u:=fun J=>J.mono (fun _ _ h=>h) (fun b o F=>⟨F,R b o F⟩)
 exact {
  cells:=fun id l cs r O Z=>by obtain⟨a1,y,Q,i,N⟩:=h.cells id l cs r O Z;refine⟨a1,y,Q,i,fun j Y=>?_⟩;obtain⟨u,B,J⟩:=N j Y;exact⟨u,by rw[fN (X _ (h.mE O ⟨_,Z,rfl⟩))];omega,t J⟩
  room:=fun id l O Z=>by
   obtain⟨c,T,fz,a1,y,Q⟩:=h.room id l O Z
   grind[kV]
  lL:=h.lL
  kI:=h.kI
  iT:=fun id l o O Z E=>let⟨a1,y,Q⟩:=h.iT id l o O Z E;⟨a1,y,Q.mono (X _ (Q.lt E)) fun _ _=>t⟩
  lt:=h.lt
  iE:=fun b o F=>by rw[R b o F];exact h.iE b o F
  jE:=fun n cs A=>t (h.jE n cs A)
  BP:=fun n cs A d=>let⟨c,T,fz,a1,y⟩:=h.BP n cs A d;⟨c,T,fz,by grind,y⟩
  mo:=h.mo}
theorem Ext.grow(S:∀b o,G.iA b o->∃v,w.cell? ⟨b,o,none⟩=some v)
 (X:∀b,b<w.heap.size->w'.heap[b]?=w.heap[b]?) (A:w.heap.size<=w'.heap.size) (M:CK w w'):Ext G H w G H w' where
 loc:=fun _ _ h=>h
 iA:=fun b o F=>⟨F,by obtain⟨v,J⟩:=S b o F;exact fN (X b (qK J))⟩
 size:=A
 frame:=fun b r _=>X b r
 mV:=fun id l h U=>.inr ⟨id,l,h,U,rfl⟩
 pM:=fun _ _ h=>.inl h
 next:=Ad _
 news:=fun _ _ h a=>by grind
 dead:=fun _ _ _ h=>h
 mo:=rfl
 same:=M.toB _
theorem WR.pF{g:bL}(h:WR g G H w)(b lo n:Nat)
 (c:∀j,j<n->∃v,w.cell? ⟨b,lo+j,none⟩=some v)
 (P:∀id l,G.loc id=some l->H.live id->l.dE≠b\/l.base+l.ext<=lo\/lo+n<=l.base):WR g (G.pF b lo n) H w:=by
 have t:∀{a u},VR G w a u->VR (G.pF b lo n) w a u:=fun J=>J.mono (fun _ _ h=>h) (fun b o F=>⟨.inl F,rfl⟩)
 exact {
  cells:=fun id l cs r O Z=>by
   obtain⟨a1,y,Q,i,N⟩:=h.cells id l cs r O Z
   grind
  room:=h.room
  lL:=h.lL
  kI:=fun id l U J j Y F=>by
   rcases F with F|⟨O,Z,B⟩
   . exact h.kI id l U J j Y F
   rcases P id l U J with hd|hd|hd<;>grind
  iT:=fun id l o O Z E=>let⟨a1,y,Q⟩:=h.iT id l o O Z E;⟨a1,y,Q.mono rfl fun _ _=>t⟩
  lt:=h.lt
  iE:=fun k o F=>by
   rcases F with F|⟨rfl,Z,B⟩
   . exact h.iE k o F
   have :=c (o -lo) A0
   grind
  jE:=fun n cs A=>t (h.jE n cs A)
  BP:=h.BP
  mo:=h.mo}
theorem Ext.pF(e:Ext G H w E H' w')(b lo n:Nat)
 (X:w.heap.size<=b\/∃d m,G.loc d=some m/\H.live d/\m.dE=b):Ext G H w (E.pF b lo n) H' w' where
 loc:=e.loc
 iA:=fun k o F=>⟨.inl (e.iA k o F).1,(e.iA k o F).2⟩
 size:=e.size
 frame:=e.frame
 mV:=e.mV
 pM:=fun k o F=>by
  rcases F with F|⟨rfl,_,_⟩
  . exact e.pM k o F
  grind
 next:=e.next
 news:=e.news
 dead:=e.dead
 mo:=e.mo
 same:=e.same
theorem WR.KJ{g:bL}(h:WR g G H w)(d:Nat)(o:eS)(l:Loc)(f:G.loc d=none)
 (dB:∀m,H'.get m=if m=d then some o else H.get m) (V:H.next<=H'.next) (M:d<H'.next)
 (P:∀id l',G.loc id=some l'->H.live id->l.dE≠l'.dE\/l.base+l.ext<=l'.base\/l'.base+l'.ext<=l.base)
 (S:∀j,j<l.ext->¬G.iA l.dE (l.base+j))
 (QA:∀cs r,o=.cells cs r->l.WO=cs.length/\l.WO<=l.ext/\(r=false->l.WO=l.ext)/\(∀c∈cs,c.one=true)/\
   ∀j,j<cs.length->∃u,w.cell? ⟨l.dE,l.base+j,none⟩=some u/\VR G w (cs.getD j aC) u)
 (v:((∃cs r,o=.cells cs r)\/o=.tok)->∃c T fz,w.heap[l.dE]?=some (.cells c T fz)/\l.base+l.ext<=c.size/\∀j,j<l.ext->w.frozen? ⟨l.dE,l.base+j,none⟩=false)
 (Uv:o.dE=true->l.base=0/\l.ext=1/\MQ g G w l o):
 WR g (G.eG d l) H' w:=by
 have s:∀{id l'},G.loc id=some l'->id≠d:=fun U he=>by rw[he,f] at U;cases U
 have t:∀{a u},VR G w a u->VR (G.eG d l) w a u:=fun J=>J.mono (fun id l' U=>by simp only[Gh.eG];rw[if_neg (s U)];exact U) (fun b o F=>⟨F,rfl⟩)
 have R:∀{id l'},(G.eG d l).loc id=some l'->(id=d/\l'=l)\/(id≠d/\G.loc id=some l'):=fun {id l'} U=>by
  simp only[Gh.eG] at U;split at U
  . exact .inl ⟨by assumption,by cases U;rfl⟩
  exact .inr ⟨by assumption,U⟩
 have k:∀{id},id≠d->H'.live id->H.live id:=fun A ⟨x,C,xz⟩=>⟨x,by rw[dB,if_neg A] at C;exact C,xz⟩
 exact {
  cells:=fun id l' cs r O Z=>by
   rw[dB] at Z
   rcases R O with ⟨rfl,rfl⟩|⟨A,O⟩
   . rw[if_pos rfl] at Z;obtain⟨a1,y,Q,i,N⟩:=QA cs r (Aa Z);exact ZbX
   rw[if_neg A] at Z;obtain⟨a1,y,Q,i,N⟩:=h.cells id l' cs r O Z;exact ZbX
  room:=fun id l' O Z=>by
   simp only[dB] at Z
   rcases R O with ⟨rfl,rfl⟩|⟨A,O⟩
   . simp only[if_true] at Z;refine v (Z.imp (fun⟨cs,r,X⟩=>⟨cs,r,Aa X⟩) (fun X=>Aa X))
   simp only[if_neg A] at Z;exact h.room id l' O Z
  lL:=fun id e L p W O Z K q=>by
   rcases R O with ⟨e1,D⟩|⟨A,k1⟩
   . rcases R Z with ⟨e2,a6⟩|⟨I,k2⟩
     . exact absurd (e1.trans e2.symm) W
     rw[D];exact P e p k2 (k I q)
   rcases R Z with ⟨e2,a6⟩|⟨I,k2⟩
   . rw[a6]
     rcases P id L k1 (k A K) with hd|hd|hd
     . exact .inl (Ne.symm hd)
     . exact .inr (.inr hd)
     exact .inr (.inl hd)
   exact h.lL id e L p W k1 k2 (k A K) (k I q)
  kI:=fun id l' O J j Y=>by
   rcases R O with ⟨rfl,rfl⟩|⟨A,O⟩
   . exact S j Y
   exact h.kI id l' O (k A J) j Y
  iT:=fun id l' z O Z E=>by
   rw[dB] at Z
   rcases R O with ⟨rfl,rfl⟩|⟨A,O⟩
   . rw[if_pos rfl] at Z;obtain rfl:=Aa Z;obtain⟨a1,y,Q⟩:=Uv E;exact⟨a1,y,Q.mono rfl fun _ _=>t⟩
   rw[if_neg A] at Z;obtain⟨a1,y,Q⟩:=h.iT id l' z O Z E;exact⟨a1,y,Q.mono rfl fun _ _=>t⟩
  lt:=fun id l' O=>by
   rcases R O with ⟨rfl,rfl⟩|⟨A,O⟩
   . exact M
   exact Au (h.lt id l' O) V
  iE:=h.iE
  jE:=fun n cs A=>t (h.jE n cs A)
  BP:=h.BP
  mo:=h.mo}
theorem WR.PU{g:bL}(h:WR g G H w)(o:eS)(l:Loc)
 (P:∀id l',G.loc id=some l'->H.live id->l.dE≠l'.dE\/l.base+l.ext<=l'.base\/l'.base+l'.ext<=l.base)
 (S:∀j,j<l.ext->¬G.iA l.dE (l.base+j))
 (a:∀cs r,o=.cells cs r->l.WO=cs.length/\l.WO<=l.ext/\(r=false->l.WO=l.ext)/\(∀c∈cs,c.one=true)/\
   ∀j,j<cs.length->∃u,w.cell? ⟨l.dE,l.base+j,none⟩=some u/\VR G w (cs.getD j aC) u)
 (v:((∃cs r,o=.cells cs r)\/o=.tok)->∃c T fz,w.heap[l.dE]?=some (.cells c T fz)/\l.base+l.ext<=c.size/\∀j,j<l.ext->w.frozen? ⟨l.dE,l.base+j,none⟩=false)
 (f:o.dE=true->l.base=0/\l.ext=1/\MQ g G w l o):
 WR g (G.eG H.next l) (H.alloc o) w:=
 h.KJ H.next o l (by
  cases U:G.loc H.next with
  |none=>rfl
  |some l'=>exact absurd (h.lt _ _ U) (Ff _)) (aB.aJ H o) (Gm _) (Fa _) P S a v f
theorem Ext.KJ{j:aB}(e:Ext G H w E H' w')(d:Nat)(o:eS)(l:Loc)(f:E.loc d=none)
 (c:∀m,j.get m=if m=d then some o else H'.get m) (V:H'.next<=j.next) (R:H.next<=d)
 (X:w.heap.size<=l.dE\/∃d a,G.loc d=some a/\H.live d/\a.dE=l.dE):Ext G H w (E.eG d l) j w' where
 loc:=fun id l' U=>by
  have O:=e.loc id l' U
  grind[Gh.eG]
 iA:=e.iA
 size:=e.size
 frame:=e.frame
 mV:=fun id l' U J=>by
  simp only[Gh.eG] at U;split at U
  . grind
  rename_i A;obtain⟨x,C,b⟩:=J;rw[c,if_neg A] at C;exact e.mV id l' U ⟨x,C,b⟩
 pM:=e.pM
 next:=Aw e.next V
 news:=fun id l' U A=>by
  simp only[Gh.eG] at U;split at U
  . omega
  exact e.news id l' U A
 dead:=fun id l' U J=>by have O:=e.loc id l' U;obtain⟨x,C,b⟩:=J;rw[c,if_neg (fun z=>by grind)] at C;exact e.dead id l' U ⟨x,C,b⟩
 mo:=e.mo
 same:=e.same
theorem Ext.PU(e:Ext G H w E H' w')(o:eS)(l:Loc)(r:∀id l',E.loc id=some l'->id<H'.next)
 (X:w.heap.size<=l.dE\/∃d m,G.loc d=some m/\H.live d/\m.dE=l.dE):Ext G H w (E.eG H'.next l) (H'.alloc o) w':=
 e.KJ H'.next o l (by
  cases U:E.loc H'.next with
  |none=>rfl
  |some l'=>grind) (aB.aJ H' o) (Gm _) e.next X
theorem WR.kill{g:bL}(h:WR g G H w)(id:Nat):WR g G (H.set id .dead) w where
 cells:=fun i l cs r O Z=>by
  rw[aB.aD] at Z;split at Z
  . grind
  exact h.cells i l cs r O Z
 room:=fun i l O Z=>by
  simp only[aB.aD] at Z;split at Z
  . grind
  exact h.room i l O Z
 lL:=fun i I l l' s O Z K q=>by
  rcases aB.mM.1 K with ⟨_,X⟩|⟨_,K⟩
  . cases X
  rcases aB.mM.1 q with ⟨_,X⟩|⟨_,q⟩
  . cases X
  exact h.lL i I l l' s O Z K q
 kI:=fun i l O J=>by
  rcases aB.mM.1 J with ⟨_,X⟩|⟨_,J⟩
  . cases X
  exact h.kI i l O J
 iT:=fun i l z O Z E=>by
  rw[aB.aD] at Z;split at Z
  . cases Z;cases E
  exact h.iT i l z O Z E
 lt:=h.lt
 iE:=h.iE
 jE:=h.jE
 BP:=h.BP
 mo:=h.mo
theorem Ext.kill(e:Ext G H w E H' w')(id:Nat):Ext G H w E (H'.set id .dead) w' where
 loc:=e.loc
 iA:=e.iA
 size:=e.size
 frame:=e.frame
 mV:=fun i l U J=>by
  rcases aB.mM.1 J with ⟨_,X⟩|⟨_,J⟩
  . cases X
  exact e.mV i l U J
 pM:=e.pM
 next:=e.next
 news:=e.news
 dead:=fun i l U J=>by
  rcases aB.mM.1 J with ⟨_,X⟩|⟨_,J⟩
  . cases X
  exact e.dead i l U J
 mo:=e.mo
 same:=e.same
structure WE (w w':World) (b lo:Nat) (vs:List Value):Prop where
 size:w'.heap.size=w.heap.size
 other:∀b',b'≠b->w'.heap[b']?=w.heap[b']?
 row:∀c el fz,w.heap[b]?=some (.cells c el fz)->∃c',w'.heap[b]?=some (.cells c' el fz)/\c'.size=c.size/\
  (∀o,(o<lo\/lo+vs.length<=o)->c'[o]?=c[o]?)/\(∀j,j<vs.length->lo+j<c.size->c'[lo+j]?=some (vs.getD j undef))
 same:CK w w'
variable{lo:Nat}
theorem WE.cell(u:WE w w' b lo vs){k o:Nat}(h:k≠b\/o<lo\/lo+vs.length<=o){v:Value}
 (R:w.cell? ⟨k,o,none⟩=some v):w'.cell? ⟨k,o,none⟩=some v:=by
 by_cases X:k=b
 . subst X;obtain⟨c,T,fz,O,Z⟩:=CT R;obtain⟨I,B,h4,M,_⟩:=u.row c T fz O
   grind[nO]
 rw[fN (u.other k X)];omega
theorem WE.frozen(u:WE w w' b lo vs){k o:Nat}{c:Array Value}{T:TypeId}{fz:Nat×Nat}
 (R:w.heap[k]?=some (.cells c T fz)):w'.frozen? ⟨k,o,none⟩=w.frozen? ⟨k,o,none⟩:=by
 by_cases X:k=b
 . subst X;obtain⟨I,B,_⟩:=u.row c T fz R
   grind[xN]
 exact kV (u.other k X)
theorem WR.write{g:bL}(h:WR g G H w){b lo:Nat}{vs:List Value}(u:WE w w' b lo vs)
 (S:∀j,j<vs.length->¬G.iA b (lo+j))
 (P:∀id l,G.loc id=some l->H.live id->l.dE≠b\/l.base+l.ext<=lo\/lo+vs.length<=l.base)
 (p:∃c T fz,w.heap[b]?=some (.cells c T fz)):WR g G H w':=by
 have R:∀k o,G.iA k o->w'.cell? ⟨k,o,none⟩=w.cell? ⟨k,o,none⟩:=fun k o F=>by
  obtain⟨v,J⟩:=h.iE k o F;rw[J];refine u.cell ?_ J;by_cases X:k=b
  . subst X;by_cases O:o<lo
    . exact .inr (.inl O)
    refine .inr (.inr (Jn fun Z=>S (o -lo) A0 ?_))
    rwa [show lo+(o -lo)=o by omega]
  exact .inl X
 have t:∀{a u},VR G w a u->VR G w' a u:=fun J=>J.mono (fun _ _ h=>h) (fun b o F=>⟨F,R b o F⟩)
 exact {
  cells:=fun id l cs r O Z=>by
   obtain⟨a1,y,Q,i,N⟩:=h.cells id l cs r O Z;refine⟨a1,y,Q,i,fun j Y=>?_⟩;obtain⟨x,C,J⟩:=N j Y;refine⟨x,u.cell ?_ C,t J⟩
   rcases P id l O ⟨_,Z,rfl⟩ with hd|hd|hd<;>grind
  room:=fun id l O Z=>by
   obtain⟨c,T,fz,a1,y,Q⟩:=h.room id l O Z;by_cases X:l.dE=b
   . subst X;obtain⟨I,B,h4,_⟩:=u.row c T fz a1;exact⟨I,T,fz,B,by omega,fun j Y=>by rw[u.frozen a1];exact Q j Y⟩
   exact⟨c,T,fz,by rw[u.other _ X];exact a1,y,fun j Y=>by rw[u.frozen a1];exact Q j Y⟩
  lL:=h.lL
  kI:=h.kI
  iT:=fun id l z O Z E=>by
   obtain⟨a1,y,Q⟩:=h.iT id l z O Z E
   have X:l.dE≠b:=fun X=>by obtain⟨c,T,fz,V⟩:=p;rw[<-X] at V;exact Q.DW E V
   exact⟨a1,y,Q.mono (u.other _ X) fun _ _=>t⟩
  lt:=h.lt
  iE:=fun b o F=>by rw[R b o F];exact h.iE b o F
  jE:=fun n cs A=>t (h.jE n cs A)
  BP:=fun n cs A d=>by
   obtain⟨c,T,fz,a1,y⟩:=h.BP n cs A d;by_cases X:n=b
   . subst X;obtain⟨I,B,h4,_⟩:=u.row c T fz a1;exact⟨I,T,fz,B,by omega⟩
   exact⟨c,T,fz,by rw[u.other _ X];exact a1,y⟩
  mo:=h.mo}
theorem Ext.write{w1:World}(e:Ext G H w E H' w1){b lo:Nat}{vs:List Value}(u:WE w1 w' b lo vs)
 (S:∀j,j<vs.length->¬E.iA b (lo+j)) (c:∀b o,E.iA b o->∃v,w1.cell? ⟨b,o,none⟩=some v)
 (X:w.heap.size<=b\/∃d m,G.loc d=some m/\H.live d/\m.dE=b):Ext G H w E H' w' where
 loc:=e.loc
 iA:=fun k o F=>by
  have O:=e.iA k o F;refine⟨O.1,?_⟩;rw[<-O.2];obtain⟨v,J⟩:=c k o O.1;rw[J];refine u.cell ?_ J;by_cases f:k=b
  . by_cases Z:o<lo
    . omega
    refine .inr (.inr (Jn fun B=>S (o -lo) A0 ?_))
    grind
  omega
 size:=by rw[u.size];exact e.size
 frame:=fun k r A=>by
  have s:k≠b:=fun z=>by grind
  rw[u.other k s];exact e.frame k r A
 mV:=e.mV
 pM:=e.pM
 next:=e.next
 news:=e.news
 dead:=e.dead
 mo:=e.mo
 same:=e.same.trans (u.same.toB _)
theorem WR.bCy{g:bL}(h:WR g G (H.set id .dead) w)(o:eS)(l:Loc)(U:G.loc id=some l)
 (P:∀e l',e≠id->G.loc e=some l'->H.live e->l.dE≠l'.dE\/l.base+l.ext<=l'.base\/l'.base+l'.ext<=l.base)
 (S:∀j,j<l.ext->¬G.iA l.dE (l.base+j))
 (a:∀cs r,o=.cells cs r->l.WO=cs.length/\l.WO<=l.ext/\(r=false->l.WO=l.ext)/\(∀c∈cs,c.one=true)/\
   ∀j,j<cs.length->∃u,w.cell? ⟨l.dE,l.base+j,none⟩=some u/\VR G w (cs.getD j aC) u)
 (v:((∃cs r,o=.cells cs r)\/o=.tok)->∃c T fz,w.heap[l.dE]?=some (.cells c T fz)/\l.base+l.ext<=c.size/\∀j,j<l.ext->w.frozen? ⟨l.dE,l.base+j,none⟩=false)
 (f:o.dE=true->l.base=0/\l.ext=1/\MQ g G w l o):
 WR g G (H.set id o) w:=by
 have n:∀{m},m≠id->(H.set id o).get m=(H.set id .dead).get m:=fun t=>by rw[aB.aD,aB.aD,if_neg t,if_neg t]
 have A:∀{l'},G.loc id=some l'->l'=l:=fun M=>Aa (M.symm.trans U)
 have k:∀{m},m≠id->(H.set id o).live m->(H.set id .dead).live m:=fun t J=>by obtain⟨x,C,b⟩:=J;exact⟨x,by rw[<-n t];exact C,b⟩
 have d:∀{m},m≠id->(H.set id o).live m->H.live m:=fun t J=>by
  rcases aB.mM.1 J with ⟨y,_⟩|⟨_,J⟩
  . exact absurd y t
  exact J
 exact {
  cells:=fun i l' cs r O Z=>by
   by_cases F:i=id
   . subst F;rw[aB.aD,if_pos rfl] at Z;obtain rfl:=A O;exact a cs r (Aa Z)
   rw[n F] at Z;exact h.cells i l' cs r O Z
  room:=fun i l' O Z=>by
   by_cases F:i=id
   . subst F;simp only[aB.aD,if_true] at Z;obtain rfl:=A O;exact v (Z.imp (fun⟨cs,r,X⟩=>⟨cs,r,Aa X⟩) (fun X=>Aa X))
   simp only[n F] at Z;exact h.room i l' O Z
  lL:=fun i I L p s O Z K q=>by
   by_cases F:i=id
   . subst F;obtain rfl:=A O;exact P I p (Ne.symm s) Z (d (Ne.symm s) q)
   by_cases N:I=id
   . subst N;obtain rfl:=A Z
     rcases P i L s O (d s K) with hd|hd|hd
     . exact .inl (Ne.symm hd)
     . exact .inr (.inr hd)
     exact .inr (.inl hd)
   exact h.lL i I L p s O Z (k F K) (k N q)
  kI:=fun i l' O J=>by
   by_cases F:i=id
   . subst F;obtain rfl:=A O;exact S
   exact h.kI i l' O (k F J)
  iT:=fun i l' z O Z E=>by
   by_cases F:i=id
   . subst F;rw[aB.aD,if_pos rfl] at Z;obtain rfl:=Aa Z;obtain rfl:=A O;exact f E
   rw[n F] at Z;exact h.iT i l' z O Z E
  lt:=h.lt
  iE:=h.iE
  jE:=h.jE
  BP:=h.BP
  mo:=h.mo}
theorem Ext.aQb(e:Ext G H w E H' w')(id:Nat)(o:eS)(J:H'.live id):Ext G H w E (H'.set id o) w' where
 loc:=e.loc
 iA:=e.iA
 size:=e.size
 frame:=e.frame
 mV:=fun i l U R=>by
  rcases aB.mM.1 R with ⟨z,_⟩|⟨_,R⟩
  . subst z;exact e.mV i l U J
  exact e.mV i l U R
 pM:=e.pM
 next:=e.next
 news:=e.news
 dead:=fun i l U R=>by
  rcases aB.mM.1 R with ⟨z,_⟩|⟨_,R⟩
  . subst z;exact e.dead i l U J
  exact e.dead i l U R
 mo:=e.mo
 same:=e.same
theorem lI(b o i:Nat):(⟨b,o,none⟩:Addr).add i=⟨b,o+i,none⟩:=by simp[Addr.add]
theorem yS(l:List α)(d:α)(j:Nat)(h:j<l.length):l[j]?=some (l.getD j d):=by grind
theorem wW(P:Program)(w:World)(b o:Nat)(us:List Value)(h:∀j,j<us.length->w.cell? ⟨b,o+j,none⟩=some (us.getD j undef)):
 (loadCells ⟨b,o,none⟩ us.length).run P w=.ok us.toArray w:=
 run_loadCells_list w ⟨b,o,none⟩ us (fun j v Y=>by grind[lI,yS])
theorem Yf{o:Nat}:WE w (w.setCell ⟨b,o,none⟩ v) b o [v] where
 size:=by simp
 other:=fun k X=>by
  simp only[World.setCell,Gv]
  grind
 row:=fun c T fz h=>by
  refine⟨c.setIfInBounds o v,?_,by simp,fun o' S=>?_,fun j Y r=>?_⟩
  . simp[World.setCell,Gv,h]
  all_goals grind
 same:=.now
theorem WE.refl(w:World)(b lo:Nat):WE w w b lo [] where
 size:=rfl
 other:=fun _ _=>rfl
 row:=fun c T fz h=>⟨c,h,rfl,fun _ _=>rfl,fun j Y=>absurd Y (Am j)⟩
 same:=.now
theorem WE.cons{w1 w2:World}(O:WE w w1 b lo [v])(Z:WE w1 w2 b (lo+1) vs):WE w w2 b lo (v::vs) where
 size:=Z.size.trans O.size
 other:=fun k X=>(Z.other k X).trans (O.other k X)
 row:=fun c T fz h=>by
  obtain⟨I,a1,y,Q,i⟩:=O.row c T fz h;obtain⟨d,b1,b2,D,a⟩:=Z.row I T fz a1
  grind
 same:=O.same.trans Z.same
theorem SK(P:Program)(w:World)(b o:Nat)(v:Value)(u:Value)(R:w.cell? ⟨b,o,none⟩=some u)(N:w.frozen? ⟨b,o,none⟩=false)(O:aHg v=true):
 (store ⟨b,o,none⟩ v).run P w=.ok () (w.setCell ⟨b,o,none⟩ v):=by
 cases v<;>first
  |(simp[aHg] at O;done)
  |simp[store,Sem.run,R,N]
theorem fX(P:Program)(b o:Nat):∀(vs:List Value) (i:Nat) (w:World),(∃c T fz,w.heap[b]?=some (.cells c T fz)/\o+i+vs.length<=c.size)->
 (∀j,j<vs.length->w.frozen? ⟨b,o+i+j,none⟩=false)->(∀v∈vs,aHg v=true)->
 ∃w',(storeCells ⟨b,o,none⟩ vs i).run P w=.ok () w'/\WE w w' b (o+i) vs
 |[],i,w,_,_,_=>⟨w,rfl,WE.refl w b _⟩
 |v::r,i,w,⟨c,T,fz,vD,nL⟩,hf,h1=>by
  simp only[As] at nL;have k:w.cell? ⟨b,o+i,none⟩=some c[o+i]:=by rw[nO vD,Array.getElem?_eq_getElem A0]
  have J:=SK P w b (o+i) v _ k (by simpa using hf 0 A3) (h1 v A3);have B:WE w (w.setCell ⟨b,o+i,none⟩ v) b (o+i) [v]:=Yf;obtain⟨I,a1,y,_,_⟩:=B.row c T fz vD
  obtain⟨w',V,a⟩:=fX P b o r (i+1) (w.setCell ⟨b,o+i,none⟩ v) ⟨I,T,fz,a1,by omega⟩
   (fun j Y=>by
     rw[B.frozen vD];have :=hf (j+1) ZaV
     rwa [show o+(i+1)+j=o+i+(j+1) by omega]) (fun x C=>h1 x (by simp[C]))
  refine⟨w',?_,B.cons (by rwa [show o+i+1=o+(i+1) by omega])⟩;simp_all[storeCells,Sem.run_bind,lI,J,Result.andThen_ok]
structure jG (w w':World) (o:Go.Obj):Prop where
 heap:w'.heap=w.heap.push o
 same:CK w w'
theorem jG.WM{o:Go.Obj}(p:jG w w' o)(b:Nat)(h:b<w.heap.size):w'.heap[b]?=w.heap[b]?:=by grind[p.heap]
theorem jG.new{o:Go.Obj}(p:jG w w' o):w'.heap[w.heap.size]?=some o:=by simp[p.heap]
theorem jG.size{o:Go.Obj}(p:jG w w' o):w'.heap.size=w.heap.size+1:=by simp[p.heap]
theorem WR.JI{g:bL}{o:Go.Obj}(h:WR g G H w)(p:jG w w' o):WR g G H w':=
 h.grow p.WM
theorem Ext.JI{g:bL}{o:Go.Obj}(h:WR g G H w)(p:jG w w' o):Ext G H w G H w':=
 Ext.grow h.iE p.WM (by simp[p.size]) p.same
theorem jD.nil(G:Gh)(w:World):jD G w [] []:=⟨rfl,fun j Y=>absurd Y (Am j)⟩
def Clear(a:Array Value)(fz:Nat×Nat):Prop:=∀o,o<a.size->(decide (fz.1<=o)&&decide (o<fz.2))=false
theorem Clear.zero(a:Array Value):Clear a (0,0):=fun o _=>by simp
structure Made (g:bL) (G:Gh) (H:aB) (w:World) (fO:Nat) (o:eS) (G':Gh) (H':aB) (w':World):Prop where
 rel:WR g G' H' w'
 bRv:∃l,l.dE=w.heap.size/\G'.loc fO=some l/\∀id,id≠fO->G'.loc id=G.loc id
 ext:∀{G0:Gh} {H0:aB} {w0:World},Ext G0 H0 w0 G H w->H0.next<=fO->Ext G0 H0 w0 G' H' w'
 pM:∀b o,G'.iA b o->G.iA b o\/b=w.heap.size
 bQj:∀b o,G.iA b o->G'.iA b o
 size:w'.heap.size=w.heap.size+1
 WM:∀b,b<w.heap.size->w'.heap[b]?=w.heap[b]?
theorem WR.zQ{g:bL}(h:WR g G H w)(d:Nat)(f:G.loc d=none)(cs:List AV)(vs rest:List Value)(J:jD G w cs vs)(O:∀c∈cs,c.one=true)
 (r:Bool) (S:r=false->rest=[]) (a:∀m,H'.get m=if m=d then some (.cells cs r) else H.get m) (V:H.next<=H'.next) (M:d<H'.next)
 {T:TypeId} {fz:Nat×Nat} (I:Clear (vs++rest).toArray fz) (p:jG w w' (.cells (vs++rest).toArray T fz)):
 Made g G H w d (.cells cs r) (G.eG d ⟨w.heap.size,0,cs.length,(vs++rest).length⟩) H' w':=by
 have e:=h.JI p;have z:=Ext.JI h p;have B:=p.new
 refine⟨e.KJ d _ _ f a V M (fun id l' U J=>.inl (Ne.symm (Nat.ne_of_lt (h.mE U J)))) (fun j _ F=>?_) (fun t k A=>?_) (fun _=>?_) (fun A=>by cases A),
  ⟨⟨w.heap.size,0,cs.length,(vs++rest).length⟩,rfl,by simp[Gh.eG],fun id s=>by grind[Gh.eG]⟩,fun {G0 H0 w0} e0 Oj=>(e0.trans z).KJ d _ _ f a V Oj (.inl ?_),fun b o F=>.inl F,fun b o F=>F,p.size,p.WM⟩
 . exact ZbH
 . cases A;have Q:=J.1;refine⟨rfl,by grind,fun i=>by grind,O,fun j Y=>⟨vs.getD j undef,?_,(J.2 j Y).mono z.loc z.iA⟩⟩;rw[nO B]
   grind
 . exact⟨_,T,fz,B,by simp,fun j Y=>by rw[xN B];exact I _ (by grind)⟩
 exact e0.size
theorem WR.aPl{g:bL}(h:WR g G H w)(cs:List AV)(vs rest:List Value)(J:jD G w cs vs)(O:∀c∈cs,c.one=true)
 (r:Bool) (S:r=false->rest=[]) {T:TypeId} {fz:Nat×Nat} (I:Clear (vs++rest).toArray fz) (p:jG w w' (.cells (vs++rest).toArray T fz)):
 WR g (G.eG H.next ⟨w.heap.size,0,cs.length,(vs++rest).length⟩) (H.alloc (.cells cs r)) w'/\
  Ext G H w (G.eG H.next ⟨w.heap.size,0,cs.length,(vs++rest).length⟩) (H.alloc (.cells cs r)) w':=by
 have f:G.loc H.next=none:=by
  cases U:G.loc H.next with
  |none=>rfl
  |some l'=>exact absurd (h.lt _ _ U) (Ff _)
 have :=h.zQ H.next f cs vs rest J O r S (aB.aJ H _) (Gm _) (Fa _) I p;exact⟨this.rel,this.ext (Ext.refl G H w) (Ad _)⟩
theorem WR.qj{g:bL}(h:WR g G H w)(cs:List AV)(vs rest:List Value)(J:jD G w cs vs)
 {T:TypeId} {fz:Nat×Nat} (p:jG w w' (.cells (vs++rest).toArray T fz)):
 WR g (G.pF w.heap.size 0 cs.length) H w'/\Ext G H w (G.pF w.heap.size 0 cs.length) H w'/\
  ∀j,j<cs.length->(G.pF w.heap.size 0 cs.length).iA w.heap.size (0+j)/\w'.cell? ⟨w.heap.size,0+j,none⟩=some (vs.getD j undef)/\
   VR (G.pF w.heap.size 0 cs.length) w' (cs.getD j aC) (vs.getD j undef):=by
 have m:=h.JI p;have z:=Ext.JI h p;have B:=p.new;have Q:=J.1
 have k:∀j,j<cs.length->w'.cell? ⟨w.heap.size,0+j,none⟩=some (vs.getD j undef):=fun j Y=>by
  rw[nO B]
  grind
 have A:=z.pF w.heap.size 0 cs.length (.inl (Ad _));refine⟨m.pF _ _ _ (fun j Y=>⟨_,k j Y⟩) (fun id l U J=>.inl (Nat.ne_of_lt (h.mE U J))),A,fun j Y=>⟨.inr ⟨rfl,by omega,by omega⟩,k j Y,(J.2 j Y).mono A.loc A.iA⟩⟩
theorem WR.Tf{g:bL}(h:WR g G H w)(d:Nat)(f:G.loc d=none)(cs:List AV)(vs rest:List Value)(J:jD G w cs vs)
 (c:∀m,H'.get m=if m=d then some .tok else H.get m) (V:H.next<=H'.next) (M:d<H'.next)
 {T:TypeId} {fz:Nat×Nat} (I:Clear (vs++rest).toArray fz) (p:jG w w' (.cells (vs++rest).toArray T fz)):
 ∃E,E.loc d=some ⟨w.heap.size,cs.length,0,rest.length⟩/\Made g G H w d .tok E H' w'/\
  ∀j,j<cs.length->E.iA w.heap.size (0+j)/\w'.cell? ⟨w.heap.size,0+j,none⟩=some (vs.getD j undef)/\VR E w' (cs.getD j aC) (vs.getD j undef):=by
 obtain⟨L,z,R⟩:=h.qj cs vs rest J p;have B:=p.new;have Q:=J.1;have y:(G.pF w.heap.size 0 cs.length).loc d=none:=f
 refine⟨(G.pF w.heap.size 0 cs.length).eG d ⟨w.heap.size,cs.length,0,rest.length⟩,by simp[Gh.eG],⟨?_,⟨_,rfl,by simp[Gh.eG];rfl,fun id s=>by simp only[Gh.eG];rw[if_neg s];rfl⟩,fun {G0 H0 w0} e0 Oj=>?_,fun b o F=>F.imp id (fun X=>X.1),fun b o F=>.inl F,p.size,p.WM⟩,
  fun j Y=>⟨(R j Y).1,(R j Y).2.1,(R j Y).2.2.mono (fun id l U=>?_) (fun b o F=>⟨F,rfl⟩)⟩⟩
 . refine L.KJ d .tok _ y c V M (fun id l' U J=>.inl (Ne.symm (Nat.ne_of_lt (h.mE U J)))) (fun j _ F=>?_) (fun t k A=>by grind) (fun _=>?_) (fun A=>by cases A)
   . rcases F with F|⟨_,_,F⟩
     . exact ZbH
     grind
   exact⟨_,T,fz,B,by grind,fun j Y=>by rw[xN B];exact I _ (by grind)⟩
 . exact(e0.trans z).KJ d .tok _ y c V Oj (.inl e0.size)
 grind[Gh.eG]
theorem WR.aPm{g:bL}(h:WR g G H w)(cs:List AV)(vs rest:List Value)(J:jD G w cs vs)
 {T:TypeId} {fz:Nat×Nat} (I:Clear (vs++rest).toArray fz) (p:jG w w' (.cells (vs++rest).toArray T fz)):
 ∃E,E.loc H.next=some ⟨w.heap.size,cs.length,0,rest.length⟩/\WR g E (H.alloc .tok) w'/\Ext G H w E (H.alloc .tok) w'/\
  ∀j,j<cs.length->E.iA w.heap.size (0+j)/\w'.cell? ⟨w.heap.size,0+j,none⟩=some (vs.getD j undef)/\VR E w' (cs.getD j aC) (vs.getD j undef):=by
 have f:G.loc H.next=none:=by
  cases U:G.loc H.next with
  |none=>rfl
  |some l'=>exact absurd (h.lt _ _ U) (Ff _)
 obtain⟨E,O,Z,B⟩:=h.Tf H.next f cs vs rest J (aB.aJ H _) (Gm _) (Fa _) I p;exact⟨E,O,Z.rel,Z.ext (Ext.refl G H w) (Ad _),B⟩
section
def Ll:Value->Option AV
 |.bool b=>some (.bool b)
 |.int k n=>some (.int k n)
 |.string s=>some (.str s.data.toList)
 |.pointer none=>some .Li
 |.slice none 0 0=>some .bG
 |.nilFunc=>some .BU
 |.nilIface=>some .pY
 |.map none=>some .rV
 |_=>none
def lC:List Value->Option (List AV)
 |[]=>some []
 |v::r=>match Ll v,lC r with
  |some a,some b=>some (a::b)
  |_,_=>none
def ofConst:Value->Option AV
 |.agg cs=>(lC cs.toList).map .agg
 |v=>Ll v
variable{v:Value}{a:AV}
theorem Nr(h:Ll v=some a)(G:Gh)(w:World):VR G w a v/\a.one=true:=by
 unfold Ll at h
 split at h<;>first
  |(cases h;done)
  |(obtain rfl:=Aa h;exact⟨by constructor,rfl⟩)
variable{G:Gh}{w:World}{x:AV}{xs:List AV}{vs:List Value}
theorem jD.cons(h:VR G w x v)(M:jD G w xs vs):jD G w (x::xs) (v::vs):=
 ⟨by simp[M.1],fun j Y=>by
   cases j with
   |zero=>grind
   |succ j=>simpa using M.2 j (by grind)⟩
theorem VR.cons(h:VR G w x v)(M:jD G w xs vs):jD G w (x::xs) (v::vs):=
 jD.cons h M
theorem nP:∀{vs:List Value} {cs:List AV},lC vs=some cs->∀(G:Gh) (w:World),jD G w cs vs/\∀c∈cs,c.one=true
 |[],cs,h,G,w=>by obtain rfl:=Aa h;exact⟨jD.nil G w,fun c R=>by grind⟩
 |v::r,cs,h,G,w=>by
  unfold lC at h;split at h
  . rename_i a b I X;obtain rfl:=Aa h;have O:=Nr I G w;have Z:=nP X G w
    exact⟨O.1.cons Z.1,fun c R=>by grind⟩
  grind
theorem VR.Zc{cs:List AV}(h:jD G w cs vs)(O:∀c∈cs,c.one=true):VR G w (.agg cs) (.agg vs.toArray):=
 .agg cs vs h.1 O h.2
theorem JG(h:ofConst v=some a)(G:Gh)(w:World):VR G w a v:=by
 unfold ofConst at h;split at h
 . rename_i cs
   cases R:lC cs.toList with
   |none=>grind
   |some b=>simp[R] at h;subst h;have :=nP R G w;simpa using VR.Zc this.1 this.2
 exact(Nr h G w).1
theorem VR.cellsOf(h:VR G w a v)(W:a.DS=false):jD G w a.cells v.cells.toList/\∀c∈a.cells,c.one=true:=by
 cases h with
 |agg cs vs U O J=>exact⟨⟨by assumption,by assumption⟩,O⟩
 |iV cs vs U J=>grind[AV.DS]
 |_=>exact⟨jD.cons (by constructor<;>assumption) (jD.nil G w),fun c R=>by
   simp only[AV.cells,Ca] at R;subst R
   rfl⟩
def bN(g:bL):Operand->Option Arg
 |.tmp t=>some (.tmp t)
 |.const v=>(ofConst v).map .const
 |.global n=>if(g n).isSome then some (.jE n) else none
 |.func f=>some (.const (.func (.func f) [] []))
def SR(G:Gh)(w:World)(s:List AV)(a:Act):Prop:=jD G w s a.tmps.toList
variable{a:Act}{s:List AV}
theorem SR.getD(h:SR G w s a)(t:Nat):VR G w (s.getD t aC) (a.tmps.getD t undef):=by
 have Q:=h.1;by_cases W:t<s.length
 . have :=h.2 t W;simp_all
 have T:s.getD t aC=aC:=by grind
 have o:a.tmps.getD t undef=undef:=by grind
 rw[T,o];exact VR.oQ G w
variable{H:aB}
theorem bM{g:bL}(L:WR g G H w)(M:SR G w s a){x:Operand}{y:Arg}(h:bN g x=some y):
 VR G w (y.eval g s) (a.eval x):=by
 cases x with
 |tmp t=>obtain rfl:=Aa h;exact M.getD t
 |const v=>simp only[bN,Ae] at h;obtain⟨c,R,rfl⟩:=h;exact JG R G w
 |global n=>
  simp only[bN] at h;split at h
  . rename_i d;obtain rfl:=Aa h;obtain⟨cs,F⟩:=Option.isSome_iff_exists.1 d;simp only[Arg.eval,F,Act.eval];exact L.jE n cs F
  grind
 |func f=>obtain rfl:=Aa h;exact VR.func _ [] [] [] [] rfl rfl (fun j Y=>absurd Y (Am j)) (fun j Y=>absurd Y (Am j))
def pG(g:bL):List Operand->Option (List Arg)
 |[]=>some []
 |x::r=>match bN g x,pG g r with
  |some a,some b=>some (a::b)
  |_,_=>none
theorem uQ{g:bL}{G:Gh}{H:aB}{w:World}{s:List AV}{a:Act}(L:WR g G H w)(M:SR G w s a):∀{xs:List Operand} {ys:List Arg},pG g xs=some ys->
 jD G w (ys.map (Arg.eval g s)) (xs.map a.eval)
 |[],ys,h=>by obtain rfl:=Aa h;exact jD.nil G w
 |x::r,ys,h=>by
  unfold pG at h;split at h
  . rename_i y b Q X;obtain rfl:=Aa h;exact(bM L M Q).cons (uQ L M X)
  grind
def rW(g:bL):Option Operand->Option (Option Arg)
 |none=>some none
 |some x=>(bN g x).map some
def gR(P:Program)(t:TypeId):Option Bool:=
 match P.underlying t with
 |some (.struct _)|some (.array _ _)=>some true
 |some _=>some false
 |none=>none
variable{t:TypeId}
theorem sA{P:Program}{b:Bool}(h:gR P t=some b)(w:World):(isAgg t).run P w=.ok b w:=by
 unfold gR at h;unfold isAgg;split at h
 . rename_i fs B;obtain rfl:=Aa h;simp[run_underlying B w]
 . rename_i n e B;obtain rfl:=Aa h;simp[run_underlying B w]
 . rename_i d O Z B;obtain rfl:=Aa h;simp only[Sem.run_bind,run_underlying B w,Result.andThen_ok];rfl
 grind
def lV(P:Program)(t:TypeId):Option Nat:=(P.info? t).map (·.size)
theorem fC{P:Program}{n:Nat}(h:lV P t=some n)(w:World):(sizeOf t).run P w=.ok n w:=by simp only[lV,Ae] at h;obtain⟨i,F,rfl⟩:=h;simp[sizeOf,typeInfo,program,Sem.run,F]
def nG(P:Program)(t:TypeId):Option Value:=(P.info? t).bind (·.zero)
theorem mQ{P:Program}(h:nG P t=some v)(w:World):(zeroValue t).run P w=.ok v w:=by simp only[nG,Option.bind_eq_some_iff] at h;obtain⟨i,F,s⟩:=h;simp[zeroValue,typeInfo,program,Sem.run,F,s]
def SX(n:Next)(u:Value):Prop:=n=.value u\/(n=.skip/\u=undef)
def cV(P:Program)(g:bL)(o:Oper)(r:eN):Prop:=
 ∀(s:List AV) (a:Act) (G:Gh) (H:aB) (w:World) (v:AV) (H':aB),WR g G H w->SR G w s a->dU (Arg.eval g s) H r=some (v,H')->
  ∃n u w' E,(execOp a.eval o).run P w=.ok n w'/\SX n u/\WR g E H' w'/\Ext G H w E H' w'/\VR E w' v u
theorem cV.pure'{P:Program}{g:bL}{o:Oper}{v:AV}{u:Value}(L:WR g G H w)
 (V:(execOp a.eval o).run P w=.ok (.value u) w) (J:VR G w v u):
 ∃n u w' E,(execOp a.eval o).run P w=.ok n w'/\SX n u/\WR g E H w'/\Ext G H w E H w'/\VR E w' v u:=
 ⟨_,u,w,G,V,.inl rfl,L,Ext.refl G H w,J⟩
def GM(P:Program)(g:bL)(o:Oper)(r:eN):Prop:=
 ∀(s:List AV) (a:Act) (G:Gh) (H H':aB) (w:World) (z:eS) (val:Nat->AV) (d:Nat),WR g G H w->SR G w s a->BX (Arg.eval g s) r=some (z,val)->
  G.loc d=none->(∀m,H'.get m=if m=d then some z else H.get m)->H.next<=H'.next->d<H'.next->
  ∃u w' E,(execOp a.eval o).run P w=.ok (.value u) w'/\Made g G H w d z E H' w'/\VR E w' (val d) u
theorem GM.op{P:Program}{g:bL}{o:Oper}{r:eN}(h:GM P g o r)(V:∀ev H,dU ev H r=(BX ev r).map fun p=>(p.2 H.next,H.alloc p.1)):cV P g o r:=by
 intro s a G H w v H' L M I;rw[V] at I;simp only[Ae,An] at I;obtain⟨⟨z,val⟩,N,rfl,rfl⟩:=I
 have f:G.loc H.next=none:=by
  cases U:G.loc H.next with
  |none=>rfl
  |some l'=>exact absurd (L.lt _ _ U) (Ff _)
 obtain⟨u,w',E,O,Z,B⟩:=h s a G H (H.alloc z) w z val H.next L M N f (aB.aJ H _) (Gm _) (Fa _);exact⟨_,u,w',E,O,.inl rfl,Z.rel,Z.ext (Ext.refl G H w) (Ad _),B⟩
section
variable {P:Program} {g:bL} {o:Oper}
variable{x:Operand}
theorem pd{y:Arg}(ho:o.op=.move x\/o.op=.assign x)(C:bN g x=some y):cV P g o (.mO y):=by
 intro s a G H w v H' L M h;obtain⟨rfl,rfl⟩:=h;refine cV.pure' L (u:=a.eval x) ?_ (bM L M C)
 rcases ho with ho|ho<;>simp[execOp,ho]
variable{D:Arg}
theorem aOt{c y:Operand}{I J:Arg}(S:o.op=.pick c x y)(R:bN g c=some I)(C:bN g x=some D)(Q:bN g y=some J):cV P g o (.pick I D J):=by
 intro s a G H w v H' L M h;have e:=bM L M R;have K:=bM L M C;have z:=bM L M Q;simp only[dU] at h;split at h
 . rename_i t W;rw[W] at e;obtain⟨rfl,rfl⟩:=h
   cases d:a.eval c with
   |bool b=>rw[d] at e;cases e;refine cV.pure' L (u:=if t then a.eval x else a.eval y) ?_ (by grind);simp[execOp,S,d,asBool]
   |_=>rw[d] at e;cases e
 grind
variable{t:TypeId}{z:Value}{zs:List AV}
theorem TB(S:o.op=.alloc t)(b:nG P t=some z)(Z:lC z.cells.toList=some zs):GM P g o (.alloc zs):=by
 intro s a G H H' w i val d L M h f c V r;obtain⟨rfl,rfl⟩:=h;have R:=nP Z G w;have m:jG w {w with heap:=w.heap.push (.cells z.cells t)} (.cells (z.cells.toList++[]).toArray t (0,0)):=⟨by simp,.now⟩;have e:=L.zQ d f zs z.cells.toList [] R.1 R.2 false (fun _=>rfl) c V r (Clear.zero _) m;refine⟨.pointer (some ⟨w.heap.size,0,none⟩),_,_,?_,e,?_⟩
 . simp[execOp,S,Instr.alloc,mQ b w,newVar,newRow,newObj,Sem.run]
 exact VR.ref d 0 ⟨w.heap.size,0,zs.length,(z.cells.toList++[]).length⟩ (by simp[Gh.eG])
theorem aGw(S:o.op=.alloc t)(s:nG P t=some z)(Z:lC z.cells.toList=some zs):cV P g o (.alloc zs):=
 (TB S s Z).op fun _ _=>rfl
theorem lh(S:o.op=.box t x)(C:bN g x=some D):GM P g o (.box D):=by
 intro s a G H H' w z val d L M h f c V r;simp only[BX] at h;split at h
 . grind
 obtain⟨rfl,rfl⟩:=h;have R:=(bM L M C).cellsOf (by grind);have m:jG w {w with heap:=w.heap.push (.cells (a.eval x).cells t)} (.cells ((a.eval x).cells.toList++[]).toArray t (0,0)):=⟨by simp,.now⟩;have b:=L.zQ d f _ _ [] R.1 R.2 false (fun _=>rfl) c V r (Clear.zero _) m;refine⟨.pointer (some ⟨w.heap.size,0,none⟩),_,_,?_,b,?_⟩
 . simp[execOp,S,Instr.box,newVar,newRow,newObj,Sem.run]
 exact VR.ref d 0 ⟨w.heap.size,0,(D.eval g s).cells.length,((a.eval x).cells.toList++[]).length⟩ (by simp[Gh.eG])
theorem bCg(S:o.op=.box t x)(C:bN g x=some D):cV P g o (.box D):=
 (lh S C).op fun _ _=>rfl
theorem aOs(S:o.op=.makeInterface t x)(C:bN g x=some D)
 (W:(match P.underlying t with|some (.interface _)=>false|some _=>true|none=>false)=true):cV P g o (.ed t D):=by
 intro s a G H w v H' L M h;obtain⟨rfl,rfl⟩:=h;refine cV.pure' L (u:=.iface t (a.eval x)) ?_ (.iface t _ _ (bM L M C));split at W
 . grind
 . rename_i d hd B;simp only[execOp,S,Instr.makeInterface,Sem.run_bind,run_underlying B w,Result.andThen_ok];rfl
 grind
theorem aOr{fn:Fn}{fs cs:Array Operand}{K t:List Arg}(S:o.op=.makeFunc fn fs cs)(N:pG g fs.toList=some K)(R:pG g cs.toList=some t):cV P g o (.SE fn K t):=by intro s a G H w v H' L M h;obtain⟨rfl,rfl⟩:=h;have O:=uQ L M N;have Z:=uQ L M R;refine cV.pure' L (u:=.func fn (fs.toList.map a.eval).toArray (cs.toList.map a.eval).toArray) ?_ (.func fn _ _ _ _ O.1 Z.1 O.2 Z.2);simp only[execOp,S,Instr.makeFunc,Sem.run_bind,Sem.run_pure,Result.andThen_ok];congr 3<;>(grind)
theorem aOj{i:Nat}(S:o.op=.extract x i)(C:bN g x=some D):cV P g o (.Ul D i):=by
 intro s a G H w v H' L M h;have K:=bM L M C;simp only[dU] at h;split at h
 . rename_i vs I;rw[I] at K;split at h
   . rename_i F;obtain⟨rfl,rfl⟩:=h
     cases q:a.eval x with
     |tuple us=>
      rw[q] at K
      cases K with
      |iV _ b U J=>refine cV.pure' L (u:=b.getD i undef) ?_ (J i F);have N:i<b.length:=A0;simp only[execOp,S,q,Instr.extract,Ez,yS b undef i N,Sem.run_bind,Sem.run_pure,Result.andThen_ok]
     |_=>rw[q] at K;cases K
   grind
 grind
theorem aHb(S:o.op=.nilCheck x)(C:bN g x=some D):cV P g o (.Qh D):=by
 intro s a G H w v H' L M h;have K:=bM L M C
 have key:∀{i:AV} {u:Value},VR G w i u->(∃id off,i=.ref id off)\/(∃cs,i=.pl cs)\/(∃f p q,i=.func (.func f) p q)\/(∃t y,i=.iface t y)->a.eval x=u->(execOp a.eval o).run P w=.ok (.value u) w:=by
  intro i u J R z
  rcases R with ⟨id,off,rfl⟩|⟨cs,rfl⟩|⟨f,p,q,rfl⟩|⟨t,y,rfl⟩<;>cases J<;>simp[execOp,S,z]
 simp only[dU] at h
 split at h<;>first
  |(cases h;done)
  |(rename_i I
    obtain⟨rfl,rfl⟩:=h;rw[I] at K
    exact cV.pure' L (key K A3 rfl) K)
variable{G:Gh}{w:World}{u:Value}
theorem VR.jK{k:IntKind}{n:Int}(h:VR G w (.int k n) u):u=.int k n:=by cases h;rfl
theorem VR.lJ{b:Bool}(h:VR G w (.bool b) u):u=.bool b:=by cases h;rfl
theorem VR.jL{s:List UInt8}(h:VR G w (.str s) u):u=.string ⟨s.toArray⟩:=by cases h;rfl
theorem VR.Vs(G:Gh)(w:World)(s:List UInt8):VR G w (.str s) (.string ⟨s.toArray⟩):=by have :=VR.str (G:=G) (w:=w) ⟨s.toArray⟩;omega
theorem uR{a:AV}{n:Nat}(h:asNat a=some n)(J:VR G w a u):∃k,a=.int k n/\u=.int k n:=by
 cases a<;>simp only[asNat] at h<;>try (cases h)
 rename_i k m;split at h
 . rename_i t;obtain rfl:=Aa h;refine⟨k,by grind,by rw[Int.toNat_of_nonneg t];exact J.jK⟩
 grind
end
end
section
variable{α:Type}
theorem getD_eq(l:List α)(d:α)(j:Nat):l.getD j d=(l[j]?).getD d:=rfl
theorem qO(l:List α)(d:α)(o n j:Nat)(h:j<n):((l.drop o).take n).getD j d=l.getD (o+j) d:=by grind
theorem FA(l:List α)(d:α)(o j:Nat):(l.drop o).getD j d=l.getD (o+j) d:=by simp
theorem getD_take(l:List α)(d:α)(n j:Nat)(h:j<n):(l.take n).getD j d=l.getD j d:=by grind
theorem sH(cs:List AV)(off:Nat)(vs:List AV)(h:off+vs.length<=cs.length):(gH cs off vs).length=cs.length:=by grind[gH]
theorem Nh(cs:List AV)(off:Nat)(vs:List AV)(d:AV)(h:off+vs.length<=cs.length)(j:Nat):
 (gH cs off vs).getD j d=if off<=j/\j<off+vs.length then vs.getD (j -off) d else cs.getD j d:=by
 simp only[getD_eq,gH];rw[Dp]
 grind
variable{cs:List AV}
theorem Qc{off:Nat}{vs:List AV}{c:AV}(h:c∈gH cs off vs):c∈cs\/c∈vs:=by grind[gH]
theorem Qb{j:Nat}(h:j<cs.length):cs.getD j aC∈cs:=by grind
variable{G:Gh}{w:World}
theorem Pb{b o n:Nat}(h:∀j,j<n->∃u,w.cell? ⟨b,o+j,none⟩=some u/\VR G w (cs.getD j aC) u):
 ∃us:List Value,us.length=n/\(∀j,j<n->w.cell? ⟨b,o+j,none⟩=some (us.getD j undef))/\∀j,j<n->VR G w (cs.getD j aC) (us.getD j undef):=by
 refine⟨(List.range n).map fun j=>(w.cell? ⟨b,o+j,none⟩).getD undef,by simp,fun j Y=>?_,fun j Y=>?_⟩
 all_goals grind
theorem Lx{P:Program}{t:TypeId}{e:Bool}{n b o:Nat}(m:gR P t=some e)(A:lV P t=some n)
 (Q:n=cs.length) (O:∀c∈cs,c.one=true) (d:e=false->n=1)
 (h:∀j,j<n->∃u,w.cell? ⟨b,o+j,none⟩=some u/\VR G w (cs.getD j aC) u):
 ∃u,(loadVar t ⟨b,o,none⟩).run P w=.ok u w/\VR G w (if e then .agg cs else cs.getD 0 aC) u:=by
 obtain⟨us,U,R,J⟩:=Pb h
 cases e with
 |true=>refine⟨.agg us.toArray,?_,.agg cs us A0 O (fun j Y=>J j A0)⟩;have V:=wW P w b o us (fun j Y=>R j A0);rw[U] at V;simp[loadVar,sA m w,fC A w,V]
 |false=>have a:=d rfl;have g:=R 0 A0;have Z:=J 0 A0;refine⟨us.getD 0 undef,?_,Z⟩;simp only[Cv] at g;simp only[loadVar,Sem.run_bind,sA m w,Result.andThen_ok,Br,Db,run_load,g]
variable{H:aB}
theorem WR.store{g:bL}{w':World}(h:WR g G H w){id:Nat}{l:Loc}{cs:List AV}{r:Bool}(U:G.loc id=some l)(d:H.get id=some (.cells cs r))
 {off:Nat} {xs:List AV} {vs:List Value} (J:jD G w xs vs) (O:∀c∈xs,c.one=true) (y:off+xs.length<=cs.length) (u:WE w w' l.dE (l.base+off) vs):
 WR g G (H.set id (.cells (gH cs off xs) r)) w'/\Ext G H w G (H.set id (.cells (gH cs off xs) r)) w':=by
 have f:H.live id:=⟨_,d,rfl⟩;obtain⟨a1,B,A,i,N⟩:=h.cells id l cs r U d;obtain⟨c,T,fz,b1,b2,D⟩:=h.room id l U (.inl ⟨cs,r,d⟩);have Q:=J.1
 have S:∀j,j<vs.length->¬G.iA l.dE (l.base+off+j):=fun j Y=>by rw[Bm];exact h.kI id l U f (off+j) A0
 have P:∀e l',e≠id->G.loc e=some l'->H.live e->l.dE≠l'.dE\/l.base+l.ext<=l'.base\/l'.base+l'.ext<=l.base:=
  fun e l' s L R=>h.lL id e l l' (Ne.symm s) U L f R
 have E:=h.kill id
 have M:=E.write u S (fun e l' L R=>by
  rcases aB.mM.1 R with ⟨_,X⟩|⟨s,R⟩
  . cases X
  rcases P e l' s L R with hd|hd|hd
  . exact .inl (Ne.symm hd)
  . exact .inr (.inr A0)
  exact .inr (.inl A0)) ⟨c,T,fz,b1⟩
 have V:=((Ext.refl G H w).write u S h.iE (.inr ⟨id,l,U,f,rfl⟩)).aQb id (.cells (gH cs off xs) r) f;have Z:∀{a:AV} {x:Value},VR G w a x->VR G w' a x:=fun C=>C.mono (fun _ _ h=>h) (fun b o F=>⟨F,(V.iA b o F).2⟩);obtain⟨I,p,q,d3,n⟩:=u.row c T fz b1;refine⟨M.bCy _ l U P (fun j Y=>h.kI id l U f j Y) (fun t k z=>?_) (fun _=>⟨I,T,fz,p,by omega,fun j Y=>by rw[u.frozen b1];exact D j Y⟩) (fun z=>by cases z),V⟩;cases z;refine⟨by rw[sH _ _ _ y];exact a1,B,A,fun x C=>(Qc C).elim (i x) (O x),fun j Y=>?_⟩;rw[sH _ _ _ y] at Y;rw[Nh _ _ _ _ y];by_cases v:off<=j/\j<off+xs.length
 . rw[if_pos v];refine⟨vs.getD (j -off) undef,?_,Z (J.2 (j -off) A0)⟩;have :=n (j -off) A0 A0;rw[nO p,<-this];congr 1;omega
 rw[if_neg v];obtain⟨x,C,m⟩:=N j Y;exact⟨x,u.cell (.inr A0) C,Z m⟩
theorem aB.qL{id:Nat}(h:H.eV id=some cs):∃r,H.get id=some (.cells cs r):=by grind[aB.eV]
theorem NG{g:bL}(L:WR g G H w){id off n:Nat}{l:Loc}{cs:List AV}{r:Bool}(U:G.loc id=some l)(d:H.get id=some (.cells cs r))
 (y:off+n<=cs.length):∀j,j<n->∃u,w.cell? ⟨l.dE,l.base+off+j,none⟩=some u/\VR G w (((cs.drop off).take n).getD j aC) u:=fun j Y=>by
 obtain⟨u,B,J⟩:=(L.cells id l cs r U d).2.2.2.2 (off+j) A0
 grind
section
variable {P:Program} {g:bL} {o:Oper}
variable{t:TypeId}{x:Operand}{D:Arg}{n:Nat}
theorem aOo{e:Bool}(S:o.op=.load t x)(C:bN g x=some D)(m:gR P t=some e)(B:lV P t=some n):
 cV P g o (.load e n D):=by
 intro s a G H w v H' L M h;have K:=bM L M C
 have i:∀(b o':Nat) (cs:List AV),a.eval x=.pointer (some ⟨b,o',none⟩)->n=cs.length->(∀c∈cs,c.one=true)->(e=false->n=1)->
  (∀j,j<n->∃u,w.cell? ⟨b,o'+j,none⟩=some u/\VR G w (cs.getD j aC) u)->
  ∃n u w' E,(execOp a.eval o).run P w=.ok n w'/\SX n u/\WR g E H w'/\Ext G H w E H w'/\VR E w' (if e then .agg cs else cs.getD 0 aC) u:=by
  intro b o' cs z U O A R;obtain⟨u,V,J⟩:=Lx (P:=P) m B U O A R;refine cV.pure' L (u:=u) ?_ J;simp[execOp,S,z,Instr.loadAt,Instr.sureAddr,V]
 simp only[dU] at h;split at h
 . rename_i id off f;rw[f] at K;split at h
   . rename_i cs F;obtain⟨r,d⟩:=aB.qL F;split at h
     . rename_i y
       cases q:a.eval x with
       |pointer p=>
        rw[q] at K
        cases K with
        |ref _ _ l U=>
         have h4:=(L.cells id l cs r U d).2.2.2.1;have k:=NG L U d y;have Q:n=((cs.drop off).take n).length:=Zag;have W:∀c∈(cs.drop off).take n,c.one=true:=fun c R=>h4 c (Gz (Cu R));split at h
         . rename_i T;simp only[Aj,An] at h;exact Zbl
         rename_i T;split at h
         . rename_i A;simp only[Aj,An] at h;obtain⟨rfl,rfl⟩:=h;have :=i _ _ _ q Q W (fun _=>A) k
           rwa [if_neg T,qO _ _ _ _ _ A0,Cv] at this
         cases h
       |_=>rw[q] at K;cases K
     cases h
   cases h
 . rename_i cs f;rw[f] at K;split at h
   . rename_i y
     cases q:a.eval x with
     |pointer p=>
      rw[q] at K
      cases K with
      |pl _ b o' us X J=>
       have k:∀j,j<n->∃u,w.cell? ⟨b,o'+j,none⟩=some u/\VR G w ((cs.take n).getD j aC) u:=fun j Y=>by rw[getD_take _ _ _ _ Y];exact⟨us j,(X j A0).2.1,J j A0⟩
       have Q:n=(cs.take n).length:=by simp;omega
       have W:∀c∈cs.take n,c.one=true:=fun c R=>by obtain⟨j,Y,rfl⟩:=Hd.1 (Cu R);have :=(X j Y).2.2;simpa [getD_eq,Ai Y] using this
       split at h
       . rename_i T;exact Zbl
       rename_i T;split at h
       . rename_i A;obtain⟨rfl,rfl⟩:=h;have :=i _ _ _ q Q W (fun _=>A) k
         rwa [if_neg T,getD_take _ _ _ _ A0] at this
       cases h
     |_=>rw[q] at K;cases K
   cases h
 cases h
variable{G:Gh}{w:World}
theorem pZ{xs:List AV}{vs:List Value}(J:jD G w xs vs)(O:∀c∈xs,c.one=true):∀v∈vs,aHg v=true:=by
 intro v R;obtain⟨j,Y,rfl⟩:=Hd.1 R;have n:j<xs.length:=by have :=J.1;omega
 have :=(J.2 j n).one
 grind
theorem aHe{y:Operand}{J:Arg}(S:o.op=.store t x y)(C:bN g x=some D)(i:bN g y=some J)(A:lV P t=some n):
 cV P g o (.store n D J):=by
 intro s a G H w v H' L M h;have K:=bM L M C;have z:=bM L M i;simp only[dU] at h;split at h
 . rename_i id off f;rw[f] at K;split at h
   . rename_i cs r d;split at h
     . rename_i R;obtain⟨N,u,b⟩:=R;obtain⟨rfl,rfl⟩:=h;obtain⟨I,W⟩:=z.cellsOf b
       cases q:a.eval x with
       |pointer p=>
        rw[q] at K
        cases K with
        |ref _ _ l U=>
         obtain⟨a1,m,_,_,_⟩:=L.cells id l cs r U d;obtain⟨c,T,fz,b1,b2,k⟩:=L.room id l U (.inl ⟨cs,r,d⟩);have Q:=I.1
         obtain⟨w',V,B⟩:=fX P l.dE (l.base+off) (a.eval y).cells.toList 0 w ⟨c,T,fz,b1,by omega⟩
          (fun j Y=>by grind) (pZ I W)
         obtain⟨r1,r2⟩:=L.store U d I W A0 B;refine⟨.skip,undef,w',G,?_,.inr ⟨rfl,rfl⟩,r1,r2,VR.oQ G w'⟩;have e:(a.eval y).cells.size=n:=(by grind);simp[execOp,S,q,Instr.storeAt,Instr.sureAddr,storeVar,fC A w,e,V]
       |_=>rw[q] at K;cases K
     grind
   grind
 grind
def aw(P:Program)(t:TypeId)(i:Nat):Option (Nat×Nat×Bool):=
 match P.underlying t with
 |some (.struct fs)=>match fs[i]? with
  |some f=>match lV P f.type,gR P f.type with
   |some n,some b=>if n=0 then none else some (f.offset,n,b)
   |_,_=>none
  |none=>none
 |_=>none
variable{b:Bool}
theorem aOk{i:Nat}{off:Nat}(S:o.op=.fieldAddr t x i)(C:bN g x=some D)(N:aw P t i=some (off,n,b)):
 cV P g o (.xM off D):=by
 intro s a G H w v H' L M h;have K:=bM L M C;unfold aw at N;split at N
 . rename_i fs B;split at N
   . rename_i f d;split at N
     . rename_i r k A u;split at N
       . cases N
       rename_i m;simp only[Aj,An] at N;obtain⟨rfl,rfl,rfl⟩:=N
       have c:∀O o',a.eval x=.pointer (some ⟨O,o',none⟩)->(execOp a.eval o).run P w=.ok (.value (.pointer (some ⟨O,o'+f.offset,none⟩))) w:=fun O o' z=>by simp[execOp,S,z,Instr.fieldAt,run_underlying B w,d,Instr.sureAddr,fieldPlace,fC A w,m,lI]
       simp only[dU] at h;split at h
       . rename_i id o' e;rw[e] at K;simp only[Aj,An] at h;obtain⟨rfl,rfl⟩:=h
         cases q:a.eval x with
         |pointer p=>
          rw[q] at K
          cases K with
          |ref _ _ l U=>exact cV.pure' L (c _ _ q) (by rw[Bm];exact .ref id (o'+f.offset) l U)
         |_=>rw[q] at K;cases K
       . rename_i cs e;rw[e] at K;obtain⟨rfl,rfl⟩:=h
         cases q:a.eval x with
         |pointer p=>
          rw[q] at K
          cases K with
          |pl _ O o' us X J=>
           refine cV.pure' L (c _ _ q) (.pl _ O (o'+f.offset) (fun j=>us (f.offset+j)) (fun j Y=>?_) (fun j Y=>?_))
           . simp at Y;rw[Bm,FA];exact X (f.offset+j) A0
           simp at Y;rw[FA];exact J (f.offset+j) A0
         |_=>rw[q] at K;cases K
       cases h
     cases N
   cases N
 cases N
theorem Ye(A:lV P t=some n)(X:gR P t=some b){G:Gh}{w:World}{cs:List AV}{us:List Value}{off:Nat}
 (U:us.length=cs.length) (O:∀c∈cs,c.one=true) (J:∀j,j<cs.length->VR G w (cs.getD j aC) (us.getD j undef)) (y:off+n<=cs.length) (B:b=false->n=1):
 ∃u,(part t us.toArray off).run P w=.ok u w/\VR G w (if b then .agg ((cs.drop off).take n) else cs.getD off aC) u:=by
 cases b with
 |true=>
  refine⟨.agg ((us.drop off).take n).toArray,?_,?_⟩
  . simp only[part,Sem.run_bind,sA X w,Result.andThen_ok,if_true,fC A w,Sem.run_pure];simp
  refine .agg _ _ (by grind) (fun c R=>O c (Gz (Cu R))) (fun j Y=>?_)
  grind
 |false=>have :=B rfl;refine⟨us.getD off undef,?_,J off A0⟩;simp only[part,Sem.run_bind,sA X w,Result.andThen_ok,Br,Db,Ez,yS us undef off A0];rfl
theorem VR.wL{cs:List AV}{u:Value}(h:VR G w (.agg cs) u):∃us:List Value,u=.agg us.toArray/\us.length=cs.length/\(∀c∈cs,c.one=true)/\
 ∀j,j<cs.length->VR G w (cs.getD j aC) (us.getD j undef):=by
 cases h with
 |agg _ us U O J=>grind
end
end
section
variable{els:List (List AV)}{sz:Nat}
theorem KW(B:∀e∈els,e.length=sz):∀{i j:Nat},i<els.length->j<sz->els.flatten.getD (i*sz+j) aC=(els.getD i []).getD j aC:=by
 induction els with
 |nil=>intro i j F;simp at F
 |cons e r K=>
  intro i j F Y;have z:e.length=sz:=B e A3
  cases i with
  |zero=>simp only[getD_eq,Cb,Gq,Ds,Gk,By];rw[Jd A0]
  |succ i=>have :=K (fun e z=>B e (by simp[z])) (i:=i) (j:=j) (by simpa using F) Y;simp only[getD_eq,Cb,Fo] at this ⊢;rw[Iy (by rw[z,Cy];omega)];rw[show(i+1)*sz+j -e.length=i*sz+j by rw[z,Cy];omega];exact this
theorem length_flatten(B:∀e∈els,e.length=sz):els.flatten.length=els.length*sz:=by induction els<;>grind
section
variable {P:Program} {g:bL} {o:Oper}
def CQ(P:Program)(t:TypeId):Option (Nat×Nat×Bool):=
 match P.underlying t with
 |some (.array n e)=>match lV P e,gR P e with
  |some sz,some b=>some (n,sz,b)
  |_,_=>none
 |_=>none
def oP(P:Program)(t:TypeId):Option (TypeId×Nat):=
 match P.underlying t with
 |some (.slice e)=>match lV P e with
  |some sz=>some (e,sz)
  |none=>none
 |_=>none
variable{t:TypeId}{n sz:Nat}{b:Bool}
theorem CR(h:CQ P t=some (n,sz,b)):∃e,P.underlying t=some (.array n e)/\lV P e=some sz/\gR P e=some b:=by grind[CQ]
variable{e:TypeId}
theorem mD(h:oP P t=some (e,sz)):P.underlying t=some (.slice e)/\lV P e=some sz:=by grind[oP]
variable{x i:Operand}{D I:Arg}
theorem YD(S:o.op=.indexAddr t x i)(C:bN g x=some D)(F:bN g i=some I)(W:CQ P t=some (n,sz,b)):
 cV P g o (.rH (some n) sz D I):=by
 intro s a G H w v H' L M h;have K:=bM L M C;have B:=bM L M F;obtain⟨e,y,z,Q⟩:=CR W;simp only[dU] at h;split at h
 . rename_i k E;obtain⟨kk,u,Z⟩:=uR E B
   have c:∀O o',a.eval x=.pointer (some ⟨O,o',none⟩)->k<n->(execOp a.eval o).run P w=.ok (.value (.pointer (some ⟨O,o'+k*sz,none⟩))) w:=fun O o' d r=>by have N:(0:Int)<=(k:Int)/\(k:Int)<(n:Int):=A0;simp[execOp,S,Instr.indexAt,Z,asIntOf,run_underlying y w,d,Instr.sureAddr,N,fC z w,lI];intro R;omega
   split at h
   . rename_i m id off A f;cases A;rw[f] at K;split at h
     . rename_i r;simp only[Aj,An] at h;obtain⟨rfl,rfl⟩:=h
       cases q:a.eval x with
       |pointer p=>
        rw[q] at K
        cases K with
        |ref _ _ l U=>exact cV.pure' L (c _ _ q r) (by rw[Bm];exact .ref id (off+k*sz) l U)
       |_=>rw[q] at K;cases K
     cases h
   . rename_i m cs A f;cases A;rw[f] at K;split at h
     . rename_i r;simp only[Aj,An] at h;obtain⟨rfl,rfl⟩:=h
       cases q:a.eval x with
       |pointer p=>
        rw[q] at K
        cases K with
        |pl _ O o' us X J=>
         refine cV.pure' L (c _ _ q r) (.pl _ O (o'+k*sz) (fun j=>us (k*sz+j)) (fun j Y=>?_) (fun j Y=>?_))
         . simp at Y;rw[Bm,FA];exact X (k*sz+j) A0
         simp at Y;rw[FA];exact J (k*sz+j) A0
       |_=>rw[q] at K;cases K
     cases h
   . rename_i A _;cases A
   . rename_i A _;cases A
   cases h
 cases h
theorem ek(S:o.op=.indexAddr t x i)(C:bN g x=some D)(V:bN g i=some I)(W:oP P t=some (e,sz)):
 cV P g o (.rH none sz D I):=by
 intro s a G H w v H' L M h;have K:=bM L M C;have B:=bM L M V;obtain⟨m,z⟩:=mD W;simp only[dU] at h;split at h
 . rename_i k E;obtain⟨kk,u,Z⟩:=uR E B
   have c:∀O o' n cap,a.eval x=.slice (some ⟨O,o',none⟩) n cap->k<n->(execOp a.eval o).run P w=.ok (.value (.pointer (some ⟨O,o'+k*sz,none⟩))) w:=fun O o' n cap d r=>by have h0:(0:Int)<=(k:Int)/\(k:Int)<(n:Int):=A0;simp[execOp,S,Instr.indexAt,Z,asIntOf,run_underlying m w,d,Instr.sureAddr,h0,fC z w,lI];intro Oj;omega
   split at h
   . rename_i A _;cases A
   . rename_i A _;cases A
   . rename_i tag N els A f;rw[f] at K;split at h
     . rename_i R;obtain⟨rfl,r⟩:=R;simp only[Aj,An] at h;obtain⟨rfl,rfl⟩:=h
       cases q:a.eval x with
       |slice p n cap=>
        rw[q] at K
        cases K with
        |wE=>exact absurd r (Am _)
        |bK _ _ _ O o' _ us b X J vE=>
         have F:(els.getD k []).length=N:=by rw[getD_eq,Ai r];exact b _ (Ag r)
         have AE:=length_flatten b
         have y:∀j,j<N->k*N+j<els.flatten.length:=fun j Y=>by
          rw[AE]
          calc k*N+j<k*N+N:=by omega
           _=(k+1)*N:=by rw[Cy]
           _<=els.length*N:=Bc _ r
         refine cV.pure' L (c _ _ _ _ q r) (.pl _ O (o'+k*N) (fun j=>us (k*N+j)) (fun j Y=>?_) (fun j Y=>?_))
         . rw[F] at Y;rw[Bm,<-KW b r Y];exact X _ (y j Y)
         rw[F] at Y;rw[<-KW b r Y];exact J _ (y j Y)
       |_=>rw[q] at K;cases K
     cases h
   . rename_i id N off len cap A f;rw[f] at K;split at h
     . rename_i R;obtain⟨rfl,r⟩:=R;obtain⟨rfl,rfl⟩:=h
       cases q:a.eval x with
       |slice p n cap=>
        rw[q] at K
        cases K with
        |sl _ _ _ _ _ _ l U Q y T=>exact cV.pure' L (c _ _ _ _ q r) (by rw[Bm];exact .ref id (off+k*N) l U)
       |_=>rw[q] at K;cases K
     cases h
   cases h
 cases h
theorem bCl(S:o.op=.index t x i)(C:bN g x=some D)(F:bN g i=some I)(W:CQ P t=some (n,sz,b)):
 cV P g o (.idx n sz b D I):=by
 intro s a G H w v H' L M h;have K:=bM L M C;have d:=bM L M F;obtain⟨e,j,z,X⟩:=CR W;simp only[dU] at h;split at h
 . rename_i k cs E f;rw[f] at K;obtain⟨kk,p,Z⟩:=uR E d;obtain⟨us,q,U,O,J⟩:=K.wL;split at h
   . rename_i R;obtain⟨r,y⟩:=R
     have c:∀u,(part e us.toArray (k*sz)).run P w=.ok u w->(execOp a.eval o).run P w=.ok (.value u) w:=fun u V=>by have l:(0:Int)<=(k:Int)/\(k:Int)<(n:Int):=A0;simp[execOp,S,q,Instr.index,Z,asIntOf,run_underlying j w,l,fC z w,V];omega
     split at h
     . rename_i T;obtain⟨rfl,rfl⟩:=h;obtain⟨u,V,m⟩:=Ye (P:=P) z X U O J y (fun N=>by rw[T] at N;cases N);rw[if_pos T] at m;exact cV.pure' L (c u V) m
     rename_i T;split at h
     . rename_i B;obtain⟨rfl,rfl⟩:=h;obtain⟨u,V,m⟩:=Ye (P:=P) z X U O J y (fun _=>B);rw[if_neg T,B,Df] at m;rw[B,Df] at V;exact cV.pure' L (c u (by rw[B,Df];exact V)) m
     cases h
   cases h
 cases h
theorem aOl(S:o.op=.index t x i)(C:bN g x=some D)(F:bN g i=some I)(W:P.underlying t=some .string):
 cV P g o (.idxs D I):=by
 intro s a G H w v H' L M h;have K:=bM L M C;have B:=bM L M F;simp only[dU] at h;split at h
 . rename_i k n E f;rw[f] at K;obtain⟨kk,d,Z⟩:=uR E B;have q:=K.jL;split at h
   . rename_i b X;obtain⟨rfl,rfl⟩:=h;refine cV.pure' L (u:=.int .u8 b.toNat) ?_ (.int _ _);have r:=(Bf.1 X).1
     have R:(⟨n.toArray⟩:ByteArray)[k]?=some b:=by
      have c:k<(⟨n.toArray⟩:ByteArray).size:=by assumption
      grind[ByteArray.getElem_eq_getElem_data]
     simp[execOp,S,Instr.index,Z,asIntOf,run_underlying W w,q,R]
   grind
 grind
variable{c:Call}
theorem aOn(S:o.op=.call c)(R:c.callee=.builtin .len)(I:c.args= #[x])(C:bN g x=some D)(O:c.argTypes[0]?=some t)
 (W:P.underlying t=some .string):cV P g o (.lens D):=by
 intro s a G H w v H' L M h;have K:=bM L M C;simp only[dU] at h;split at h
 . rename_i n f;rw[f] at K;obtain⟨rfl,rfl⟩:=h;have q:=K.jL;refine cV.pure' L (u:=.int .i64 n.length) ?_ (.int _ _);simp[execOp,S,resolve,R,I,invoke,builtin,Builtin.len_,O,run_underlying W w,q,goInt];rfl
 grind
variable{y:Operand}{J:Arg}
theorem aOp(S:o.op=.call c)(R:c.callee=.builtin .max)(I:c.args= #[x,y])(C:bN g x=some D)(Q:bN g y=some J):cV P g o (.VO D J):=by
 intro s a G H w v H' L M h;have K:=bM L M C;have z:=bM L M Q;simp only[dU] at h;split at h
 . rename_i k m p n O Z;rw[O] at K;rw[Z] at z;obtain⟨rfl,rfl⟩:=h;have q:=K.jK;have f:=z.jK;refine cV.pure' L (u:=.int k (if n>m then n else m)) ?_ (.int _ _);simp[execOp,S,resolve,R,I,invoke,builtin,Builtin.max_,Builtin.max2,q,f]
 grind
theorem aOq(S:o.op=.call c)(R:c.callee=.builtin .min)(I:c.args= #[x,y])(C:bN g x=some D)(Q:bN g y=some J):cV P g o (.YA D J):=by
 intro s a G H w v H' L M h;have K:=bM L M C;have z:=bM L M Q;simp only[dU] at h;split at h
 . rename_i k m p n O Z;rw[O] at K;rw[Z] at z;obtain⟨rfl,rfl⟩:=h;have q:=K.jK;have f:=z.jK;refine cV.pure' L (u:=.int k (if n<m then n else m)) ?_ (.int _ _);simp[execOp,S,resolve,R,I,invoke,builtin,Builtin.min_,Builtin.min2,q,f]
 grind
theorem aOm(S:o.op=.call c)(R:c.callee=.builtin .len)(I:c.args= #[x])(C:bN g x=some D)(O:c.argTypes[0]?=some t)
 (W:P.underlying t=some (.slice e)):cV P g o (.QT D):=by
 intro s a G H w v H' L M h;have K:=bM L M C
 have b:∀p n cap,a.eval x=.slice p n cap->(execOp a.eval o).run P w=.ok (.value (.int .i64 n)) w:=fun p n cap q=>by simp[execOp,S,resolve,R,I,invoke,builtin,Builtin.len_,O,run_underlying W w,q,goInt]
 simp only[dU] at h;split at h
 . rename_i f;exact Za8
 . rename_i tag sz els f;rw[f] at K;obtain⟨rfl,rfl⟩:=h;generalize q:a.eval x=u at K
   cases K<;>
    exact cV.pure' L (b _ _ _ q) (.int _ _)
 . rename_i id sz off len cap f;exact Za8
 grind
variable{op:BinOp}
theorem vR{u v:Value}(w:World)(h:∀c,u≠ .agg c)(M:u≠ .nilIface):(eqGuard op t x y u v).run P w=.ok () w:=by simp_all[eqGuard]
variable{v:AV}{k:IntKind}
theorem aOg{p:IntKind}{m n:Int}(h:rL op k m p n=some v)(w:World):
 ∃u,(Go.binOp op t (.int k m) (.int p n)).run P w=.ok u w/\∀G,VR G w v u:=by
 have key:∀{k:IntKind} {z:Int},∀G,VR G w (.int k z) (.int k z):=fun G=>.int _ _;have a:∀{z:Bool},∀G,VR G w (.bool z) (.bool z):=fun G=>.bool _;cases op<;>simp only[rL] at h
 all_goals first
  |(split at h<;>first
     |(cases h;done)
     |(rename_i E
       first
        |(subst E
          first
           |(obtain rfl:=Aa h
             refine⟨_,?_,key⟩;simp[Go.binOp,Op.intArith]
             done)
           |(obtain rfl:=Aa h
             refine⟨_,?_,a⟩
             simp[Go.binOp,Op.intCmp])
           |(obtain rfl:=Aa h
             simp_all[Go.binOp,Op.intBits])
           |(split at h
             . grind
             rename_i b;obtain rfl:=Aa h
             simp_all[Go.binOp,Op.intDiv,b]))
        |(obtain rfl:=Aa h
          refine⟨_,?_,key⟩
          simp[Go.binOp,Op.shift,E])))
theorem aOh{x y:List UInt8}(h:aYn op x y=some v)(w:World):
 ∃u,(Go.binOp op t (.string ⟨x.toArray⟩) (.string ⟨y.toArray⟩)).run P w=.ok u w/\∀G,VR G w v u:=by
 have a:∀{z:Bool},∀G,VR G w (.bool z) (.bool z):=fun G=>.bool _;have T:(⟨x.toArray⟩:ByteArray).toList=x:=ByteArray.toList_mk x;have o:(⟨y.toArray⟩:ByteArray).toList=y:=ByteArray.toList_mk y;cases op<;>simp only[aYn] at h
 case add=>
  split at h
  . obtain rfl:=Aa h;refine⟨.string (⟨x.toArray⟩++⟨y.toArray⟩),?_,fun G=>?_⟩
    . have O:(⟨x.toArray⟩:ByteArray).size=x.length:=(by rfl);have Z:(⟨y.toArray⟩:ByteArray).size=y.length:=by rfl
      have b:¬(((⟨x.toArray⟩:ByteArray).size+(⟨y.toArray⟩:ByteArray).size:Nat):Int)>IntKind.i64.max:=by have :IntKind.i64.max=9223372036854775807:=A1;omega
      simp_all[Go.binOp,Op.stringOp,if_neg,b]
    exact VR.Vs G w _
  grind
 all_goals first
  |(cases h;done)
  |(obtain rfl:=Aa h
    refine⟨_,?_,a⟩
    simp[Go.binOp,Op.stringOp,T,o])
variable{t2:TypeId}
theorem aGy{d:Arg}(S:o.op=.binOp op t x y t2)(C:bN g x=some D)(Q:bN g y=some d):cV P g o (.bin op D d):=by
 intro s a G H w v H' L M h;have K:=bM L M C;have z:=bM L M Q;simp only[dU] at h;split at h
 . rename_i k m p n O Z;rw[O] at K;rw[Z] at z;have T:=K.jK;have b:=z.jK;simp only[Ae,An] at h;obtain⟨q,R,rfl,rfl⟩:=h;obtain⟨u,V,J⟩:=aOg (P:=P) (t:=t) R w;refine cV.pure' L (u:=u) ?_ (J G);have e:=vR (P:=P) (op:=op) (t:=t) (x:=x) (y:=y) (u:=.int k m) (v:=.int p n) w (fun c=>by simp) A3;simp[execOp,S,T,b,e,V]
 . rename_i m n O Z;rw[O] at K;rw[Z] at z;have T:=K.jL;have b:=z.jL;simp only[Ae,An] at h;obtain⟨q,R,rfl,rfl⟩:=h;obtain⟨u,V,J⟩:=aOh (P:=P) (t:=t) R w;refine cV.pure' L (u:=u) ?_ (J G);have e:=vR (P:=P) (op:=op) (t:=t) (x:=x) (y:=y) (u:=.string ⟨m.toArray⟩) (v:=.string ⟨n.toArray⟩) w (fun c=>by simp) A3;simp[execOp,S,T,b,e,V]
 grind
theorem KQ(d:Nat){t:TypeId}(W:P.underlying t=some .bool)(w:World)(m n:Bool):(Op.equalIn (d+1) t (.bool m) (.bool n)).run P w=.ok (m==n) w:=by rw[Op.equalIn];simp only[Sem.run_bind,run_underlying W w,Result.andThen_ok];rfl
theorem bCi{neg:Bool}(S:o.op=.binOp op t x y t2)(b:op=if neg then .neq else .eql)(W:P.underlying t=some .bool)
 (C:bN g x=some D) (Q:bN g y=some J):cV P g o (.eqb neg D J):=by
 intro s a G H w v H' L M h;have K:=bM L M C;have z:=bM L M Q;simp only[dU] at h;split at h
 . rename_i m n O Z;rw[O] at K;rw[Z] at z;have T:=K.lJ;have d:=z.lJ;obtain⟨rfl,rfl⟩:=h;refine cV.pure' L (u:=.bool (if neg then !(m==n) else(m==n))) ?_ (.bool _);have e:=vR (P:=P) (op:=op) (t:=t) (x:=x) (y:=y) (u:=.bool m) (v:=.bool n) w (fun c=>by simp) A3
   have l:(Op.equal t (.bool m) (.bool n)).run P w=.ok (m==n) w:=by exact KQ 9999 W w m n
   subst b;cases neg<;>simp only[Br,Db,if_true] at S e<;>simp[execOp,S,T,d,e,Go.binOp,l]
 grind
theorem bMo{op:UnOp}(S:o.op=.unOp op t x)(C:bN g x=some D):cV P g o (.un op D):=by
 intro s a G H w v H' L M h;have K:=bM L M C;simp only[dU,Ae,An] at h;obtain⟨q,R,rfl,rfl⟩:=h;unfold unA at R;split at R
 . rename_i k n O;rw[O] at K;have T:=K.jK;split at R
   . obtain rfl:=Aa R;exact cV.pure' L (u:=.int k (k.wrap (0 -n))) (by simp[execOp,S,T,Op.unary,Op.intArith]) (.int _ _)
   . obtain rfl:=Aa R;exact cV.pure' L (u:=.int k _) (by simp[execOp,S,T,Op.unary,Op.intBits]) (.int _ _)
   grind
 . rename_i b O;rw[O] at K;have T:=K.lJ;split at R
   . obtain rfl:=Aa R;exact cV.pure' L (u:=.bool !b) (by simp[execOp,S,T,Op.unary]) (.bool _)
   grind
 grind
variable{d:TypeDesc}
theorem aGz{I A:TypeId}(S:o.op=.convert I A x)(C:bN g x=some D)(y:P.underlying I=some d)
 (hd:P.underlying A=some (.int k)):cV P g o (.NW k D):=by
 intro s a G H w v H' L M h;have K:=bM L M C;simp only[dU] at h;split at h
 . rename_i p n O;rw[O] at K;have T:=K.jK;obtain⟨rfl,rfl⟩:=h;refine cV.pure' L (u:=.int k (k.wrap n)) ?_ (.int _ _);simp only[execOp,S,T,Go.convert,Sem.run_bind,run_underlying y w,run_underlying hd w,Result.andThen_ok,Conv.intToInt];rfl
 grind
theorem aOw{k:TypeId}{ok:Bool}{z:AV}{J:Value}(N:o.op=.typeAssert x k t ok)(C:bN g x=some D)
 (hd:P.underlying t=some d) (b:∀f,d≠ .interface f) (I:nG P t=some J) (i:ofConst J=some z):cV P g o (.ju t ok z D):=by
 intro s a G H w v H' L M h;have K:=bM L M C;have e:=mQ I w;have S:=JG i G w
 have A:∀{p q:AV} {m j:Value},VR G w p m->VR G w q j->VR G w (.iV [p,q]) (.tuple #[m,j]):=fun O Z=>.iV [_,_] [_,_] rfl (O.cons (Z.cons (jD.nil G w))).2
 have X:∀(y:Value) (r:Value),(Instr.typeAssert y k t ok).run P w=.ok r w->a.eval x=y->(execOp a.eval o).run P w=.ok (.value r) w:=fun y r V E=>by simp[execOp,N,E,V]
 have T:∀(f:Array (String×TypeId)),d=TypeDesc.interface f->False:=fun f E=>b f E;simp only[dU] at h;split at h
 . rename_i n y O;rw[O] at K;generalize B:a.eval x=u at K
   cases K with
   |iface _ _ F Q=>
    split at h
    . rename_i c;subst c;simp only[Aj,An] at h;obtain⟨rfl,rfl⟩:=h;refine cV.pure' L (u:=if ok then .tuple #[F,.bool true] else F) (X _ _ ?_ B) (by cases ok<;>simp <;>first|exact Q|exact A Q (.bool true));unfold Instr.typeAssert;simp only[Sem.run_bind,run_underlying hd w,Result.andThen_ok]
      cases d<;>first|exact absurd rfl (b _)|simp
    rename_i c;split at h
    . rename_i l;obtain⟨rfl,rfl⟩:=h;refine cV.pure' L (u:=.tuple #[J,.bool false]) (X _ _ ?_ B) (A S (.bool false));unfold Instr.typeAssert;simp only[Sem.run_bind,run_underlying hd w,Result.andThen_ok]
      cases d<;>first|exact absurd rfl (b _)|simp[c,l,e]
    cases h
 . rename_i O;rw[O] at K;generalize B:a.eval x=u at K;cases K;split at h
   . rename_i l;obtain⟨rfl,rfl⟩:=h;refine cV.pure' L (u:=.tuple #[J,.bool false]) (X _ _ ?_ B) (A S (.bool false));unfold Instr.typeAssert;simp only[Sem.run_bind,run_underlying hd w,Result.andThen_ok]
     cases d<;>first|exact absurd rfl (b _)|simp[l,e]
   cases h
 cases h
end
end
section
def FR(P:Program)(sh:TypeId->Option (List Sk)):Nat->List Field->Option (List Sk)
 |_,[]=>some []
 |off,f::fs=>
  if f.name≠ "_" /\f.offset=off then
   match sh f.type with
   |some k=>if lV P f.type=some k.length then(FR P sh (off+k.length) fs).map (k++ ·) else none
   |none=>none
  else none
def pQ(P:Program):Nat->TypeId->Option (List Sk)
 |0,_=>none
 |d+1,t=>
  match P.underlying t with
  |some .bool=>some [.b]
  |some (.int _)=>some [.i]
  |some .string=>some [.s]
  |some (.struct fs)=>if P.stoodInHeld t then none else FR P (pQ P d) 0 fs.toList
  |some (.array n e)=>
   match pQ P d e with
   |some k=>if lV P e=some k.length then some (List.replicate n k).flatten else none
   |none=>none
  |_=>none
theorem xK:∀(k1 k2:List Sk) (xs ys:List AV) (r:Bool),cE (k1++k2) xs ys=some r->
 ∃r1 r2,cE k1 (xs.take k1.length) (ys.take k1.length)=some r1/\cE k2 (xs.drop k1.length) (ys.drop k1.length)=some r2/\r=(r1&&r2)
 |[],k2,xs,ys,r,h=>⟨true,r,rfl,by simpa using h,by simp⟩
 |k::k1,k2,xs,ys,r,h=>by
  have step:∀{x y:AV} {a b:List AV} {c:Bool},xs=x::a->ys=y::b->(cE (k1++k2) a b).map (c&& ·)=some r->
   (∀l m,cE (k::k1) (x::l) (y::m)=(cE k1 l m).map (c&& ·))->
   ∃r1 r2,cE (k::k1) (xs.take (k::k1).length) (ys.take (k::k1).length)=some r1/\cE k2 (xs.drop (k::k1).length) (ys.drop (k::k1).length)=some r2/\r=(r1&&r2):=by
   intro x y a b c C Q t R;simp only[Ae] at t;obtain⟨n,g,rfl⟩:=t;obtain⟨r1,r2,O,Z,B⟩:=xK k1 k2 a b n g
   grind
  cases k<;>cases xs with
  |nil=>simp[cE] at h
  |cons x a=>
   cases ys with
   |nil=>cases x<;>simp[cE] at h
   |cons y b=>
    cases x<;>cases y<;>simp only[Fe,cE] at h<;>first
     |(cases h;done)
     |exact step rfl rfl h (fun l m=>rfl)
     |grind[cE]
def valOf(e:Bool)(us:List Value):Value:=if e then .agg us.toArray else us.getD 0 undef
variable{t:TypeId}{n:Nat}
theorem oF{P:Program}{b:Bool}(A:lV P t=some n)(X:gR P t=some b)(w:World){us:List Value}{off:Nat}(y:off+n<=us.length)(B:b=false->n=1):
 (part t us.toArray off).run P w=.ok (valOf b ((us.drop off).take n)) w:=by
 cases b with
 |true=>simp only[part,Sem.run_bind,sA X w,Result.andThen_ok,if_true,fC A w,Sem.run_pure,valOf];simp
 |false=>have :=B rfl;simp only[part,Sem.run_bind,sA X w,Result.andThen_ok,Br,Db,Ez,yS us undef off A0,valOf];simp_all
theorem jD.take_drop{G:Gh}{w:World}{xs:List AV}{us:List Value}(h:jD G w xs us)(off n:Nat)(y:off+n<=xs.length):jD G w ((xs.drop off).take n) ((us.drop off).take n):=by have U:=h.1;refine⟨by grind,fun j Y=>?_⟩;simp at Y;rw[qO _ _ _ _ _ A0,qO _ _ _ _ _ A0];exact h.2 _ A0
theorem GR:∀{I:List Sk} {xs ys:List AV} {r:Bool},cE I xs ys=some r->xs.length=I.length/\ys.length=I.length
 |[],[],[],_,_=>⟨rfl,rfl⟩
 |[],_::_,ys,r,h=>by grind[cE]
 |[],[],_::_,r,h=>by grind[cE]
 |k::I,[],ys,r,h=>by grind[cE]
 |k::I,x::xs,[],r,h=>by grind[cE]
 |k::I,x::xs,y::ys,r,h=>by
  have :∃n,cE I xs ys=some n:=by
   cases k<;>cases x<;>cases y<;>simp only[cE] at h<;>first
    |(cases h;done)
    |(grind[Option.map_eq_some_iff])
    |grind[Option.map_eq_some_iff]
  obtain⟨n,M⟩:=this;have :=GR M
  grind
theorem BG{P:Program}{d:Nat}{I:List Sk}(h:pQ P d t=some I):∃b,gR P t=some b/\(b=false->I.length=1):=by
 cases d with
 |zero=>cases h
 |succ d=>
  simp only[pQ] at h;unfold gR
  split at h<;>rename_i B<;>first
   |(done)
   |(obtain rfl:=Aa h;simp_all)
   |simp_all
theorem Rk{P:Program}{e:TypeId}(h:lV P e=some n):P.cellsOf e=n/\∃i,P.info? e=some i:=by simp only[lV,Ae] at h;obtain⟨i,F,rfl⟩:=h;simp[Program.cellsOf,F]
theorem XI{P:Program}:∀(f:Nat) (t:TypeId) (I:List Sk),pQ P f t=some I->∀(b:Bool),gR P t=some b->∀(d:Nat) (G:Gh) (w:World) (xs ys:List AV) (us vs:List Value) (r:Bool),
 cE I xs ys=some r->jD G w xs us->jD G w ys vs->(Op.equalIn (d+f) t (valOf b us) (valOf b vs)).run P w=.ok r w:=by
 intro f
 induction f with
 |zero=>intro t I h;cases h
 |succ f K=>
  intro t I h b X d G w xs ys us vs r V C hy;have Q:=GR V
  have a:∀{k:Sk},I=[k]->∃x y,xs=[x]/\ys=[y]/\VR G w x (us.getD 0 undef)/\VR G w y (vs.getD 0 undef):=fun {k} E=>by
   subst E
   match xs,ys,Q with
   |[x],[y],_=>exact⟨x,y,rfl,rfl,by simpa using C.2 0 A3,by simpa using hy.2 0 A3⟩
  rw[show d+(f+1)=(d+f)+1 from rfl];simp only[pQ] at h;split at h
  . rename_i B;obtain rfl:=Aa h;have H:b=false:=by simp only[gR,B,Aj] at X;exact X.symm
    subst H;obtain⟨x,y,rfl,rfl,O,Z⟩:=a rfl;simp only[valOf,Br,Db]
    cases x<;>cases y<;>simp only[cE] at V<;>first|(cases V;done)|skip
    rename_i p q;rw[O.lJ,Z.lJ,KQ _ B w];simp at V;rw[<-V]
  . rename_i k B;obtain rfl:=Aa h;have H:b=false:=by simp only[gR,B,Aj] at X;exact X.symm
    subst H;obtain⟨x,y,rfl,rfl,O,Z⟩:=a rfl;simp only[valOf,Br,Db]
    cases x<;>cases y<;>simp only[cE] at V<;>first|(cases V;done)|skip
    rename_i j p j' q;split at V
    . rename_i Y;subst Y;rw[O.jK,Z.jK,run_equalIn_int w _ t j k p q B];simp at V;rw[<-V]
    cases V
  . rename_i B;obtain rfl:=Aa h;have H:b=false:=by simp only[gR,B,Aj] at X;exact X.symm
    subst H;obtain⟨x,y,rfl,rfl,O,Z⟩:=a rfl;simp only[valOf,Br,Db]
    cases x<;>cases y<;>simp only[cE] at V<;>first|(cases V;done)|skip
    rename_i p q;rw[O.jL,Z.jL,run_equalIn_string w _ t _ _ B,ByteArray.toList_mk,ByteArray.toList_mk];simp at V;rw[<-V]
  . rename_i fs B;split at h
    . cases h
    rename_i J;have a6:b=true:=(by simp only[gR,B,Aj] at X;exact X.symm);subst a6;simp only[valOf,if_true];have a7:P.fieldsOf t=fs:=(by simp[Program.fieldsOf,B]);rw[run_equalIn_struct w _ t _ _ (by rw[a7];exact B) (by simpa using J),a7];have ae:=C.1;have ad:=hy.1
    have key:∀(l:List Field) (off:Nat) (yc:List Sk),FR P (pQ P f) off l=some yc->off+yc.length<=xs.length->off+yc.length<=ys.length->∀r,cE yc ((xs.drop off).take yc.length) ((ys.drop off).take yc.length)=some r->
     (Op.eqFields (d+f) us.toArray vs.toArray l).run P w=.ok r w:=by
     intro l
     induction l with
     |nil=>intro off yc M _ _ r V;obtain rfl:=Aa M;simp[cE] at V;subst V;simp[Op.eqFields]
     |cons fd l ab=>
      intro off yc M u c r V;simp only[FR] at M;split at M
      . rename_i R;obtain⟨N,BZ⟩:=R;split at M
        . rename_i k E;split at M
          . rename_i A;simp only[Ae] at M;obtain⟨g,af,rfl⟩:=M;simp only[Aq] at u c V;obtain⟨r1,r2,T,o,rfl⟩:=xK _ _ _ _ _ V;obtain⟨bf,H,Us⟩:=BG E
            have t1:∀(z:List AV),off+(k.length+g.length)<=z.length->List.take k.length (List.take (k.length+g.length) (z.drop off))=(z.drop off).take k.length:=fun z s=>by rw[List.take_take];congr 1;omega
            have t2:∀(z:List AV),off+(k.length+g.length)<=z.length->List.drop k.length (List.take (k.length+g.length) (z.drop off))=(z.drop (off+k.length)).take g.length:=fun z s=>by rw[List.drop_take,Kk];congr 1;omega
            rw[t1 _ u,t1 _ c] at T;rw[t2 _ u,t2 _ c] at o;have p1:=oF A H w (us:=us) (off:=fd.offset) A0 Us;have p2:=oF A H w (us:=vs) (off:=fd.offset) A0 Us;have p3:=K fd.type k E bf H d G w _ _ _ _ r1 T (C.take_drop off k.length A0) (hy.take_drop off k.length A0);rw[<-BZ] at p3;simp only[Op.eqFields,if_pos N,Sem.run_bind,p1,p2,p3,Result.andThen_ok]
            cases r1 with
            |false=>simp
            |true=>simp only[Gg,Br,Db,Dm];exact ab (off+k.length) g af A0 A0 r2 o
          cases M
        cases M
      cases M
    have :=key fs.toList 0 I h A0 A0 r (by
     simp only[Eo];rw[Bd A0,Bd A0]
     exact V)
    exact this
  . rename_i n e B;have a6:b=true:=by simp only[gR,B,Aj] at X;exact X.symm
    subst a6;simp only[valOf,if_true];split at h
    . rename_i k E;split at h
      . rename_i A;obtain rfl:=Aa h;obtain⟨jY,i,F⟩:=Rk A;rw[run_equalIn_array w (d+f) _ _ B F,jY];obtain⟨bf,H,Us⟩:=BG E;have ae:=C.1;have ad:=hy.1;have L:∀m,((List.replicate m k).flatten).length=m*k.length:=fun m=>by simp
        have key:∀(m j:Nat),(j+m)*k.length<=xs.length->(j+m)*k.length<=ys.length->∀r,cE (List.replicate m k).flatten ((xs.drop (j*k.length)).take (m*k.length)) ((ys.drop (j*k.length)).take (m*k.length))=some r->
         (Op.eqItems (d+f) e k.length us.toArray vs.toArray (List.range' j m)).run P w=.ok r w:=by
         intro m
         induction m with
         |zero=>intro j _ _ r V;simp[cE] at V;subst V;simp[Op.eqItems]
         |succ m W=>
          intro j u c r V;have U:(m+1)*k.length=k.length+m*k.length:=(by rw[Cy];omega);have D:(j+(m+1))*k.length=j*k.length+(k.length+m*k.length):=(by rw[Bn,U]);have v:(j+1)*k.length=j*k.length+k.length:=(by rw[Cy]);rw[D] at u c;rw[U] at V;rw[Iq,Cb] at V;obtain⟨r1,r2,T,o,rfl⟩:=xK _ _ _ _ _ V
          have t1:∀(z:List AV),List.take k.length (List.take (k.length+m*k.length) (z.drop (j*k.length)))=(z.drop (j*k.length)).take k.length:=fun z=>by rw[List.take_take];congr 1;omega
          have t2:∀(z:List AV),List.drop k.length (List.take (k.length+m*k.length) (z.drop (j*k.length)))=(z.drop ((j+1)*k.length)).take (m*k.length):=fun z=>by rw[List.drop_take,Kk,v];congr 1;omega
          rw[t1,t1] at T;rw[t2,t2] at o;have p1:=oF A H w (us:=us) (off:=j*k.length) A0 Us;have p2:=oF A H w (us:=vs) (off:=j*k.length) A0 Us;have p3:=K e k E bf H d G w _ _ _ _ r1 T (C.take_drop (j*k.length) k.length A0) (hy.take_drop (j*k.length) k.length A0);simp only[List.range'_succ,Op.eqItems,Sem.run_bind,p1,p2,p3,Result.andThen_ok]
          cases r1 with
          |false=>simp
          |true=>simp only[Gg,Br,Db,Dm];have S:(j+1+m)*k.length=j*k.length+(k.length+m*k.length):=(by rw[Bn,v];omega);exact W (j+1) (by rw[S];exact u) (by rw[S];exact c) r2 o
        have :=key n 0 (by rw[Ds];rw[L] at Q;omega) (by rw[Ds];rw[L] at Q;omega) r (by
         rw[L] at Q;simp only[Gq,Eo];rw[Bd A0,Bd A0]
         exact V)
        rw[Ki];exact this
      cases h
    cases h
  cases h
section
variable {P:Program} {g:bL} {o:Oper}
variable{op:BinOp}{neg:Bool}{t2:TypeId}
theorem bCj{t:TypeId}{f:Nat}{I:List Sk}{x y:Operand}{D J:Arg}(S:o.op=.binOp op t x y t2)(b:op=if neg then .neq else .eql)(N:f<=9999)
 (E:pQ P f t=some I) (X:gR P t=some true) (d:P.eqGuardType P.depth t=false) (C:bN g x=some D) (Q:bN g y=some J):cV P g o (.eqf neg I D J):=by
 intro s a G H w v H' L M h;have K:=bM L M C;have z:=bM L M Q;simp only[dU] at h;split at h
 . rename_i xs ys O Z;rw[O] at K;rw[Z] at z;obtain⟨us,T,j,_,i⟩:=K.wL;obtain⟨vs,k,p,_,v2⟩:=z.wL;simp only[Ae,An] at h;obtain⟨r,V,rfl,rfl⟩:=h;refine cV.pure' L (u:=.bool (if neg then !r else r)) ?_ (.bool _);have e:=run_eqGuard_agg (P:=P) w op t x y us.toArray vs.toArray d;have l:=XI f t I E true X (10000 -f) G w xs ys us vs r V ⟨j,i⟩ ⟨p,v2⟩;rw[show 10000 -f+f=10000 by omega] at l;have c:(Op.equal t (.agg us.toArray) (.agg vs.toArray)).run P w=.ok r w:=l;subst b;cases neg<;>simp only[Br,Db,if_true] at S e<;>simp[execOp,S,T,k,e,Go.binOp,c]
 grind
def nkP(P:Program)(t:TypeId):Option Nk:=
 match P.underlying t with
 |some (.pointer _)=>some .ptr
 |some (.interface _)=>some .ifc
 |some (.slice _)=>some .sli
 |some (.map _ _)=>some .mp
 |some (.func _ _ _)=>some .fn
 |_=>none
def DR:Value->Bool
 |.pointer none|.nilIface|.slice none _ _|.map none|.nilFunc=>true
 |_=>false
variable{G:Gh}{w:World}{k:Nk}{a:AV}{u:Value}{b:Bool}
theorem Xn(h:DQ k a=some b)(J:VR G w a u):DR u=b:=by
 cases J<;>simp only[DQ] at h<;>first
  |(cases h)
  |(split at h
    . obtain rfl:=Aa h;rfl
    cases h)
def bg:Nk->Value->Prop
 |.ptr,.pointer _=>True
 |.ifc,.nilIface|.ifc,.iface _ _=>True
 |.sli,.slice _ _ _=>True
 |.mp,.map _=>True
 |.fn,.nilFunc|.fn,.func _ _ _=>True
 |_,_=>False
theorem Nn(h:DQ k a=some b)(J:VR G w a u):bg k u:=by
 cases J<;>simp only[DQ] at h<;>first
  |(cases h)
  |(split at h
    . rename_i E;subst E;trivial
    cases h)
theorem OY(d:Nat){t:TypeId}{k:Nk}(E:nkP P t=some k)(w:World){u v:Value}(B:bg k u)(J:bg k v)(h:(DR u||DR v)=true):
 (Op.equalIn (d+1) t u v).run P w=.ok (DR u&&DR v) w:=by
 unfold nkP at E;rw[Op.equalIn]
 split at E<;>rename_i b<;>first
  |(cases E;done)
  |(obtain rfl:=Aa E
    simp only[Sem.run_bind,run_underlying b w,Result.andThen_ok]
    cases u<;>first|exact B.elim|skip
    all_goals (cases v<;>first|exact J.elim|skip)
    all_goals first
     |rfl
     |(rename_i p q;cases p<;>cases q<;>first|rfl|(simp[DR] at h;done))
     |(rename_i p _ _ q _ _;cases p<;>cases q<;>first|rfl|(simp[DR] at h;done))
     |(simp[DR] at h;done))
theorem bCk{t:TypeId}{i:Bool}{x y:Operand}{D J:Arg}(S:o.op=.binOp op t x y t2)(U:op=if neg then .neq else .eql)
 (E:nkP P t=some k) (f:i=true->(∃c,x=.const c)\/∃c,y=.const c) (C:bN g x=some D) (Q:bN g y=some J):cV P g o (.eqn neg k i D J):=by
 intro s a G H w v H' L M h;have K:=bM L M C;have z:=bM L M Q;simp only[dU] at h;split at h
 . rename_i p q O Z;have A:=Nn O K;have B:=Nn Z z;have n1:=Xn O K;have n2:=Xn Z z;split at h
   . rename_i R;simp only[Aj,An] at h;obtain⟨rfl,rfl⟩:=h;simp only[Ak] at R;obtain⟨N,d⟩:=R;refine cV.pure' L (u:=.bool (if neg then !(p&&q) else(p&&q))) ?_ (.bool _);generalize T:a.eval x=m at *;generalize V:a.eval y=j at *
     have l:(Op.equal t m j).run P w=.ok (p&&q) w:=by have :=OY (P:=P) 9999 E w A B (by rw[n1,n2];exact N);rw[n1,n2] at this;exact this
     have e:(eqGuard op t x y m j).run P w=.ok () w:=by
      unfold eqGuard;by_cases n:m=.nilIface/\j=.nilIface
      . obtain⟨rfl,rfl⟩:=n
        have b:k=.ifc:=(by cases k<;>first|rfl|exact A.elim);have I:p=true:=n1.symm;have F:q=true:=n2.symm;subst b I F;simp at d
        rcases f d with ⟨c,rfl⟩|⟨c,rfl⟩
        . cases op<;>simp
        cases op<;>simp
      cases m<;>first
       |(cases k<;>exact A.elim)
       |(cases op<;>rfl)
       |(cases j<;>first|exact absurd ⟨rfl,rfl⟩ n|(cases op<;>rfl))
     have r:(Go.binOp op t m j).run P w=.ok (.bool (if neg then !(p&&q) else(p&&q))) w:=by
      subst U
      cases neg with
      |false=>
       cases m<;>first
        |(cases k<;>exact A.elim)
        |(cases j<;>first
           |(cases k<;>first|exact A.elim|exact B.elim)
           |simp[Go.binOp,l])
      |true=>
       cases m<;>first
        |(cases k<;>exact A.elim)
        |(cases j<;>first
           |(cases k<;>first|exact A.elim|exact B.elim)
           |simp[Go.binOp,l])
     simp only[execOp,S,T,V,Sem.run_bind,e,r,Result.andThen_ok];rfl
   cases h
 cases h
end
end
end Go.Av
