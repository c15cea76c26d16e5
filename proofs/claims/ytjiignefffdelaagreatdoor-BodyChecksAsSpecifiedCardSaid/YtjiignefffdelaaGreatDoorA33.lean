/-
  Parts of the proof of statement 4: Ko, Kp, Kq, Kr
-/
import Derived.Test.YtjiignefffdelaaGreatDoorA32
import Derived.Test.YtjiignefffdelaaGreatDoorA26
import Derived.Test.YtjiignefffdelaaGreatDoorA25
set_option linter.unusedVariables false
set_option maxRecDepth 100000
set_option maxHeartbeats 16000000
namespace Go.Proofs.YtjiignefffdelaaGreatDoor
open Go Go.Av Go.Geo
attribute [local congr] aU aN aO aM aW aR aP aL
attribute [local irreducible] FC FOps FD2
def dd (l:List Geo.V):Nat→List Geo.V
 |0=>[]
 |j+1=>dd l j++(if 0<j∧l.getD j V0=l.getD (j -1) V0 then [] else [l.getD j V0])
theorem aTt (l:List Geo.V):∀j,(dd l j).length≤j
 |0=>Nat.le_refl _
 |j+1=>by
  have :=aTt l j;simp only[dd,List.length_append];split<;>simp <;>omega
theorem pS (R:List Geo.V):(ivE R).flatten.length=R.length*3:=by
 rw[eV (sz:=3) (fun e he=>?_),aJ];obtain⟨x,_,rfl⟩:=List.mem_map.1 he;rfl
theorem uH:∀{R:List Geo.V} {p:Nat} (h:p<R.length),((ivE R).flatten.drop (p*3)).take 3=ivC R[p]
 |x::R,0,_=>rfl
 |x::R,p+1,h=>by
  have :=uH (R:=R) (p:=p) (by simpa using h);simp only[List.getElem_cons_succ,←this,Nat.add_mul,Nat.one_mul];rw[Nat.add_comm (p*3) 3,←List.drop_drop];rfl
theorem uI:∀{R:List Geo.V} {p:Nat} (h:p<R.length) (x:Geo.V),splice (ivE R).flatten (p*3) (ivC x)=(ivE (R.set p x)).flatten
 |y::R,0,_,x=>rfl
 |y::R,p+1,h,x=>by
  have :=uI (R:=R) (p:=p) (by simpa using h) x;simp only[List.set_cons_succ];simp only[splice,ivE,List.map_cons,List.flatten_cons,aG] at this ⊢;rw[←this]
  have e:(p+1)*3=(p*3)+1+1+1:=by omega
  rw[e];simp only[ivC,List.cons_append,List.nil_append,List.take_succ_cons,List.drop_succ_cons]
theorem aCn:∀(R:List Geo.V) (p:Nat),(ivE R).flatten.take (p*3)=(ivE (R.take p)).flatten
 |[],p=>by simp[ivE]
 |x::R,0=>by simp[ivE]
 |x::R,p+1=>by
  have :=aCn R p;simp only[ivE,List.map_cons,List.flatten_cons,List.take_succ_cons] at this ⊢;rw[←this,show(p+1)*3=p*3+1+1+1 by omega];simp only[ivC,List.cons_append,List.nil_append,List.take_succ_cons]
theorem rW:∀m:Nat,freeL (List.replicate m [AV.int .i64 0,.int .i64 0,.int .i64 0]).flatten=true
 |0=>rfl
 |m+1=>by
  simp only[List.replicate_succ,List.flatten_cons,List.cons_append,List.nil_append,freeL,AV.free,Bool.true_and];exact rW m
theorem aMo (m:Nat):(List.replicate m [AV.int .i64 0,.int .i64 0,.int .i64 0]).flatten.length=m*3:=by
 simp
theorem dY (v w:Geo.V):eqFlat [.i,.i,.i] (ivC v) (ivC w)=some (decide (v=w)):=by
 obtain⟨a,b,c⟩:=v;obtain⟨a',b',c'⟩:=w;simp only[ivC,eqFlat,if_true,Option.map_some,V.mk.injEq,Bool.and_true];congr 1;rw[Bool.eq_iff_iff];simp
theorem aEf {l:List Geo.V} (hlen:l.length≤64) {id:Nat} {H:Heap} (hid:id<H.next) (hg:H.get id=some (.cells (ivE l).flatten true)):
 ∃H' rest,H'.get id=some (.cells ((ivE (dd l l.length)).flatten++rest) true)∧freeL rest=true∧H'.next=H.next∧(∀j,j≠id→H'.get j=H.get j)∧
  Sound Tryz.prog gv 152 [.sl id 3 0 l.length l.length] H (.ret (.sl id 3 0 (dd l l.length).length l.length)) H':=by
 suffices h:∃out H',(out=.ret (.sl id 3 0 (dd l l.length).length l.length)∧∃rest,H'.get id=some (.cells ((ivE (dd l l.length)).flatten++rest) true)∧freeL rest=true∧H'.next=H.next∧(∀j,j≠id→H'.get j=H.get j))∧
  Sound Tryz.prog gv 152 [.sl id 3 0 l.length l.length] H out H' by
  obtain⟨_,H',⟨rfl,rest,h1,h2,h3,h4⟩,hS⟩:=h;exact⟨H',rest,h1,h2,h3,h4,hS⟩
 refine cV fit aUg (Nat.le_of_ble_eq_true rfl) ?_;unfold W152;dsimp only
 have hget:∀k (h:k<l.length),l.getD k V0=l[k]:=fun k h=>by simp[List.getD,h]
 have same:dd l l.length=l→(∃rest,H.get id=some (.cells ((ivE (dd l l.length)).flatten++rest) true)∧freeL rest=true∧H.next=H.next∧(∀j,j≠id→H.get j=H.get j)):=fun h=>
  ⟨[],by rw[h,List.append_nil];exact hg,rfl,rfl,fun _ _=>rfl⟩
 refine aA fun K hK=>?_;simp only[↓zP,zG,Nat.reduceLT];apply hK;clear hK K;refine aA fun K hK=>?_;simp only[↓zP,zG,Nat.reduceLT,Nat.reduceEqDiff,zI];refine⟨fun h2=>?_,fun h2=>?_⟩
 · refine⟨rfl,_,by simp only[↓zP,zR];rfl,?_⟩
   have hd:dd l l.length=l:=by
    match l,h2 with
    |[],_=>rfl
    |[a],_=>simp[dd]
    |a::b::r,h=>simp at h;omega
   exact⟨by rw[hd];rfl,same hd⟩
 · apply hK
   clear hK K
   have hl2:2≤l.length:=by omega
   refine aA fun K hK=>?_;simp only[↓zP,zG,Nat.reduceLT];refine aI ?_;refine dM [3] (fun M vs H'=>∃k,1≤k∧k≤l.length∧M=l.length -k∧vs=[.int .i64 (k:Nat)]∧H'=H∧dd l k=l.take k) (l.length -1) (by rfl) ?_ ?_
   · refine⟨1,Nat.le_refl _,by omega,rfl,rfl,rfl,?_⟩
     match l,hl2 with
     |a::r,_=>simp[dd]
   · rintro M' f H1 hk ⟨k,k1,k2,rfl,hv,rfl,hdd⟩
     simp only[sm,List.cons.injEq,and_true] at hv;refine aA fun K2 hK2=>?_;simp only[↓zP,zG,Nat.reduceLT,Nat.reduceEqDiff,zI,hv,hk 0 rfl];refine⟨fun hlt=>?_,fun hge=>?_⟩
     · apply hK2
       clear hK2 K2
       have hkl:k<l.length:=by omega
       have hk1l:k -1<l.length:=by omega
       have w1:IntKind.i64.wrap ((k:Int) -1)=((k -1:Nat):Int):=(wrap_i64 (by omega) (by omega)).trans (by omega);have fl:=pS l;have ak:=uH hkl;have ak1:=uH hk1l
       have hstep:dd l (k+1)=l.take k++(if l[k]=l[k -1] then [] else [l[k]]):=by
        simp only[dd,hdd,hget k hkl,hget (k -1) hk1l];simp[show 0<k by omega]
       refine aA fun K2 hK2=>?_;refine aI ?_;refine aA fun K3 hK3=>?_;refine aQ (by decide) ?_
       have ck:k*3+3≤l.length*3:=by omega
       have ck1:(k -1)*3+3≤l.length*3:=by omega
       simp only[↓zP,zG,Nat.reduceLT,Nat.reduceEqDiff,Nat.reduceAdd,zD,reduceCtorEq,zI,hv,hk 0 rfl,aD,hkl,hg,w1,hk1l,ak,ak1,dY,fl,ck,ck1];apply hK3;clear hK3 K3;by_cases he:l[k]=l[k -1]
       · have hb:=decide_eq_true he
         have hsl:sliceA 3 (.sl id 3 0 l.length l.length) (some k) none none=some (.sl id 3 (0+k*3) (l.length -k) (l.length -k)):=by
          simp only[sliceA,Option.getD_some,Option.getD_none,true_and];rw[if_pos (by omega),if_pos (by omega),if_neg (by omega)]
         simp only[↓zP,zG,Nat.reduceLT,Nat.reduceEqDiff,Nat.reduceAdd,zI,hb,hv,hk 0 rfl,optNat,aD,hsl,Option.isSome_none];refine aI ?_;rw[if_pos he,List.append_nil] at hstep
         refine dM [3,5] (fun M vs H'=>∃kk k2 R,1≤k2∧k+k2≤l.length∧M=l.length -(k+k2)∧vs=[.int .i64 (kk:Nat),.int .i64 (k2:Nat)]∧kk≤k+k2 -1∧R.length=l.length∧R.take kk=dd l (k+k2)∧kk=(dd l (k+k2)).length∧(∀p,k+k2 -1≤p→p<l.length→R[p]?=l[p]?)∧
          H'.get id=some (.cells (ivE R).flatten true)∧H'.next=H1.next∧∀j,j≠id→H'.get j=H1.get j) (l.length -(k+1)) (by rfl) ?_ ?_
         · refine⟨k,1,l,Nat.le_refl _,by omega,rfl,?_,by omega,rfl,hstep.symm,by rw[hstep];simp;omega,fun p _ _=>rfl,hg,rfl,fun _ _=>rfl⟩
           simp only[sm,aC,Nat.reduceEqDiff,hv];rfl
         · rintro M' f2 H2 hk2 ⟨kk,k2,R,r1,r2,rfl,hv2,r3,r4,r5,r6,r7,r8,r9,r10⟩
           simp only[sm,List.cons.injEq,and_true] at hv2;obtain⟨v3,v5⟩:=hv2;refine aA fun K3 hK3=>?_
           have w0:decide (((k2:Nat):Int)<((l.length -k:Nat):Int))=decide (k+k2<l.length):=by
            rw[decide_eq_decide];omega
           have hdl:=aTt l (k+k2);simp only[↓zP,zG,Nat.reduceLT,Nat.reduceEqDiff,zI,v5,hk2 4 rfl];refine⟨fun hlt=>?_,fun hge=>?_⟩
           · apply hK3
             clear hK3 K3
             have hj:k+k2<l.length:=by omega
             have hjR:k+k2<R.length:=by omega
             have hj1R:k+k2 -1<R.length:=by omega
             have aj:=uH hjR;have aj1:=uH hj1R
             have ej:R[k+k2]=l[k+k2]:=by
              have :=r7 (k+k2) (by omega) hj;rw[List.getElem?_eq_getElem hjR,List.getElem?_eq_getElem hj] at this;exact Option.some.inj this
             have ej1:R[k+k2 -1]=l[k+k2 -1]:=by
              have :=r7 (k+k2 -1) (Nat.le_refl _) (by omega);rw[List.getElem?_eq_getElem hj1R,List.getElem?_eq_getElem (show k+k2 -1<l.length by omega)] at this;exact Option.some.inj this
             rw[ej] at aj;rw[ej1] at aj1
             have hstep2:dd l (k+k2+1)=dd l (k+k2)++(if l[k+k2]=l[k+k2 -1] then [] else [l[k+k2]]):=by
              simp only[dd,hget (k+k2) hj,hget (k+k2 -1) (by omega)];simp[show 0<k+k2 by omega]
             have w1:IntKind.i64.wrap ((k2:Int) -1)=((k2 -1:Nat):Int):=(wrap_i64 (by omega) (by omega)).trans (by omega);have w2:IntKind.i64.wrap ((k2:Int)+1)=((k2+1:Nat):Int):=(wrap_i64 (by omega) (by omega)).trans (by omega);have w3:IntKind.i64.wrap ((kk:Int)+1)=((kk+1:Nat):Int):=(wrap_i64 (by omega) (by omega)).trans (by omega)
             have x1:k*3+k2*3=(k+k2)*3:=by omega
             have x2:k*3+(k2 -1)*3=(k+k2 -1)*3:=by omega
             have fR:=pS R
             have y1:(k+k2)*3+3≤R.length*3:=by omega
             have y2:(k+k2 -1)*3+3≤R.length*3:=by omega
             have y3:kk*3+3≤R.length*3:=by omega
             have z1:k2<l.length -k:=by omega
             have z2:k2 -1<l.length -k:=by omega
             have z3:kk<l.length:=by omega
             refine aA fun K3 hK3=>?_;refine aI ?_;refine aA fun K4 hK4=>?_;refine aQ (by decide) ?_;simp only[↓zP,zG,Nat.reduceLT,Nat.reduceEqDiff,Nat.reduceAdd,zD,reduceCtorEq,zI,v5,hk2 4 rfl,aD,z1,z2,r8,w1,x1,x2,fR,y1,y2,aj,aj1,dY];apply hK4;clear hK4 K4;by_cases he2:l[k+k2]=l[k+k2 -1]
             · have hb2:(!decide (l[k+k2]=l[k+k2 -1]))=false:=by simp[he2]
               simp only[↓zP,zG,hb2];apply hK3;clear hK3 K3;simp only[↓zP,zG,Nat.reduceLT,Nat.reduceEqDiff,zI,v5,v3,w2];rw[if_pos he2,List.append_nil] at hstep2;refine⟨_,by omega,kk,k2+1,R,by omega,by omega,rfl,rfl,by omega,r4,by rw[←Nat.add_assoc,hstep2];exact r5,by rw[←Nat.add_assoc,hstep2];exact r6,fun p p1 p2=>r7 p (by omega) p2,r8,r9,r10⟩
             · have hb2:(!decide (l[k+k2]=l[k+k2 -1]))=true:=by simp[he2]
               have asp:=uI (R:=R) (p:=kk) (by omega) l[k+k2];simp only[splice] at asp;simp only[↓zP,zG,Nat.reduceLT,Nat.reduceEqDiff,zI,hb2,v5,v3,hk2 4 rfl,hk2 0 rfl,hk 0 rfl,aD,z1,z3,r8,x1,fR,y1,y3,aj,w3,oL (aG l[k+k2])];apply hK3;clear hK3 K3;simp only[↓zP,zG,Nat.reduceLT,Nat.reduceEqDiff,zI,v5,w2];rw[if_neg he2] at hstep2;refine⟨_,by omega,kk+1,k2+1,R.set kk l[k+k2],by omega,by omega,rfl,rfl,by omega,by rw[List.length_set];exact r4,?_,?_,fun p p1 p2=>?_,by rw[←asp];rfl,r9,fun j hj=>?_⟩
               · rw[←Nat.add_assoc,hstep2,←r5,List.take_add_one,List.take_set_of_le (Nat.le_refl _)]
                 simp[show kk<R.length by omega]
               · rw[←Nat.add_assoc,hstep2,List.length_append,←r6];rfl
               · rw[List.getElem?_set_ne (by omega)]
                 exact r7 p (by omega) p2
               · rw[if_neg hj];exact r10 j hj
           · have hkn:k+k2=l.length:=by omega
             obtain⟨m,hm⟩:∃m,l.length -kk=m+1:=⟨l.length -kk -1,by omega⟩
             have hs2:sliceA 3 (.sl id 3 0 l.length l.length) (some kk) none none=some (.sl id 3 (kk*3) (m+1) (m+1)):=by
              simp only[sliceA,Option.getD_some,Option.getD_none,true_and];rw[if_pos (by omega),if_pos (by omega),if_neg (by omega),hm,Nat.zero_add]
             have hs3:sliceA 3 (.sl id 3 0 l.length l.length) none (some kk) none=some (.sl id 3 0 kk l.length):=by
              simp only[sliceA,Option.getD_some,Option.getD_none,true_and];rw[if_pos (by omega),if_pos (by omega),if_neg (by omega)];simp
             have fR:=pS R
             have hfit:kk*3+(m+1)*3≤R.length*3:=by omega
             simp only[↓zP,zG,Nat.reduceEqDiff,zI,v3,hk2 0 rfl,hk 0 rfl,aD,hs2,hs3,r8,fR,hfit,Option.isSome_none,Option.isSome_some];rw[hkn] at r5 r6;rw[aCn,r5,List.append_assoc];refine⟨rfl,_,by simp only[↓zP,zR];rfl,?_⟩;refine⟨by rw[←r6];rfl,_,by rw[Heap.aB,if_pos rfl],?_,by rw[Heap.aS];exact r9,fun j hj=>by rw[Heap.aB,if_neg hj];exact r10 j hj⟩
             rw[eC,rW,List.drop_of_length_le (by
              rw[aMo,fR];omega)]
             rfl
       · have hb:=decide_eq_false he
         simp only[↓zP,zG,hb];apply hK2;clear hK2 K2;have w2:IntKind.i64.wrap ((k:Int)+1)=((k+1:Nat):Int):=(wrap_i64 (by omega) (by omega)).trans (by omega);simp only[↓zP,zG,Nat.reduceLT,Nat.reduceEqDiff,zI,hv,w2];refine⟨_,by omega,k+1,by omega,by omega,rfl,rfl,trivial,?_⟩;rw[hstep,if_neg he,List.take_add_one];simp[hkl]
     · apply hK
       clear hK K hK2 K2
       have hkn:k=l.length:=by omega
       subst hkn;rw[List.take_length] at hdd;simp only[↓zP,zG,Nat.reduceLT,Nat.reduceEqDiff,zI,hk 0 rfl];refine⟨rfl,_,by simp only[↓zP,zR];rfl,?_⟩;exact⟨by rw[hdd];rfl,same hdd⟩
theorem tW (l:List Geo.V) (v:Geo.V):∀j,j≤l.length→(v∈dd l j↔v∈l.take j)
 |0,_=>by simp[dd]
 |j+1,h=>by
  have ih:=tW l v j (by omega);have hj:j<l.length:=h
  have hg:l.getD j V0=l[j]:=by simp[List.getD,hj]
  rw[List.take_add_one,List.getElem?_eq_getElem hj];simp only[dd,List.mem_append,ih,hg,Option.toList_some,List.mem_cons,List.not_mem_nil,or_false];split
  · rename_i hc
    obtain⟨h0,he⟩:=hc
    have hj1:j -1<l.length:=by omega
    have hg1:l.getD (j -1) V0=l[j -1]:=by simp[List.getD,hj1]
    simp only[List.not_mem_nil,or_false];refine⟨.inl,fun h=>h.elim id fun e=>?_⟩;rw[e,he,hg1];exact List.mem_take_iff_getElem.2 ⟨j -1,by omega,rfl⟩
  · simp
theorem aFa {l:List Geo.V} (hs:l.Pairwise fun a b=>¬VLt b a):∀j,j≤l.length→(dd l j).Pairwise VLt
 |0,_=>.nil
 |j+1,h=>by
  have ih:=aFa hs j (by omega);have hj:j<l.length:=h
  have hg:l.getD j V0=l[j]:=by simp[List.getD,hj]
  simp only[dd,hg];split
  · rw[List.append_nil];exact ih
  · rename_i hc
    rw[List.pairwise_append];refine⟨ih,List.pairwise_singleton _ _,fun v hv x hx=>?_⟩;simp only[List.mem_cons,List.not_mem_nil,or_false] at hx;subst hx;rw[tW l v j (by omega)] at hv;obtain⟨i,hi,rfl⟩:=List.mem_take_iff_getElem.1 hv
    have hij:i<j:=by omega
    have hj1:j -1<l.length:=by omega
    have hg1:l.getD (j -1) V0=l[j -1]:=by simp[List.getD,hj1]
    rw[hg1] at hc;have hne:l[j]≠l[j -1]:=fun e=>hc ⟨by omega,e⟩;have hp:=List.pairwise_iff_getElem.1 hs;have p1:=hp (j -1) j hj1 hj (by omega);have p2:VLt l[j -1] l[j]:=(VLt.total hne).elim (fun h=>absurd h p1) id;by_cases hi1:i=j -1
    · subst hi1;exact p2
    · have p3:=hp i (j -1) (by omega) hj1 (by omega)
      generalize l[i]=a at *;generalize l[j -1]=b at *;generalize l[j]=c at *;unfold VLt at *;omega
structure Ord (l C:List Geo.V):Prop where
 srt:C.Pairwise VLt
 mem:∀v,v∈C↔v∈l
theorem Ord.uniq {l C C':List Geo.V} (h:Ord l C) (h':Ord l C'):C=C':=
 mB (R:=VLt) VLt.irr (fun h h'=>VLt.trans h h') h.srt h'.srt fun v=>(h.mem v).trans (h'.mem v).symm
theorem Ord.of {l S C:List Geo.V} (hp:S.Perm l) (hs:S.Pairwise fun a b=>¬VLt b a) (h:Ord l C):dd S S.length=C:=
 Ord.uniq (l:=l) ⟨aFa hs _ (Nat.le_refl _),fun v=>by rw[tW S v _ (Nat.le_refl _),List.take_length];exact hp.mem_iff⟩ h
theorem rP (H:Heap):Sound Tryz.prog gv 152 [.nilsl] H (.ret .nilsl) H:=by
 refine eI aUg (Nat.le_of_ble_eq_true rfl) ?_;unfold W152;dsimp only;refine aA fun K hK=>?_;simp only[↓zP,zG,Nat.reduceLT];apply hK;clear hK K;refine aA fun K hK=>?_;simp only[↓zP,zG,Nat.reduceLT,Nat.reduceEqDiff,zI,Int.reduceLT];refine⟨fun h2=>?_,fun h2=>absurd (show((0:Int)<2) by decide) (by simp at h2)⟩;refine⟨rfl,_,by simp only[↓zP,zR];rfl,?_⟩;exact⟨rfl,rfl⟩
theorem wZ {sz:Nat}:∀{els:List (List AV)} (rest:List AV),(∀e∈els,e.length=sz)→chunkF sz els.length (els.flatten++rest)=els
 |[],_,_=>rfl
 |e::els,rest,h=>by
  have he:=h e List.mem_cons_self;simp only[List.length_cons,chunkF,List.flatten_cons,List.append_assoc];rw[List.take_append_of_le_length (by omega),List.take_of_length_le (by omega),List.drop_append_of_le_length (by omega),List.drop_of_length_le (by omega),List.nil_append,wZ rest fun x hx=>h x (List.mem_cons_of_mem _ hx)]
theorem aMf {tag:Nat} (ht:Nat.blt tag 2=true) {l C:List Geo.V} (hlen:l.length≤64) (hC:Ord l C) (H:Heap):
 Sound Tryz.prog gv 108 [.aT tag 3 (ivE l)] H (.ret (rowO 3 (ivE C))) H:=by
 refine bZ fit bW aTy (Nat.le_of_ble_eq_true rfl) (by simp only[sf,bG ht]) ?_ H;unfold W108;dsimp only;obtain⟨H1,v,S,hp,hs,ho,hr,hS⟩:=wF (tag:=tag) hlen (r:=0) (o:=false) (H:=(Heap.mk 0 .nil).alloc (.cells [.aT tag 3 (ivE l)] false)) (by simp) rfl;have hdd:=Ord.of hp hs hC;have hSl:=hp.length_eq;simp only[↓zP,zG,Nat.reduceLT,Nat.reduceEqDiff,zI];refine bF (aJn (tag:=tag) l _) ?_;simp only[];refine bF (hS) ?_
 rcases hr with ⟨rfl,rfl⟩|⟨rid,hne,rfl,hg,hlo,hn⟩
 · simp only[↓zP,zG,Nat.reduceLT]
   refine bF (rP _) ?_;simp only[↓zP,zG,Nat.reduceLT];refine⟨rfl,_,by simp only[↓zP,zR];rfl,?_⟩;rw[←hdd];exact⟨_,0,rfl,fun nw=>rfl⟩
 · obtain⟨H2,rest,c1,c2,c3,c4,hcS⟩:=aEf (by omega) hn hg
   simp only[↓zP,zG,Nat.reduceLT];refine bF (hcS) ?_;simp only[↓zP,zG,Nat.reduceLT];refine⟨rfl,_,by simp only[↓zP,zR];rfl,?_⟩;rw[hdd] at c1 ⊢
   have hCn:¬ivE C=[]:=by
    intro h
    have :C=[]:=by simpa [ivE] using h
    rw[this] at hdd
    match S,hne with
    |x::r,_=>
     have :=(tW (x::r) x _ (Nat.le_refl _)).2 (by simp);rw[hdd] at this;cases this
   refine⟨.sl rid 3 0 C.length S.length,0,rfl,fun nw=>?_⟩
   have hc:H2.cellsAt rid=some ((ivE C).flatten++rest):=by simp[Heap.cellsAt,c1]
   have hu:∀e∈ivE C,e.length=3:=fun e he=>by
    obtain⟨x,_,rfl⟩:=List.mem_map.1 he;rfl
   have hle:Nat.ble (0+C.length*3) ((ivE C).flatten++rest).length=true:=by
    rw[List.length_append,pS];exact Nat.ble_eq_true_of_le (by omega)
   have hfr:freeL ((ivE C).flatten++rest)=true:=by
    rw[eC,eA (show freeLL (ivE C)=true from bR bA C),c2];rfl
   rw[rowO,if_neg hCn];simp only[shutF,shut1,hc,List.drop_zero,hle,hfr,Bool.and_self];rw[show C.length=(ivE C).length from (aJ C).symm,wZ rest hu]
theorem aFg (x m:Int) (hm:m.natAbs<2^62) (H:Heap):Sound Tryz.prog gv 24 [.int .i64 x,.int .i64 m] H (.ret (.bool (decide (x>m)||decide (x< -m)))) H:=by
 refine Sp bDl (by simp only[sf]) (by simp only[sf]) ?_ H;unfold W24;dsimp only;have wn:IntKind.i64.wrap (0 -m)= -m:=(wrap_i64 (by omega) (by omega)).trans (by omega);refine aA fun K hK=>?_;simp only[↓zP,zG,Nat.reduceLT];apply hK;clear hK K;by_cases h:x>m
 · have hb:=decide_eq_true h
   simp only[↓zP,zG,Nat.reduceLT,Nat.reduceEqDiff,zI,hb];refine⟨rfl,_,by simp only[↓zP,zR];rfl,?_⟩;rfl
 · have hb:=decide_eq_false h
   simp only[↓zP,zG,Nat.reduceLT,Nat.reduceEqDiff,zI,hb,wn];refine⟨rfl,_,by simp only[↓zP,zR];rfl,?_⟩;rfl
theorem aMu {t1 t2:Nat} (h1:Nat.blt t1 2=true) (h2:Nat.blt t2 2=true) {a b:List Geo.V} (ha:a.length<2^30) (hb:b.length<2^30) (H:Heap):
 Sound Tryz.prog gv 57 [.aT t1 3 (ivE a),.aT t2 3 (ivE b)] H (.ret (.bool (decide (a=b)))) H:=by
 refine Sp bEh (by simp only[sf,bG h1,bG h2]) (by simp only[sf]) ?_ H;unfold W57;dsimp only;refine aA fun K hK=>?_;simp only[↓zP,zG,Nat.reduceLT];apply hK;clear hK K;refine aA fun K hK=>?_;by_cases hl:a.length=b.length
 · have hn:((a.length:Int) != (b.length:Int))=false:=by simp[hl]
   simp only[↓zP,zG,Nat.reduceLT,Nat.reduceEqDiff,zI,aJ,hn];apply hK;clear hK K;refine aA fun K hK=>?_;refine aA fun K2 hK2=>?_;simp only[↓zP,zG,Nat.reduceLT,Nat.reduceEqDiff,zI];apply hK2;clear hK2 K2;refine bD [] (fun i vs H=>a.take i=b.take i) a.length (by omega) (by decide) ?_ ?_ ?_ ?_ ?_
   · simp only[aC]
   · simp only[aC,ne_eq,Nat.reduceEqDiff,not_false_eq_true,aJ]
   · rfl
   · rintro i f H1 hi hk e1 hab
     have hib:i<b.length:=by omega
     have ga:=bC hi;have gb:=bC hib;refine aI ?_;refine aA fun K2 hK2=>?_;simp only[↓zP,zG,Nat.reduceLT,e1];apply hK2;clear hK2 K2;refine aA fun K2 hK2=>?_;refine aQ (by decide) ?_;simp only[↓zP,zG,Nat.reduceLT,Nat.reduceEqDiff,Nat.reduceAdd,zD,reduceCtorEq,zI,hk 0 rfl,hk 1 rfl,aD,aJ,hi,hib,ga,gb,oL (aG a[i]),oL (aG b[i]),dY];apply hK2;clear hK2 K2;by_cases he:a[i]=b[i]
     · have hb2:(!decide (a[i]=b[i]))=false:=by simp[he]
       simp only[↓zP,zG,hb2];rw[List.take_add_one,List.take_add_one,hab,List.getElem?_eq_getElem hi,List.getElem?_eq_getElem hib,he]
     · have hb2:(!decide (a[i]=b[i]))=true:=by simp[he]
       simp only[↓zP,zG,Nat.reduceLT,hb2];refine⟨rfl,_,by simp only[↓zP,zR];rfl,?_⟩;rw[decide_eq_false]
       · rfl
       · rintro rfl
         exact he rfl
   · rintro f H1 hk hab
     rw[List.take_length,hl,List.take_length] at hab;simp only[↓zP];apply hK;simp only[↓zP,zG,Nat.reduceLT];refine⟨rfl,_,by simp only[↓zP,zR];rfl,?_⟩;rw[decide_eq_true hab];rfl
 · have hn:((a.length:Int) != (b.length:Int))=true:=by simp;omega
   simp only[↓zP,zG,Nat.reduceLT,Nat.reduceEqDiff,zI,aJ,hn];refine⟨rfl,_,by simp only[↓zP,zR];rfl,?_⟩;rw[decide_eq_false]
   · rfl
   · rintro rfl
     exact hl rfl
theorem vD (H:Heap):Sound Tryz.prog gv 109 [.nilsl] H (.ret .nilsl) H:=by
 refine bZ fit bW aTz (Nat.le_of_ble_eq_true rfl) (by simp only[sf]) ?_ H;unfold W109;dsimp only;refine aA fun K hK=>?_;simp only[↓zP,zG,Nat.reduceLT];apply hK;clear hK K;refine aA fun K hK=>?_;simp only[↓zP,zG,Nat.reduceLT,zI];apply hK;clear hK K;refine aA fun K hK=>?_;refine aA fun K2 hK2=>?_;simp only[↓zP,zG,Nat.reduceLT,Nat.reduceEqDiff,zI];apply hK2;clear hK2 K2;refine bD [] (fun i _ H=>H.get 0=some (.map [])∧1≤H.next) 0 (by decide) (by decide) ?_ ?_ ?_ ?_ ?_
 · simp only[aC]
 · simp only[aC,ne_eq,Nat.reduceEqDiff,not_false_eq_true];rfl
 · exact⟨rfl,Nat.le_refl _⟩
 · rintro i f H hi
   exact absurd hi (Nat.not_lt_zero _)
 · rintro f H hk ⟨hmp,hnx⟩
   simp only[↓zP];apply hK;clear hK K;refine aA fun K hK=>?_;simp only[↓zP,zG,Nat.reduceLT];apply hK;clear hK K;refine aA fun K hK=>?_;refine aA fun K2 hK2=>?_;simp only[↓zP,zG,Nat.reduceLT,Nat.reduceEqDiff,hk 3 rfl];refine rQ (by decide) (by simp only[↓zP]) hmp fun bs c mb hbl hbn=>?_;simp only[↓zP];apply hK2;clear hK2 K2;obtain rfl:bs=[]:=List.eq_nil_of_length_eq_zero hbl;generalize hit:H.next=it at *;refine aI ?_;refine dM [10] (fun m vs H'=>vs=[.nilsl]∧H'.get it=some (.iter 0 mb c [])∧H'.get 0=some (.mapf [] [] c mb)) 0 (by rfl) ?_ ?_
   · refine⟨by simp only[sm,aC,Nat.reduceEqDiff],by simp only[zI,hit],?_⟩
     simp only[zI,hit];rw[if_neg (by omega)]
   · rintro m f2 H2 hk2 ⟨hv,gi,g0⟩
     simp only[sm,List.cons.injEq,and_true] at hv;refine aA fun K2 hK2=>?_;simp only[↓zP];refine tF (by decide) (by simp only[↓zP,hk2 73 rfl]) gi g0 (fun hall=>?_) fun j hj hnj=>absurd hj (Nat.not_lt_zero _);simp only[↓zP,zG,Nat.reduceLT];apply hK2;clear hK2 K2;simp only[↓zP,zG];apply hK;clear hK K;simp only[↓zP,zG,Nat.reduceLT,Nat.reduceEqDiff,hv];refine bF (dT Tryz.aPx rfl aAe 157 _) ?_;simp only[↓zP,zG,Nat.reduceEqDiff,hv];refine⟨rfl,_,by simp only[↓zP,zR];rfl,?_⟩;exact⟨_,0,rfl,fun nw=>rfl⟩
end Go.Proofs.YtjiignefffdelaaGreatDoor
