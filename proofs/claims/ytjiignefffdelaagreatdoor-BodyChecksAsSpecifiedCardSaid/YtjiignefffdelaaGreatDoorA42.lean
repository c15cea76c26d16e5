/-
  Parts of the proof of statement 4: KRn, KRo
-/
import Derived.Test.YtjiignefffdelaaGreatDoorA41
import Derived.Test.YtjiignefffdelaaGreatDoorA33
import Derived.Test.YtjiignefffdelaaGreatDoorA36
set_option linter.unusedVariables false
set_option maxRecDepth 100000
set_option maxHeartbeats 16000000
namespace Go.Proofs.YtjiignefffdelaaGreatDoor
open Go Go.Av Go.Geo Go.Num
attribute [local congr] aU aN aO aM aW aR aP aL
attribute [local irreducible] FC FOps FD2
def insV (x:Geo.V):List Geo.V→List Geo.V
 |[]=>[x]
 |o::r=>if vltB x o then x::o::r else if o=x then o::r else o::insV x r
theorem zY {x:Geo.V}:∀{S:List Geo.V} {i:Nat},(∀s∈S.take i,vltB x s=false∧s≠x)→insV x S=S.take i++insV x (S.drop i)
 |[],i,_=>by simp
 |s::r,0,_=>by simp
 |s::r,i+1,h=>by
  have h1:=h s (by simp);have ih:=zY (x:=x) (S:=r) (i:=i) fun y hy=>h y (by simp[hy]);rw[insV,h1.1,if_neg (by decide),if_neg h1.2,List.take_succ_cons,List.drop_succ_cons,List.cons_append,←ih]
theorem aCj (x:Geo.V):∀S:List Geo.V,(insV x S).length≤S.length+1
 |[]=>Nat.le_refl _
 |s::r=>by
  have :=aCj x r;unfold insV;split
  · simp
  · split
    · simp
    · simp;omega
theorem uF {x y:Geo.V}:∀{S:List Geo.V},y∈insV x S↔y=x∨y∈S
 |[]=>by simp[insV]
 |s::r=>by
  unfold insV;split
  · simp
  · split
    · rename_i h;subst h;simp
    · rw[List.mem_cons,uF,List.mem_cons]
      constructor
      · rintro(h|h|h)
        · exact .inr (.inl h)
        · exact .inl h
        · exact .inr (.inr h)
      · rintro(h|h|h)
        · exact .inr (.inl h)
        · exact .inl h
        · exact .inr (.inr h)
theorem aCk {x:Geo.V}:∀{S:List Geo.V},S.Pairwise VLt→(insV x S).Pairwise VLt
 |[],_=>by simp[insV]
 |s::r,h=>by
  have h':=List.pairwise_cons.1 h;unfold insV
  cases hv:vltB x s with
  |true=>
   have hq:=mC.1 hv;rw[if_pos rfl,List.pairwise_cons];refine⟨fun y hy=>?_,h⟩
   rcases List.mem_cons.1 hy with rfl|hy
   · exact hq
   · exact VLt.trans hq (h'.1 y hy)
  |false=>
   rw[if_neg (by decide)];by_cases he:s=x
   · rw[if_pos he];exact h
   · rw[if_neg he,List.pairwise_cons]
     have hsq:VLt s x:=by
      rcases VLt.total he with h1|h1
      · exact h1
      · rw[mC.2 h1] at hv;cases hv
     refine⟨fun y hy=>?_,aCk h'.2⟩
     rcases uF.1 hy with rfl|hy
     · exact hsq
     · exact h'.1 y hy
theorem aPr {l C:List Geo.V} (hlen:l.length≤64) (hC:Ord l C) (H:Heap):
 Sound Tryz.prog gv 111 [.aT 0 3 (ivE l)] H (.ret (rowO 3 (ivE C))) H:=by
 have ht0:Nat.blt 0 2=true:=rfl;refine bZ fit bW aUa (Nat.le_of_ble_eq_true rfl) (by simp only[sf,bG ht0]) ?_ H;unfold W111;dsimp only;simp only[↓zP,zG,Nat.reduceLT];refine bB [3] (fun i vs H'=>∃v X,vs=[v]∧Own H' 3 v (ivE X)∧(X=[]→v=.nilsl)∧X.Pairwise VLt∧(∀y,y∈X↔y∈l.take i)∧X.length≤i) 0 l.length (Nat.zero_le _) (by omega) (by decide) ?_ ?_ ?_ ?_ ?_
 · simp only[aC];rfl
 · exact⟨.nilsl,[],by simp only[sm,aC,Nat.reduceEqDiff],.nil _ _,fun _=>rfl,.nil,fun y=>by simp,Nat.le_refl _⟩
 · rintro i f H1 h0 hi hk e1 ⟨v,X,hv,ho,hn,hs,hm,hl⟩
   have f0:f 0=.aT 0 3 (ivE l):=by rw[hk 0 rfl];simp only[aC,ne_eq,Nat.reduceEqDiff,not_false_eq_true,startF,List.getD_cons_zero]
   simp only[↓zP,zG,Nat.reduceLT,Nat.reduceEqDiff,zI,e1,f0,aJ];exact⟨trivial,trivial,congrArg AV.bool (decide_eq_decide.2 (by omega))⟩
 · rintro i f H1 h0 hi hk e1 ⟨v,X,hv,ho,hn,hs,hm,hl⟩
   simp only[sm,List.cons.injEq,and_true] at hv
   have f0:f 0=.aT 0 3 (ivE l):=by rw[hk 0 rfl];simp only[aC,ne_eq,Nat.reduceEqDiff,not_false_eq_true,startF,List.getD_cons_zero]
   have hgi:(ivE l).getD i []=ivC l[i]:=bU hi
   have htk:l.take (i+1)=l.take i++[l[i]]:=by rw[List.take_add_one];simp[hi]
   rw[htk];generalize l[i]=x at *;have dx:(ivC x).length=3:=rfl;refine aI ?_;refine aA fun K hK=>?_;simp only[↓zP,zG,Nat.reduceLT];apply hK;clear hK K;refine aA fun K hK=>?_;simp only[↓zP,zG,Nat.reduceLT];apply hK;clear hK K;refine aA fun K hK=>?_;simp only[↓zP,zG,Nat.reduceLT,zI]
   obtain⟨tg,hX3⟩:∃tg,∀j,j<X.length→f 3=.aT tg 3 (ivE X):=by
    rcases ho with ⟨_,h2⟩|⟨k,hk',_,_⟩
    · exact⟨0,fun j h=>by rw[show X=[] by simpa [ivE] using h2] at h;exact absurd h (Nat.not_lt_zero _)⟩
    · exact⟨k+2,fun j h=>by rw[hv,hk']⟩
   have push:∀(HA:Heap) (w:AV) (Y:List Geo.V) (y:Geo.V),Own HA 3 w (ivE Y)→Y.length<2^21→
    ∃H5,appendA HA 3 24 false w [ivC y]=some (.aT (HA.next+2) 3 (ivE (Y++[y])),H5)∧Own H5 3 (.aT (HA.next+2) 3 (ivE (Y++[y]))) (ivE (Y++[y])):=fun HA w Y y ho hY=>by
    obtain⟨H5,z1,z2,z3,z4,z5⟩:=Has.push (.inr ho) (ys:=[ivC y]) (bytes:=24) rfl (by simp only[ivE,List.length_map,List.length_cons,List.length_nil];omega)
    have e:ivE (Y++[y])=ivE Y++[ivC y]:=by simp only[ivE,List.map_append,List.map_cons,List.map_nil]
    exact⟨H5,by rw[z1,e],by rw[e];exact .inr ⟨HA.next,rfl,by omega,z3⟩⟩
   refine bB [5,6] (fun k vs H'=>∃w Y put,vs=[w,.bool put]∧Own H' 3 w (ivE Y)∧(Y=[]→w=.nilsl)∧Y.length≤k+1∧(if put then Y++X.drop k=insV x X∧∀o∈X.drop k,o≠x else Y=X.take k∧∀s∈X.take k,vltB x s=false∧s≠x)) 0 X.length (Nat.zero_le _) (by omega) (by decide) ?_ ?_ ?_ ?_ ?_
   · simp only[aC];rfl
   · exact⟨.nilsl,[],false,by simp only[sm,aC,Nat.reduceEqDiff],.nil _ _,fun _=>rfl,by simp,by simp⟩
   · rintro k g H2 h0' hk' hkk e2 ⟨w,Y,put,hw,hoY,hnY,hlY,hp⟩
     have g3:g 3=v:=by rw[hkk 3 rfl];simp only[aC,ne_eq,Nat.reduceEqDiff,not_false_eq_true];exact hv
     rcases ho with ⟨h1,h2⟩|⟨k',h1,_,_⟩
     · have hX0:X=[]:=by simpa [ivE] using h2
       subst hX0;simp only[↓zP,zG,Nat.reduceLT,Nat.reduceEqDiff,zI,e2,g3,h1];exact⟨trivial,trivial,congrArg AV.bool (decide_eq_decide.2 (by simp at hk';simp[hk']))⟩
     · simp only[↓zP,zG,Nat.reduceLT,Nat.reduceEqDiff,zI,e2,g3,h1,aJ]
       exact⟨trivial,trivial,congrArg AV.bool (decide_eq_decide.2 (by omega))⟩
   · rintro k g H2 h0' hk' hkk e2 ⟨w,Y,put,hw,hoY,hnY,hlY,hp⟩
     simp only[sm,List.cons.injEq,and_true] at hw
     have g0:g 0=.aT 0 3 (ivE l):=by rw[hkk 0 rfl];simp only[aC,ne_eq,Nat.reduceEqDiff,not_false_eq_true];exact f0
     have g4:g 4=.int .i64 i:=by rw[hkk 4 rfl];simp only[aC,ne_eq,Nat.reduceEqDiff,not_false_eq_true];exact e1
     have g3:g 3=.aT tg 3 (ivE X):=by rw[hkk 3 rfl];simp only[aC,ne_eq,Nat.reduceEqDiff,not_false_eq_true];exact hX3 k hk'
     have hgk:(ivE X).getD k []=ivC X[k]:=bU hk';have dk:(ivC X[k]).length=3:=rfl;have hlX:(ivE X).length=X.length:=aJ _;have hll:(ivE l).length=l.length:=aJ _;have htx:(ivC x).take 3=ivC x:=rfl;have htk3:(ivC X[k]).take 3=ivC X[k]:=rfl;have hls:=yJ x X[k]
     have hXs:X.length≤64:=by omega
     have hdr:X.drop k=X[k]::X.drop (k+1):=List.drop_eq_getElem_cons hk'
     have htk:X.take (k+1)=X.take k++[X[k]]:=by rw[List.take_add_one];simp[hk']
     have hDs:∀d∈X.drop (k+1),VLt X[k] d:=by
      have :=hs.drop (i:=k);rw[hdr] at this;exact(List.pairwise_cons.1 this).1
     have hnp:(∀s∈X.take k,vltB x s=false∧s≠x)→insV x X=X.take k++insV x (X[k]::X.drop (k+1)):=fun h=>by
      have :=zY h
      rwa [hdr] at this
     rw[hdr] at hp;rw[htk]
     have hTl:(X.take k).length≤k:=by rw[List.length_take];exact Nat.min_le_left _ _
     generalize X[k]=o at *;generalize X.take k=T at *;generalize X.drop (k+1)=D at *;refine aI ?_;refine aA fun K1 hK=>?_;refine aQ (by decide) ?_;simp only[↓zP,zG,Nat.reduceLT,Nat.reduceEqDiff,Nat.reduceAdd,zD,reduceCtorEq,zI,g0,g3,g4,e2,aD,hlX,hll,hi,hk',hgi,hgk,dx,dk,htx,htk3];refine cE (hls _) ?_;simp only[↓zP,zG,Nat.reduceLT,Nat.reduceAdd,zD,reduceCtorEq,zI];apply hK;clear hK K1;refine aA fun K1 hK1=>?_
     have key:∀(f':Slt) (HA:Heap) (w:AV) (Y:List Geo.V) (put':Bool),f' 5=w→f' 6=.bool put'→f' 0=.aT 0 3 (ivE l)→f' 3=.aT tg 3 (ivE X)→f' 4=.int .i64 i→f' 7=.int .i64 k→Own HA 3 w (ivE Y)→(Y=[]→w=.nilsl)→Y.length≤k+1→
      (if put' then((o≠x∧Y++o::D=insV x X)∨(o=x∧Y++D=insV x X))∧∀d∈D,d≠x else Y=T∧∀s∈T++[o],vltB x s=false∧s≠x)→K1 f' [] HA:=by
      intro f' HA w Y put' v5 v6 v0 v3 v4 v7 hY hYn hYl hcond;apply hK1;clear hK1 K1;refine aA fun K2 hK2=>?_;refine aQ (by decide) ?_;simp only[↓zP,zG,Nat.reduceLT,Nat.reduceEqDiff,Nat.reduceAdd,zD,reduceCtorEq,zI,v0,v3,v4,v7,aD,hlX,hll,hi,hk',hgi,hgk,dx,dk,htx,htk3,dY];apply hK2;clear hK2 K2;by_cases hox:o=x
      · cases put' with
        |false=>
         simp only[Bool.false_eq_true,if_false] at hcond;exact absurd hox (hcond.2 o (by simp)).2
        |true=>
         simp only[if_true] at hcond;simp only[↓zP,zG,Nat.reduceEqDiff,zI,decide_eq_true hox];refine⟨w,Y,true,by simp only[v5,v6],hY,hYn,by omega,?_⟩;simp only[if_true]
         rcases hcond.1 with h|h
         · exact absurd hox h.1
         · exact⟨h.2,hcond.2⟩
      · obtain⟨H5,z1,z2⟩:=push HA w Y o hY (by omega)
        simp only[↓zP,zG,Nat.reduceLT,Nat.reduceEqDiff,zI,decide_eq_false hox,v5,v3,v7,aD,hlX,hk',hgk,dk,oL dk];rw[show ∀(h:Heap) (x:List AV),elemsOf h 3 (.aT 1 3 [x])=some [x] from fun _ _=>rfl];simp only[z1,aZ];refine⟨_,Y++[o],put',by simp only[v6],z2,fun h=>by simp at h,by simp;omega,?_⟩
        cases put' with
        |true=>
         simp only[if_true] at hcond ⊢
         rcases hcond.1 with h|h
         · exact⟨by rw[←h.2];simp,hcond.2⟩
         · exact absurd h.1 hox
        |false=>
         simp only[Bool.false_eq_true,if_false] at hcond ⊢;rw[hcond.1];exact⟨rfl,hcond.2⟩
     clear hK1;refine aA fun K2 hK2=>?_;refine aQ (by decide) ?_
     cases put with
     |true=>
      simp only[if_true] at hp;simp only[↓zP,zG,Nat.reduceLT,Nat.reduceEqDiff,Nat.reduceAdd,zD,reduceCtorEq,zI,hw,eD];apply hK2;clear hK2 K2;simp only[↓zP,zG]
      exact key _ H2 w Y true (by simp only[aC,ne_eq,Nat.reduceEqDiff,not_false_eq_true];exact hw.1) (by simp only[aC,ne_eq,Nat.reduceEqDiff,not_false_eq_true];exact hw.2) (by simp only[aC,ne_eq,Nat.reduceEqDiff,not_false_eq_true];exact g0) (by simp only[aC,ne_eq,Nat.reduceEqDiff,not_false_eq_true];exact g3) (by simp only[aC,ne_eq,Nat.reduceEqDiff,not_false_eq_true];exact g4) (by simp only[aC,ne_eq,Nat.reduceEqDiff,not_false_eq_true];exact e2) hoY hnY hlY (by
       simp only[if_true]
       exact⟨.inl ⟨hp.2 o (by simp),hp.1⟩,fun d hd=>hp.2 d (by simp[hd])⟩)
     |false=>
      simp only[Bool.false_eq_true,if_false] at hp;obtain⟨hYT,hall⟩:=hp;have hX':=hnp hall
      cases hb:vltB x o with
      |true=>
       have hlt:=mC.1 hb;obtain⟨H5,z1,z2⟩:=push H2 w Y x hoY (by omega);simp only[↓zP,zG,Nat.reduceLT,Nat.reduceEqDiff,Nat.reduceAdd,zD,reduceCtorEq,zI,hw];apply hK2;clear hK2 K2;simp only[↓zP,zG,Nat.reduceLT,Nat.reduceEqDiff,zI,hw,g0,g4,aD,hll,hi,hgi,dx,oL dx];rw[show ∀(h:Heap) (x:List AV),elemsOf h 3 (.aT 1 3 [x])=some [x] from fun _ _=>rfl];simp only[z1,aZ];refine key _ H5 _ (Y++[x]) true (by simp only[aC,ne_eq,Nat.reduceEqDiff,not_false_eq_true]) (by simp only[aC]) (by simp only[aC,ne_eq,Nat.reduceEqDiff,not_false_eq_true];exact g0) (by simp only[aC,ne_eq,Nat.reduceEqDiff,not_false_eq_true];exact g3) (by simp only[aC,ne_eq,Nat.reduceEqDiff,not_false_eq_true];exact g4) (by simp only[aC,ne_eq,Nat.reduceEqDiff,not_false_eq_true];exact e2) z2 (fun h=>by simp at h) (by simp[hYT];omega) ?_;simp only[if_true];refine⟨.inl ⟨fun h=>VLt.irr _ (h▸hlt),?_⟩,fun d hd h=>VLt.irr _ (h▸VLt.trans hlt (hDs d hd))⟩;rw[hX',hYT,insV,if_pos hb];simp
      |false=>
       by_cases hxo:x=o
       · obtain⟨H5,z1,z2⟩:=push H2 w Y x hoY (by omega)
         simp only[↓zP,zG,Nat.reduceLT,Nat.reduceEqDiff,Nat.reduceAdd,zD,reduceCtorEq,zI,hw,g0,g3,g4,e2,aD,hlX,hk',hgk,dk,htk3,hll,hi,hgi,dx,htx,dY,decide_eq_true hxo];apply hK2;clear hK2 K2;simp only[↓zP,zG,Nat.reduceLT,Nat.reduceEqDiff,zI,hw,g0,g4,aD,hll,hi,hgi,dx,oL dx];rw[show ∀(h:Heap) (x:List AV),elemsOf h 3 (.aT 1 3 [x])=some [x] from fun _ _=>rfl];simp only[z1,aZ];refine key _ H5 _ (Y++[x]) true (by simp only[aC,ne_eq,Nat.reduceEqDiff,not_false_eq_true]) (by simp only[aC]) (by simp only[aC,ne_eq,Nat.reduceEqDiff,not_false_eq_true];exact g0) (by simp only[aC,ne_eq,Nat.reduceEqDiff,not_false_eq_true];exact g3) (by simp only[aC,ne_eq,Nat.reduceEqDiff,not_false_eq_true];exact g4) (by simp only[aC,ne_eq,Nat.reduceEqDiff,not_false_eq_true];exact e2) z2 (fun h=>by simp at h) (by simp[hYT];omega) ?_;simp only[if_true];refine⟨.inr ⟨hxo.symm,?_⟩,fun d hd h=>VLt.irr _ (h▸hxo▸hDs d hd)⟩;rw[hX',hYT,insV,hb,if_neg (by decide),if_pos hxo.symm,hxo];simp
       · simp only[↓zP,zG,Nat.reduceLT,Nat.reduceEqDiff,Nat.reduceAdd,zD,reduceCtorEq,zI,hw,g0,g3,g4,e2,aD,hlX,hk',hgk,dk,htk3,hll,hi,hgi,dx,oL dx,dY,decide_eq_false hxo]
         apply hK2;clear hK2 K2;simp only[↓zP,zG];refine key _ H2 w Y false (by simp only[aC,ne_eq,Nat.reduceEqDiff,not_false_eq_true];exact hw.1) (by simp only[aC,ne_eq,Nat.reduceEqDiff,not_false_eq_true];exact hw.2) (by simp only[aC,ne_eq,Nat.reduceEqDiff,not_false_eq_true];exact g0) (by simp only[aC,ne_eq,Nat.reduceEqDiff,not_false_eq_true];exact g3) (by simp only[aC,ne_eq,Nat.reduceEqDiff,not_false_eq_true];exact g4) (by simp only[aC,ne_eq,Nat.reduceEqDiff,not_false_eq_true];exact e2) hoY hnY hlY ?_;simp only[Bool.false_eq_true,if_false];refine⟨hYT,fun s hs'=>?_⟩
         rcases List.mem_append.1 hs' with h|h
         · exact hall s h
         · rw[List.mem_singleton] at h;subst h;exact⟨hb,fun h=>hxo h.symm⟩
   · rintro g H2 hkk ⟨w,Y,put,hw,hoY,hnY,hlY,hp⟩
     simp only[sm,List.cons.injEq,and_true] at hw
     have g0:g 0=.aT 0 3 (ivE l):=by rw[hkk 0 rfl];simp only[aC,ne_eq,Nat.reduceEqDiff,not_false_eq_true];exact f0
     have g4:g 4=.int .i64 i:=by rw[hkk 4 rfl];simp only[aC,ne_eq,Nat.reduceEqDiff,not_false_eq_true];exact e1
     have hll:(ivE l).length=l.length:=aJ _;have htx:(ivC x).take 3=ivC x:=rfl;rw[List.drop_length,List.append_nil,List.take_length] at hp
     have done:∀(HA:Heap) (w':AV) (Y':List Geo.V),Own HA 3 w' (ivE Y')→(Y'=[]→w'=.nilsl)→Y'=insV x X→∃v X',[w']=[v]∧Own HA 3 v (ivE X')∧(X'=[]→v=.nilsl)∧X'.Pairwise VLt∧(∀y,y∈X'↔y∈l.take i++[x])∧X'.length≤i+1:=fun HA w' Y' h1 h2 h3=>
      ⟨w',Y',rfl,h1,h2,h3▸aCk hs,fun y=>by rw[h3,uF,List.mem_append,List.mem_singleton,hm];exact Or.comm,by have :=aCj x X;rw[h3];omega⟩
     simp only[cN];apply hK;clear hK K
     cases put with
     |true=>
      simp only[if_true] at hp;simp only[↓zP,zG,Nat.reduceLT,Nat.reduceEqDiff,zI,hw];exact done H2 w Y hoY hnY hp.1
     |false=>
      simp only[Bool.false_eq_true,if_false] at hp;obtain⟨H5,z1,z2⟩:=push H2 w Y x hoY (by omega);simp only[↓zP,zG,Nat.reduceLT,Nat.reduceEqDiff,zI,hw,g0,g4,aD,hll,hi,hgi,dx,oL dx];rw[show ∀(h:Heap) (x:List AV),elemsOf h 3 (.aT 1 3 [x])=some [x] from fun _ _=>rfl];simp only[z1,aZ];refine done H5 _ _ z2 (fun h=>by simp at h) ?_;have :=zY (x:=x) (S:=X) (i:=X.length) (by rw[List.take_length];exact hp.2);rw[this,List.take_length,List.drop_length,hp.1];rfl
 · rintro f H1 hk ⟨v,X,hv,ho,hn,hs,hm,hl⟩
   simp only[sm,List.cons.injEq,and_true] at hv;rw[List.take_length] at hm;have hXC:X=C:=Ord.uniq ⟨hs,hm⟩ hC;subst hXC;simp only[↓zP,hv];refine⟨rfl,_,by simp only[↓zP,zR];rfl,?_⟩;refine⟨v,0,rfl,?_⟩
   rcases ho with ⟨rfl,h2⟩|⟨k,rfl,_,_⟩
   · rw[show X=[] by simpa [ivE] using h2];exact fun _=>rfl
   · have hne:X≠[]:=fun h=>by cases hn h
     have hfr:freeLL (ivE X)=true:=by have :=bG ht0 X;simpa [AV.free] using this
     have hro:rowO 3 (ivE X)=.aT 0 3 (ivE X):=by simp[rowO,ivE,hne]
     intro nw;rw[hro];simp[shutF,shut1,hfr,tagA]
theorem aGo (tag:Nat) {l C:List Geo.V} (hlen:l.length≤64) (hC:Ord l C) (H:Heap):
 Sound Tryz.prog gv 111 [.aT tag 3 (ivE l)] H (.ret (rowO 3 (ivE C))) H:=(aPr hlen hC H).oO tag
theorem aDk (H:Heap):Sound Tryz.prog gv 111 [.nilsl] H (.ret .nilsl) H:=by
 refine Sp aUa (by simp only[sf]) (by simp only[sf]) ?_ H;unfold W111;dsimp only;simp only[↓zP,zG,Nat.reduceLT];refine bB [3] (fun i vs H'=>vs=[.nilsl]) 0 0 (Nat.zero_le _) (by omega) (by decide) ?_ ?_ ?_ ?_ ?_
 · simp only[aC];rfl
 · simp only[sm,aC,Nat.reduceEqDiff]
 · rintro i f H1 h0 hi hk e1 hv
   have f0:f 0=.nilsl:=by rw[hk 0 rfl];simp only[aC,ne_eq,Nat.reduceEqDiff,not_false_eq_true,startF,List.getD_cons_zero]
   simp only[↓zP,zG,Nat.reduceLT,Nat.reduceEqDiff,zI,e1,f0];exact⟨trivial,trivial,congrArg AV.bool (decide_eq_decide.2 (by omega))⟩
 · rintro i f H1 h0 hi hk
   exact absurd hi (Nat.not_lt_zero _)
 · rintro f H1 hk hv
   simp only[sm,List.cons.injEq,and_true] at hv;simp only[↓zP,hv];refine⟨rfl,_,by simp only[↓zP,zR];rfl,?_⟩;rfl
theorem sF (H:Heap):Sound Tryz.prog gv 112 [.nilsl] H (.ret .nilsl) H:=by
 refine Sp aUb (by simp only[sf]) (by simp only[sf]) ?_ H;unfold W112;dsimp only;simp only[↓zP,zG,Nat.reduceLT];refine bB [3] (fun i vs H'=>vs=[.nilsl]) 0 0 (Nat.zero_le _) (by omega) (by decide) ?_ ?_ ?_ ?_ ?_
 · simp only[aC];rfl
 · simp only[sm,aC,Nat.reduceEqDiff]
 · rintro i f H1 h0 hi hk e1 hv
   have f0:f 0=.nilsl:=by rw[hk 0 rfl];simp only[aC,ne_eq,Nat.reduceEqDiff,not_false_eq_true,startF,List.getD_cons_zero]
   simp only[↓zP,zG,Nat.reduceLT,Nat.reduceEqDiff,zI,e1,f0];exact⟨trivial,trivial,congrArg AV.bool (decide_eq_decide.2 (by omega))⟩
 · rintro i f H1 h0 hi hk
   exact absurd hi (Nat.not_lt_zero _)
 · rintro f H1 hk hv
   simp only[sm,List.cons.injEq,and_true] at hv;simp only[↓zP,hv];refine⟨rfl,_,by simp only[↓zP,zR];rfl,?_⟩;rfl
theorem aWz {l C:List Geo.V} (hlen:l.length<2^30) (hC:Ord l C) {S:List (Geo.V×Int)} {L:Geo.V×Int→List Nat} (hS:Facs C S L) (H:Heap):
 Sound Tryz.prog gv 59 [.aT 0 3 (ivE l)] H (.ret (.agg [(hullO l C S L).1,.int .i64 (hullO l C S L).2])) H:=by
 have ht0:Nat.blt 0 2=true:=rfl;refine bZ fit bW bBo (Nat.le_of_ble_eq_true rfl) (by simp only[sf,bG ht0]) ?_ H;unfold W59;dsimp only;refine aA fun K hK=>?_;simp only[↓zP,zG,Nat.reduceLT];apply hK;clear hK K;refine aA fun K hK=>?_;simp only[↓zP,zG,Nat.reduceLT,Nat.reduceEqDiff,Nat.reduceAdd,zI,aJ];refine⟨fun h=>?_,fun hle=>?_⟩
 · have h64:64<l.length:=by omega
   refine⟨rfl,_,by simp only[↓zP,zR,Nat.reduceEqDiff,Nat.reduceAdd];rfl,?_⟩;rw[show hullO l C S L=(.nilsl,2) from if_pos h64];exact⟨_,2,rfl,fun nw=>rfl⟩
 have h64:¬(64<l.length):=by omega
 apply hK;clear hK K;refine aA fun K hK=>?_;simp only[↓zP,zG,Nat.reduceLT];refine bB [] (fun i _ H=>(∀v∈l.take i,inB v=true)∧H.get 0=some (.cells [.nilsl,.int .i64 0] false)∧1≤H.next) 0 l.length (Nat.zero_le _) (by omega) (by decide) ?_ ?_ ?_ ?_ ?_
 · simp only[aC];rfl
 · exact⟨fun v hv=>by simp at hv,by simp only[zI],by simp only[zI,Nat.reduceLeDiff]⟩
 · rintro i f H1 h0 hi hk e1 ⟨hin,g0,hn⟩
   have f0:f 0=.aT 0 3 (ivE l):=by rw[hk 0 rfl];simp only[aC,ne_eq,Nat.reduceEqDiff,not_false_eq_true,startF,List.getD_cons_zero]
   simp only[↓zP,zG,Nat.reduceLT,Nat.reduceEqDiff,zI,e1,f0,aJ];exact⟨trivial,trivial,congrArg AV.bool (decide_eq_decide.2 (by omega))⟩
 · rintro i f H1 h0 hi hk e1 ⟨hin,g0,hn⟩
   have f0:f 0=.aT 0 3 (ivE l):=by rw[hk 0 rfl];simp only[aC,ne_eq,Nat.reduceEqDiff,not_false_eq_true,startF,List.getD_cons_zero]
   have f2:f 2=.ref 0 0:=by rw[hk 2 rfl];simp only[aC,ne_eq,Nat.reduceEqDiff,not_false_eq_true]
   have hg:=bC hi;have hmem:=List.getElem_mem hi
   have hx:∀v,v∈l.take (i+1)→v∈l.take i∨v=l[i]:=fun v hv=>by
    rw[List.take_add_one,List.mem_append] at hv
    rcases hv with h|h
    · exact .inl h
    · simp[hi] at h;exact .inr h
   generalize l[i]=x at *;refine aI ?_;refine aA fun K2 hK2=>?_;simp only[↓zP,zG,Nat.reduceLT];apply hK2;clear hK2 K2;refine bB [] (fun j _ H=>(∀c,c<j→¬(x.at c>262144)∧¬(x.at c< -262144))∧H.get 0=some (.cells [.nilsl,.int .i64 0] false)∧1≤H.next) 0 3 (Nat.zero_le _) (by decide) (by decide) ?_ ?_ ?_ ?_ ?_
   · simp only[aC];rfl
   · exact⟨fun c hc=>absurd hc (Nat.not_lt_zero _),g0,hn⟩
   · rintro j g H2 h0' hj hk2 e2 hJ
     simp only[↓zP,zG,Nat.reduceLT,zI,e2];exact⟨trivial,trivial,congrArg AV.bool (decide_eq_decide.2 (by omega))⟩
   · rintro j g H2 h0' hj hk2 e2 ⟨hc,g0',hn'⟩
     have u0:g 0=.aT 0 3 (ivE l):=by rw[hk2 0 rfl];simp only[aC,ne_eq,Nat.reduceEqDiff,not_false_eq_true];exact f0
     have u2:g 2=.ref 0 0:=by rw[hk2 2 rfl];simp only[aC,ne_eq,Nat.reduceEqDiff,not_false_eq_true];exact f2
     have u3:g 3=.int .i64 i:=by rw[hk2 3 rfl];simp only[aC,ne_eq,Nat.reduceEqDiff,not_false_eq_true];exact e1
     have hj2:j≤2:=by omega
     have hbad:(x.at j>262144∨x.at j< -262144)→l.all inB=false:=fun h=>by
      rw[←Bool.not_eq_true,List.all_eq_true];intro ha;have :=ha x hmem;simp only[inB,List.all_eq_true,List.mem_range,decide_eq_true_eq] at this;have :=this j hj;omega
     refine aI ?_
     have hdl:1≤(List.drop j (ivC x)).length:=by rw[List.length_drop,aG];omega
     have hdg:(List.drop j (ivC x)).getD 0 undefA=.int .i64 (x.at j):=by rw[←dB x hj];simp[List.getD]
     refine aA fun K2 hK2=>?_;by_cases c1:x.at j>262144
     · have d1:=decide_eq_true c1
       simp only[↓zP,zG,Nat.reduceLT,Nat.reduceEqDiff,zI,e2,u0,u3,aD,aJ,hi,hg,hj,hdl,hdg,d1];apply hK2;clear hK2 K2;simp only[↓zP,zG,Nat.reduceLT,Nat.reduceEqDiff,Nat.reduceAdd,zI,u2,g0'];refine⟨rfl,_,by simp only[↓zP,zR,Nat.reduceEqDiff,Nat.reduceAdd,u2,g0'];rfl,?_⟩;rw[show hullO l C S L=(.nilsl,1) from (if_neg h64).trans (if_pos (hbad (by omega)))];exact⟨_,2,rfl,fun nw=>rfl⟩
     · have d1:=decide_eq_false c1
       by_cases c2:x.at j< -262144
       · have d2:=decide_eq_true c2
         simp only[↓zP,zG,Nat.reduceLT,Nat.reduceEqDiff,zI,e2,u0,u3,aD,aJ,hi,hg,hj,hdl,hdg,d1,d2];apply hK2;clear hK2 K2;simp only[↓zP,zG,Nat.reduceLT,Nat.reduceEqDiff,Nat.reduceAdd,zI,u2,g0'];refine⟨rfl,_,by simp only[↓zP,zR,Nat.reduceEqDiff,Nat.reduceAdd,u2,g0'];rfl,?_⟩;rw[show hullO l C S L=(.nilsl,1) from (if_neg h64).trans (if_pos (hbad (by omega)))];exact⟨_,2,rfl,fun nw=>rfl⟩
       · have d2:=decide_eq_false c2
         simp only[↓zP,zG,Nat.reduceLT,Nat.reduceEqDiff,zI,e2,u0,u3,aD,aJ,hi,hg,hj,hdl,hdg,d1,d2];apply hK2;clear hK2 K2;simp only[↓zP,zG];refine⟨fun c h=>?_,g0',hn'⟩;by_cases hcj:c=j
         · subst hcj;exact⟨c1,c2⟩
         · exact hc c (by omega)
   · rintro f2 H2 hk2 ⟨hc,g0',hn'⟩
     simp only[↓zP];refine⟨fun v hv=>?_,g0',hn'⟩
     rcases hx v hv with h|rfl
     · exact hin v h
     · simp only[inB,List.all_eq_true,List.mem_range,decide_eq_true_eq]
       exact fun c h=>hc c h
 rintro f H1 hk ⟨hin,g0,hn⟩;rw[List.take_length] at hin;have hall:l.all inB=true:=List.all_eq_true.2 hin
 have f0:f 0=.aT 0 3 (ivE l):=by rw[hk 0 rfl];simp only[aC,ne_eq,Nat.reduceEqDiff,not_false_eq_true,startF,List.getD_cons_zero]
 have a2:f 2=.ref 0 0:=by rw[hk 2 rfl];simp only[aC,ne_eq,Nat.reduceEqDiff,not_false_eq_true]
 simp only[↓zP];apply hK;clear hK K;have hNr:∀v∈C,Near (2^18) v:=fun v hv=>uC.1 (hin v ((hC.mem v).1 hv))
 have hCl:C.length≤64:=by
  have :=hU C l (List.Pairwise.imp (fun {a b} (h:VLt a b) (e:a=b)=>VLt.irr b (by rw[e] at h;exact h)) hC.srt) fun v hv=>(hC.mem v).1 hv;omega
 have hpl:∀H,Sound Tryz.prog gv 112 [rowO 3 (ivE C)] H (.ret (facR L S)) H:=fun H=>by
  by_cases hc:C=[]
  · subst hc
    have hSn:S=[]:=List.eq_nil_iff_forall_not_mem.2 fun q hq=>by
     obtain⟨i,j,k,_,_,h,_⟩:=cM ((hS.fl.mem q).1 hq);exact absurd h (Nat.not_lt_zero _)
    subst hSn;exact sF H
  · rw[show rowO 3 (ivE C)=.aT 0 3 (ivE C) from if_neg (by simpa [ivE] using hc)]
    exact vI 0 hNr (Nat.le_refl _) hCl hS H
 have hsd:∀H,Sound Tryz.prog gv 111 [.aT 0 3 (ivE l)] H (.ret (rowO 3 (ivE C))) H:=aGo 0 (by omega) hC;refine aA fun K hK=>?_;simp only[↓zP,zG,Nat.reduceLT,f0];refine bF (hsd _) ?_;simp only[↓zP,zG,Nat.reduceLT];apply hK;clear hK K;refine aA fun K hK=>?_;simp only[↓zP,zG,Nat.reduceLT];refine bF (hpl _) ?_;simp only[↓zP,zG,Nat.reduceLT];apply hK;clear hK K;by_cases hSe:S=[]
 · have hO:hullO l C S L=(.nilsl,120):=(if_neg h64).trans ((if_neg (by rw[hall];decide)).trans (if_pos (by rw[hSe];decide)))
   refine aA fun K hK=>?_;rw[show facR L S=.nilsl by rw[hSe];rfl];simp only[↓zP,zG,Nat.reduceLT,Nat.reduceEqDiff,Nat.reduceAdd,zI,a2,g0];refine⟨rfl,_,by simp only[↓zP,zR,Nat.reduceEqDiff,Nat.reduceAdd,a2,g0];rfl,?_⟩;rw[hO];exact⟨_,2,rfl,fun nw=>rfl⟩
 have hS4:¬S.length<4:=by
  have :=hS.fl.four (tP hC.srt) hSe;omega
 have hfr:facR L S=.aT 0 5 (S.map (facC L)):=by
  rcases cZ L S with ⟨h,_⟩|⟨_,h⟩
  · exact absurd h hSe
  · exact h
 have hCe:ivE C≠[]:=fun h=>hSe (List.eq_nil_iff_forall_not_mem.2 fun q hq=>by
  obtain⟨i,j,k,_,_,h',_⟩:=cM ((hS.fl.mem q).1 hq)
  have :C.length=0:=by rw[←aJ,h];rfl
  omega)
 rw[show rowO 3 (ivE C)=.aT 0 3 (ivE C) from if_neg hCe,hfr];have hb0:((S.length:Int)==0)=false:=beq_eq_false_iff_ne.2 fun h=>hSe (List.eq_nil_of_length_eq_zero (by omega));refine aA fun K hK=>?_;simp only[↓zP,zG,Nat.reduceLT,zI,List.length_map,hb0];apply hK;clear hK K;by_cases hS64:64<S.length
 · have hO:hullO l C S L=(.nilsl,2):=(if_neg h64).trans ((if_neg (by rw[hall];decide)).trans ((if_neg hS4).trans (if_pos hS64)))
   refine aA fun K hK=>?_;simp only[↓zP,zG,Nat.reduceLT,Nat.reduceEqDiff,Nat.reduceAdd,zI,a2,g0,List.length_map];refine⟨fun _=>?_,fun h=>absurd hS64 (by omega)⟩;refine⟨rfl,_,by simp only[↓zP,zR,Nat.reduceEqDiff,Nat.reduceAdd,a2,g0];rfl,?_⟩;rw[hO];exact⟨_,2,rfl,fun nw=>rfl⟩
 refine aA fun K hK=>?_;simp only[↓zP,zG,Nat.reduceLT,Nat.reduceEqDiff,Nat.reduceAdd,zI,List.length_map];refine⟨fun h=>absurd h (by omega),fun _=>?_⟩;apply hK;clear hK K;have hO:hullO l C S L=(rowO 3 (ivE (hullL C S L)),0):=(if_neg h64).trans ((if_neg (by rw[hall];decide)).trans ((if_neg hS4).trans (if_neg hS64)));rw[hO];refine aA fun K hK=>?_;simp only[↓zP,zG,Nat.reduceLT,Nat.reduceEqDiff,Nat.reduceAdd,zI];apply hK;clear hK K;refine aA fun K hK=>?_;simp only[↓zP,zG,Nat.reduceLT]
 have nx0:¬(0=H1.next):=by omega
 generalize hX:(H1.alloc _).set H1.next _=H4
 have y0:H4.get 0=some (.cells [.nilsl,.int .i64 0] false):=by subst hX;rw[Heap.aB,if_neg nx0,Heap.aH,if_neg nx0];exact g0
 have yb:H4.get H1.next=some (.cells [.nilsl,.int .i64 0] false):=by subst hX;rw[Heap.aB,if_pos rfl]
 have yn:H4.next=H1.next+1:=by subst hX;simp only[Heap.aS,Heap.aX]
 clear hX;generalize H1.next=ob at *;have hSl:(S.map (facC L)).length=S.length:=List.length_map ..;refine bB [] (fun i _ H'=>H'.get 0=some (.cells [.nilsl,.int .i64 0] false)∧ob<H'.next∧∃v,H'.get ob=some (.cells [v,.int .i64 0] false)∧Own H' 3 v (ivE (((List.range i).filter (usedB S L)).map fun k=>C.getD k V0))∧(((List.range i).filter (usedB S L)).map (fun k=>C.getD k V0)=[]→v=.nilsl)) 0 C.length (Nat.zero_le _) (by omega) (by decide) ?_ ?_ ?_ ?_ ?_
 · simp only[aC];rfl
 · exact⟨y0,by omega,.nilsl,yb,.nil _ _,fun _=>rfl⟩
 · rintro i f2 H2 h0 hi hk2 e2 _
   have u5:f2 5=.aT 0 3 (ivE C):=by rw[hk2 5 rfl];simp only[aC,ne_eq,Nat.reduceEqDiff,not_false_eq_true]
   simp only[↓zP,zG,Nat.reduceLT,Nat.reduceEqDiff,zI,e2,u5,aJ];exact⟨trivial,trivial,congrArg AV.bool (decide_eq_decide.2 (by omega))⟩
 · rintro i f2 H2 h0 hi hk2 e2 ⟨q0,qn,v,qv,qo,qe⟩
   have u5:f2 5=.aT 0 3 (ivE C):=by rw[hk2 5 rfl];simp only[aC,ne_eq,Nat.reduceEqDiff,not_false_eq_true]
   have u6:f2 6=.aT 0 5 (S.map (facC L)):=by rw[hk2 6 rfl];simp only[aC,ne_eq,Nat.reduceEqDiff,not_false_eq_true]
   have u7:f2 7=.ref ob 0:=by rw[hk2 7 rfl];simp only[aC,ne_eq,Nat.reduceEqDiff,not_false_eq_true]
   refine aI ?_;refine aA fun K hK=>?_;simp only[↓zP,zG,Nat.reduceLT];apply hK;clear hK K;refine aA fun K hK=>?_;simp only[↓zP,zG,Nat.reduceLT];refine bB [9] (fun k vs H'=>H'=H2∧vs=[.bool ((S.take k).any fun q=>(L q).contains i)]) 0 S.length (Nat.zero_le _) (by omega) (by decide) ?_ ?_ ?_ ?_ ?_
   · simp only[aC];rfl
   · exact⟨rfl,by simp only[sm,aC,Nat.reduceEqDiff];rfl⟩
   · rintro k g H3 h0 hk' hk3 e3 _
     have w6:g 6=.aT 0 5 (S.map (facC L)):=by rw[hk3 6 rfl];simp only[aC,ne_eq,Nat.reduceEqDiff,not_false_eq_true];exact u6
     simp only[↓zP,zG,Nat.reduceLT,Nat.reduceEqDiff,zI,e3,w6,hSl];exact⟨trivial,trivial,congrArg AV.bool (decide_eq_decide.2 (by omega))⟩
   · rintro k g H3 h0 hk' hk3 e3 ⟨rfl,hv⟩
     simp only[sm,List.cons.injEq,and_true] at hv
     have w6:g 6=.aT 0 5 (S.map (facC L)):=by rw[hk3 6 rfl];simp only[aC,ne_eq,Nat.reduceEqDiff,not_false_eq_true];exact u6
     have w8:g 8=.int .i64 i:=by rw[hk3 8 rfl];simp only[aC,ne_eq,Nat.reduceEqDiff,not_false_eq_true];exact e2
     have hgq:(S.map (facC L)).getD k []=facC L S[k]:=bU hk'
     have htk:((S.take (k+1)).any fun q=>(L q).contains i)=(((S.take k).any fun q=>(L q).contains i)||(L S[k]).contains i):=by
      rw[List.take_add_one,List.any_append];simp[hk']
     have hqS:=List.getElem_mem hk';rw[htk];generalize S[k]=q at *;generalize ((S.take k).any fun q=>(L q).contains i)=b0 at *
     have hLl:(L q).length<2^30:=by
      obtain⟨s,r,m,e,W,h⟩:=(hS.po _ hqS).ex;rw[h,List.length_map,List.length_range];have h1:=W.le;have h2:=List.length_filter_le (fun k=>decide (Geo.dot q.1 (C.getD k V0)=q.2)) (List.range C.length);rw[List.length_range] at h2;have h3:(onL (fun i=>C.getD i V0) C.length q.1 q.2).length≤C.length:=h2;omega
     have d5:(facC L q).length=5:=rfl;have d4:(List.drop 4 (facC L q)).getD 0 undefA=.aT 0 1 (onE (L q)):=rfl;have dl4:1≤(List.drop 4 (facC L q)).length:=Nat.le_refl _;refine aI ?_;refine aA fun K2 hK2=>?_;simp only[↓zP,zG,Nat.reduceLT];apply hK2;clear hK2 K2;refine bB [9] (fun c vs H'=>H'=H3∧vs=[.bool (b0||((L q).take c).contains i)]) 0 (L q).length (Nat.zero_le _) (by omega) (by decide) ?_ ?_ ?_ ?_ ?_
     · simp only[aC];rfl
     · exact⟨rfl,by simp only[sm,aC,Nat.reduceEqDiff,hv];simp⟩
     · rintro c g2 H4 h0 hc hk4 e4 ⟨rfl,_⟩
       have x6:g2 6=.aT 0 5 (S.map (facC L)):=by rw[hk4 6 rfl];simp only[aC,ne_eq,Nat.reduceEqDiff,not_false_eq_true];exact w6
       have x10:g2 10=.int .i64 k:=by rw[hk4 10 rfl];simp only[aC,ne_eq,Nat.reduceEqDiff,not_false_eq_true];exact e3
       simp only[↓zP,zG,Nat.reduceLT,Nat.reduceEqDiff,zI,e4,x6,x10,aD,hSl,hk',hgq,d4,dl4,bP];exact⟨trivial,trivial,congrArg AV.bool (decide_eq_decide.2 (by omega))⟩
     · rintro c g2 H4 h0 hc hk4 e4 ⟨rfl,hv4⟩
       simp only[sm,List.cons.injEq,and_true] at hv4
       have x6:g2 6=.aT 0 5 (S.map (facC L)):=by rw[hk4 6 rfl];simp only[aC,ne_eq,Nat.reduceEqDiff,not_false_eq_true];exact w6
       have x10:g2 10=.int .i64 k:=by rw[hk4 10 rfl];simp only[aC,ne_eq,Nat.reduceEqDiff,not_false_eq_true];exact e3
       have x8:g2 8=.int .i64 i:=by rw[hk4 8 rfl];simp only[aC,ne_eq,Nat.reduceEqDiff,not_false_eq_true];exact w8
       have hgp:=iB hc
       have htc:((L q).take (c+1)).contains i=(((L q).take c).contains i||(L q)[c]==i):=by
        rw[Bool.eq_iff_iff];simp only[Bool.or_eq_true,List.contains_iff_mem,beq_iff_eq,List.take_add_one,List.getElem?_eq_getElem hc,Option.toList_some,List.mem_append,List.mem_singleton];constructor
        · rintro(h|h)
          · exact .inl h
          · exact .inr h.symm
        · rintro(h|h)
          · exact .inl h
          · exact .inr h.symm
       rw[htc,←Bool.or_assoc];generalize (L q)[c]=p at *;generalize (b0||((L q).take c).contains i)=b1 at *
       have hpi:((p:Int)==(i:Int))=(p==i):=by rw[Bool.eq_iff_iff,beq_iff_eq,beq_iff_eq];omega
       refine aI ?_
       cases b1 with
       |true=>
        simp only[↓zP,zG,Nat.reduceLT,Nat.reduceEqDiff,zI,hv4];exact⟨trivial,rfl⟩
       |false=>
        simp only[↓zP,zG,Nat.reduceLT,Nat.reduceEqDiff,zI,hv4,x6,x10,x8,e4,aD,hSl,hk',hgq,d4,dl4,bP,hc,hgp,hpi];exact⟨trivial,rfl⟩
     · rintro g2 H4 hk4 ⟨rfl,hv4⟩
       rw[List.take_length] at hv4;simp only[↓zP];exact⟨trivial,hv4⟩
   · rintro g H3 hk3 ⟨rfl,hv⟩
     rw[List.take_length] at hv;simp only[sm,List.cons.injEq,and_true] at hv;have hP:(S.any fun q=>(L q).contains i)=usedB S L i:=rfl;rw[hP] at hv
     have w5:g 5=.aT 0 3 (ivE C):=by rw[hk3 5 rfl];simp only[aC,ne_eq,Nat.reduceEqDiff,not_false_eq_true];exact u5
     have w7:g 7=.ref ob 0:=by rw[hk3 7 rfl];simp only[aC,ne_eq,Nat.reduceEqDiff,not_false_eq_true];exact u7
     have w8:g 8=.int .i64 i:=by rw[hk3 8 rfl];simp only[aC,ne_eq,Nat.reduceEqDiff,not_false_eq_true];exact e2
     have hg:=bC hi
     have hgi:C.getD i V0=C[i]:=by simp[List.getD,hi]
     have hfil:((List.range (i+1)).filter (usedB S L)).map (fun k=>C.getD k V0)=((List.range i).filter (usedB S L)).map (fun k=>C.getD k V0)++(if usedB S L i then [C[i]] else []):=by
      rw[List.range_succ,List.filter_append,List.map_append];congr 1;simp only[List.filter_cons,List.filter_nil];split
      · rw[List.map_cons,hgi];rfl
      · rfl
     have hfl:(((List.range i).filter (usedB S L)).map fun k=>C.getD k V0).length≤64:=by
      rw[List.length_map];have :=List.length_filter_le (usedB S L) (List.range i);rw[List.length_range] at this;omega
     simp only[↓zP];apply hK;clear hK K;rw[hfil];generalize ((List.range i).filter (usedB S L)).map (fun k=>C.getD k V0)=els at *;generalize C[i]=x at *
     cases hu:usedB S L i with
     |false=>
      rw[hu] at hv;simp only[↓zP,zG,Nat.reduceLT,zI,hv];exact⟨q0,qn,v,qv,qo,qe⟩
     |true=>
      rw[hu] at hv;simp only[↓zP,zG,Nat.reduceLT,zI,hv];obtain⟨H5,z1,z2,z3,z4,z5⟩:=Has.push (.inr qo) (ys:=[ivC x]) (bytes:=24) rfl (by rw[aJ,List.length_cons,List.length_nil];omega);refine aQ (by decide) ?_;have w2:=(z4 ob (by omega) (by rw[qv];simp)).trans qv;simp only[↓zP,zG,Nat.reduceLT,Nat.reduceEqDiff,Nat.reduceAdd,zD,reduceCtorEq,zI,Nat.reduceLeDiff,w5,w7,w8,qv,aD,aJ,hi,hg,oL (aG x)];rw[show ∀(h:Heap) (x:List AV),elemsOf h 3 (.aT 1 3 [x])=some [x] from fun _ _=>rfl];simp only[z1,aZ,zG,Nat.reduceAdd,zD,zI,Nat.reduceLeDiff,w2];refine⟨by omega,(if_neg (by omega)).trans ((z4 0 (by omega) (by rw[q0];simp)).trans q0),by omega,_,rfl,?_,fun h=>?_⟩
      · rw[show ivE (els++[x])=ivE els++[ivC x] from by simp[ivE]]
        exact .inr ⟨H3.next,rfl,by simp only[Heap.aS];omega,by rw[Heap.aB,if_neg (by omega)];exact z3⟩
      · simp at h
 · rintro f2 H2 hk2 ⟨q0,qn,v,qv,qo,qe⟩
   have u2:f2 2=.ref 0 0:=by rw[hk2 2 rfl];simp only[aC,ne_eq,Nat.reduceEqDiff,not_false_eq_true];exact a2
   have u7:f2 7=.ref ob 0:=by rw[hk2 7 rfl];simp only[aC,ne_eq,Nat.reduceEqDiff,not_false_eq_true]
   simp only[↓zP];apply hK;clear hK K;have hL:((List.range C.length).filter (usedB S L)).map (fun k=>C.getD k V0)=hullL C S L:=rfl;rw[hL] at qo qe;simp only[↓zP,zG,Nat.reduceLT,Nat.reduceEqDiff,Nat.reduceAdd,zI,u2,u7,qv,q0];refine⟨rfl,_,by simp only[↓zP,zR,Nat.reduceEqDiff,Nat.reduceAdd,u2,q0];rfl,?_⟩;refine⟨_,2,rfl,fun nw=>?_⟩
   rcases qo with ⟨rfl,h⟩|⟨k,rfl,h1,h2⟩
   · rw[h];rfl
   · have hne:¬ivE (hullL C S L)=[]:=fun h=>by
      have :=qe (by simpa [ivE] using h);cases this
     rw[show rowO 3 (ivE (hullL C S L))=.aT 0 3 (ivE (hullL C S L)) from if_neg hne];have hfr:freeLL (ivE (hullL C S L))=true:=bR bA _;simp[shutF,mapO,shut1,hfr,tagA,retA,AV.free]
end Go.Proofs.YtjiignefffdelaaGreatDoor
