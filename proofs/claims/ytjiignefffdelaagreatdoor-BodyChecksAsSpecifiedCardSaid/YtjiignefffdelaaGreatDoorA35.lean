/-
  Parts of the proof of statement 4: Kx, Ky, Kz, Kza, Kzb
-/
import Derived.Test.YtjiignefffdelaaGreatDoorA34
import Derived.Test.YtjiignefffdelaaGreatDoorA29
set_option linter.unusedVariables false
set_option maxRecDepth 100000
set_option maxHeartbeats 16000000
namespace Go.Proofs.YtjiignefffdelaaGreatDoor
open Go Go.Av Go.Geo
attribute [local congr] aU aN aO aM aW aR aP aL
attribute [local irreducible] FC FOps FD2
def pC (p:Int×Int):List AV:=[.int .i64 p.1,.int .i64 p.2]
theorem uY (p:Int×Int):(pC p).length=2:=rfl
theorem aAh (p:Int×Int):freeL (pC p)=true:=by simp only[pC,sf]
def pCmp (p q:Int×Int):Int:=orZ [cmpZ p.1 q.1,cmpZ p.2 q.2]
theorem aAi (p q:Int×Int):pCmp p q<0↔p.1<q.1∨(p.1=q.1∧p.2<q.2):=by
 unfold pCmp orZ cmpZ
 rcases Int.lt_trichotomy p.1 q.1 with h|h|h
 · simp[h]
 · rcases Int.lt_trichotomy p.2 q.2 with h2|h2|h2
   · simp[h,h2]
   · simp[h,h2]
   · simp[h,h2,Int.lt_asymm h2]
 · simp[h,Int.lt_asymm h,Int.ne_of_gt h]
theorem aIn (p q:Int×Int) (H:Heap):Sound Tryz.prog gv 196 [.agg (pC p),.agg (pC q)] H (.ret (.int .i64 (pCmp p q))) H:=by
 refine Sp aZz (by simp only[sf,aAh]) (by simp only[sf]) ?_ H;unfold W196;dsimp only;refine aA fun K hK=>?_;simp only[↓zP,zG,Nat.reduceLT,Nat.reduceEqDiff,zI];apply hK;clear hK K;refine aA fun K hK=>?_;refine aQ (by decide) ?_;simp only[↓zP,zG,Nat.reduceLT,Nat.reduceEqDiff,Nat.reduceAdd,zD,reduceCtorEq,zI,Nat.reduceLeDiff,pC,fS];refine cE (cX p.1 q.1 _) ?_;simp only[↓zP,zG,Nat.reduceLT,Nat.reduceEqDiff,Nat.reduceAdd,zD,reduceCtorEq,zI,fS];refine cE (cX p.2 q.2 _) ?_;simp only[↓zP,zG,Nat.reduceLT,Nat.reduceEqDiff,Nat.reduceAdd,zD,reduceCtorEq,zI];have hor:=aNb [cmpZ p.1 q.1,cmpZ p.2 q.2] (by simp);simp only[intsE,sm] at hor;refine cE (hor _) ?_;simp only[↓zP,zG,Nat.reduceLT,Nat.reduceEqDiff,Nat.reduceAdd,zD,reduceCtorEq,zI];apply hK;clear hK K;simp only[↓zP];exact⟨rfl,_,by simp only[↓zP,zR];rfl,rfl⟩
def pV (q:Int×Int):Vec 2:=⟨[q.1,q.2],rfl⟩
def unpV (x:Vec 2):Int×Int:=(x.1.getD 0 0,x.1.getD 1 0)
theorem aAj (x:Vec 2):pV (unpV x)=x:=by
 obtain⟨l,hl⟩:=x
 match l,hl with
 |[a,b],_=>rfl
theorem aHr (q:Int×Int):encA (pV q)=pC q:=rfl
theorem aAn:∀S:List (Int×Int),(rowV (S.map pV)).map (AV.int .i64)=(S.map pC).flatten
 |[]=>rfl
 |q::S=>by
  have :=aAn S;simp only[rowV,List.map_cons,List.flatMap_cons,List.map_append,List.flatten_cons] at this ⊢;rw[this];rfl
theorem bFo:Go.Sort.SWO (Go.Proofs.ltOf fun x y:Vec 2=>pCmp (unpV x) (unpV y)) where
 irrefl x:=by simp only[Go.Proofs.ltOf,aAi,decide_eq_false_iff_not];omega
 trans x y z h1 h2:=by
  simp only[Go.Proofs.ltOf,aAi,decide_eq_true_eq] at *;omega
 ntrans x y z h1 h2:=by
  simp only[Go.Proofs.ltOf,aAi,decide_eq_false_iff_not] at *;omega
theorem aIj:FnOK Tryz.prog 195:=⟨_,Tryz.func195,by kernel_rfl,by kernel_rfl⟩
theorem aPw (d:List (Vec 2)) (hd:d.length<4611686018427387904):
 ∃d':List (Vec 2),d'.Perm d∧(d'.Pairwise fun a b=>¬pCmp (unpV b) (unpV a)<0)∧∀(H:Heap) (id:Nat) (opn:Bool),H.get id=some (.cells ((rowV d).map (AV.int .i64)) opn)→
  Sound Tryz.prog gv 195 [.sl id 2 0 d.length d.length,.func (.func 196) [] []] H (.ret (.tup [])) (H.set id (.cells ((rowV d').map (AV.int .i64)) opn)):=
 nO (fun _=>rfl) Tryz.aUl (by decide) Tryz.isAgg23 Tryz.sizeOf23 rfl aIj (aIn (0,0) (0,0) ⟨0,.nil⟩).1 bFo (fun x y=>by
  have :=aIn (unpV x) (unpV y) ⟨0,.nil⟩
  rwa [←aHr,←aHr,aAj,aAj] at this) d hd
def RowE (H:Heap) (x:Nat) (v:AV) (l:List (Int×Int)):Prop:=
 (l=[]∧v=.nilsl)∨∃rid,l≠[]∧v=.sl rid 2 0 l.length l.length∧H.get rid=some (.cells (l.map pC).flatten true)∧¬(x=rid)∧rid<H.next
theorem RowE.push {H:Heap} {x:Nat} {v:AV} {l:List (Int×Int)} (h:RowE H x v l) (hlo:x<H.next) (hlen:l.length<2^30) (p:Int×Int):
 ∃v' H',appendA H 2 16 true v [pC p]=some (v',H')∧RowE H' x v' (l++[p])∧H'.next=H.next+1∧H'.get x=H.get x:=by
 rcases h with ⟨rfl,rfl⟩|⟨rid,hne,rfl,hg,h1,h2⟩
 · exact⟨_,_,lC rfl (by simp),.inr ⟨H.next,by simp,rfl,by rw[Heap.aH,if_pos rfl];rfl,by omega,by simp⟩,by simp,by rw[Heap.aH,if_neg (by omega)]⟩
 · have hl4:(l.map pC).flatten.length=l.length*2:=by
    rw[eV (sz:=2) (fun e he=>?_),List.length_map];obtain⟨x,_,rfl⟩:=List.mem_map.1 he;rfl
   refine⟨_,_,lD hg hl4 rfl (by simp only[List.length_cons,List.length_nil];omega) (by decide),.inr ⟨H.next,by simp,by simp,?_,by omega,by simp⟩,by simp,by rw[Heap.aH,Heap.aS,if_neg (by omega),Heap.aB,if_neg (by omega)]⟩;rw[Heap.aH,Heap.aS,if_pos rfl];simp
theorem RowE.behind {H H':Heap} {x:Nat} {v:AV} {l:List (Int×Int)} (h:RowE H x v l) (hn:H'.next=H.next+1) (hs:∀j,j<H.next→H'.get j=H.get j):RowE H' H.next v l:=by
 rcases h with h|⟨rid,h0,h1,h2,h3,h4⟩
 · exact .inl h
 · exact .inr ⟨rid,h0,h1,(hs _ h4).trans h2,by omega,by omega⟩
def edN (l:List Nat) (j:Nat):List (Int×Int):=(List.range j).flatMap fun i=>if l.getD i 0<l.getD ((i+1)%l.length) 0 then [((l.getD i 0:Int),(l.getD ((i+1)%l.length) 0:Int))] else []
def edL (S:List (Geo.V×Int)) (L:Geo.V×Int→List Nat):List (Int×Int):=S.flatMap fun q=>edN (L q) (L q).length
theorem aMt {tag:Nat} (ht:Nat.blt tag 2=true) {l:List Geo.V} {M:Nat} (hl:∀v∈l,Near M v) (hM:M≤2^18) (hlen:l.length≤64) {S:List (Geo.V×Int)} {L:Geo.V×Int→List Nat} (hS:Facs l S L) (hne:S≠[]) (hS64:S.length≤64):
 ∃E:List (Int×Int),E.Perm (edL S L)∧(E.Pairwise fun a b=>¬pCmp b a<0)∧∀H,Sound Tryz.prog gv 142 [.agg [.aT tag 3 (ivE l)]] H (.ret (rowO 2 (E.map pC))) H:=by
 have hL64:∀q∈S,(L q).length≤64:=fun q hq=>by
  obtain⟨s,r,m,e,W,h⟩:=(hS.po q hq).ex;rw[h,List.length_map,List.length_range];have h1:=W.le;have h2:=List.length_filter_le (fun k=>decide (Geo.dot q.1 (l.getD k V0)=q.2)) (List.range l.length);rw[List.length_range] at h2;have h3:(onL (fun i=>l.getD i V0) l.length q.1 q.2).length≤l.length:=h2;omega
 have hflat:∀T:List (Geo.V×Int),(∀q∈T,(L q).length≤64)→(edL T L).length≤T.length*64:=fun T=>by
  induction T with
  |nil=>intro _;simp[edL]
  |cons q T ih=>
   intro h;have h1:=ih fun x hx=>h x (List.mem_cons_of_mem _ hx);have h2:=h q List.mem_cons_self;have h3:=dZ (fun i=>if(L q).getD i 0<(L q).getD ((i+1)%(L q).length) 0 then [((((L q).getD i 0:Nat):Int),(((L q).getD ((i+1)%(L q).length) 0:Nat):Int))] else []) 1 (fun i=>by split<;>simp) (List.range (L q).length);rw[List.length_range,Nat.mul_one] at h3;have h4:(edN (L q) (L q).length).length≤(L q).length:=h3;simp only[edL,List.flatMap_cons,List.length_append,List.length_cons,Nat.add_mul,Nat.one_mul] at h1 ⊢;omega
 have edL_take:∀i,(edL (S.take i) L).length<2^29:=fun i=>by
  have h1:=hflat (S.take i) fun q hq=>hL64 q (List.mem_of_mem_take hq)
  have h2:(S.take i).length≤S.length:=by rw[List.length_take];omega
  omega
 obtain⟨d',q1,q2,q3⟩:=aPw ((edL S L).map pV) (by
  have h1:=hflat S hL64;rw[List.length_map]
  omega)
 refine⟨d'.map unpV,?_,?_,fun H=>?_⟩
 · have h1:=q1.map unpV
   rwa [List.map_map,show(unpV∘pV)=id from rfl,List.map_id] at h1
 · rw[List.pairwise_map];exact q2
 · refine bZ fit bW aYu (Nat.le_of_ble_eq_true rfl) (by simp only[sf,bG ht]) ?_ H
   unfold W142;dsimp only;refine aA fun K hK=>?_;simp only[↓zP,zG,Nat.reduceLT,zI];apply hK;clear hK K;refine aA fun K hK=>?_;simp only[↓zP,zG,Nat.reduceLT];apply hK;clear hK K;have hF:=fun H=>qV ht hl hM hlen hS hne H;refine aA fun K hK=>?_;refine aA fun K2 hK2=>?_;simp only[↓zP,zG,Nat.reduceLT,Nat.reduceEqDiff,zI];refine bF (hF _) ?_;simp only[↓zP,zG,Nat.reduceLT,Nat.reduceAdd,zI,List.length_map];apply hK2;clear hK2 K2;refine bD [3] (fun i vs H'=>∃v x,vs=[v]∧RowE H' x v (edL (S.take i) L)∧1≤H'.next) S.length (by omega) (by decide) ?_ ?_ ?_ ?_ ?_
   · simp only[aC]
   · simp only[aC,ne_eq,Nat.reduceEqDiff,not_false_eq_true]
   · exact⟨.nilsl,0,by simp only[sm,aC,Nat.reduceEqDiff],.inl ⟨rfl,rfl⟩,by simp only[zI,Nat.reduceAdd,Nat.reduceLeDiff]⟩
   · rintro i f H1 hi hk e1 ⟨v,x,hv,hr,hn⟩
     simp only[sm,List.cons.injEq,and_true] at hv;have hg:(S.map (facC L)).getD i []=facC L S[i]:=bU hi
     have htk:edL (S.take (i+1)) L=edL (S.take i) L++edN (L S[i]) (L S[i]).length:=by
      simp only[edL];rw[List.take_add_one,List.flatMap_append];simp[hi]
     have hel:=edL_take i;have hLl:=hL64 _ (List.getElem_mem hi);rw[htk];generalize edL (S.take i) L=E0 at *;generalize S[i]=q at *;have p5:(facC L q).length=5:=rfl;have pa:(facC L q).getD 4 undefA=.aT 0 1 (onE (L q)):=rfl;refine aI ?_;refine aA fun K2 hK2=>?_;simp only[↓zP,zG,Nat.reduceLT,Nat.reduceEqDiff,Nat.reduceAdd,zI,e1,hk 10 rfl,aD,List.length_map,hi,hg,oL p5];apply hK2;clear hK2 K2;generalize hX:(H1.alloc _).set H1.next _=H4
     have yn:H4.next=H1.next+1:=by subst hX;simp only[Heap.aS,Heap.aX]
     have y5:H4.get H1.next=some (.cells (facC L q) false):=by subst hX;rw[Heap.aB,if_pos rfl]
     have yr:RowE H4 H1.next v E0:=hr.behind yn fun j hj=>by subst hX;rw[Heap.aB,if_neg (by omega),Heap.aH,if_neg (by omega)]
     clear hX;generalize H1.next=r5 at *;refine aA fun K2 hK2=>?_;simp only[↓zP,zG,Nat.reduceLT,Nat.reduceAdd,zI,y5,p5,pa,bP];apply hK2;clear hK2 K2;refine bD [3] (fun j vs H'=>∃v,vs=[v]∧RowE H' r5 v (E0++edN (L q) j)∧r5<H'.next∧H'.get r5=some (.cells (facC L q) false)) (L q).length (by omega) (by decide) ?_ ?_ ?_ ?_ ?_
     · simp only[aC]
     · simp only[aC,ne_eq,Nat.reduceEqDiff,not_false_eq_true]
     · exact⟨v,by simp only[sm,aC,Nat.reduceEqDiff];rw[hv],by simpa [edN] using yr,by omega,y5⟩
     · rintro j f2 H2 hj hk2 e2 ⟨v2,hv2,hr2,hn2,g5⟩
       simp only[sm,List.cons.injEq,and_true] at hv2;refine aI ?_;refine aA fun K2 hK2=>?_;have hgj:=iB hj;simp only[↓zP,zG,Nat.reduceLT,Nat.reduceEqDiff,zI,e2,hk2 17 rfl,aD,bP,hj,hgj];apply hK2;clear hK2 K2;refine aA fun K2 hK2=>?_;refine aQ (by decide) ?_;have wj:IntKind.i64.wrap ((j:Int)+1)=((j+1:Nat):Int):=(wrap_i64 (by omega) (by omega)).trans (by omega)
       have nz:¬(((L q).length:Int)=0):=by omega
       have hm:(j+1)%(L q).length<(L q).length:=Nat.mod_lt _ (by omega);have tm:((j+1:Nat):Int).tmod ((L q).length:Int)=(((j+1)%(L q).length:Nat):Int):=rfl;have hgb:=iB hm
       have hed:edN (L q) (j+1)=edN (L q) j++(if(L q)[j]<(L q)[(j+1)%(L q).length] then [((((L q)[j]:Nat):Int),(((L q)[(j+1)%(L q).length]:Nat):Int))] else []):=by
        simp only[edN];rw[List.range_succ,List.flatMap_append];simp[List.getD,hj,hm]
       have hedl:(edN (L q) j).length≤j:=by
        have :=dZ (fun i=>if(L q).getD i 0<(L q).getD ((i+1)%(L q).length) 0 then [((((L q).getD i 0:Nat):Int),(((L q).getD ((i+1)%(L q).length) 0:Nat):Int))] else []) 1 (fun i=>by split<;>simp) (List.range j);rw[List.length_range,Nat.mul_one] at this;exact this
       have hed2:E0++edN (L q) (j+1)=(E0++edN (L q) j)++(if(L q)[j]<(L q)[(j+1)%(L q).length] then [((((L q)[j]:Nat):Int),(((L q)[(j+1)%(L q).length]:Nat):Int))] else []):=by rw[hed,List.append_assoc]
       have hEl:(E0++edN (L q) j).length<2^30:=by rw[List.length_append];omega
       generalize hE1:E0++edN (L q) j=E1 at hr2 hed2 hEl;clear hed;simp only[↓zP,zG,Nat.reduceLT,Nat.reduceEqDiff,Nat.reduceAdd,zD,reduceCtorEq,zI,hk2 5 rfl,g5,p5,pa,aD,bP,wj,nz,tm,hm,hgb];apply hK2;clear hK2 K2;generalize (L q)[(j+1)%(L q).length]=b at *;generalize (L q)[j]=a at *;by_cases hab:a<b
       · have hd:decide ((a:Int)<(b:Int))=true:=decide_eq_true (by omega)
         obtain⟨v',H5,z1,z2,z3,z4⟩:=hr2.push hn2 hEl ((a:Int),(b:Int));have hpc:[AV.int .i64 (a:Int),.int .i64 (b:Int)]=pC ((a:Int),(b:Int)):=rfl;simp only[↓zP,zG,Nat.reduceLT,Nat.reduceEqDiff,Nat.reduceAdd,zI,Nat.reduceLeDiff,hd,hv2,hpc,uY];rw[show ∀(h:Heap) (x:List AV),elemsOf h 2 (.aT 1 2 [x])=some [x] from fun _ _=>rfl];simp only[z1,aZ];rw[hed2,if_pos hab];exact⟨v',rfl,z2,by omega,z4.trans g5⟩
       · have hd:decide ((a:Int)<(b:Int))=false:=decide_eq_false (by omega)
         simp only[↓zP,zG,Nat.reduceLT,Nat.reduceEqDiff,zI,hd,hv2];rw[hed2,if_neg hab,List.append_nil];exact⟨v2,rfl,hr2,hn2,g5⟩
     · rintro f2 H2 hk2 ⟨v2,hv2,hr2,hn2,g5⟩
       simp only[sm,List.cons.injEq,and_true] at hv2;simp only[↓zP];exact⟨v2,r5,by simp only[sm];rw[hv2],hr2,by omega⟩
   · rintro f H1 hk ⟨v,x,hv,hr,hn⟩
     simp only[sm,List.cons.injEq,and_true] at hv;rw[List.take_length] at hr;simp only[↓zP];apply hK;clear hK K;have hSl:edL S L≠[]→(edL S L).map pV≠[]:=fun h e=>h (by simpa using e)
     rcases hr with ⟨hE,rfl⟩|⟨rid,hEn,rfl,hg,hx,hrn⟩
     · refine aA fun K hK=>?_
       simp only[↓zP,zG,Nat.reduceLT,hv];refine bF (dT Tryz.aUl rfl aIj 196 _) ?_;simp only[↓zP];apply hK;clear hK K;simp only[↓zP,zG,Nat.reduceLT,Nat.reduceEqDiff,hv];refine⟨rfl,_,by simp only[↓zP,zR];rfl,?_⟩
       have hd0:d'=[]:=by
        rw[hE] at q1;exact List.Perm.eq_nil q1
       rw[hd0];exact⟨_,0,rfl,fun nw=>rfl⟩
     · have hgr:H1.get rid=some (.cells ((rowV ((edL S L).map pV)).map (AV.int .i64)) true):=by rw[hg,aAn]
       have hc:=q3 H1 rid true hgr;rw[List.length_map] at hc;refine aA fun K hK=>?_;simp only[↓zP,zG,Nat.reduceLT,hv];refine bF (hc) ?_;simp only[↓zP];apply hK;clear hK K;simp only[↓zP,zG,Nat.reduceLT,Nat.reduceEqDiff,hv]
       have hd':d'=(d'.map unpV).map pV:=by rw[List.map_map];exact(List.map_congr_left (g:=id) (fun x _=>aAj x)).trans (List.map_id d') |>.symm
       have hdl:((d'.map unpV).map pC).length=(edL S L).length:=by rw[List.length_map,List.length_map,q1.length_eq,List.length_map]
       rw[show(rowV d').map (AV.int .i64)=((d'.map unpV).map pC).flatten from by rw[←aAn,←hd']];refine⟨rfl,_,by simp only[↓zP,zR];rfl,?_⟩;have hSn:¬((d'.map unpV).map pC=[]):=fun h=>hEn (List.eq_nil_of_length_eq_zero (by rw[←hdl,h];rfl));refine⟨_,0,rfl,fun nw=>?_⟩;rw[←hdl,rowO,if_neg hSn];refine aDq (by rw[Heap.aB,if_pos rfl]) (fun e he=>?_) (bR aAh _) nw;obtain⟨q,_,rfl⟩:=List.mem_map.1 he;rfl
def edV (l:List Geo.V) (p:Nat×Nat):Geo.V:=Geo.sub (l.getD p.2 V0) (l.getD p.1 V0)
def pN (p:Nat×Nat):Int×Int:=(p.1,p.2)
theorem aJu {tag:Nat} (ht:Nat.blt tag 2=true) {l:List Geo.V} {M:Nat} (hl:∀v∈l,Near M v) (hM:M≤2^18) {E:List (Nat×Nat)} (hEl:E.length≤2^20) (hE0:E≠[]) (hE:∀p∈E,p.1<l.length∧p.2<l.length)
 (hS:∀H,Sound Tryz.prog gv 142 [.agg [.aT tag 3 (ivE l)]] H (.ret (rowO 2 ((E.map pN).map pC))) H) (H:Heap):
 Sound Tryz.prog gv 105 [.agg [.aT tag 3 (ivE l)]] H (.ret (.aT 0 3 (ivE (E.map (edV l))))) H:=by
 refine bZ fit bW aXy (Nat.le_of_ble_eq_true rfl) (by simp only[sf,bG ht]) ?_ H;unfold W105;dsimp only
 have hget:∀k (h:k<l.length),l.getD k V0=l[k]:=fun k h=>by simp[List.getD,h]
 rw[show rowO 2 ((E.map pN).map pC)=.aT 0 2 ((E.map pN).map pC) from if_neg (by simpa using hE0)] at hS;refine aA fun K hK=>?_;simp only[↓zP,zG,Nat.reduceLT,zI];apply hK;clear hK K;refine aA fun K hK=>?_;simp only[↓zP,zG,Nat.reduceLT];apply hK;clear hK K;refine aA fun K hK=>?_;refine aA fun K2 hK2=>?_;simp only[↓zP,zG,Nat.reduceLT,Nat.reduceEqDiff,zI];refine bF (hS _) ?_;simp only[↓zP,zG,Nat.reduceLT,List.length_map];apply hK2;clear hK2 K2;refine bD [3] (fun i vs H'=>∃v,vs=[v]∧Own H' 3 v (ivE ((E.take i).map (edV l)))∧1≤H'.next∧H'.get 0=some (.cells [.aT tag 3 (ivE l)] false)) E.length (by omega) (by decide) ?_ ?_ ?_ ?_ ?_
 · simp only[aC]
 · simp only[aC,ne_eq,Nat.reduceEqDiff,not_false_eq_true]
 · exact⟨.nilsl,by simp only[sm,aC,Nat.reduceEqDiff],.nil _ _,by simp only[zI,Nat.reduceLeDiff],by simp only[zI]⟩
 · rintro i f H1 hi hk e1 ⟨v,hv,ho,hn,g0⟩
   simp only[sm,List.cons.injEq,and_true] at hv
   have hg:((E.map pN).map pC).getD i []=pC (pN E[i]):=by rw[List.map_map];exact bU hi
   obtain⟨ha,hb⟩:=hE _ (List.getElem_mem hi)
   have htk:(E.take (i+1)).map (edV l)=(E.take i).map (edV l)++[edV l E[i]]:=by
    rw[List.take_add_one,List.map_append];simp[hi]
   have htl:((E.take i).map (edV l)).length≤2^20:=by simp;omega
   rw[htk];generalize (E.take i).map (edV l)=els at *;generalize E[i]=p at *
   have nx0:¬(0=H1.next):=by omega
   have ga:=bC ha;have gb:=bC hb;have na:=hl _ (List.getElem_mem ha);have nb:=hl _ (List.getElem_mem hb)
   have hsub:Geo.sub l[p.2] l[p.1]=edV l p:=by simp only[edV,hget p.2 hb,hget p.1 ha]
   have q0:(pC (pN p)).getD 0 undefA=.int .i64 (p.1:Int):=rfl;have q1:(pC (pN p)).getD 1 undefA=.int .i64 (p.2:Int):=rfl;refine aI ?_;refine aA fun K2 hK2=>?_;simp only[↓zP,zG,Nat.reduceLT,Nat.reduceEqDiff,Nat.reduceAdd,zI,e1,hk 7 rfl,aD,List.length_map,hi,hg,oL (uY (pN p))];apply hK2;clear hK2 K2;generalize hX:(H1.alloc _).set H1.next _=H4
   have u0:H4.get 0=some (.cells [.aT tag 3 (ivE l)] false):=by subst hX;rw[Heap.aB,if_neg nx0,Heap.aH,if_neg nx0];exact g0
   have u1:H4.get H1.next=some (.cells (pC (pN p)) false):=by subst hX;rw[Heap.aB,if_pos rfl]
   have un:H4.next=H1.next+1:=by subst hX;simp only[Heap.aS,Heap.aX]
   have uo:Own H4 3 v (ivE els):=by
    refine qF ho (by omega) fun k h1 h2=>?_;subst hX;rw[Heap.aB,if_neg (by omega),Heap.aH,if_neg (by omega)];exact h2
   clear hX;obtain⟨H5,z1,z2,z3,z4,z5⟩:=Has.push (.inr uo) (ys:=[ivC (edV l p)]) (bytes:=24) rfl (by rw[aJ,List.length_cons,List.length_nil];omega);generalize H1.next=r1 at *;refine aQ (by decide) ?_;simp only[↓zP,zG,Nat.reduceLT,Nat.reduceEqDiff,Nat.reduceAdd,zD,reduceCtorEq,zI,Nat.reduceLeDiff,hk 1 rfl,hv,u0,u1,uY,q0,q1,fS,aD,aJ,ha,hb,ga,gb,oL (aG l[p.1]),oL (aG l[p.2])];refine cE (qQ nb na (by omega) _) ?_;rw[hsub];simp only[↓zP,zG,Nat.reduceLT,Nat.reduceEqDiff,Nat.reduceAdd,zD,reduceCtorEq,zI,oL (aG (edV l p))];rw[show ∀(h:Heap) (x:List AV),elemsOf h 3 (.aT 1 3 [x])=some [x] from fun _ _=>rfl];simp only[z1,aZ];rw[show ivE (els++[edV l p])=ivE els++[ivC (edV l p)] from by simp[ivE]];exact⟨by omega,_,rfl,.inr ⟨H4.next,rfl,by omega,z3⟩,by omega,(z4 0 (by omega) (by rw[u0];simp)).trans u0⟩
 · rintro f H1 hk ⟨v,hv,ho,hn,g0⟩
   simp only[sm,List.cons.injEq,and_true] at hv;rw[List.take_length] at ho;simp only[↓zP];apply hK;simp only[↓zP,zG,Nat.reduceLT,hv];refine⟨rfl,_,by simp only[↓zP,zR];rfl,?_⟩;refine⟨v,0,rfl,fun nw=>?_⟩
   have hne:ivE (E.map (edV l))≠[]:=by simpa [ivE] using hE0
   rcases ho with ⟨_,h⟩|⟨k,rfl,h1,h2⟩
   · exact absurd h hne
   · have hfr:freeLL (ivE (E.map (edV l)))=true:=bR bA _
     simp[shutF,shut1,hfr,tagA]
end Go.Proofs.YtjiignefffdelaaGreatDoor
namespace Go.Proofs.YtjiignefffdelaaGreatDoor
open Go Go.Av Go.Geo Go.Num
theorem iA {z:Int} (h:z.natAbs<2^250):norm z=some z:=by
 have :(2:Nat)^250<W^16:=by decide
 unfold norm;rw[if_pos (by omega)]
theorem gZ {x y:Int} {A B:Nat} (hx:x.natAbs≤A) (hy:y.natAbs≤B) (h:A*B<2^250):mulO (some x) (some y)=some (x*y):=iA (by
 have :=aY hx hy
 omega)
theorem aNn {v w:Geo.V} {A B:Nat} (hv:Near A v) (hw:Near B w) (h:3*(A*B)<2^240):smO (fun i=>some (v.at i)) (fun i=>some (w.at i)) 3=some (Geo.dot v w):=by
 have h5:(2:Nat)^240<2^250:=by decide
 have hAB:A*B<2^250:=by omega
 have m0:=aY hv.1 hw.1;have m1:=aY hv.2.1 hw.2.1;have m2:=aY hv.2.2 hw.2.2;simp only[smO,V.at];rw[gZ hv.1 hw.1 hAB,gZ hv.2.1 hw.2.1 hAB,gZ hv.2.2 hw.2.2 hAB];simp only[addO];rw[iA (show(0+v.x*w.x).natAbs<2^250 by omega)];simp only;rw[iA (show(0+v.x*w.x+v.y*w.y).natAbs<2^250 by omega)];simp only;rw[iA (show(0+v.x*w.x+v.y*w.y+v.z*w.z).natAbs<2^250 by omega)];simp only[Geo.dot,Int.zero_add]
theorem aEv {v w:Geo.V} {A B:Nat} (hv:Near A v) (hw:Near B w) (h:3*(A*B)<2^240) {i:Nat} (hi:i<3):crO (fun i=>some (v.at i)) (fun i=>some (w.at i)) i=some ((Geo.cross v w).at i):=by
 have h5:(2:Nat)^240<2^250:=by decide
 have hAB:A*B<2^250:=by omega
 have key:∀a b c d:Int,a.natAbs≤A→b.natAbs≤B→c.natAbs≤A→d.natAbs≤B→addO (mulO (some a) (some b)) (negO (mulO (some c) (some d)))=some (a*b -c*d):=fun a b c d h1 h2 h3 h4=>by
  rw[gZ h1 h2 hAB,gZ h3 h4 hAB];have m0:=aY h1 h2;have m1:=aY h3 h4;simp only[negO,addO];rw[iA (by omega),Int.sub_eq_add_neg]
 match i,hi with
 |0,_=>exact key v.y w.z v.z w.y hv.2.1 hw.2.2 hv.2.2 hw.2.1
 |1,_=>exact key v.z w.x v.x w.z hv.2.2 hw.1 hv.1 hw.2.2
 |2,_=>exact key v.x w.y v.y w.x hv.1 hw.2.1 hv.2.1 hw.1
attribute [local congr] aU aN aO aM aW aR aP aL
attribute [local irreducible] FC FOps FD2
def loF (n:Geo.V) (m:Int) (l:List Geo.V):Int:=l.foldl (fun m v=>if Geo.dot n v<m then Geo.dot n v else m) m
def hiF (n:Geo.V) (m:Int) (l:List Geo.V):Int:=l.foldl (fun m v=>if Geo.dot n v>m then Geo.dot n v else m) m
theorem aHf (z:Int):freeL (cI z)=true:=bK z
theorem aIt {tag:Nat} (ht:Nat.blt tag 2=true) {l:List Geo.V} {M B:Nat} (hl:∀v∈l,Near M v) (hlen:l.length<2^30) (hM:M≤2^18) {n:Geo.V} (hn:Near B n) (hB:B≤2^62) {x0:Geo.V} {r:List Geo.V} (hx:l=x0::r) (H:Heap):
 Sound Tryz.prog gv 54 [.agg [.aT tag 3 (ivE l)],.agg (ivC n)] H (.ret (.tup [.agg (cI (loF n (Geo.dot n x0) l)),.agg (cI (hiF n (Geo.dot n x0) l))])) H:=by
 have hI:∀{A:Nat} {v:Geo.V},Near A v→A≤2^62→∀i,I64 (v.at i):=fun {A v} h hA i=>by
  have :=Near.c h i;unfold I64;omega
 have hBM:B*M≤2^62*2^18:=Nat.mul_le_mul hB hM
 have hdot:∀v∈l,∀H,Sound Tryz.prog gv 107 [.agg (ivC n),.agg (ivC v)] H (.ret (.agg (cI (Geo.dot n v)))) H:=fun v hv H=>by
  have :=aUn (hI hn hB) (hI (hl v hv) (by omega)) H
  rwa [aNn hn (hl v hv) (by
   have :(2:Nat)^62*2^18*3<2^240:=by decide
   omega)] at this
 refine Sp bEf (by simp only[sf,bG ht,bA]) (by simp only[AV.free,freeL,aHf];rfl) ?_ H;unfold W54;dsimp only
 have hx0:0<l.length:=by rw[hx];simp
 have hx0e:l[0]=x0:=by subst hx;rfl
 have g0:=bC hx0;have hd0:=hdot _ (List.getElem_mem hx0);have a0:asNat (.int .i64 0)=some 0:=rfl
 have c18:∀z,(cI z).length=18:=fun z=>by simp[cI,bH,bE]
 refine aA fun K hK=>?_;simp only[↓zP,zG,Nat.reduceLT,Nat.reduceEqDiff,Nat.reduceAdd,zI];apply hK;clear hK K;refine aA fun K hK=>?_;refine aQ (by decide) ?_;simp only[↓zP,zG,Nat.reduceLT,Nat.reduceEqDiff,Nat.reduceAdd,zD,reduceCtorEq,zI,a0,aJ,hx0,g0,oL (aG l[0]),oL (aG n)]
 have z18:(AV.bool false::AV.bool false::wC zs).length=18:=by simp[bH];rfl
 refine cE (hd0 _) ?_;simp only[↓zP,zG,Nat.reduceLT,Nat.reduceEqDiff,Nat.reduceAdd,zD,reduceCtorEq,zI,a0,aJ,hx0,g0,oL (aG l[0]),oL (aG n)];refine cE (hd0 _) ?_;rw[hx0e];generalize hd:Geo.dot n x0=d0 at *;simp only[↓zP,zG,Nat.reduceEqDiff,Nat.reduceAdd,zD,reduceCtorEq,zI,c18,z18,oL z18];apply hK;clear hK K;refine aA fun K hK=>?_;refine aA fun K2 hK2=>?_;simp only[↓zP,zG,Nat.reduceLT,Nat.reduceEqDiff,Nat.reduceAdd,zI];apply hK2;clear hK2 K2;refine bD [] (fun i _ H'=>H'.get 1=some (.cells (ivC n) false)∧H'.get 2=some (.cells (cI (loF n d0 (l.take i))) false)∧H'.get 3=some (.cells (cI (hiF n d0 (l.take i))) false)∧4≤H'.next∧(loF n d0 (l.take i)).natAbs≤3*(B*M)∧(hiF n d0 (l.take i)).natAbs≤3*(B*M)) l.length (by omega) (by decide) ?_ ?_ ?_ ?_ ?_
 · simp only[aC]
 · simp only[aC,ne_eq,Nat.reduceEqDiff,not_false_eq_true,aJ]
 · have hdn:=fD hn (hl x0 (by rw[hx];simp))
   rw[hd] at hdn;exact⟨by simp only[zI,Nat.reduceAdd,Nat.reduceEqDiff],by simp only[zI,Nat.reduceAdd,Nat.reduceEqDiff];rfl,by simp only[zI,Nat.reduceAdd,Nat.reduceEqDiff];rfl,by simp only[zI,Nat.reduceAdd,Nat.reduceLeDiff],hdn,hdn⟩
 · rintro i f H1 hi hk e1 ⟨m1,m2,m3,hn4,b1,b2⟩
   have hg:=bC hi;have hmem:=List.getElem_mem hi;have hdi:=hdot _ hmem;have hdn:=fD hn (hl _ hmem)
   have hlo:loF n d0 (l.take (i+1))=if Geo.dot n l[i]<loF n d0 (l.take i) then Geo.dot n l[i] else loF n d0 (l.take i):=by
    unfold loF;rw[List.take_add_one,List.foldl_append];simp[hi]
   have hhi:hiF n d0 (l.take (i+1))=if Geo.dot n l[i]>hiF n d0 (l.take i) then Geo.dot n l[i] else hiF n d0 (l.take i):=by
    unfold hiF;rw[List.take_add_one,List.foldl_append];simp[hi]
   rw[hlo,hhi];generalize loF n d0 (l.take i)=lo at *;generalize hiF n d0 (l.take i)=hi' at *;generalize l[i]=x at *;generalize Geo.dot n x=d at *
   have n1:¬(1=H1.next):=by omega
   have n2:¬(2=H1.next):=by omega
   have n3:¬(3=H1.next):=by omega
   refine aI ?_;refine aA fun K2 hK2=>?_;simp only[↓zP,zG,Nat.reduceLT,Nat.reduceEqDiff,Nat.reduceAdd,zI,e1,hk 22 rfl,aD,aJ,hi,hg,oL (aG x)];apply hK2;clear hK2 K2;refine aA fun K2 hK2=>?_;simp only[↓zP,zG,Nat.reduceLT,Nat.reduceEqDiff,zI,hk 3 rfl,n1,m1,oL (aG x),oL (aG n)];refine bF (hdi _) ?_;simp only[↓zP,zG,Nat.reduceLT,Nat.reduceEqDiff,zI,c18,z18,oL z18];apply hK2;clear hK2 K2;generalize hX:(((H1.alloc _).set H1.next _).alloc _).set (H1.next+1) _=H4
   have y1:H4.get 1=some (.cells (ivC n) false):=by subst hX;rw[Heap.aB,if_neg (by omega),Heap.aH,if_neg (by simp;omega),Heap.aB,if_neg (by omega),Heap.aH,if_neg (by omega)];exact m1
   have y2:H4.get 2=some (.cells (cI lo) false):=by subst hX;rw[Heap.aB,if_neg (by omega),Heap.aH,if_neg (by simp;omega),Heap.aB,if_neg (by omega),Heap.aH,if_neg (by omega)];exact m2
   have y3:H4.get 3=some (.cells (cI hi') false):=by subst hX;rw[Heap.aB,if_neg (by omega),Heap.aH,if_neg (by simp;omega),Heap.aB,if_neg (by omega),Heap.aH,if_neg (by omega)];exact m3
   have y8:H4.get (H1.next+1)=some (.cells (cI d) false):=by subst hX;rw[Heap.aB,if_pos rfl]
   have yn:4≤H4.next:=by subst hX;simp only[Heap.aS,Heap.aX];omega
   clear hX;generalize hr8:H1.next+1=r8 at *
   have w16:3*(B*M)<W^16:=by
    have :3*(2^62*2^18)<W^16:=by decide
    omega
   have id':IsI (cI d) (some d):=.enc (by omega);have ilo:IsI (cI lo) (some lo):=.enc (by omega);have ihi:IsI (cI hi') (some hi'):=.enc (by omega)
   have q2:¬(2=r8):=by omega
   have q3:¬(3=r8):=by omega
   refine aA fun K2 hK2=>?_
   have hc2:∀y:Int,(decide (cmpO (some d) (some y)<0)=decide (d<y))∧(decide (cmpO (some d) (some y)>0)=decide (d>y)):=fun y=>by
    constructor<;>(rw[decide_eq_decide];simp only[cmpO];split<;>(try split)<;>omega)
   have key:∀(f':Slt) (H':Heap) (lo2:Int),f' 8=.ref r8 0→f' 5=.ref 3 0→H'.get r8=some (.cells (cI d) false)→H'.get 1=some (.cells (ivC n) false)→H'.get 2=some (.cells (cI lo2) false)→H'.get 3=some (.cells (cI hi') false)→4≤H'.next→lo2=(if d<lo then d else lo)→K2 f' [] H':=by
    intro f' H' lo2 v8 v5 p8 p1 p2 p3 pn plo;apply hK2;clear hK2 K2;simp only[↓zP,zG,Nat.reduceLT,Nat.reduceEqDiff,zI,v8,v5,p8,p3,c18,oL (c18 d),oL (c18 hi')];refine bF (qT id' ihi _) ?_
    have hb2:(if d<lo then d else lo).natAbs≤3*(B*M):=by split<;>omega
    by_cases c2:d>hi'
    · have d2:decide (cmpO (some d) (some hi')>0)=true:=by rw[(hc2 hi').2];exact decide_eq_true c2
      simp only[↓zP,zG,Nat.reduceLT,Nat.reduceEqDiff,zI,d2,v8,v5,p8,p3,c18,oL (c18 d),oL (c18 hi')];rw[if_pos c2,←plo];exact⟨p1,p2,rfl,pn,by rw[plo];exact hb2,hdn⟩
    · have d2:decide (cmpO (some d) (some hi')>0)=false:=by rw[(hc2 hi').2];exact decide_eq_false c2
      simp only[↓zP,zG,Nat.reduceLT,zI,d2];rw[if_neg c2,←plo];exact⟨p1,p2,p3,pn,by rw[plo];exact hb2,b2⟩
   simp only[↓zP,zG,Nat.reduceLT,Nat.reduceEqDiff,zI,hk 4 rfl,y8,y2,c18,oL (c18 d),oL (c18 lo)];refine bF (qT id' ilo _) ?_;by_cases c1:d<lo
   · have d1:decide (cmpO (some d) (some lo)<0)=true:=by rw[(hc2 lo).1];exact decide_eq_true c1
     simp only[↓zP,zG,Nat.reduceLT,Nat.reduceEqDiff,zI,d1,hk 4 rfl,y8,y2,c18,oL (c18 d),oL (c18 lo)];refine key _ _ d (by simp only[aC,ne_eq,Nat.reduceEqDiff,not_false_eq_true]) (by simp only[aC,ne_eq,Nat.reduceEqDiff,not_false_eq_true];exact hk 5 rfl) ?_ ?_ ?_ ?_ ?_ (if_pos c1).symm
     · rw[Heap.aB,if_neg (by omega)];exact y8
     · rw[Heap.aB,if_neg (by omega)];exact y1
     · rw[Heap.aB,if_pos rfl]
     · rw[Heap.aB,if_neg (by omega)];exact y3
     · rw[Heap.aS];exact yn
   · have d1:decide (cmpO (some d) (some lo)<0)=false:=by rw[(hc2 lo).1];exact decide_eq_false c1
     simp only[↓zP,zG,Nat.reduceLT,zI,d1];exact key _ _ lo (by simp only[aC,ne_eq,Nat.reduceEqDiff,not_false_eq_true]) (by simp only[aC,ne_eq,Nat.reduceEqDiff,not_false_eq_true];exact hk 5 rfl) y8 y1 y2 y3 yn (if_neg c1).symm
 · rintro f H1 hk ⟨m1,m2,m3,hn4,b1,b2⟩
   rw[List.take_length] at m2 m3;simp only[↓zP];apply hK;clear hK K;refine aA fun K hK=>?_;refine aQ (by decide) ?_;simp only[↓zP,zG,Nat.reduceLT,Nat.reduceEqDiff,Nat.reduceAdd,zD,reduceCtorEq,zI,hk 4 rfl,hk 5 rfl,m2,m3,c18,oL (c18 (loF n d0 l)),oL (c18 (hiF n d0 l))];apply hK;clear hK K;simp only[↓zP];refine⟨rfl,_,by simp only[↓zP,zR,Nat.reduceEqDiff,hk 4 rfl,hk 5 rfl,c18,oL (c18 (loF n d0 l)),oL (c18 (hiF n d0 l))];rfl,?_⟩;rfl
theorem wJ {ta tb:Nat} (a b:List Geo.V) (H:Heap):Sound Tryz.prog gv 53 [.agg [.aT ta 3 (ivE a)],.agg [.aT tb 3 (ivE b)]] H (.ret (.func (.func 103) [] [.ref H.next 0,.ref (H.next+1) 0])) ((H.alloc (.cells [.aT ta 3 (ivE a)] false)).alloc (.cells [.aT tb 3 (ivE b)] false)):=by
 refine eI bEe (Nat.le_of_ble_eq_true rfl) ?_;unfold W53;dsimp only;refine aA fun K hK=>?_;simp only[↓zP,zG,Nat.reduceLT,Nat.reduceEqDiff,zI];apply hK;clear hK K;simp only[↓zP,zG,Nat.reduceLT,Nat.reduceEqDiff,zI];refine⟨rfl,_,by simp only[↓zP,zR];rfl,?_⟩;exact⟨rfl,rfl⟩
end Go.Proofs.YtjiignefffdelaaGreatDoor
