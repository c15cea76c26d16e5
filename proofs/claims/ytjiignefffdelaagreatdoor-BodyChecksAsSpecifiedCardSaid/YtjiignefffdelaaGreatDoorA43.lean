/-
  Parts of the proof of statement 4: KRp, KRq, KRr
-/
import Derived.Test.YtjiignefffdelaaGreatDoorA42
import Derived.Test.YtjiignefffdelaaGreatDoorA37
import Derived.Test.YtjiignefffdelaaGreatDoorA27
set_option linter.unusedVariables false
set_option maxRecDepth 100000
set_option maxHeartbeats 16000000
namespace Go.Proofs.YtjiignefffdelaaGreatDoor
open Go Go.Av Go.Geo Go.Num
attribute [local congr] aU aN aO aM aW aR aP aL
attribute [local irreducible] FC FOps FD2
theorem aPf (tag:Nat) {l C:List Geo.V} (hlen:l.length<2^30) (hC:Ord l C) {S:List (Geo.V×Int)} {L:Geo.V×Int→List Nat} (hS:Facs C S L) (H:Heap):
 Sound Tryz.prog gv 59 [.aT tag 3 (ivE l)] H (.ret (.agg [(hullO l C S L).1,.int .i64 (hullO l C S L).2])) H:=(aWz hlen hC hS H).oO tag
theorem aLr (H:Heap):Sound Tryz.prog gv 59 [.nilsl] H (.ret (.agg [.nilsl,.int .i64 120])) H:=by
 refine Sp bBo (by simp only[sf]) (by simp only[sf]) ?_ H;unfold W59;dsimp only;refine aA fun K hK=>?_;simp only[↓zP,zG,Nat.reduceLT];apply hK;clear hK K;refine aA fun K hK=>?_;simp only[↓zP,zG,Nat.reduceLT,Nat.reduceEqDiff,Nat.reduceAdd,zI];refine⟨fun h=>absurd h (by decide),fun _=>?_⟩;apply hK;clear hK K;refine aA fun K hK=>?_;simp only[↓zP,zG,Nat.reduceLT];refine bB [] (fun i _ H=>H.get 0=some (.cells [.nilsl,.int .i64 0] false)) 0 0 (Nat.zero_le _) (by omega) (by decide) ?_ ?_ ?_ ?_ ?_
 · simp only[aC];rfl
 · simp only[zI]
 · rintro i f H1 h0 hi hk e1 g0
   have f0:f 0=.nilsl:=by rw[hk 0 rfl];simp only[aC,ne_eq,Nat.reduceEqDiff,not_false_eq_true,startF,List.getD_cons_zero]
   simp only[↓zP,zG,Nat.reduceLT,Nat.reduceEqDiff,zI,e1,f0];exact⟨trivial,trivial,congrArg AV.bool (decide_eq_decide.2 (by omega))⟩
 · rintro i f H1 h0 hi hk
   exact absurd hi (Nat.not_lt_zero _)
 · rintro f H1 hk g0
   have f0:f 0=.nilsl:=by rw[hk 0 rfl];simp only[aC,ne_eq,Nat.reduceEqDiff,not_false_eq_true,startF,List.getD_cons_zero]
   have f2:f 2=.ref 0 0:=by rw[hk 2 rfl];simp only[aC,ne_eq,Nat.reduceEqDiff,not_false_eq_true]
   simp only[↓zP];apply hK;clear hK K;refine aA fun K hK=>?_;simp only[↓zP,zG,Nat.reduceLT,f0];refine bF (aDk _) ?_;simp only[↓zP,zG,Nat.reduceLT];apply hK;clear hK K;refine aA fun K hK=>?_;simp only[↓zP,zG,Nat.reduceLT];refine bF (sF _) ?_;simp only[↓zP,zG,Nat.reduceLT];apply hK;clear hK K;refine aA fun K hK=>?_;simp only[↓zP,zG,Nat.reduceLT,Nat.reduceEqDiff,Nat.reduceAdd,zI,f2,g0];refine⟨rfl,_,by simp only[↓zP,zR,Nat.reduceEqDiff,Nat.reduceAdd,f2,g0];rfl,?_⟩;rfl
theorem aTc {a b:List Geo.V} (ha:a.length<2^30) (hb:b.length<2^30) (H:Heap):
 Sound Tryz.prog gv 60 [.aT 0 3 (ivE a),.aT 0 3 (ivE b)] H (.ret (.bool (decide (a=b)))) H:=by
 have ht0:Nat.blt 0 2=true:=rfl;refine Sp bEj (by simp only[sf,bG ht0]) (by simp only[sf]) ?_ H;unfold W60;dsimp only;refine aA fun K hK=>?_;simp only[↓zP,zG,Nat.reduceLT];apply hK;clear hK K;refine aA fun K hK=>?_;by_cases hl:a.length=b.length
 · have hd:((a.length:Int) != (b.length:Int))=false:=by simp[hl]
   simp only[↓zP,zG,Nat.reduceLT,Nat.reduceEqDiff,zI,aJ,hd];apply hK;clear hK K;refine aA fun K hK=>?_;simp only[↓zP,zG,Nat.reduceLT];refine bB [] (fun i _ H=>a.take i=b.take i) 0 a.length (Nat.zero_le _) (by omega) (by decide) ?_ ?_ ?_ ?_ ?_
   · simp only[aC];rfl
   · rfl
   · rintro i f H1 h0 hi hk e1 _
     have f0:f 0=.aT 0 3 (ivE a):=by rw[hk 0 rfl];simp only[aC,ne_eq,Nat.reduceEqDiff,not_false_eq_true,startF,List.getD_cons_zero]
     simp only[↓zP,zG,Nat.reduceLT,Nat.reduceEqDiff,zI,e1,f0,aJ];exact⟨trivial,trivial,congrArg AV.bool (decide_eq_decide.2 (by omega))⟩
   · rintro i f H1 h0 hi hk e1 hJ
     have f0:f 0=.aT 0 3 (ivE a):=by rw[hk 0 rfl];simp only[aC,ne_eq,Nat.reduceEqDiff,not_false_eq_true,startF,List.getD_cons_zero]
     have f1:f 1=.aT 0 3 (ivE b):=by rw[hk 1 rfl];simp only[aC,ne_eq,Nat.reduceEqDiff,not_false_eq_true,startF,List.getD_cons_zero,List.getD_cons_succ]
     have hib:i<b.length:=by omega
     have g1:=bC hi;have g2:=bC hib;have d1:(ivC a[i]).take 3=ivC a[i]:=rfl;have d2:(ivC b[i]).take 3=ivC b[i]:=rfl;refine aI ?_;refine aA fun K2 hK2=>?_;refine aQ (by decide) ?_;simp only[↓zP,zG,Nat.reduceLT,Nat.reduceEqDiff,Nat.reduceAdd,zD,reduceCtorEq,zI,e1,f0,f1,aD,aJ,hi,hib,g1,g2,oL (aG a[i]),oL (aG b[i]),dY];apply hK2;clear hK2 K2;by_cases he:a[i]=b[i]
     · simp only[↓zP,zG,zI,decide_eq_true he]
       rw[List.take_add_one,List.take_add_one,hJ,List.getElem?_eq_getElem hi,List.getElem?_eq_getElem hib,he]
     · simp only[↓zP,zG,Nat.reduceLT,zI,decide_eq_false he]
       refine⟨rfl,_,by simp only[↓zP,zR];rfl,?_⟩;rw[decide_eq_false fun h=>he (by subst h;rfl)];rfl
   · rintro f H1 hk hJ
     rw[List.take_length,hl,List.take_length] at hJ;simp only[↓zP];apply hK;clear hK K;simp only[↓zP,zG,Nat.reduceLT];refine⟨rfl,_,by simp only[↓zP,zR];rfl,?_⟩;rw[decide_eq_true hJ];rfl
 · have hd:((a.length:Int) != (b.length:Int))=true:=bne_iff_ne.2 (by omega)
   simp only[↓zP,zG,Nat.reduceLT,Nat.reduceEqDiff,zI,aJ,hd];refine⟨rfl,_,by simp only[↓zP,zR];rfl,?_⟩;rw[decide_eq_false fun h=>hl (by rw[h])];rfl
theorem aPh (t1 t2:Nat) {a b:List Geo.V} (ha:a.length<2^30) (hb:b.length<2^30) (H:Heap):
 Sound Tryz.prog gv 60 [.aT t1 3 (ivE a),.aT t2 3 (ivE b)] H (.ret (.bool (decide (a=b)))) H:=((aTc ha hb H).oO t1).aTh t2
theorem wT {tag:Nat} (ht:Nat.blt tag 2=true) {l C:List Geo.V} (hlen:l.length<2^30) (hC:Ord l C) {S:List (Geo.V×Int)} {L:Geo.V×Int→List Nat} (hS:Facs C S L) (H:Heap):
 Sound Tryz.prog gv 26 [.agg [.aT tag 3 (ivE l)]] H (.ret (.int .i64 (chkP l C S L))) H:=by
 refine Sp bBb (by simp only[sf,bG ht]) (by simp only[sf]) ?_ H;unfold W26;dsimp only;have hH:=fun H=>aPf tag hlen hC hS H;unfold chkP;have h0:=zT (l:=l) (C:=C) (S:=S) (L:=L);generalize hullO l C S L=o at *;obtain⟨ov,oc⟩:=o;dsimp only at hH h0 ⊢;refine aA fun K hK=>?_;simp only[↓zP,zG,Nat.reduceLT,zI];apply hK;clear hK K;refine aA fun K hK=>?_;simp only[↓zP,zG,Nat.reduceLT,Nat.reduceEqDiff,zI];refine bF (hH _) ?_;simp only[↓zP,zG,Nat.reduceLT,Nat.reduceEqDiff,Nat.reduceAdd,zI];apply hK;clear hK K;by_cases hc:oc=0
 · subst hc
   obtain⟨hSn,rfl,hl64⟩:=h0 rfl;have hne:=uB hS hSn;have hrow:rowO 3 (ivE (hullL C S L))=.aT 0 3 (ivE (hullL C S L)):=if_neg (by simpa [ivE] using hne);rw[hrow]
   have hll:(hullL C S L).length<2^30:=by
    have hCl:C.length≤l.length:=hU C l (List.Pairwise.imp (fun {a b} (h:VLt a b) (e:a=b)=>VLt.irr b (by rw[e] at h;exact h)) hC.srt) fun v hv=>(hC.mem v).1 hv;have :=List.length_filter_le (usedB S L) (List.range C.length);rw[List.length_range] at this;simp only[hullL,List.length_map];omega
   have hb:((0:Int)==0)=true:=rfl;have hE:=fun H=>aPh 0 tag hll hlen H;refine aA fun K hK=>?_;simp only[↓zP,zG,Nat.reduceLT,Nat.reduceEqDiff,Nat.reduceAdd,zI,Nat.reduceLeDiff,hb];refine bF (hE _) ?_;by_cases he:hullL C S L=l
   · have hd:=decide_eq_true he
     simp only[↓zP,zG,Nat.reduceLT,Nat.reduceEqDiff,zI,hd];apply hK;clear hK K;simp only[↓zP,zG,Nat.reduceLT,Nat.reduceEqDiff,Nat.reduceAdd,zI];refine⟨rfl,_,by simp only[↓zP,zR];rfl,?_⟩;rw[if_neg (fun h=>h.2 he)];rfl
   · have hd:=decide_eq_false he
     simp only[↓zP,zG,Nat.reduceLT,Nat.reduceEqDiff,zI,hd];refine⟨rfl,_,by simp only[↓zP,zR];rfl,?_⟩;rw[if_pos ⟨trivial,he⟩];rfl
 · have hb:(oc==0)=false:=beq_eq_false_iff_ne.2 hc
   refine aA fun K hK=>?_;simp only[↓zP,zG,Nat.reduceLT,Nat.reduceEqDiff,Nat.reduceAdd,zI,hb];apply hK;clear hK K;simp only[↓zP,zG,Nat.reduceLT,Nat.reduceEqDiff,Nat.reduceAdd,zI];refine⟨rfl,_,by simp only[↓zP,zR];rfl,?_⟩;rw[if_neg (fun h=>hc h.1)];rfl
theorem vK (H:Heap):Sound Tryz.prog gv 26 [.agg [.nilsl]] H (.ret (.int .i64 120)) H:=by
 refine Sp bBb (by simp only[sf]) (by simp only[sf]) ?_ H;unfold W26;dsimp only;refine aA fun K hK=>?_;simp only[↓zP,zG,Nat.reduceLT,zI];apply hK;clear hK K;refine aA fun K hK=>?_;simp only[↓zP,zG,Nat.reduceLT,Nat.reduceEqDiff,zI];refine bF (aLr _) ?_;simp only[↓zP,zG,Nat.reduceLT,Nat.reduceEqDiff,Nat.reduceAdd,zI];apply hK;clear hK K
 have hb:((120:Int)==0)=false:=by decide
 refine aA fun K hK=>?_;simp only[↓zP,zG,Nat.reduceLT,Nat.reduceEqDiff,Nat.reduceAdd,zI,hb];apply hK;clear hK K;simp only[↓zP,zG,Nat.reduceLT,Nat.reduceEqDiff,Nat.reduceAdd,zI];refine⟨rfl,_,by simp only[↓zP,zR];rfl,?_⟩;rfl
theorem vJ {p:AV×List Geo.V} (h:PartR p) (hlen:p.2.length<2^30) (H:Heap):Sound Tryz.prog gv 26 [.agg [p.1]] H (.ret (.int .i64 (chkL p.2))) H:=by
 rcases h with ⟨h1,h2⟩|h1
 · rw[h1,h2,pD]
   exact vK H
 · rw[h1]
   exact wT rfl hlen (jM _) (eM (jM _).srt) H
theorem aGd (tag:Nat) {l:List Geo.V} {M:Nat} (hl:∀v∈l,Near M v) (hM:M≤2^18) (hlen:l.length≤64) {S:List (Geo.V×Int)} {L:Geo.V×Int→List Nat} (hS:Facs l S L) (ht:Nat.blt tag 2=true) (H:Heap):
 Sound Tryz.prog gv 61 [.agg [.aT tag 3 (ivE l)]] H (.ret (facR L S)) H:=by
 refine Sp bBp (by simp only[sf,bG ht]) (by simp only[rE]) ?_ H;unfold W61;dsimp only;have hF:=fun H=>vI tag hl hM hlen hS H;simp only[↓zP,zG,Nat.reduceLT,Nat.reduceEqDiff,zI];refine bF (hF _) ?_;simp only[↓zP,zG,Nat.reduceLT];refine⟨rfl,_,by simp only[↓zP,zR];rfl,?_⟩;rfl
theorem aDb (tag:Nat) {l:List Geo.V} {M:Nat} (hl:∀v∈l,Near M v) (hM:M≤2^18) (hlen:l.length≤64) {S:List (Geo.V×Int)} {L:Geo.V×Int→List Nat} (hS:Facs l S L) (hne:S≠[]) (ht:Nat.blt tag 2=true) (H:Heap):
 Sound Tryz.prog gv 61 [.agg [.aT tag 3 (ivE l)]] H (.ret (.aT (H.next+2) 5 (S.map (facC L)))) (H.alloc .tok):=by
 refine mG bW (by simp only[sf,bG ht]) (by simpa using hne) (bR (fK L) S) ?_ H;refine cV fit bBp (Nat.le_of_ble_eq_true rfl) ?_;unfold W61;dsimp only;have hF:=fun H=>aDf tag hl hM hlen hS hne H;simp only[↓zP,zG,Nat.reduceLT,Nat.reduceEqDiff,zI];refine bF (hF _) ?_;simp only[↓zP,zG,Nat.reduceLT,Nat.reduceAdd,zI];refine⟨rfl,_,by simp only[↓zP,zR];rfl,?_⟩;exact⟨_,rfl,.inr ⟨_,rfl,by simp,by rw[Heap.aH,if_pos (by simp)]⟩⟩
def adjN (on:List Nat) (m a b:Nat):Bool:=(List.range m).any fun i=>(on.getD i 0==a&&on.getD ((i+1)%on.length) 0==b)||(on.getD i 0==b&&on.getD ((i+1)%on.length) 0==a)
def adjB (S:List (Geo.V×Int)) (L:Geo.V×Int→List Nat) (a b:Nat):Bool:=S.any fun q=>adjN (L q) (L q).length a b
def prsJ (S:List (Geo.V×Int)) (L:Geo.V×Int→List Nat) (a j:Nat):List (Int×Int):=((List.range j).filter fun b=>decide (a<b)&&adjB S L a b).map fun b:Nat=>(((a:Nat):Int),((b:Nat):Int))
def prs (S:List (Geo.V×Int)) (L:Geo.V×Int→List Nat) (N i:Nat):List (Int×Int):=(List.range i).flatMap fun a=>prsJ S L a N
theorem aCy (S:List (Geo.V×Int)) (L:Geo.V×Int→List Nat) (a j:Nat):(prsJ S L a j).length≤j:=by
 rw[prsJ,List.length_map];have :=List.length_filter_le (fun b=>decide (a<b)&&adjB S L a b) (List.range j)
 rwa [List.length_range] at this
theorem aIq (S:List (Geo.V×Int)) (L:Geo.V×Int→List Nat) (N i:Nat):(prs S L N i).length≤i*N:=by
 have :=dZ (fun a=>prsJ S L a N) N (fun a=>aCy S L a N) (List.range i)
 rwa [List.length_range] at this
theorem aPc (S:List (Geo.V×Int)) (L:Geo.V×Int→List Nat) (a:Nat):prsJ S L a (a+1)=[]:=by
 have :((List.range (a+1)).filter fun b=>decide (a<b)&&adjB S L a b)=[]:=by
  rw[List.filter_eq_nil_iff];intro b hb;rw[List.mem_range] at hb;rw[decide_eq_false (by omega)];simp
 rw[prsJ,this];rfl
theorem aWy {S:List (Geo.V×Int)} {L:Geo.V×Int→List Nat} {a j:Nat} (h:a<j):prsJ S L a (j+1)=prsJ S L a j++(if adjB S L a j then [((a:Int),(j:Int))] else []):=by
 simp only[prsJ];rw[List.range_succ,List.filter_append,List.map_append,List.filter_cons,List.filter_nil,decide_eq_true h,Bool.true_and];cases adjB S L a j<;>rfl
theorem bCp (S:List (Geo.V×Int)) (L:Geo.V×Int→List Nat) (N i:Nat):prs S L N (i+1)=prs S L N i++prsJ S L i N:=by
 simp only[prs];rw[List.range_succ,List.flatMap_append];simp
theorem aUs (on:List Nat) (m a b:Nat):adjN on (m+1) a b=(adjN on m a b||((on.getD m 0==a&&on.getD ((m+1)%on.length) 0==b)||(on.getD m 0==b&&on.getD ((m+1)%on.length) 0==a))):=by
 simp only[adjN];rw[List.range_succ,List.any_append];simp
theorem aLp {tag:Nat} (ht:Nat.blt tag 2=true) {l:List Geo.V} {M:Nat} (hl:∀v∈l,Near M v) (hM:M≤2^18) (hlen:l.length≤64) {S:List (Geo.V×Int)} {L:Geo.V×Int→List Nat} (hS:Facs l S L) (hS64:S.length≤64) (H:Heap):
 Sound Tryz.prog gv 115 [.agg [.aT tag 3 (ivE l)]] H (.ret (rowO 2 ((prs S L l.length l.length).map pC))) H:=by
 refine bZ fit bW aYd (Nat.le_of_ble_eq_true rfl) (by simp only[sf,bG ht]) ?_ H;unfold W115;dsimp only;have hF:=fun H=>aGd tag hl hM hlen hS ht H;have hLw:=aIz hS hlen;simp only[↓zP,zG,Nat.reduceLT,Nat.reduceEqDiff,zI];refine bF (hF _) ?_;simp only[↓zP,zG,Nat.reduceLT];have hlt:(ivE l).length=l.length:=aJ _;refine bB [3] (fun i vs H'=>H'.get 0=some (.cells [.aT tag 3 (ivE l)] false)∧1≤H'.next∧∃v,vs=[v]∧Own H' 2 v ((prs S L l.length i).map pC)∧(prs S L l.length i=[]→v=.nilsl)) 0 l.length (Nat.zero_le _) (by omega) (by decide) ?_ ?_ ?_ ?_ ?_
 · simp only[aC];rfl
 · exact⟨by simp only[zI],by simp only[zI,Nat.reduceLeDiff],.nilsl,by simp only[sm,aC,Nat.reduceEqDiff],.nil _ _,fun _=>rfl⟩
 · rintro i f H1 h0 hi hk e1 ⟨g0,_⟩
   have f1:f 1=.ref 0 0:=by rw[hk 1 rfl];simp only[aC,ne_eq,Nat.reduceEqDiff,not_false_eq_true]
   simp only[↓zP,zG,Nat.reduceLT,Nat.reduceEqDiff,zI,e1,f1,g0,hlt];exact⟨trivial,trivial,congrArg AV.bool (decide_eq_decide.2 (by omega))⟩
 · rintro i f H1 h0 hi hk e1 ⟨g0,gn,v,hv,ho,hn⟩
   simp only[sm,List.cons.injEq,and_true] at hv
   have f1:f 1=.ref 0 0:=by rw[hk 1 rfl];simp only[aC,ne_eq,Nat.reduceEqDiff,not_false_eq_true]
   have f4:f 4=facR L S:=by rw[hk 4 rfl];simp only[aC,ne_eq,Nat.reduceEqDiff,not_false_eq_true]
   have wi:IntKind.i64.wrap ((i:Int)+1)=((i+1:Nat):Int):=(wrap_i64 (by omega) (by omega)).trans (by omega);refine aI ?_;simp only[↓zP,zG,Nat.reduceLT,zI,e1,wi];refine bB [3] (fun j vs H'=>H'.get 0=some (.cells [.aT tag 3 (ivE l)] false)∧1≤H'.next∧∃v,vs=[v]∧Own H' 2 v ((prs S L l.length i++prsJ S L i j).map pC)∧(prs S L l.length i++prsJ S L i j=[]→v=.nilsl)) (i+1) l.length (by omega) (by omega) (by decide) ?_ ?_ ?_ ?_ ?_
   · simp only[aC]
   · exact⟨g0,gn,v,by simp only[sm,aC,Nat.reduceEqDiff,hv],by rw[aPc,List.append_nil];exact ho,by rw[aPc,List.append_nil];exact hn⟩
   · rintro j f2 H2 h0 hj hk2 e2 ⟨g0',_⟩
     have u1:f2 1=.ref 0 0:=by rw[hk2 1 rfl];simp only[aC,ne_eq,Nat.reduceEqDiff,not_false_eq_true];exact f1
     simp only[↓zP,zG,Nat.reduceLT,Nat.reduceEqDiff,zI,e2,u1,g0',hlt];exact⟨trivial,trivial,congrArg AV.bool (decide_eq_decide.2 (by omega))⟩
   · rintro j f2 H2 hij hj hk2 e2 ⟨g0',gn',v2,hv2,ho2,hn2⟩
     simp only[sm,List.cons.injEq,and_true] at hv2
     have u4:f2 4=facR L S:=by rw[hk2 4 rfl];simp only[aC,ne_eq,Nat.reduceEqDiff,not_false_eq_true];exact f4
     have u5:f2 5=.int .i64 i:=by rw[hk2 5 rfl];simp only[aC,ne_eq,Nat.reduceEqDiff,not_false_eq_true];exact e1
     have hXl:(prs S L l.length i++prsJ S L i j).length<2^20:=by
      have h1:=aIq S L l.length i;have h2:=aCy S L i j;have h3:i*l.length≤64*64:=Nat.mul_le_mul (by omega) hlen;rw[List.length_append];omega
     refine aI ?_;refine aA fun K hK=>?_;simp only[↓zP,zG,Nat.reduceLT];apply hK;clear hK K;refine aA fun K hK=>?_;simp only[↓zP,zG,Nat.reduceLT,zI];refine bB [7] (fun k vs H'=>H'=H2∧vs=[.bool ((S.take k).any fun q=>adjN (L q) (L q).length i j)]) 0 S.length (Nat.zero_le _) (by omega) (by decide) ?_ ?_ ?_ ?_ ?_
     · simp only[aC];rfl
     · exact⟨rfl,by simp only[sm,aC,Nat.reduceEqDiff];rfl⟩
     · rintro k f3 H3 h0 hk' hk3 e3 _
       have w4:f3 4=facR L S:=by rw[hk3 4 rfl];simp only[aC,ne_eq,Nat.reduceEqDiff,not_false_eq_true];exact u4
       rcases cZ L S with ⟨h,e⟩|⟨h,e⟩
       · rw[e] at w4
         subst h;simp only[↓zP,zG,Nat.reduceLT,Nat.reduceEqDiff,zI,e3,w4];exact⟨trivial,trivial,congrArg AV.bool (decide_eq_decide.2 (by simp at hk';simp[hk']))⟩
       · rw[e] at w4
         simp only[↓zP,zG,Nat.reduceLT,Nat.reduceEqDiff,zI,e3,w4,List.length_map];exact⟨trivial,trivial,congrArg AV.bool (decide_eq_decide.2 (by omega))⟩
     · rintro k f3 H3 h0 hk' hk3 e3 ⟨rfl,hv3⟩
       simp only[sm,List.cons.injEq,and_true] at hv3
       have w4:f3 4=.aT 0 5 (S.map (facC L)):=by
        rw[hk3 4 rfl];simp only[aC,ne_eq,Nat.reduceEqDiff,not_false_eq_true];rw[u4]
        rcases cZ L S with ⟨h,e⟩|⟨h,e⟩
        · rw[h] at hk';exact absurd hk' (Nat.not_lt_zero _)
        · exact e
       have w5:f3 5=.int .i64 i:=by rw[hk3 5 rfl];simp only[aC,ne_eq,Nat.reduceEqDiff,not_false_eq_true];exact u5
       have w6:f3 6=.int .i64 j:=by rw[hk3 6 rfl];simp only[aC,ne_eq,Nat.reduceEqDiff,not_false_eq_true];exact e2
       have hgq:(S.map (facC L)).getD k []=facC L S[k]:=bU hk'
       have htk:((S.take (k+1)).any fun q=>adjN (L q) (L q).length i j)=(((S.take k).any fun q=>adjN (L q) (L q).length i j)||adjN (L S[k]) (L S[k]).length i j):=by
        rw[List.take_add_one,List.any_append];simp[hk']
       have hSl:(S.map (facC L)).length=S.length:=List.length_map ..;have hLl:=hLw _ (List.getElem_mem hk');rw[htk];generalize S[k]=q at *;generalize ((S.take k).any fun q=>adjN (L q) (L q).length i j)=b0 at *;have d5:(facC L q).length=5:=rfl;have d4:(List.drop 4 (facC L q)).getD 0 undefA=.aT 0 1 (onE (L q)):=rfl;have dl4:1≤(List.drop 4 (facC L q)).length:=Nat.le_refl _;refine aI ?_;refine aA fun K2 hK2=>?_;simp only[↓zP,zG,Nat.reduceLT,Nat.reduceEqDiff,zI,w4,e3,aD,hSl,hk',hgq,d4,dl4];apply hK2;clear hK2 K2;refine aA fun K2 hK2=>?_;simp only[↓zP,zG,Nat.reduceLT];apply hK2;clear hK2 K2;generalize L q=on at *;refine bB [7] (fun c vs H'=>H'=H3∧vs=[.bool (b0||adjN on c i j)]) 0 on.length (Nat.zero_le _) (by omega) (by decide) ?_ ?_ ?_ ?_ ?_
       · simp only[aC];rfl
       · exact⟨rfl,by simp only[sm,aC,Nat.reduceEqDiff,hv3];simp[adjN]⟩
       · rintro c f4 H4 h0 hc hk4 e4 _
         have x9:f4 9=.aT 0 1 (onE on):=by rw[hk4 9 rfl];simp only[aC,ne_eq,Nat.reduceEqDiff,not_false_eq_true]
         simp only[↓zP,zG,Nat.reduceLT,Nat.reduceEqDiff,zI,e4,x9,bP];exact⟨trivial,trivial,congrArg AV.bool (decide_eq_decide.2 (by omega))⟩
       · rintro c f4 H4 h0 hc hk4 e4 ⟨rfl,hv4⟩
         simp only[sm,List.cons.injEq,and_true] at hv4
         have x9:f4 9=.aT 0 1 (onE on):=by rw[hk4 9 rfl];simp only[aC,ne_eq,Nat.reduceEqDiff,not_false_eq_true]
         have x5:f4 5=.int .i64 i:=by rw[hk4 5 rfl];simp only[aC,ne_eq,Nat.reduceEqDiff,not_false_eq_true];exact w5
         have x6:f4 6=.int .i64 j:=by rw[hk4 6 rfl];simp only[aC,ne_eq,Nat.reduceEqDiff,not_false_eq_true];exact w6
         have wj:IntKind.i64.wrap ((c:Int)+1)=((c+1:Nat):Int):=(wrap_i64 (by omega) (by omega)).trans (by omega)
         have nz:¬((on.length:Int)=0):=by omega
         have hm:(c+1)%on.length<on.length:=Nat.mod_lt _ (by omega);have tm:((c+1:Nat):Int).tmod (on.length:Int)=(((c+1)%on.length:Nat):Int):=rfl;have hgp:=iB hc;have hgb:=iB hm
         have hbe:∀x y:Nat,((x:Int)==(y:Int))=(x==y):=fun x y=>by rw[Bool.eq_iff_iff,beq_iff_eq,beq_iff_eq];omega
         rw[aUs,←Bool.or_assoc];rw[show on.getD c 0=on[c] by simp[List.getD,hc],show on.getD ((c+1)%on.length) 0=on[(c+1)%on.length] by simp[List.getD,hm]];generalize (b0||adjN on c i j)=b1 at *;generalize on[c]=p at *;generalize on[(c+1)%on.length]=p' at *;have hA:=hbe p i;have hB:=hbe p' j;have hC:=hbe p j;have hD:=hbe p' i;generalize (p==i)=A at *;generalize (p'==j)=B at *;generalize (p==j)=C at *;generalize (p'==i)=D at *;refine aI ?_
         cases b1 with
         |true=>
          simp only[↓zP,zG,Nat.reduceLT,Nat.reduceEqDiff,zI,hv4,eD];exact⟨trivial,rfl⟩
         |false=>
          cases A with
          |true=>
           cases B with
           |true=>
            simp only[↓zP,zG,Nat.reduceLT,Nat.reduceEqDiff,zI,hv4,x9,x5,x6,e4,aD,bP,hc,hgp,hgb,wj,nz,tm,hm,hA,hB,eD];exact⟨trivial,rfl⟩
           |false=>
            cases C with
            |true=>
             simp only[↓zP,zG,Nat.reduceLT,Nat.reduceEqDiff,zI,hv4,x9,x5,x6,e4,aD,bP,hc,hgp,hgb,wj,nz,tm,hm,hA,hB,hC,hD];exact⟨trivial,rfl⟩
            |false=>
             simp only[↓zP,zG,Nat.reduceLT,Nat.reduceEqDiff,zI,hv4,x9,x5,x6,e4,aD,bP,hc,hgp,hgb,wj,nz,tm,hm,hA,hB,hC];exact⟨trivial,rfl⟩
          |false=>
           cases C with
           |true=>
            simp only[↓zP,zG,Nat.reduceLT,Nat.reduceEqDiff,zI,hv4,x9,x5,x6,e4,aD,bP,hc,hgp,hgb,wj,nz,tm,hm,hA,hC,hD];exact⟨trivial,by simp⟩
           |false=>
            simp only[↓zP,zG,Nat.reduceLT,Nat.reduceEqDiff,zI,hv4,x9,x5,x6,e4,aD,bP,hc,hgp,hA,hC];exact⟨trivial,rfl⟩
       · rintro f4 H4 hk4 ⟨rfl,hv4⟩
         simp only[↓zP];exact⟨trivial,hv4⟩
     · rintro f3 H3 hk3 ⟨rfl,hv3⟩
       rw[List.take_length] at hv3;simp only[sm,List.cons.injEq,and_true] at hv3;have hP:(S.any fun q=>adjN (L q) (L q).length i j)=adjB S L i j:=rfl;rw[hP] at hv3
       have w5:f3 5=.int .i64 i:=by rw[hk3 5 rfl];simp only[aC,ne_eq,Nat.reduceEqDiff,not_false_eq_true];exact u5
       have w6:f3 6=.int .i64 j:=by rw[hk3 6 rfl];simp only[aC,ne_eq,Nat.reduceEqDiff,not_false_eq_true];exact e2
       have w3:f3 3=v2:=by rw[hk3 3 rfl];simp only[aC,ne_eq,Nat.reduceEqDiff,not_false_eq_true];exact hv2
       simp only[↓zP];apply hK;clear hK K;rw[aWy (by omega),←List.append_assoc];generalize prs S L l.length i++prsJ S L i j=X at *
       cases hu:adjB S L i j with
       |false=>
        rw[hu] at hv3;simp only[↓zP,zG,Nat.reduceLT,Nat.reduceEqDiff,zI,hv3];exact⟨g0',gn',v2,by rw[w3],ho2,hn2⟩
       |true=>
        rw[hu] at hv3;obtain⟨H5,z1,z2,z3,z4,z5⟩:=Has.push (.inr ho2) (ys:=[pC ((i:Int),(j:Int))]) (bytes:=16) rfl (by rw[List.length_map,List.length_cons,List.length_nil];omega);have hpc:[AV.int .i64 (i:Int),.int .i64 (j:Int)]=pC ((i:Int),(j:Int)):=rfl;simp only[↓zP,zG,Nat.reduceLT,Nat.reduceEqDiff,Nat.reduceAdd,zI,Nat.reduceLeDiff,hv3,w3,w5,w6,hpc,uY];rw[show ∀(h:Heap) (x:List AV),elemsOf h 2 (.aT 1 2 [x])=some [x] from fun _ _=>rfl];simp only[z1,aZ];refine⟨(z4 0 (by omega) (by rw[g0'];simp)).trans g0',by omega,_,rfl,?_,fun h=>?_⟩
        · rw[List.map_append]
          exact .inr ⟨H3.next,rfl,by omega,z3⟩
        · simp at h
   · rintro f2 H2 hk2 ⟨g0',gn',v2,hv2,ho2,hn2⟩
     simp only[sm,List.cons.injEq,and_true] at hv2;simp only[↓zP];rw[bCp];exact⟨g0',gn',v2,by rw[hv2],ho2,hn2⟩
 · rintro f H1 hk ⟨g0,gn,v,hv,ho,hn⟩
   simp only[sm,List.cons.injEq,and_true] at hv;simp only[↓zP,hv];refine⟨rfl,_,by simp only[↓zP,zR];rfl,?_⟩;refine⟨v,0,rfl,?_⟩
   rcases ho with ⟨rfl,h2⟩|⟨k,rfl,_,_⟩
   · rw[h2];exact fun _=>rfl
   · have hne:¬(prs S L l.length l.length).map pC=[]:=fun h=>by cases hn (by simpa using h)
     have hfr:freeLL ((prs S L l.length l.length).map pC)=true:=bR aAh _;intro nw;rw[show rowO 2 ((prs S L l.length l.length).map pC)=.aT 0 2 ((prs S L l.length l.length).map pC) from if_neg hne];simp[shutF,shut1,hfr,tagA]
theorem aLu {tag:Nat} (ht:Nat.blt tag 2=true) {l:List Geo.V} {M:Nat} (hl:∀v∈l,Near M v) (hM:M≤2^18) {E:List (Nat×Nat)} (hEl:E.length≤2^20) (hE0:E≠[]) (hE:∀p∈E,p.1<l.length∧p.2<l.length)
 (hS:∀H,Sound Tryz.prog gv 115 [.agg [.aT tag 3 (ivE l)]] H (.ret (rowO 2 ((E.map pN).map pC))) H) (H:Heap):
 Sound Tryz.prog gv 63 [.agg [.aT tag 3 (ivE l)]] H (.ret (.aT 0 3 (ivE (E.map (edV l))))) H:=by
 refine bZ fit bW bEl (Nat.le_of_ble_eq_true rfl) (by simp only[sf,bG ht]) ?_ H;unfold W63;dsimp only
 have hget:∀k (h:k<l.length),l.getD k V0=l[k]:=fun k h=>by simp[List.getD,h]
 rw[show rowO 2 ((E.map pN).map pC)=.aT 0 2 ((E.map pN).map pC) from if_neg (by simpa using hE0)] at hS;simp only[↓zP,zG,Nat.reduceLT,Nat.reduceEqDiff,zI];refine bF (hS _) ?_;simp only[↓zP,zG,Nat.reduceLT];refine bB [3] (fun i vs H'=>∃v,vs=[v]∧Own H' 3 v (ivE ((E.take i).map (edV l)))∧1≤H'.next∧H'.get 0=some (.cells [.aT tag 3 (ivE l)] false)) 0 E.length (Nat.zero_le _) (by omega) (by decide) ?_ ?_ ?_ ?_ ?_
 · simp only[aC];rfl
 · exact⟨.nilsl,by simp only[sm,aC,Nat.reduceEqDiff],.nil _ _,by simp only[zI,Nat.reduceLeDiff],by simp only[zI]⟩
 · rintro i f H1 h0 hi hk e1 _
   have f4:f 4=.aT 0 2 ((E.map pN).map pC):=by rw[hk 4 rfl];simp only[aC,ne_eq,Nat.reduceEqDiff,not_false_eq_true]
   simp only[↓zP,zG,Nat.reduceLT,Nat.reduceEqDiff,zI,e1,f4,List.length_map];exact⟨trivial,trivial,congrArg AV.bool (decide_eq_decide.2 (by omega))⟩
 · rintro i f H1 h0 hi hk e1 ⟨v,hv,ho,hn,g0⟩
   simp only[sm,List.cons.injEq,and_true] at hv
   have f1:f 1=.ref 0 0:=by rw[hk 1 rfl];simp only[aC,ne_eq,Nat.reduceEqDiff,not_false_eq_true]
   have f4:f 4=.aT 0 2 ((E.map pN).map pC):=by rw[hk 4 rfl];simp only[aC,ne_eq,Nat.reduceEqDiff,not_false_eq_true]
   have hg:((E.map pN).map pC).getD i []=pC (pN E[i]):=by rw[List.map_map];exact bU hi
   obtain⟨ha,hb⟩:=hE _ (List.getElem_mem hi)
   have htk:(E.take (i+1)).map (edV l)=(E.take i).map (edV l)++[edV l E[i]]:=by
    rw[List.take_add_one,List.map_append];simp[hi]
   have htl:((E.take i).map (edV l)).length≤2^20:=by simp;omega
   have hEm:((E.map pN).map pC).length=E.length:=by rw[List.length_map,List.length_map]
   rw[htk];generalize (E.take i).map (edV l)=els at *;generalize E[i]=p at *;have ga:=bC ha;have gb:=bC hb;have na:=hl _ (List.getElem_mem ha);have nb:=hl _ (List.getElem_mem hb)
   have hsub:Geo.sub l[p.2] l[p.1]=edV l p:=by simp only[edV,hget p.2 hb,hget p.1 ha]
   have q0:(pC (pN p)).getD 0 undefA=.int .i64 (p.1:Int):=rfl;have q1:(pC (pN p)).getD 1 undefA=.int .i64 (p.2:Int):=rfl;have r1:(List.drop 1 (pC (pN p))).getD 0 undefA=.int .i64 (p.2:Int):=rfl;have r2:1≤(List.drop 1 (pC (pN p))).length:=Nat.le_refl _;have ta:(ivC l[p.1]).take 3=ivC l[p.1]:=rfl;have tb:(ivC l[p.2]).take 3=ivC l[p.2]:=rfl;obtain⟨H5,z1,z2,z3,z4,z5⟩:=Has.push (.inr ho) (ys:=[ivC (edV l p)]) (bytes:=24) rfl (by rw[aJ,List.length_cons,List.length_nil];omega);refine aI ?_;refine aQ (by decide) ?_;simp only[↓zP,zG,Nat.reduceLT,Nat.reduceEqDiff,Nat.reduceAdd,zD,reduceCtorEq,zI,Nat.reduceLeDiff,f1,f4,e1,hv,g0,hEm,hi,hg,uY,q0,r1,r2,fS,aD,aJ,ha,hb,ga,gb,oL (aG l[p.1]),oL (aG l[p.2])];refine cE (jK nb na (by omega) _) ?_;rw[hsub];simp only[↓zP,zG,Nat.reduceLT,Nat.reduceEqDiff,Nat.reduceAdd,zD,reduceCtorEq,zI,oL (aG (edV l p))];rw[show ∀(h:Heap) (x:List AV),elemsOf h 3 (.aT 1 3 [x])=some [x] from fun _ _=>rfl];simp only[z1,aZ];rw[show ivE (els++[edV l p])=ivE els++[ivC (edV l p)] from by simp[ivE]];exact⟨by omega,_,rfl,.inr ⟨H1.next,rfl,by omega,z3⟩,by omega,(z4 0 (by omega) (by rw[g0];simp)).trans g0⟩
 · rintro f H1 hk ⟨v,hv,ho,hn,g0⟩
   simp only[sm,List.cons.injEq,and_true] at hv;rw[List.take_length] at ho;simp only[↓zP,hv];refine⟨rfl,_,by simp only[↓zP,zR];rfl,?_⟩;refine⟨v,0,rfl,fun nw=>?_⟩
   have hne:ivE (E.map (edV l))≠[]:=by simpa [ivE] using hE0
   rcases ho with ⟨_,h⟩|⟨k,rfl,h1,h2⟩
   · exact absurd h hne
   · have hfr:freeLL (ivE (E.map (edV l)))=true:=bR bA _
     simp[shutF,shut1,hfr,tagA]
theorem aOk {on:List Nat} {a b:Nat}:adjN on on.length a b=true↔Geo.Next on a b∨Geo.Next on b a:=by
 have hg:∀(i x:Nat),i<on.length→(on.getD i 0=x↔on[i]?=some x):=fun i x h=>by simp[List.getD,h]
 simp only[adjN,List.any_eq_true,List.mem_range,Bool.or_eq_true,Bool.and_eq_true,beq_iff_eq,Geo.Next];constructor
 · rintro⟨i,hi,h⟩
   have hm:(i+1)%on.length<on.length:=Nat.mod_lt _ (by omega)
   rcases h with ⟨h1,h2⟩|⟨h1,h2⟩
   · exact .inl ⟨i,hi,(hg i a hi).1 h1,(hg _ b hm).1 h2⟩
   · exact .inr ⟨i,hi,(hg i b hi).1 h1,(hg _ a hm).1 h2⟩
 · rintro(⟨i,hi,h1,h2⟩|⟨i,hi,h1,h2⟩)
   · have hm:(i+1)%on.length<on.length:=Nat.mod_lt _ (by omega)
     exact⟨i,hi,.inl ⟨(hg i a hi).2 h1,(hg _ b hm).2 h2⟩⟩
   · have hm:(i+1)%on.length<on.length:=Nat.mod_lt _ (by omega)
     exact⟨i,hi,.inr ⟨(hg i b hi).2 h1,(hg _ a hm).2 h2⟩⟩
theorem aIc {S:List (Geo.V×Int)} {L:Geo.V×Int→List Nat} {N:Nat} {x:Int×Int}:
 x∈prs S L N N↔∃a b:Nat,a<b∧b<N∧adjB S L a b=true∧x=pN (a,b):=by
 simp only[prs,prsJ,List.mem_flatMap,List.mem_map,List.mem_filter,List.mem_range,Bool.and_eq_true,decide_eq_true_eq,pN];constructor
 · rintro⟨a,ha,b,⟨hb,hab,h⟩,rfl⟩
   exact⟨a,b,hab,hb,h,rfl⟩
 · rintro⟨a,b,hab,hb,h,rfl⟩
   exact⟨a,by omega,b,⟨hb,hab,h⟩,rfl⟩
theorem aBk {l:List Geo.V} (hl:l.Pairwise VLt) {S:List (Geo.V×Int)} {L:Geo.V×Int→List Nat} (hS:Facs l S L) {a b:Nat}:adjB S L a b=true↔∃q∈S,Geo.Next (L q) a b:=by
 simp only[adjB,List.any_eq_true,aOk];constructor
 · rintro⟨q,hq,h|h⟩
   · exact⟨q,hq,h⟩
   · obtain⟨n',d',L',F',P',hN'⟩:=(hS.po q hq).back (tP hl) ((hS.fl.mem q).1 hq) h
     have hq':=(hS.fl.mem (n',d')).2 F';rw[P'.uniq (hS.po _ hq')] at hN';exact⟨(n',d'),hq',hN'⟩
 · rintro⟨q,hq,h⟩
   exact⟨q,hq,.inl h⟩
theorem vL {tag:Nat} (ht:Nat.blt tag 2=true) {l:List Geo.V} (h0:chkL l=0) {M:Nat} (hn:∀v∈l,Near M v) (hM:M≤2^18):∃U:List Geo.V,U.length≤2^20∧U≠[]∧(∀v,v∈U↔IsE l v)∧(∀v∈U,Near (M+M) v)∧
 (∀H,Sound Tryz.prog gv 61 [.agg [.aT tag 3 (ivE l)]] H (.ret (.aT (H.next+2) 5 ((facS l).map (facC (facL l))))) (H.alloc .tok))∧
 ∀H,Sound Tryz.prog gv 63 [.agg [.aT tag 3 (ivE l)]] H (.ret (.aT 0 3 (ivE U))) H:=by
 obtain⟨hs,_,hne,hS64,hlen,hl0,_⟩:=jR h0;have hF:=eM hs;have p3:=aLp ht hn hM hlen hF hS64
 have hE:∀x∈prs (facS l) (facL l) l.length l.length,∃a b:Nat,a<b∧(∃q∈facS l,Geo.Next (facL l q) a b)∧x=pN (a,b):=fun x hx=>by
  obtain⟨a,b,h1,h2,h3,rfl⟩:=aIc.1 hx;exact⟨a,b,h1,(aBk hs hF).1 h3,rfl⟩
 have hon:∀q∈facS l,∀a b,Geo.Next (facL l q) a b→a<l.length∧b<l.length:=fun q hq a b h=>by
  have h1:=(hF.po q hq).eB.1 h;exact⟨(bO.1 h1.1).1,(bO.1 h1.2.1).1⟩
 have hE2:∀a b:Nat,a<b→(∃q∈facS l,Geo.Next (facL l q) a b)→pN (a,b)∈prs (facS l) (facL l) l.length l.length:=fun a b hab h=>by
  obtain⟨q,hq,hN⟩:=h;exact aIc.2 ⟨a,b,hab,(hon q hq a b hN).2,(aBk hs hF).2 ⟨q,hq,hN⟩,rfl⟩
 have hElen:(prs (facS l) (facL l) l.length l.length).length≤2^20:=by
  have :=aIq (facS l) (facL l) l.length l.length;have :l.length*l.length≤64*64:=Nat.mul_le_mul hlen hlen;omega
 have hE0:prs (facS l) (facL l) l.length l.length≠[]:=by
  have :=tX hs hF hne;obtain⟨x,r,h⟩:=List.exists_cons_of_ne_nil this
  have hx:x∈edL (facS l) (facL l):=by rw[h];simp
  obtain⟨q,hq,a,b,hN,hab,rfl⟩:=(jY hF).1 hx;intro he;have :=hE2 a b hab ⟨q,hq,hN⟩;rw[he] at this;cases this
 generalize prs (facS l) (facL l) l.length l.length=E at *
 have hmap:E=(E.map fun x=>(x.1.toNat,x.2.toNat)).map pN:=by
  rw[List.map_map];refine(List.map_id E).symm.trans (List.map_congr_left fun x hx=>?_);obtain⟨a,b,_,_,rfl⟩:=hE x hx;simp[pN]
 generalize hE':(E.map fun x=>(x.1.toNat,x.2.toNat))=E' at *
 have hm':∀p:Nat×Nat,p∈E'↔(∃q∈facS l,Geo.Next (facL l q) p.1 p.2)∧p.1<p.2:=fun p=>by
  rw[←hE',List.mem_map];constructor
  · rintro⟨x,hx,rfl⟩
    obtain⟨a,b,h1,h2,rfl⟩:=hE x hx;exact⟨by simpa [pN] using h2,by simpa [pN] using h1⟩
  · rintro⟨h1,h2⟩
    exact⟨pN p,hE2 p.1 p.2 h2 h1,by simp[pN]⟩
 refine⟨E'.map (edV l),?_,?_,?_,?_,fun H=>aDb tag hn hM hlen hF hne ht H,fun H=>aLu ht hn hM (E:=E') ?_ ?_ ?_ ?_ H⟩
 · rw[List.length_map,←hE',List.length_map];exact hElen
 · intro e
   rw[List.map_eq_nil_iff,←hE',List.map_eq_nil_iff] at e;exact hE0 e
 · intro v
   rw[List.mem_map];constructor
   · rintro⟨p,hp,rfl⟩
     obtain⟨⟨q,hq,h1⟩,h2⟩:=(hm' p).1 hp;have h3:=(hF.po q hq).eB.1 h1;exact⟨q,(hF.fl.mem q).1 hq,p.1,p.2,h3.2,h3.1,h2,rfl⟩
   · rintro⟨q,hq,a,b,h1,h2,h3,rfl⟩
     have hq':=(hF.fl.mem q).2 hq;exact⟨(a,b),(hm' (a,b)).2 ⟨⟨q,hq',(hF.po q hq').eB.2 ⟨h2,h1⟩⟩,h3⟩,rfl⟩
 · intro v hv
   obtain⟨p,hp,rfl⟩:=List.mem_map.1 hv;obtain⟨⟨q,hq,h1⟩,h2⟩:=(hm' p).1 hp;obtain⟨b1,b2⟩:=hon q hq _ _ h1
   have hg:∀k,k<l.length→Near M (l.getD k V0):=fun k hk=>by
    have :l.getD k V0=l[k]:=by simp[List.getD,hk]
    rw[this];exact hn _ (List.getElem_mem hk)
   exact cH (hg _ b2) (hg _ b1)
 · rw[←hE',List.length_map];exact hElen
 · intro e
   rw[←hE',List.map_eq_nil_iff] at e;exact hE0 e
 · intro p hp
   obtain⟨⟨q,hq,h1⟩,h2⟩:=(hm' p).1 hp;exact hon q hq _ _ h1
 · rw[←hmap];exact p3
end Go.Proofs.YtjiignefffdelaaGreatDoor
