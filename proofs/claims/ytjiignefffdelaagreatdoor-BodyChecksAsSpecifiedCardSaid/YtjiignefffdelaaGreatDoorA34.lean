/-
  Parts of the proof of statement 4: Ks, Ku, Kv
-/
import Derived.Test.YtjiignefffdelaaGreatDoorA33
import Derived.Test.YtjiignefffdelaaGreatDoorA32
set_option linter.unusedVariables false
set_option maxRecDepth 100000
set_option maxHeartbeats 16000000
namespace Go.Proofs.YtjiignefffdelaaGreatDoor
open Go Go.Av Go.Geo
attribute [local congr] aU aN aO aM aW aR aP aL
attribute [local irreducible] FC FOps FD2
def inB (v:Geo.V):Bool:=(List.range 3).all fun i=>decide (¬(v.at i>262144)∧¬(v.at i< -262144))
theorem uC {v:Geo.V}:inB v=true↔Near (2^18) v:=by
 unfold inB Near;simp only[List.all_eq_true,List.mem_range,decide_eq_true_eq];constructor
 · intro h
   have h0:=h 0 (by decide);have h1:=h 1 (by decide);have h2:=h 2 (by decide);simp only[V.at] at h0 h1 h2;omega
 · intro h i hi
   match i,hi with
   |0,_=>simp only[V.at];omega
   |1,_=>simp only[V.at];omega
   |2,_=>simp only[V.at];omega
def mk (n:Nat) (P:Nat→Bool):List AV:=(List.range n).map fun k=>AV.bool (P k)
theorem uR (n:Nat) (P:Nat→Bool):(mk n P).length=n:=by simp[mk]
theorem aWm {n:Nat} (P:Nat→Bool) {k:Nat} (h:k<n):(mk n P).getD k undefA=.bool (P k):=by simp[mk,List.getD,h]
theorem aWn {n:Nat} (P:Nat→Bool) {p:Nat} (h:p<n):(mk n P).take p++[AV.bool true]++(mk n P).drop (p+1)=mk n (fun k=>P k||k==p):=by
 refine List.ext_getElem (by simp[mk];omega) fun k h1 h2=>?_;rw[uR] at h2;simp only[List.append_assoc,List.getElem_append,List.length_take,uR,List.length_cons,List.length_nil];by_cases hk:k<p
 · rw[dif_pos (by omega)]
   simp[mk];omega
 · rw[dif_neg (by omega)]
   by_cases hk2:k=p
   · subst hk2
     rw[dif_pos (by omega)];simp[mk]
   · rw[dif_neg (by omega)]
     simp only[mk,List.getElem_drop,List.getElem_map,List.getElem_range]
     have :p+1+(k -min p n -(0+1))=k:=by omega
     rw[this];simp[hk2]
def usedB (S:List (Geo.V×Int)) (L:Geo.V×Int→List Nat) (k:Nat):Bool:=S.any fun q=>(L q).contains k
def hullL (C:List Geo.V) (S:List (Geo.V×Int)) (L:Geo.V×Int→List Nat):List Geo.V:=((List.range C.length).filter (usedB S L)).map fun k=>C.getD k V0
def hullO (l C:List Geo.V) (S:List (Geo.V×Int)) (L:Geo.V×Int→List Nat):AV×Int:=
 if 64<l.length then(.nilsl,2) else if l.all inB=false then(.nilsl,1) else if S.length<4 then(.nilsl,120) else if 64<S.length then(.nilsl,2) else(rowO 3 (ivE (hullL C S L)),0)
theorem aQr {tag:Nat} (ht:Nat.blt tag 2=true) {l C:List Geo.V} (hlen:l.length<2^30) (hC:Ord l C) {S:List (Geo.V×Int)} {L:Geo.V×Int→List Nat} (hS:Facs C S L) (H:Heap):
 Sound Tryz.prog gv 56 [.aT tag 3 (ivE l)] H (.ret (.tup [.agg [(hullO l C S L).1],.int .i64 (hullO l C S L).2])) H:=by
 refine bZ fit bW bBn (Nat.le_of_ble_eq_true rfl) (by simp only[sf,bG ht]) ?_ H;unfold W56;dsimp only;refine aA fun K hK=>?_;simp only[↓zP,zG,Nat.reduceLT];apply hK;clear hK K;refine aA fun K hK=>?_;simp only[↓zP,zG,Nat.reduceLT,Nat.reduceEqDiff,zI,aJ];refine⟨fun h=>?_,fun hle=>?_⟩
 · have h64:64<l.length:=by omega
   refine⟨rfl,_,by simp only[↓zP,zR,Nat.reduceEqDiff];rfl,?_⟩;rw[show hullO l C S L=(.nilsl,2) from if_pos h64];exact⟨_,2,rfl,fun nw=>rfl⟩
 · have h64:¬(64<l.length):=by omega
   apply hK;clear hK K;refine aA fun K hK=>?_;refine aA fun K2 hK2=>?_;simp only[↓zP,zG,Nat.reduceLT,Nat.reduceEqDiff,zI];apply hK2;clear hK2 K2;refine bD [] (fun i _ H=>(∀v∈l.take i,inB v=true)∧H.get 0=some (.cells [.nilsl] false)∧1≤H.next) l.length (by omega) (by decide) ?_ ?_ ?_ ?_ ?_
   · simp only[aC]
   · simp only[aC,ne_eq,Nat.reduceEqDiff,not_false_eq_true,aJ]
   · exact⟨fun v hv=>by simp at hv,by simp only[zI],by simp only[zI,Nat.reduceLeDiff]⟩
   · rintro i f H1 hi hk e1 ⟨hin,g0,hn⟩
     have hg:=bC hi;have hmem:=List.getElem_mem hi
     have hx:∀v,v∈l.take (i+1)→v∈l.take i∨v=l[i]:=fun v hv=>by
      rw[List.take_add_one,List.mem_append] at hv
      rcases hv with h|h
      · exact .inl h
      · simp[hi] at h;exact .inr h
     generalize l[i]=x at *
     have nx:¬(0=H1.next):=by omega
     refine aI ?_;refine aA fun K2 hK2=>?_;simp only[↓zP,zG,Nat.reduceLT,Nat.reduceEqDiff,Nat.reduceAdd,zI,e1,hk 22 rfl,aD,aJ,hi,hg,oL (aG x)];apply hK2;clear hK2 K2;refine aA fun K2 hK2=>?_;simp only[↓zP,zG,Nat.reduceLT,Nat.reduceEqDiff,zI,oL (aG x)];apply hK2;clear hK2 K2;refine dH [] (fun j _ H=>(∀c,c<j→¬(x.at c>262144)∧¬(x.at c< -262144))∧H.get 0=some (.cells [.nilsl] false)∧1≤H.next) 3 (by decide) rfl (by decide) ?_ ?_ ?_ ?_
     · simp only[aC]
     · refine⟨fun c hc=>absurd hc (Nat.not_lt_zero _),?_,?_⟩
       · rw[Heap.aB,if_neg nx,Heap.aH,if_neg nx];exact g0
       · simp only[Heap.aS,Heap.aX];omega
     · rintro j f2 H2 hj hk2 e2 ⟨hc,g0',hn'⟩
       have hj2:j≤2:=by omega
       have hbad:(x.at j>262144∨x.at j< -262144)→l.all inB=false:=fun h=>by
        rw[←Bool.not_eq_true,List.all_eq_true];intro ha;have :=ha x hmem;simp only[inB,List.all_eq_true,List.mem_range,decide_eq_true_eq] at this;have :=this j hj;omega
       refine aI ?_;by_cases c1:x.at j>262144
       · have d1:=decide_eq_true c1
         simp only[↓zP,zG,Nat.reduceLT,Nat.reduceEqDiff,zI,Nat.reduceLeDiff,e2,hk2 28 rfl,aD,dB x hj,aG,hj,hj2,d1,hk2 2 rfl,hk 2 rfl,g0'];refine⟨rfl,_,by simp only[↓zP,zR,Nat.reduceEqDiff,hk2 2 rfl,hk 2 rfl,g0'];rfl,?_⟩;rw[show hullO l C S L=(.nilsl,1) from (if_neg h64).trans (if_pos (hbad (by omega)))];exact⟨_,2,rfl,fun nw=>rfl⟩
       · have d1:=decide_eq_false c1
         by_cases c2:x.at j< -262144
         · have d2:=decide_eq_true c2
           simp only[↓zP,zG,Nat.reduceLT,Nat.reduceEqDiff,zI,Nat.reduceLeDiff,e2,hk2 28 rfl,aD,dB x hj,aG,hj,hj2,d1,d2,hk2 2 rfl,hk 2 rfl,g0'];refine⟨rfl,_,by simp only[↓zP,zR,Nat.reduceEqDiff,hk2 2 rfl,hk 2 rfl,g0'];rfl,?_⟩;rw[show hullO l C S L=(.nilsl,1) from (if_neg h64).trans (if_pos (hbad (by omega)))];exact⟨_,2,rfl,fun nw=>rfl⟩
         · have d2:=decide_eq_false c2
           simp only[↓zP,zG,Nat.reduceLT,Nat.reduceEqDiff,zI,Nat.reduceLeDiff,e2,hk2 28 rfl,aD,dB x hj,aG,hj,hj2,d1,d2];refine⟨fun c h=>?_,g0',hn'⟩;by_cases hcj:c=j
           · subst hcj;exact⟨c1,c2⟩
           · exact hc c (by omega)
     · rintro f2 H2 hk2 ⟨hc,g0',hn'⟩
       simp only[↓zP];refine⟨fun v hv=>?_,g0',hn'⟩
       rcases hx v hv with h|rfl
       · exact hin v h
       · simp only[inB,List.all_eq_true,List.mem_range,decide_eq_true_eq]
         exact fun c h=>hc c h
   · rintro f H1 hk ⟨hin,g0,hn⟩
     rw[List.take_length] at hin;have hall:l.all inB=true:=List.all_eq_true.2 hin;simp only[↓zP];apply hK;clear hK K;have hNr:∀v∈C,Near (2^18) v:=fun v hv=>uC.1 (hin v ((hC.mem v).1 hv))
     have hCl:C.length≤64:=by
      have :=hU C l (List.Pairwise.imp (fun {a b} (h:VLt a b) (e:a=b)=>VLt.irr b (by rw[e] at h;exact h)) hC.srt) fun v hv=>(hC.mem v).1 hv;omega
     have hpl:∀H,Sound Tryz.prog gv 109 [rowO 3 (ivE C)] H (.ret (rowO 4 (S.map plC))) H:=fun H=>by
      by_cases hc:C=[]
      · subst hc
        have hSn:S=[]:=List.eq_nil_iff_forall_not_mem.2 fun q hq=>by
         obtain⟨i,j,k,_,_,h,_⟩:=cM ((hS.fl.mem q).1 hq);exact absurd h (Nat.not_lt_zero _)
        subst hSn;exact vD H
      · rw[show rowO 3 (ivE C)=.aT 0 3 (ivE C) from if_neg (by simpa [ivE] using hc)]
        exact yD (by decide) hNr (Nat.le_refl _) hCl hS.fl H
     have hsd:∀H,Sound Tryz.prog gv 108 [.aT tag 3 (ivE l)] H (.ret (rowO 3 (ivE C))) H:=aMf ht (by omega) hC;refine aA fun K hK=>?_;simp only[↓zP,zG,Nat.reduceLT,Nat.reduceEqDiff,zI,hk 0 rfl];refine bF (hsd _) ?_;simp only[↓zP,zG,Nat.reduceLT];apply hK;clear hK K;refine aA fun K hK=>?_;simp only[↓zP,zG,Nat.reduceLT];refine bF (hpl _) ?_;simp only[↓zP,zG,Nat.reduceLT];apply hK;clear hK K;by_cases hS4:S.length<4
     · have hO:hullO l C S L=(.nilsl,120):=(if_neg h64).trans ((if_neg (by rw[hall];decide)).trans (if_pos hS4))
       by_cases hSe:S=[]
       · subst hSe
         rw[show rowO 4 (List.map plC [])=.nilsl from rfl];refine aA fun K hK=>?_;simp only[↓zP,zG,Nat.reduceLT,Nat.reduceEqDiff,zI,Int.reduceLT,hk 2 rfl,g0];refine⟨fun _=>?_,fun h=>absurd (show((0:Int)<4) by decide) (by simp at h)⟩;refine⟨rfl,_,by simp only[↓zP,zR,Nat.reduceEqDiff,hk 2 rfl,g0];rfl,?_⟩;rw[hO];exact⟨_,2,rfl,fun nw=>rfl⟩
       · rw[show rowO 4 (S.map plC)=.aT 0 4 (S.map plC) from if_neg (by simpa using hSe)]
         refine aA fun K hK=>?_;simp only[↓zP,zG,Nat.reduceLT,Nat.reduceEqDiff,zI,hk 2 rfl,g0,List.length_map];refine⟨fun _=>?_,fun h=>absurd hS4 (by omega)⟩;refine⟨rfl,_,by simp only[↓zP,zR,Nat.reduceEqDiff,hk 2 rfl,g0];rfl,?_⟩;rw[hO];exact⟨_,2,rfl,fun nw=>rfl⟩
     · have hSe:S≠[]:=fun h=>hS4 (by rw[h];decide)
       rw[show rowO 4 (S.map plC)=.aT 0 4 (S.map plC) from if_neg (by simpa using hSe)]
       have hCe:ivE C≠[]:=fun h=>hSe (List.eq_nil_iff_forall_not_mem.2 fun q hq=>by
        obtain⟨i,j,k,_,_,h',_⟩:=cM ((hS.fl.mem q).1 hq)
        have :C.length=0:=by rw[←aJ,h];rfl
        omega)
       rw[show rowO 3 (ivE C)=.aT 0 3 (ivE C) from if_neg hCe];refine aA fun K hK=>?_;simp only[↓zP,zG,Nat.reduceLT,Nat.reduceEqDiff,zI,List.length_map];refine⟨fun h=>absurd h (by omega),fun _=>?_⟩;apply hK;clear hK K;by_cases hS64:64<S.length
       · have hO:hullO l C S L=(.nilsl,2):=(if_neg h64).trans ((if_neg (by rw[hall];decide)).trans ((if_neg hS4).trans (if_pos hS64)))
         refine aA fun K hK=>?_;simp only[↓zP,zG,Nat.reduceLT,Nat.reduceEqDiff,zI,hk 2 rfl,g0,List.length_map];refine⟨fun _=>?_,fun h=>absurd hS64 (by omega)⟩;refine⟨rfl,_,by simp only[↓zP,zR,Nat.reduceEqDiff,hk 2 rfl,g0];rfl,?_⟩;rw[hO];exact⟨_,2,rfl,fun nw=>rfl⟩
       · refine aA fun K hK=>?_
         simp only[↓zP,zG,Nat.reduceLT,Nat.reduceEqDiff,zI,List.length_map];refine⟨fun h=>absurd h (by omega),fun _=>?_⟩;apply hK;clear hK K;have hO:hullO l C S L=(rowO 3 (ivE (hullL C S L)),0):=(if_neg h64).trans ((if_neg (by rw[hall];decide)).trans ((if_neg hS4).trans (if_neg hS64)));rw[hO]
         have hrep:(List.replicate C.length [AV.bool false]).flatten=mk C.length (fun _=>false):=by
          have :∀n:Nat,(List.replicate n [AV.bool false]).flatten=List.replicate n (AV.bool false):=fun n=>by
           induction n with
           |zero=>rfl
           |succ n ih=>rw[List.replicate_succ,List.flatten_cons,ih];rfl
          rw[this]
          exact List.ext_getElem (by simp[mk]) fun k h1 h2=>by simp[mk]
         have h40:C.length≤2^40:=by omega
         refine aA fun K hK=>?_;simp only[↓zP,zG,Nat.reduceLT,Nat.reduceEqDiff,zI,aJ,aD,h40,hrep];apply hK;clear hK K
         have nx0:¬(0=H1.next):=by omega
         refine aA fun K hK=>?_;refine aA fun K2 hK2=>?_;simp only[↓zP,zG,Nat.reduceLT,Nat.reduceEqDiff,List.length_map];apply hK2;clear hK2 K2;generalize hsid:H1.next=sid at *;refine bD [] (fun i _ H'=>H'.get 0=some (.cells [.nilsl] false)∧H'.get sid=some (.cells (mk C.length (fun k=>(S.take i).any fun q=>(L q).contains k)) false)∧sid<H'.next) S.length (by omega) (by decide) ?_ ?_ ?_ ?_ ?_
         · simp only[aC]
         · simp only[aC,ne_eq,Nat.reduceEqDiff,not_false_eq_true]
         · refine⟨by rw[Heap.aH,hsid,if_neg nx0];exact g0,by rw[Heap.aH,hsid,if_pos rfl];rfl,by rw[Heap.aX,hsid];omega⟩
         · rintro i f2 H2 hi hk2 e2 ⟨m0,ms,hn2⟩
           have hg:(S.map plC).getD i []=plC S[i]:=bU hi;have hqS:=List.getElem_mem hi;have hq:=fL hNr ((hS.fl.mem _).1 hqS);have hpo:=hS.po _ hqS
           have htk:∀k,((S.take (i+1)).any fun q=>(L q).contains k)=(((S.take i).any fun q=>(L q).contains k)||(L S[i]).contains k):=fun k=>by
            rw[List.take_add_one,List.any_append];simp[hi]
           simp only[htk];generalize S[i]=q at *;have p4:(plC q).length=4:=rfl;have hpg:=vE (tag:=0) (by decide) hNr (Nat.le_refl _) hCl hq (by decide) hpo;have hLl:∀k∈L q,k<C.length:=fun k hk=>(bO.1 (hpo.aWl hk)).1
           have hLlen:(L q).length<2^30:=by
            obtain⟨s,r,m,e,W,h⟩:=hpo.ex;rw[h,List.length_map,List.length_range];have h1:=W.le;have h2:=List.length_filter_le (fun k=>decide (Geo.dot q.1 (C.getD k V0)=q.2)) (List.range C.length);rw[List.length_range] at h2;have h3:(onL (fun i=>C.getD i V0) C.length q.1 q.2).length≤C.length:=h2;omega
           refine aI ?_;refine aA fun K2 hK2=>?_;simp only[↓zP,zG,Nat.reduceLT,Nat.reduceEqDiff,Nat.reduceAdd,zI,e2,hk2 56 rfl,aD,List.length_map,hi,hg,oL p4];apply hK2;clear hK2 K2;refine aA fun K2 hK2=>?_;simp only[↓zP,zG,Nat.reduceLT,Nat.reduceEqDiff,zI,hk2 8 rfl,oL p4];refine bF (hpg _) ?_;simp only[↓zP,zG,Nat.reduceLT,bP];apply hK2;clear hK2 K2
           have nx2:¬(0=H2.next):=by omega
           have nxs:¬(sid=H2.next):=by omega
           refine bD [] (fun j _ H'=>H'.get 0=some (.cells [.nilsl] false)∧H'.get sid=some (.cells (mk C.length (fun k=>((S.take i).any fun q=>(L q).contains k)||((L q).take j).contains k)) false)∧sid<H'.next) (L q).length (by omega) (by decide) ?_ ?_ ?_ ?_ ?_
           · simp only[aC]
           · simp only[aC,ne_eq,Nat.reduceEqDiff,not_false_eq_true]
           · refine⟨by rw[Heap.aB,if_neg nx2,Heap.aH,if_neg nx2];exact m0,?_,by simp only[Heap.aS,Heap.aX];omega⟩
             rw[Heap.aB,if_neg nxs,Heap.aH,if_neg nxs,ms];simp
           · rintro j f3 H3 hj hk3 e3 ⟨m0',ms',hn3⟩
             have hgp:=iB hj;have hpl:=hLl _ (List.getElem_mem hj)
             have htj:∀k,((L q).take (j+1)).contains k=(((L q).take j).contains k||k==(L q)[j]):=fun k=>by
              rw[Bool.eq_iff_iff];simp only[Bool.or_eq_true,List.contains_iff_mem,beq_iff_eq,List.take_add_one,List.getElem?_eq_getElem hj,Option.toList_some,List.mem_append,List.mem_singleton]
             simp only[htj];generalize (L q)[j]=p at *;have hpl1:p+1≤C.length:=hpl;have hset:=aWn (fun k=>((S.take i).any fun q=>(L q).contains k)||((L q).take j).contains k) hpl;refine aI ?_;simp only[↓zP,zG,Nat.reduceLT,Nat.reduceEqDiff,zI,e3,hk3 64 rfl,hk3 10 rfl,hk2 10 rfl,aD,bP,hj,hgp,hpl,hpl1,ms',uR];refine⟨(if_neg (by omega)).trans m0',?_,hn3⟩;rw[hset];simp only[Bool.or_assoc]
           · rintro f3 H3 hk3 ⟨m0',ms',hn3⟩
             rw[List.take_length] at ms';simp only[↓zP];exact⟨m0',ms',hn3⟩
         · rintro f2 H2 hk2 ⟨m0,ms,hn2⟩
           rw[List.take_length] at ms;simp only[↓zP];apply hK;clear hK K;have hP:∀k,(S.any fun q=>(L q).contains k)=usedB S L k:=fun k=>rfl;simp only[hP] at ms;refine aA fun K hK=>?_;simp only[↓zP,zG,Nat.reduceLT];apply hK;clear hK K;refine aA fun K hK=>?_;refine aA fun K2 hK2=>?_;simp only[↓zP,zG,Nat.reduceLT,Nat.reduceEqDiff,hk2 8 rfl,aJ];apply hK2;clear hK2 K2
           have z0:¬(0=H2.next):=by omega
           have zs:¬(sid=H2.next):=by omega
           generalize ho:H2.next=ob at *;refine bD [] (fun i _ H'=>H'.get 0=some (.cells [.nilsl] false)∧H'.get sid=some (.cells (mk C.length (usedB S L)) false)∧ob<H'.next∧∃v,H'.get ob=some (.cells [v] false)∧Own H' 3 v (ivE (((List.range i).filter (usedB S L)).map fun k=>C.getD k V0))∧(((List.range i).filter (usedB S L)).map (fun k=>C.getD k V0)=[]→v=.nilsl)) C.length (by omega) (by decide) ?_ ?_ ?_ ?_ ?_
           · simp only[aC]
           · simp only[aC,ne_eq,Nat.reduceEqDiff,not_false_eq_true]
           · refine⟨by rw[Heap.aH,ho,if_neg z0];exact m0,by rw[Heap.aH,ho,if_neg zs];exact ms,by rw[Heap.aX,ho];omega,.nilsl,by rw[Heap.aH,ho,if_pos rfl],.nil _ _,fun _=>rfl⟩
           · rintro i f3 H3 hi hk3 e3 ⟨q0,qs,qn,v,qv,qo,qe⟩
             have hg:=bC hi
             have hgi:C.getD i V0=C[i]:=by simp[List.getD,hi]
             have hfil:((List.range (i+1)).filter (usedB S L)).map (fun k=>C.getD k V0)=((List.range i).filter (usedB S L)).map (fun k=>C.getD k V0)++(if usedB S L i then [C[i]] else []):=by
              rw[List.range_succ,List.filter_append,List.map_append];congr 1;simp only[List.filter_cons,List.filter_nil];split
              · rw[List.map_cons,hgi];rfl
              · rfl
             have hfl:(((List.range i).filter (usedB S L)).map fun k=>C.getD k V0).length≤64:=by
              rw[List.length_map];have :=List.length_filter_le (usedB S L) (List.range i);rw[List.length_range] at this;omega
             rw[hfil];generalize ((List.range i).filter (usedB S L)).map (fun k=>C.getD k V0)=els at *;generalize C[i]=x at *
             have n0:¬(0=H3.next):=by omega
             have ns:¬(sid=H3.next):=by omega
             have nb:¬(ob=H3.next):=by omega
             have hi1:i+1≤C.length:=hi;have hmg:=aWm (usedB S L) hi;refine aI ?_;refine aA fun K2 hK2=>?_;simp only[↓zP,zG,Nat.reduceLT,Nat.reduceEqDiff,Nat.reduceAdd,zI,e3,hk3 75 rfl,aD,aJ,hi,hg,oL (aG x)];apply hK2;clear hK2 K2;generalize hX:(H3.alloc _).set H3.next _=H4
             have y0:H4.get 0=some (.cells [.nilsl] false):=by subst hX;rw[Heap.aB,if_neg n0,Heap.aH,if_neg n0];exact q0
             have ys:H4.get sid=some (.cells (mk C.length (usedB S L)) false):=by subst hX;rw[Heap.aB,if_neg ns,Heap.aH,if_neg ns];exact qs
             have yv:H4.get ob=some (.cells [v] false):=by subst hX;rw[Heap.aB,if_neg nb,Heap.aH,if_neg nb];exact qv
             have yx:H4.get H3.next=some (.cells (ivC x) false):=by subst hX;rw[Heap.aB,if_pos rfl]
             have yn:H4.next=H3.next+1:=by subst hX;simp only[Heap.aS,Heap.aX]
             have yo:Own H4 3 v (ivE els):=by
              refine qF qo (by omega) fun k h1 h2=>?_;subst hX;rw[Heap.aB,if_neg (by omega),Heap.aH,if_neg (by omega)];exact h2
             clear hX;generalize H3.next=r3 at *
             cases hu:usedB S L i with
             |false=>
              rw[hu] at hmg;simp only[↓zP,zG,Nat.reduceLT,Nat.reduceEqDiff,zI,hk3 10 rfl,hk2 10 rfl,aD,hi,hi1,ys,uR,hmg];exact⟨y0,trivial,by omega,v,yv,yo,qe⟩
             |true=>
              rw[hu] at hmg;simp only[↓zP,zG,Nat.reduceLT,Nat.reduceEqDiff,zI,hk3 10 rfl,hk2 10 rfl,aD,hi,hi1,ys,uR,hmg,hk3 15 rfl,yv,yx,oL (aG x)];obtain⟨H5,z1,z2,z3,z4,z5⟩:=Has.push (.inr yo) (ys:=[ivC x]) (bytes:=24) rfl (by rw[aJ,List.length_cons,List.length_nil];omega);rw[show ∀(h:Heap) (x:List AV),elemsOf h 3 (.aT 1 3 [x])=some [x] from fun _ _=>rfl];have w2:=(z4 ob (by omega) (by rw[yv];simp)).trans yv;simp only[z1,aZ,zG,zI,w2];refine⟨(if_neg (by omega)).trans ((z4 0 (by omega) (by rw[y0];simp)).trans y0),(if_neg (by omega)).trans ((z4 sid (by omega) (by rw[ys];simp)).trans ys),by omega,_,rfl,?_,fun h=>?_⟩
              · rw[show ivE (els++[x])=ivE els++[ivC x] from by simp[ivE]]
                exact .inr ⟨H4.next,rfl,by simp only[Heap.aS];omega,by rw[Heap.aB,if_neg (by omega)];exact z3⟩
              · simp at h
           · rintro f3 H3 hk3 ⟨q0,qs,qn,v,qv,qo,qe⟩
             simp only[↓zP];apply hK;clear hK K;have hL:((List.range C.length).filter (usedB S L)).map (fun k=>C.getD k V0)=hullL C S L:=rfl;rw[hL] at qo qe;simp only[↓zP,zG,Nat.reduceLT,Nat.reduceEqDiff,zI,hk3 15 rfl,hk3 2 rfl,hk2 2 rfl,hk 2 rfl,qv,q0];refine⟨rfl,_,by simp only[↓zP,zR,Nat.reduceEqDiff,hk3 2 rfl,hk2 2 rfl,hk 2 rfl,q0];rfl,?_⟩;refine⟨_,2,rfl,fun nw=>?_⟩
             rcases qo with ⟨rfl,h⟩|⟨k,rfl,h1,h2⟩
             · rw[h];rfl
             · have hne:¬ivE (hullL C S L)=[]:=fun h=>by
                have :=qe (by simpa [ivE] using h);cases this
               rw[show rowO 3 (ivE (hullL C S L))=.aT 0 3 (ivE (hullL C S L)) from if_neg hne];have hfr:freeLL (ivE (hullL C S L))=true:=bR bA _;simp[shutF,mapO,shut1,hfr,tagA,retA,AV.free]
theorem uB {C:List Geo.V} {S:List (Geo.V×Int)} {L:Geo.V×Int→List Nat} (hS:Facs C S L) (hne:S≠[]):hullL C S L≠[]:=by
 obtain⟨q,r,rfl⟩:=List.exists_cons_of_ne_nil hne;obtain⟨s,r',m,e,W,h⟩:=(hS.po q List.mem_cons_self).ex
 have hm:s∈L q:=by rw[h];exact List.mem_map.2 ⟨0,List.mem_range.2 W.pos,rfl⟩
 have hs:s<C.length:=(bO.1 W.hs).1;intro hh;have :C.getD s V0∈hullL C (q::r) L:=List.mem_map.2 ⟨s,List.mem_filter.2 ⟨List.mem_range.2 hs,by simp[usedB,hm]⟩,rfl⟩;rw[hh] at this;cases this
def chkP (l C:List Geo.V) (S:List (Geo.V×Int)) (L:Geo.V×Int→List Nat):Int:=
 if(hullO l C S L).2=0∧hullL C S L≠l then 3 else(hullO l C S L).2
theorem zT {l C:List Geo.V} {S:List (Geo.V×Int)} {L:Geo.V×Int→List Nat} (h:(hullO l C S L).2=0):S≠[]∧(hullO l C S L).1=rowO 3 (ivE (hullL C S L))∧l.length≤64:=by
 unfold hullO at h ⊢;split at h
 · cases h
 · split at h
   · cases h
   · split at h
     · cases h
     · split at h
       · cases h
       · rename_i h1 h2 h3 h4
         rw[if_neg h1,if_neg h2,if_neg h3,if_neg h4];exact⟨fun e=>h3 (by rw[e];decide),rfl,by omega⟩
theorem zS {tag:Nat} (ht:Nat.blt tag 2=true) {l C:List Geo.V} (hlen:l.length<2^30) (hC:Ord l C) {S:List (Geo.V×Int)} {L:Geo.V×Int→List Nat} (hS:Facs C S L) (H:Heap):
 Sound Tryz.prog gv 23 [.agg [.aT tag 3 (ivE l)]] H (.ret (.int .i64 (chkP l C S L))) H:=by
 refine Sp bAq (by simp only[sf,bG ht]) (by simp only[sf]) ?_ H;unfold W23;dsimp only;have hH:=fun H=>aQr ht hlen hC hS H;unfold chkP;have h0:=zT (l:=l) (C:=C) (S:=S) (L:=L);generalize hullO l C S L=o at *;obtain⟨ov,oc⟩:=o;dsimp only at hH h0 ⊢;refine aA fun K hK=>?_;simp only[↓zP,zG,Nat.reduceLT,zI];apply hK;clear hK K;refine aA fun K hK=>?_;simp only[↓zP,zG,Nat.reduceLT,Nat.reduceEqDiff,zI];refine bF (hH _) ?_;simp only[↓zP,zG,Nat.reduceLT,Nat.reduceEqDiff,Nat.reduceAdd,zI];apply hK;clear hK K;by_cases hc:oc=0
 · subst hc
   obtain⟨hSn,rfl,hl64⟩:=h0 rfl;have hne:=uB hS hSn;have hrow:rowO 3 (ivE (hullL C S L))=.aT 0 3 (ivE (hullL C S L)):=if_neg (by simpa [ivE] using hne);rw[hrow]
   have hll:(hullL C S L).length<2^30:=by
    have hCl:C.length≤l.length:=hU C l (List.Pairwise.imp (fun {a b} (h:VLt a b) (e:a=b)=>VLt.irr b (by rw[e] at h;exact h)) hC.srt) fun v hv=>(hC.mem v).1 hv;have :=List.length_filter_le (usedB S L) (List.range C.length);rw[List.length_range] at this;simp only[hullL,List.length_map];omega
   have hb:((0:Int)==0)=true:=rfl;have hE:=fun H=>aMu (t1:=0) (t2:=tag) rfl ht hll hlen H;refine aA fun K hK=>?_;simp only[↓zP,zG,Nat.reduceLT,Nat.reduceEqDiff,zI,hb];refine bF (hE _) ?_;by_cases he:hullL C S L=l
   · have hd:=decide_eq_true he
     simp only[↓zP,zG,Nat.reduceLT,Nat.reduceEqDiff,zI,hd];apply hK;clear hK K;simp only[↓zP,zG,Nat.reduceLT,Nat.reduceEqDiff];refine⟨rfl,_,by simp only[↓zP,zR];rfl,?_⟩;rw[if_neg (fun h=>h.2 he)];rfl
   · have hd:=decide_eq_false he
     simp only[↓zP,zG,Nat.reduceLT,Nat.reduceEqDiff,zI,hd];refine⟨rfl,_,by simp only[↓zP,zR];rfl,?_⟩;rw[if_pos ⟨trivial,he⟩];rfl
 · have hb:(oc==0)=false:=beq_eq_false_iff_ne.2 hc
   refine aA fun K hK=>?_;simp only[↓zP,zG,Nat.reduceLT,Nat.reduceEqDiff,zI,hb];apply hK;clear hK K;simp only[↓zP,zG,Nat.reduceLT,Nat.reduceEqDiff];refine⟨rfl,_,by simp only[↓zP,zR];rfl,?_⟩;rw[if_neg (fun h=>hc h.1)];rfl
theorem sQ {id r:Nat} {o:Bool} {H:Heap} (hr:H.get r=some (.cells [.nilsl] o)):Sound Tryz.prog gv 200 [.yield id,.ref r 0] H (.ret (.tup [])) H:=by
 refine eI aUi (Nat.le_of_ble_eq_true rfl) ?_;unfold W200;dsimp only;refine aA fun K hK=>?_;simp only[↓zP,zG,Nat.reduceLT,zI,hr];apply hK;clear hK K;refine bD [] (fun i vs H'=>H'=H) 0 (by decide) (by decide) ?_ ?_ ?_ ?_ ?_
 · simp only[aC]
 · simp only[aC,ne_eq,Nat.reduceEqDiff,not_false_eq_true];rfl
 · rfl
 · rintro i f H1 hi
   exact absurd hi (Nat.not_lt_zero _)
 · rintro f H1 hk rfl
   refine⟨rfl,_,by simp only[zR];rfl,?_⟩;exact⟨rfl,rfl⟩
theorem aEj (H:Heap):Sound Tryz.prog gv 148 [.nilsl] H (.ret (.func (.func 200) [] [.ref H.next 0])) (H.alloc (.cells [.nilsl] false)):=by
 refine eI aUf (Nat.le_of_ble_eq_true rfl) ?_;unfold W148;dsimp only;simp only[↓zP,zG,Nat.reduceLT,Nat.reduceEqDiff,zI];refine⟨rfl,_,by simp only[↓zP,zR];rfl,?_⟩;exact⟨rfl,rfl⟩
theorem wE {r:Nat} {o:Bool} {H:Heap} (hrn:r<H.next) (hr:H.get r=some (.cells [.nilsl] o)):
 ∃H',Sound Tryz.prog gv 227 [.nilsl,.func (.func 200) [] [.ref r 0]] H (.ret .nilsl) H':=by
 suffices h:∃out H',out=.ret .nilsl∧Sound Tryz.prog gv 227 [.nilsl,.func (.func 200) [] [.ref r 0]] H out H' by
  obtain⟨_,H',rfl,hS⟩:=h;exact⟨H',hS⟩
 refine jQ fit aUj (Nat.le_of_ble_eq_true rfl) ?_;unfold W227;dsimp only;refine aA fun K hK=>?_;simp only[↓zP,zG,Nat.reduceLT,zI];apply hK;clear hK K;refine aA fun K hK=>?_;refine aA fun K2 hK2=>?_;simp only[↓zP,zG,Nat.reduceLT,Nat.reduceEqDiff,zI];apply hK2;clear hK2 K2;have hf2:(upd (upd (upd (startF [.nilsl,.func (.func 200) [] [.ref r 0]]) 2 (.ref H.next 0)) 4 .nilsl) 6 (.func (.func 200) [] [.ref r 0])) 2=.ref H.next 0:=rfl;have hf6:(upd (upd (upd (startF [.nilsl,.func (.func 200) [] [.ref r 0]]) 2 (.ref H.next 0)) 4 .nilsl) 6 (.func (.func 200) [] [.ref r 0])) 6=.func (.func 200) [] [.ref r 0]:=rfl;generalize upd (upd (upd (startF [.nilsl,.func (.func 200) [] [.ref r 0]]) 2 (.ref H.next 0)) 4 .nilsl) 6 (.func (.func 200) [] [.ref r 0])=f at *;refine aI ?_;refine nM (by rw[dA];exact hf6) ?_;simp only[Heap.aX];generalize hkey:LKey.mk [7] _ _=key
 refine⟨_,_,_,_,_,sQ (o:=o) (by
  rw[Heap.aH,if_neg (by simp;omega),Heap.aH,if_neg (by simp;omega),Heap.aH,if_neg (by omega)];exact hr),by rw[Heap.aH];simp;exact⟨rfl,rfl,rfl⟩,fun Hf hf=>?_⟩
 obtain⟨f1,f2⟩:=hf;show K f [.mark (H.next+1)] Hf;apply hK;clear hK K
 have b0:Hf.get H.next=some (.cells [.nilsl] false):=by rw[f2,if_neg (by omega)];simp[Heap.aH];omega
 have b1:Hf.get (H.next+1)=some .dfd:=by rw[f2,if_neg (by omega)];simp[Heap.aH]
 simp only[↓zP,zG,Nat.reduceLT,zI,hf2,b0];exact⟨b1,[.nilsl],rfl,rfl⟩
theorem aBa {r:Nat} {o:Bool} {H:Heap} (hrn:r<H.next) (hr:H.get r=some (.cells [.nilsl] o)):
 ∃H',Sound Tryz.prog gv 198 [.func (.func 200) [] [.ref r 0]] H (.ret .nilsl) H':=by
 obtain⟨H',hS⟩:=wE hrn hr;refine⟨H',?_⟩;refine eI aUh (Nat.le_of_ble_eq_true rfl) ?_;unfold W198;dsimp only;simp only[↓zP,zG,Nat.reduceLT,Nat.reduceEqDiff,zI];refine bF (hS) ?_;simp only[↓zP,zG,Nat.reduceLT];refine⟨rfl,_,by simp only[↓zP,zR];rfl,?_⟩;exact⟨rfl,rfl⟩
theorem tG {r:Nat} {o:Bool} {H:Heap} (hrn:r<H.next) (hr:H.get r=some (.cells [.nilsl] o)):
 ∃H',Sound Tryz.prog gv 147 [.func (.func 200) [] [.ref r 0],.func (.func 149) [] []] H (.ret .nilsl) H':=by
 obtain⟨H1,hS⟩:=aBa hrn hr;refine⟨H1,?_⟩;refine eI aOc (Nat.le_of_ble_eq_true rfl) ?_;unfold W147;dsimp only;simp only[↓zP,zG,Nat.reduceLT,Nat.reduceEqDiff,zI];refine bF (hS) ?_;simp only[↓zP,zG,Nat.reduceLT,Nat.reduceEqDiff,zI];refine bF (dT Tryz.aPz rfl aAf 149 _) ?_;simp only[↓zP,zG,Nat.reduceEqDiff];refine⟨rfl,_,by simp only[↓zP,zR];rfl,?_⟩;exact⟨rfl,rfl⟩
theorem aGr (H:Heap):Sound Tryz.prog gv 108 [.nilsl] H (.ret .nilsl) H:=by
 refine bZ fit bW aTy (Nat.le_of_ble_eq_true rfl) (by simp only[sf]) ?_ H;unfold W108;dsimp only;obtain⟨H1,hS⟩:=tG (r:=0) (o:=false) (H:=(Heap.mk 0 .nil).alloc (.cells [.nilsl] false)) (by simp) rfl;simp only[↓zP,zG,Nat.reduceLT,Nat.reduceEqDiff,zI];refine bF (aEj _) ?_;simp only[];refine bF (hS) ?_;simp only[↓zP,zG,Nat.reduceLT];refine bF (rP _) ?_;simp only[↓zP,zG,Nat.reduceLT];refine⟨rfl,_,by simp only[↓zP,zR];rfl,?_⟩;exact⟨_,0,rfl,fun nw=>rfl⟩
theorem aMz (H:Heap):Sound Tryz.prog gv 56 [.nilsl] H (.ret (.tup [.agg [.nilsl],.int .i64 120])) H:=by
 refine bZ fit bW bBn (Nat.le_of_ble_eq_true rfl) (by simp only[sf]) ?_ H;unfold W56;dsimp only;refine aA fun K hK=>?_;simp only[↓zP,zG,Nat.reduceLT];apply hK;clear hK K;refine aA fun K hK=>?_;simp only[↓zP,zG,Nat.reduceLT,Nat.reduceEqDiff,zI];refine⟨fun h=>absurd h (by decide),fun _=>?_⟩;apply hK;clear hK K;refine aA fun K hK=>?_;refine aA fun K2 hK2=>?_;simp only[↓zP,zG,Nat.reduceLT,Nat.reduceEqDiff,zI];apply hK2;clear hK2 K2;refine bD [] (fun i _ H=>H.get 0=some (.cells [.nilsl] false)) 0 (by decide) (by decide) ?_ ?_ ?_ ?_ ?_
 · simp only[aC]
 · simp only[aC,ne_eq,Nat.reduceEqDiff,not_false_eq_true];rfl
 · simp only[zI]
 · rintro i f H1 hi
   exact absurd hi (Nat.not_lt_zero _)
 · rintro f H1 hk g0
   simp only[↓zP];apply hK;clear hK K;refine aA fun K hK=>?_;simp only[↓zP,zG,Nat.reduceLT,Nat.reduceEqDiff,zI,hk 0 rfl];refine bF (aGr _) ?_;simp only[↓zP,zG,Nat.reduceLT];apply hK;clear hK K;refine aA fun K hK=>?_;simp only[↓zP,zG,Nat.reduceLT];refine bF (vD _) ?_;simp only[↓zP,zG,Nat.reduceLT];apply hK;clear hK K;refine aA fun K hK=>?_;simp only[↓zP,zG,Nat.reduceLT,Nat.reduceEqDiff,zI,Int.reduceLT,hk 2 rfl,g0];refine⟨fun _=>?_,fun h=>absurd (show((0:Int)<4) by decide) (by simp at h)⟩;refine⟨rfl,_,by simp only[↓zP,zR,Nat.reduceEqDiff,hk 2 rfl,g0];rfl,?_⟩;exact⟨_,2,rfl,fun nw=>rfl⟩
theorem wR (H:Heap):Sound Tryz.prog gv 23 [.agg [.nilsl]] H (.ret (.int .i64 120)) H:=by
 refine Sp bAq (by simp only[sf]) (by simp only[sf]) ?_ H;unfold W23;dsimp only;refine aA fun K hK=>?_;simp only[↓zP,zG,Nat.reduceLT,zI];apply hK;clear hK K;refine aA fun K hK=>?_;simp only[↓zP,zG,Nat.reduceLT,Nat.reduceEqDiff,zI];refine bF (aMz _) ?_;simp only[↓zP,zG,Nat.reduceLT,Nat.reduceEqDiff,Nat.reduceAdd,zI];apply hK;clear hK K
 have hb:((120:Int)==0)=false:=by decide
 refine aA fun K hK=>?_;simp only[↓zP,zG,Nat.reduceLT,Nat.reduceEqDiff,zI,hb];apply hK;clear hK K;simp only[↓zP,zG,Nat.reduceLT,Nat.reduceEqDiff];refine⟨rfl,_,by simp only[↓zP,zR];rfl,?_⟩;rfl
end Go.Proofs.YtjiignefffdelaaGreatDoor
