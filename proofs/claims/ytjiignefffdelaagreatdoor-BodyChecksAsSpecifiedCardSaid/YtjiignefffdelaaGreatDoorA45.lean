/-
  Parts of the proof of statement 4: KRu, KRv, KRw, KRx, KSa, KT, KSb
-/
import Derived.Test.YtjiignefffdelaaGreatDoorA44
import Derived.Test.YtjiignefffdelaaGreatDoorA29
import Derived.Test.YtjiignefffdelaaGreatDoorA23
import Derived.Test.YtjiignefffdelaaGreatDoorA15
import Derived.Test.YtjiignefffdelaaGreatDoorA24
import Derived.Test.YtjiignefffdelaaGreatDoorA28
set_option linter.unusedVariables false
set_option maxRecDepth 100000
set_option maxHeartbeats 16000000
namespace Go.Proofs.YtjiignefffdelaaGreatDoor
open Go Go.Av Go.Geo Go.Num
attribute [local congr] aU aN aO aM aW aR aP aL
attribute [local irreducible] FC FOps FD2
theorem aOg:∀c:Fin 256,letC c.1=((decide (97≤c.1)&&decide (c.1≤122))||(decide (65≤c.1)&&decide (c.1≤90))):=by decide
theorem aGl {c:Nat} (hc:c<256) (H:Heap):Sound Tryz.prog gv 58 [.int .u8 c] H (.ret (.bool (letC c))) H:=by
 refine Sp bEi (by simp only[sf]) (by simp only[sf]) ?_ H;unfold W58;dsimp only;have hl:=aOg ⟨c,hc⟩;simp only at hl;rw[hl]
 have d1:decide ((c:Int)≥97)=decide (97≤c):=by rw[decide_eq_decide];omega
 have d2:decide ((c:Int)≤122)=decide (c≤122):=by rw[decide_eq_decide];omega
 have d3:decide ((c:Int)≥65)=decide (65≤c):=by rw[decide_eq_decide];omega
 have d4:decide ((c:Int)≤90)=decide (c≤90):=by rw[decide_eq_decide];omega
 generalize decide (97≤c)=A at *;generalize decide (c≤122)=B at *;generalize decide (65≤c)=C at *;generalize decide (c≤90)=D at *
 cases A with
 |true=>
  cases B with
  |true=>
   simp only[↓zP,zG,Nat.reduceLT,Nat.reduceEqDiff,zI,d1,d2,eD];refine⟨rfl,_,by simp only[↓zP,zR];rfl,?_⟩;rfl
  |false=>
   cases C with
   |true=>
    simp only[↓zP,zG,Nat.reduceLT,Nat.reduceEqDiff,zI,d1,d2,d3,d4];refine⟨rfl,_,by simp only[↓zP,zR];rfl,?_⟩;rfl
   |false=>
    simp only[↓zP,zG,Nat.reduceLT,Nat.reduceEqDiff,zI,d1,d2,d3];refine⟨rfl,_,by simp only[↓zP,zR];rfl,?_⟩;rfl
 |false=>
  cases C with
  |true=>
   simp only[↓zP,zG,Nat.reduceLT,Nat.reduceEqDiff,zI,d1,d3,d4];refine⟨rfl,_,by simp only[↓zP,zR];rfl,?_⟩;simp[retA]
  |false=>
   simp only[↓zP,zG,Nat.reduceLT,Nat.reduceEqDiff,zI,d1,d3];refine⟨rfl,_,by simp only[↓zP,zR];rfl,?_⟩;simp[retA]
theorem aDh (s:List UInt8) (hlen:s.length<2^63) (H:Heap):Sound Tryz.prog gv 25 [.str s] H (.ret (.bool (validN s))) H:=by
 refine Sp bDm (by simp only[sf]) (by simp only[sf]) ?_ H;unfold W25;dsimp only
 have d1:decide ((s.length:Int)<1)= !decide (1≤s.length):=by rw[←decide_not,decide_eq_decide];omega
 have d2:decide ((s.length:Int)>32)= !decide (s.length≤32):=by rw[←decide_not,decide_eq_decide];omega
 refine aA fun K hK=>?_;simp only[↓zP,zG,Nat.reduceLT];apply hK;clear hK K;refine aA fun K hK=>?_
 cases h1:decide (1≤s.length) with
 |false=>
  rw[h1] at d1;simp only[↓zP,zG,Nat.reduceLT,Nat.reduceEqDiff,zI,d1];refine⟨rfl,_,by simp only[↓zP,zR];rfl,?_⟩;unfold validN;rw[h1];simp[retA]
 |true=>
 rw[h1] at d1
 cases h2:decide (s.length≤32) with
 |false=>
  rw[h2] at d2;simp only[↓zP,zG,Nat.reduceLT,Nat.reduceEqDiff,zI,d1,d2];refine⟨rfl,_,by simp only[↓zP,zR];rfl,?_⟩;unfold validN;rw[h2];simp[retA]
 |true=>
 rw[h2] at d2;have h2':=of_decide_eq_true h2;simp only[↓zP,zG,Nat.reduceLT,Nat.reduceEqDiff,zI,d1,d2];apply hK;clear hK K;refine aA fun K hK=>?_;simp only[↓zP,zG,Nat.reduceLT];refine bB [] (fun i vs H'=>∀k,k<i→chrC k (s.getD k 0).toNat=true) 0 s.length (Nat.zero_le _) (by omega) (by decide) ?_ ?_ ?_ ?_ ?_
 · simp only[aC];rfl
 · exact fun k hk=>absurd hk (Nat.not_lt_zero _)
 · rintro i f H1 h0 hi hk e1 _
   have f0:f 0=.str s:=by rw[hk 0 rfl];simp only[aC,ne_eq,Nat.reduceEqDiff,not_false_eq_true,startF,List.getD_cons_zero]
   simp only[↓zP,zG,Nat.reduceLT,Nat.reduceEqDiff,zI,e1,f0];exact⟨trivial,trivial,congrArg AV.bool (decide_eq_decide.2 (by omega))⟩
 · rintro i f H1 h0 hi hk e1 hJ
   have f0:f 0=.str s:=by rw[hk 0 rfl];simp only[aC,ne_eq,Nat.reduceEqDiff,not_false_eq_true,startF,List.getD_cons_zero]
   have hg:s[i]?=some (s.getD i 0):=by simp[List.getD,hi]
   have hc256:(s.getD i 0).toNat<256:=(s.getD i 0).toNat_lt
   have hall:chrC i (s.getD i 0).toNat=true→∀k,k<i+1→chrC k (s.getD k 0).toNat=true:=fun h k hk=>by
    by_cases e:k=i
    · subst e;exact h
    · exact hJ k (by omega)
   have hno:chrC i (s.getD i 0).toNat=false→validN s=false:=fun h=>by
    have :(List.range s.length).all (fun k=>chrC k (s.getD k 0).toNat)=false:=by
     rw[List.all_eq_false];exact⟨i,List.mem_range.2 hi,by rw[h];decide⟩
    unfold validN;rw[this];rfl
   have hlet:=aGl hc256;refine aI ?_;refine aA fun K2 hK2=>?_;simp only[↓zP,zG,Nat.reduceLT,Nat.reduceEqDiff,e1,f0,aD,hg];refine bF (hlet _) ?_;generalize hb:s.getD i 0=b at *;generalize hc:b.toNat=c at *
   have d4:((i:Int)==0)=decide (i=0):=by rw[Bool.beq_eq_decide_eq,decide_eq_decide];omega
   have d5:((c:Int) != 95)= !decide (c=95):=by
    have :((c:Int)==95)=decide (c=95):=by rw[Bool.beq_eq_decide_eq,decide_eq_decide];omega
    rw[bne,this]
   have d6:decide ((c:Int)<48)= !decide (48≤c):=by rw[←decide_not,decide_eq_decide];omega
   have d7:decide ((c:Int)>57)= !decide (c≤57):=by rw[←decide_not,decide_eq_decide];omega
   unfold chrC at hall hno;generalize letC c=LC at *;generalize decide (i=0)=D4 at *;generalize decide (c=95)=D5 at *;generalize decide (48≤c)=D6 at *;generalize decide (c≤57)=D7 at *
   cases LC with
   |true=>
    simp only[↓zP,zG,Nat.reduceLT,Nat.reduceEqDiff,zI,eD];apply hK2;clear hK2 K2;simp only[↓zP,zG];exact hall (by simp)
   |false=>
    cases D4 with
    |true=>
     simp only[↓zP,zG,Nat.reduceLT,Nat.reduceEqDiff,zI,e1,d4,eD];apply hK2;clear hK2 K2;simp only[↓zP,zG,Nat.reduceLT];refine⟨rfl,_,by simp only[↓zP,zR];rfl,?_⟩;rw[hno (by simp)];rfl
    |false=>
     cases D5 with
     |true=>
      simp only[↓zP,zG,Nat.reduceLT,Nat.reduceEqDiff,zI,f0,e1,aD,hg,hc,d4,d5,eD];apply hK2;clear hK2 K2;simp only[↓zP,zG];exact hall (by simp)
     |false=>
      cases D6 with
      |false=>
       simp only[↓zP,zG,Nat.reduceLT,Nat.reduceEqDiff,zI,f0,e1,aD,hg,hc,d4,d5,d6];apply hK2;clear hK2 K2;simp only[↓zP,zG,Nat.reduceLT];refine⟨rfl,_,by simp only[↓zP,zR];rfl,?_⟩;rw[hno (by simp)];rfl
      |true=>
       cases D7 with
       |false=>
        simp only[↓zP,zG,Nat.reduceLT,Nat.reduceEqDiff,zI,f0,e1,aD,hg,hc,d4,d5,d6,d7];apply hK2;clear hK2 K2;simp only[↓zP,zG,Nat.reduceLT];refine⟨rfl,_,by simp only[↓zP,zR];rfl,?_⟩;rw[hno (by simp)];rfl
       |true=>
        simp only[↓zP,zG,Nat.reduceLT,Nat.reduceEqDiff,zI,f0,e1,aD,hg,hc,d4,d5,d6,d7];apply hK2;clear hK2 K2;simp only[↓zP,zG];exact hall (by simp)
 · rintro f H1 hk hJ
   have hall:(List.range s.length).all (fun k=>chrC k (s.getD k 0).toNat)=true:=by
    rw[List.all_eq_true];exact fun k hk=>hJ k (List.mem_range.1 hk)
   simp only[↓zP];apply hK;clear hK K;simp only[↓zP,zG,Nat.reduceLT];refine⟨rfl,_,by simp only[↓zP,zR];rfl,?_⟩;unfold validN;rw[hall,h1,h2];rfl
theorem aBz {v:Geo.V}:farV v=true↔∃c,c<3∧(v.at c>4096∨v.at c< -4096):=by
 unfold farV;simp only[Bool.or_eq_true,decide_eq_true_eq];constructor
 · rintro(h|h|h)
   · exact⟨0,by decide,h⟩
   · exact⟨1,by decide,h⟩
   · exact⟨2,by decide,h⟩
 · rintro⟨c,hc,h⟩
   match c,hc with
   |0,_=>exact .inl h
   |1,_=>exact .inr (.inl h)
   |2,_=>exact .inr (.inr h)
theorem aMb {tag:Nat} (ht:Nat.blt tag 2=true) {l:List Geo.V} (hlen:l.length<2^30) (H:Heap):
 Sound Tryz.prog gv 27 [.agg [.aT tag 3 (ivE l)]] H (.ret (.bool (!l.any farV))) H:=by
 refine Sp bDn (by simp only[sf,bG ht]) (by simp only[sf]) ?_ H;unfold W27;dsimp only;have hll:(ivE l).length=l.length:=aJ _;simp only[↓zP,zG,Nat.reduceLT,zI];refine bB [] (fun i _ H'=>H'.get 0=some (.cells [.aT tag 3 (ivE l)] false)∧∀v∈l.take i,farV v=false) 0 l.length (Nat.zero_le _) (by omega) (by decide) ?_ ?_ ?_ ?_ ?_
 · simp only[aC];rfl
 · exact⟨by simp only[zI],fun v hv=>by simp at hv⟩
 · rintro i f H1 h0 hi hk e1 ⟨g0,_⟩
   have f1:f 1=.ref 0 0:=by rw[hk 1 rfl];simp only[aC,ne_eq,Nat.reduceEqDiff,not_false_eq_true]
   simp only[↓zP,zG,Nat.reduceLT,Nat.reduceEqDiff,zI,e1,f1,g0,hll];exact⟨trivial,trivial,congrArg AV.bool (decide_eq_decide.2 (by omega))⟩
 · rintro i f H1 h0 hi hk e1 ⟨g0,hno⟩
   have f1:f 1=.ref 0 0:=by rw[hk 1 rfl];simp only[aC,ne_eq,Nat.reduceEqDiff,not_false_eq_true]
   have hg:=bC hi;have hmem:=List.getElem_mem hi
   have hx:∀v,v∈l.take (i+1)→v∈l.take i∨v=l[i]:=fun v hv=>by
    rw[List.take_add_one,List.mem_append] at hv
    rcases hv with h|h
    · exact .inl h
    · simp[hi] at h;exact .inr h
   generalize l[i]=x at *;refine aI ?_;refine aA fun K2 hK2=>?_;simp only[↓zP,zG,Nat.reduceLT];apply hK2;clear hK2 K2;refine bB [] (fun j _ H'=>H'.get 0=some (.cells [.aT tag 3 (ivE l)] false)∧∀c,c<j→¬(x.at c>4096)∧¬(x.at c< -4096)) 0 3 (Nat.zero_le _) (by decide) (by decide) ?_ ?_ ?_ ?_ ?_
   · simp only[aC];rfl
   · exact⟨g0,fun c hc=>absurd hc (Nat.not_lt_zero _)⟩
   · rintro j g H2 h0' hj hk2 e2 hJ
     simp only[↓zP,zG,Nat.reduceLT,zI,e2];exact⟨trivial,trivial,congrArg AV.bool (decide_eq_decide.2 (by omega))⟩
   · rintro j g H2 h0' hj hk2 e2 ⟨g0',hc⟩
     have u1:g 1=.ref 0 0:=by rw[hk2 1 rfl];simp only[aC,ne_eq,Nat.reduceEqDiff,not_false_eq_true];exact f1
     have u3:g 3=.int .i64 i:=by rw[hk2 3 rfl];simp only[aC,ne_eq,Nat.reduceEqDiff,not_false_eq_true];exact e1
     have hbad:(x.at j>4096∨x.at j< -4096)→l.any farV=true:=fun h=>List.any_eq_true.2 ⟨x,hmem,aBz.2 ⟨j,hj,h⟩⟩
     have hdl:1≤(List.drop j (ivC x)).length:=by rw[List.length_drop,aG];omega
     have hdg:(List.drop j (ivC x)).getD 0 undefA=.int .i64 (x.at j):=by rw[←dB x hj];simp[List.getD]
     refine aI ?_;refine aA fun K2 hK2=>?_;by_cases c1:x.at j>4096
     · have d1:=decide_eq_true c1
       simp only[↓zP,zG,Nat.reduceLT,Nat.reduceEqDiff,zI,e2,u1,u3,g0',aD,aJ,hi,hg,hj,hdl,hdg,d1];apply hK2;clear hK2 K2;simp only[↓zP,zG,Nat.reduceLT];refine⟨rfl,_,by simp only[↓zP,zR];rfl,?_⟩;rw[hbad (.inl c1)];rfl
     · have d1:=decide_eq_false c1
       by_cases c2:x.at j< -4096
       · have d2:=decide_eq_true c2
         simp only[↓zP,zG,Nat.reduceLT,Nat.reduceEqDiff,zI,e2,u1,u3,g0',aD,aJ,hi,hg,hj,hdl,hdg,d1,d2];apply hK2;clear hK2 K2;simp only[↓zP,zG,Nat.reduceLT];refine⟨rfl,_,by simp only[↓zP,zR];rfl,?_⟩;rw[hbad (.inr c2)];rfl
       · have d2:=decide_eq_false c2
         simp only[↓zP,zG,Nat.reduceLT,Nat.reduceEqDiff,zI,e2,u1,u3,g0',aD,aJ,hi,hg,hj,hdl,hdg,d1,d2];apply hK2;clear hK2 K2;simp only[↓zP,zG];refine⟨g0',fun c h=>?_⟩;by_cases hcj:c=j
         · subst hcj;exact⟨c1,c2⟩
         · exact hc c (by omega)
   · rintro g H2 hk2 ⟨g0',hc⟩
     simp only[↓zP];refine⟨g0',fun v hv=>?_⟩
     rcases hx v hv with h|rfl
     · exact hno v h
     · rw[←Bool.not_eq_true,aBz]
       rintro⟨c,h1,h2⟩;have :=hc c h1;omega
 · rintro f H1 hk ⟨g0,hno⟩
   rw[List.take_length] at hno;simp only[↓zP];refine⟨rfl,_,by simp only[↓zP,zR];rfl,?_⟩
   have :l.any farV=false:=by
    rw[List.any_eq_false]
    exact fun v hv=>by rw[hno v hv];decide
   rw[this];rfl
theorem aIa (n:Geo.V):∀(l:List Geo.V) (m:Int),loF (Geo.neg n) (-m) l= -(hiF n m l)
 |[],m=>rfl
 |v::l,m=>by
  have ih:=aIa n l;unfold loF hiF at ih ⊢;simp only[List.foldl_cons]
  have :(if Geo.dot (Geo.neg n) v< -m then Geo.dot (Geo.neg n) v else -m)= -(if Geo.dot n v>m then Geo.dot n v else m):=by
   rw[fE];by_cases h:Geo.dot n v>m
   · rw[if_pos h,if_pos (by omega)]
   · rw[if_neg h,if_neg (by omega)]
  rw[this,ih]
theorem aHx (n:Geo.V):∀(l:List Geo.V) (m:Int),hiF (Geo.neg n) (-m) l= -(loF n m l)
 |[],m=>rfl
 |v::l,m=>by
  have ih:=aHx n l;unfold loF hiF at ih ⊢;simp only[List.foldl_cons]
  have :(if Geo.dot (Geo.neg n) v> -m then Geo.dot (Geo.neg n) v else -m)= -(if Geo.dot n v<m then Geo.dot n v else m):=by
   rw[fE];by_cases h:Geo.dot n v<m
   · rw[if_pos h,if_pos (by omega)]
   · rw[if_neg h,if_neg (by omega)]
  rw[this,ih]
theorem rM (a b:List Geo.V) (n:Geo.V):sepD a b n=sepD b a n:=by
 unfold sepD;exact Bool.or_comm _ _
theorem aPt (a b:List Geo.V) (n:Geo.V):sepD a b (Geo.neg n)=sepD a b n:=by
 unfold sepD;simp only[fE,aIa,aHx];rw[Bool.or_comm];congr 1
 · rw[decide_eq_decide];omega
 · rw[decide_eq_decide];omega
theorem aBt {a b:List Geo.V} (h:disB a b=true):disB b a=true:=by
 obtain⟨n,hD,hs⟩:=fC.1 h
 rcases hD with hF|hF|⟨u,w,hu,hw,rfl,hn⟩
 · exact fC.2 ⟨n,.inr (.inl hF),by rw[rM];exact hs⟩
 · exact fC.2 ⟨n,.inl hF,by rw[rM];exact hs⟩
 · refine fC.2 ⟨Geo.neg (Geo.cross u w),.inr (.inr ⟨w,u,hw,hu,(aEu u w).symm,fun e=>aAa hn e⟩),?_⟩
   rw[aPt,rM];exact hs
theorem aKl (a b:List Geo.V):disB a b=disB b a:=by
 rw[Bool.eq_iff_iff];exact⟨aBt,aBt⟩
theorem aGb {name:List UInt8} (hname:name.length<2^63) {ps:List (AV×List Geo.V)} (hps:∀p∈ps,PartR p) (hlen:∀p∈ps,p.2.length<2^30) (hpl:ps.length<2^30) (m0 m1 r0 r1:Int) (H:Heap):
 Sound Tryz.prog gv 7 [.agg (bodyC name (.aT 0 1 (pvE ps)) m0 m1 r0 r1)] H (.ret (.int .i64 (chkB name (ps.map (·.2)) m0 m1 r0 r1))) H:=by
 have hfr:freeL [AV.agg (bodyC name (.aT 0 1 (pvE ps)) m0 m1 r0 r1)]=true:=by simp only[sf,bodyC,qI hps]
 refine Sp is7 hfr (by simp only[sf]) ?_ H;have hll:(ps.map (·.2)).length=ps.length:=List.length_map _;unfold W7;dsimp only;have hpe:(pvE ps).length=ps.length:=List.length_map _
 have d1:decide ((ps.length:Int)<1)=decide (ps.length<1):=by rw[decide_eq_decide];omega
 have d2:decide ((ps.length:Int)>8)=decide (8<ps.length):=by rw[decide_eq_decide];omega
 refine aA fun K hK=>?_;simp only[↓zP,zG,Nat.reduceLT,zI,bodyC];apply hK;clear hK K;generalize hX:(Heap.mk 0 .nil).alloc _=HA
 have g0:HA.get 0=some (.cells [.str name,.aT 0 1 (pvE ps),.int .i64 m0,.int .i64 m1,.int .i64 r0,.int .i64 r1] false):=by subst hX;simp only[zI]
 clear hX;have hvo:=aDh name hname;refine aA fun K hK=>?_;simp only[↓zP,zG,Nat.reduceLT,Nat.reduceEqDiff,Nat.reduceAdd,zI,Nat.reduceLeDiff,g0];refine bF (hvo _) ?_
 cases hv:validN name with
 |false=>
  simp only[↓zP,zG,Nat.reduceLT,zI];refine⟨rfl,_,by simp only[↓zP,zR];rfl,?_⟩;unfold chkB;rw[if_pos hv];rfl
 |true=>
 simp only[↓zP,zG,Nat.reduceLT,zI];apply hK;clear hK K;refine aA fun K hK=>?_
 cases h1:decide (ps.length<1) with
 |true=>
  rw[h1] at d1;simp only[↓zP,zG,Nat.reduceLT,Nat.reduceEqDiff,Nat.reduceAdd,zI,Nat.reduceLeDiff,g0,hpe,d1];refine⟨rfl,_,by simp only[↓zP,zR];rfl,?_⟩;unfold chkB;rw[if_neg (by rw[hv];decide),if_pos (.inl (by rw[hll];exact of_decide_eq_true h1))];rfl
 |false=>
 rw[h1] at d1
 cases h2:decide (8<ps.length) with
 |true=>
  rw[h2] at d2;simp only[↓zP,zG,Nat.reduceLT,Nat.reduceEqDiff,Nat.reduceAdd,zI,Nat.reduceLeDiff,g0,hpe,d1,d2];refine⟨rfl,_,by simp only[↓zP,zR];rfl,?_⟩;unfold chkB;rw[if_neg (by rw[hv];decide),if_pos (.inr (by rw[hll];exact of_decide_eq_true h2))];rfl
 |false=>
 rw[h2] at d2
 have hB1:badN m0 m1 r0 r1=true→chkB name (ps.map (·.2)) m0 m1 r0 r1=1:=fun hb=>by
  unfold chkB;rw[if_neg (by rw[hv];decide),if_neg (by rw[hll];intro h;rcases h with h|h;exact of_decide_eq_false h1 h;exact of_decide_eq_false h2 h),if_pos hb]
 have hB0:badN m0 m1 r0 r1=false→chkB name (ps.map (·.2)) m0 m1 r0 r1=restB (ps.map (·.2)):=fun hb=>by
  unfold chkB;rw[if_neg (by rw[hv];decide),if_neg (by rw[hll];intro h;rcases h with h|h;exact of_decide_eq_false h1 h;exact of_decide_eq_false h2 h),if_neg (by rw[hb];decide)]
 unfold badN at hB1 hB0;simp only[↓zP,zG,Nat.reduceLT,Nat.reduceEqDiff,Nat.reduceAdd,zI,Nat.reduceLeDiff,g0,hpe,d1,d2];apply hK;clear hK K;refine gI fun f hf=>?_
 have f1:f 1=.ref 0 0:=by subst hf;simp only[aC,ne_eq,Nat.reduceEqDiff,not_false_eq_true]
 clear hf;refine aA fun K hK=>?_
 cases g1':decide (m0<1) with
 |true=>
  rw[g1'] at hB1;simp only[↓zP,zG,Nat.reduceLT,Nat.reduceEqDiff,Nat.reduceAdd,zI,Nat.reduceLeDiff,f1,g0,fS,g1'];refine⟨rfl,_,by simp only[↓zP,zR];rfl,?_⟩;rw[hB1 (by simp)];rfl
 |false=>
 cases g2':decide (m1<m0) with
 |true=>
  rw[g2'] at hB1;simp only[↓zP,zG,Nat.reduceLT,Nat.reduceEqDiff,Nat.reduceAdd,zI,Nat.reduceLeDiff,f1,g0,fS,g1',g2'];refine⟨rfl,_,by simp only[↓zP,zR];rfl,?_⟩;rw[hB1 (by simp)];rfl
 |false=>
 cases g3':decide (m1>1099511627776) with
 |true=>
  rw[g3'] at hB1;simp only[↓zP,zG,Nat.reduceLT,Nat.reduceEqDiff,Nat.reduceAdd,zI,Nat.reduceLeDiff,f1,g0,fS,g1',g2',g3'];refine⟨rfl,_,by simp only[↓zP,zR];rfl,?_⟩;rw[hB1 (by simp)];rfl
 |false=>
 cases g4':decide (r0<0) with
 |true=>
  rw[g4'] at hB1;simp only[↓zP,zG,Nat.reduceLT,Nat.reduceEqDiff,Nat.reduceAdd,zI,Nat.reduceLeDiff,f1,g0,fS,g1',g2',g3',g4'];refine⟨rfl,_,by simp only[↓zP,zR];rfl,?_⟩;rw[hB1 (by simp)];rfl
 |false=>
 cases g5':decide (r1<r0) with
 |true=>
  rw[g5'] at hB1;simp only[↓zP,zG,Nat.reduceLT,Nat.reduceEqDiff,Nat.reduceAdd,zI,Nat.reduceLeDiff,f1,g0,fS,g1',g2',g3',g4',g5'];refine⟨rfl,_,by simp only[↓zP,zR];rfl,?_⟩;rw[hB1 (by simp)];rfl
 |false=>
 cases g6':decide (r1>4000) with
 |true=>
  rw[g6'] at hB1;simp only[↓zP,zG,Nat.reduceLT,Nat.reduceEqDiff,Nat.reduceAdd,zI,Nat.reduceLeDiff,f1,g0,fS,g1',g2',g3',g4',g5',g6'];refine⟨rfl,_,by simp only[↓zP,zR];rfl,?_⟩;rw[hB1 (by simp)];rfl
 |false=>
 rw[g1',g2',g3',g4',g5',g6'] at hB0;rw[hB0 rfl] at hK ⊢;clear hB1 hB0;simp only[↓zP,zG,Nat.reduceLT,Nat.reduceEqDiff,Nat.reduceAdd,zI,Nat.reduceLeDiff,f1,g0,fS,g1',g2',g3',g4',g5',g6'];apply hK;clear hK K;refine gI fun g hf=>?_
 have g1:g 1=.ref 0 0:=by subst hf;simp only[aC,ne_eq,Nat.reduceEqDiff,not_false_eq_true];exact f1
 clear hf f1 f
 have hF:∀i (hi:i<ps.length),(∀j (hj:j<i),partE (ps[j]'(Nat.lt_trans hj hi)).2=0)→partE ps[i].2≠0→restB (ps.map (·.2))=partE ps[i].2:=fun i hi h1 h2=>by
  have :=vH (ls:=ps.map (·.2)) (i:=i) (by rw[hll];exact hi) (fun j hj=>by rw[List.getElem_map];exact h1 j hj) (by rw[List.getElem_map];exact h2);rw[this,List.getElem_map]
 generalize hbody:[AV.str name,.aT 0 1 (pvE ps),.int .i64 m0,.int .i64 m1,.int .i64 r0,.int .i64 r1]=bc at *
 have bg1:bc.getD 1 undefA=.aT 0 1 (pvE ps):=by subst hbody;rfl
 have bl:bc.length=6:=by subst hbody;rfl
 refine aA fun K hK=>?_;refine aA fun K2 hK2=>?_;simp only[↓zP,zG,Nat.reduceLT];apply hK2;clear hK2 K2;refine bB [] (fun i _ H'=>H'=HA∧∀j (hj:j<i) (hl:j<ps.length),partE ps[j].2=0) 0 ps.length (Nat.zero_le _) (by omega) (by decide) ?_ ?_ ?_ ?_ ?_
 · simp only[aC];rfl
 · exact⟨rfl,fun j hj=>absurd hj (Nat.not_lt_zero _)⟩
 · rintro i f H1 h0 hi hk e1 ⟨rfl,_⟩
   have f1:f 1=.ref 0 0:=by rw[hk 1 rfl];simp only[aC,ne_eq,Nat.reduceEqDiff,not_false_eq_true];exact g1
   simp only[↓zP,zG,Nat.reduceLT,Nat.reduceEqDiff,Nat.reduceAdd,zI,Nat.reduceLeDiff,e1,f1,g0,bl,bg1,hpe];exact⟨trivial,trivial,congrArg AV.bool (decide_eq_decide.2 (by omega))⟩
 · rintro i f H1 h0 hi hk e1 ⟨rfl,hJ⟩
   have f1:f 1=.ref 0 0:=by rw[hk 1 rfl];simp only[aC,ne_eq,Nat.reduceEqDiff,not_false_eq_true];exact g1
   have hg:(pvE ps).getD i []=[ps[i].1]:=bU hi;have hp:=hps _ (List.getElem_mem hi);have hl:=hlen _ (List.getElem_mem hi);have hFi:=hF i hi (fun j hj=>hJ j hj (Nat.lt_trans hj hi))
   have hJn:partE ps[i].2=0→∀j (hj:j<i+1) (hl:j<ps.length),partE ps[j].2=0:=fun h j hj hl=>by
    by_cases e:j=i
    · subst e;exact h
    · exact hJ j (by omega) hl
   generalize ps[i]=p at *;obtain⟨pv,l⟩:=p;simp only at hg hp hl hFi hJn;have hc:=vJ hp hl;simp only at hc;refine aI ?_;refine aA fun K2 hK2=>?_;simp only[↓zP,zG,Nat.reduceLT,Nat.reduceEqDiff,Nat.reduceAdd,zI,Nat.reduceLeDiff,e1,f1,g0,bl,bg1,aD,hpe,hi,hg];refine bF (hc _) ?_;simp only[↓zP,zG,Nat.reduceLT];apply hK2;clear hK2 K2;refine aA fun K2 hK2=>?_;by_cases he:chkL l=0
   · have hb:(chkL l != 0)=false:=by simp[he]
     obtain⟨_,_,_,_,hl64,hl0,hnear⟩:=jR he
     obtain⟨rfl⟩:pv=.aT 0 3 (ivE l):=by
      rcases hp with ⟨_,h⟩|h
      · exact absurd h hl0
      · exact h
     have hsh:=aMb (tag:=0) rfl hl;simp only[↓zP,zG,Nat.reduceLT,zI,hb];apply hK2;clear hK2 K2;simp only[↓zP,zG,Nat.reduceLT,Nat.reduceEqDiff,Nat.reduceAdd,zI,Nat.reduceLeDiff,e1,f1,g0,bl,bg1,aD,hpe,hi,hg];refine bF (hsh _) ?_
     cases hfa:l.any farV with
     |true=>
      have hpe1:partE l=1:=by unfold partE;rw[if_neg (by simp[he]),hfa];rfl
      simp only[↓zP,zG,Nat.reduceLT,zI];refine⟨rfl,_,by simp only[↓zP,zR];rfl,?_⟩;rw[hFi (by rw[hpe1];decide),hpe1];rfl
     |false=>
      have hpe0:partE l=0:=by unfold partE;rw[if_neg (by simp[he]),hfa];rfl
      simp only[↓zP,zG,Nat.reduceLT,zI];exact⟨trivial,hJn hpe0⟩
   · have hb:(chkL l != 0)=true:=by simp[he]
     have hpc:partE l=chkL l:=by unfold partE;rw[if_pos he]
     simp only[↓zP,zG,Nat.reduceLT,Nat.reduceEqDiff,zI,hb];refine⟨rfl,_,by simp only[↓zP,zR];rfl,?_⟩;rw[hFi (by rw[hpc];exact he),hpc];rfl
 · rintro f H1 hk ⟨rfl,hJ⟩
   have hall:∀j (hl:j<ps.length),partE ps[j].2=0:=fun j hl=>hJ j hl hl
   have hR:=kJ (ls:=ps.map (·.2)) (fun l hl=>by
    obtain⟨p,hp,rfl⟩:=List.mem_map.1 hl;obtain⟨j,hj,rfl⟩:=List.getElem_of_mem hp
    exact hall j hj)
   have hval0:∀j (hl:j<ps.length),chkL ps[j].2=0∧ps[j].1=.aT 0 3 (ivE ps[j].2)∧∀v∈ps[j].2,Near (2^12) v:=fun j hl=>by
    obtain⟨h0,hfv⟩:=aIo (hall j hl);refine⟨h0,?_,fun v hv=>?_⟩
    · rcases hps _ (List.getElem_mem hl) with ⟨_,h⟩|h
      · rw[h,pD] at h0;cases h0
      · exact h
    · have :=hfv v hv
      simp only[farV,Bool.or_eq_false_iff,decide_eq_false_iff_not] at this;unfold Near;omega
   have f1:f 1=.ref 0 0:=by rw[hk 1 rfl];simp only[aC,ne_eq,Nat.reduceEqDiff,not_false_eq_true];exact g1
   simp only[↓zP];apply hK;clear hK K;refine aA fun K hK=>?_;refine aA fun K2 hK2=>?_;simp only[↓zP,zG,Nat.reduceLT];apply hK2;clear hK2 K2;refine bB [] (fun i _ H'=>H'=H1∧∀a k (ha:a<i) (hl:a<ps.length) (hk:k<a),disB ps[a].2 (ps[k]'(Nat.lt_trans hk hl)).2=true) 0 ps.length (Nat.zero_le _) (by omega) (by decide) ?_ ?_ ?_ ?_ ?_
   · simp only[aC];rfl
   · exact⟨rfl,fun a k ha=>absurd ha (Nat.not_lt_zero _)⟩
   · rintro i f2 H2 h0 hi hk2 e2 ⟨rfl,_⟩
     have u1:f2 1=.ref 0 0:=by rw[hk2 1 rfl];simp only[aC,ne_eq,Nat.reduceEqDiff,not_false_eq_true];exact f1
     simp only[↓zP,zG,Nat.reduceLT,Nat.reduceEqDiff,Nat.reduceAdd,zI,Nat.reduceLeDiff,e2,u1,g0,bl,bg1,hpe];exact⟨trivial,trivial,congrArg AV.bool (decide_eq_decide.2 (by omega))⟩
   · rintro i f2 H2 h0 hi hk2 e2 ⟨rfl,hJ2⟩
     have u1:f2 1=.ref 0 0:=by rw[hk2 1 rfl];simp only[aC,ne_eq,Nat.reduceEqDiff,not_false_eq_true];exact f1
     have hg:(pvE ps).getD i []=[ps[i].1]:=bU hi;obtain⟨hv1,hv2,hv3⟩:=hval0 i hi
     have hJn:(∀k (hk:k<i),disB ps[i].2 (ps[k]'(Nat.lt_trans hk hi)).2=true)→∀a k (ha:a<i+1) (hl:a<ps.length) (hk:k<a),disB ps[a].2 (ps[k]'(Nat.lt_trans hk hl)).2=true:=fun h a k ha hl hk=>by
      by_cases e:a=i
      · subst e;exact h k hk
      · exact hJ2 a k (by omega) hl hk
     have hov:∀k (hk:k<i),disB ps[i].2 (ps[k]'(Nat.lt_trans hk hi)).2=false→restB (ps.map (·.2))=150:=fun k hk h=>by
      have :=oF (ls:=ps.map (·.2)) (i:=i) (k:=k) (by rw[hll];exact hi) hk (by rw[List.getElem_map,List.getElem_map];exact h);rw[hR,this];rfl
     rw[hv2] at hg;refine aI ?_;refine aA fun K2 hK2=>?_;simp only[↓zP,zG,Nat.reduceLT];apply hK2;clear hK2 K2;refine bB [] (fun k vs H'=>H'=H2∧∀a (ha:a<k) (hl:a<i),disB ps[i].2 (ps[a]'(Nat.lt_trans hl hi)).2=true) 0 i (Nat.zero_le _) (by omega) (by decide) ?_ ?_ ?_ ?_ ?_
     · simp only[aC];rfl
     · exact⟨rfl,fun a ha=>absurd ha (Nat.not_lt_zero _)⟩
     · rintro k f3 H3 h0 hki hk3 e3 _
       have w5:f3 5=.int .i64 i:=by rw[hk3 5 rfl];simp only[aC,ne_eq,Nat.reduceEqDiff,not_false_eq_true];exact e2
       simp only[↓zP,zG,Nat.reduceLT,Nat.reduceEqDiff,zI,e3,w5];exact⟨trivial,trivial,congrArg AV.bool (decide_eq_decide.2 (by omega))⟩
     · rintro k f3 H3 h0 hki hk3 e3 ⟨rfl,hJ3⟩
       have w1:f3 1=.ref 0 0:=by rw[hk3 1 rfl];simp only[aC,ne_eq,Nat.reduceEqDiff,not_false_eq_true];exact u1
       have w5:f3 5=.int .i64 i:=by rw[hk3 5 rfl];simp only[aC,ne_eq,Nat.reduceEqDiff,not_false_eq_true];exact e2
       have hkl:=Nat.lt_trans hki hi;obtain⟨hw1,hw2,hw3⟩:=hval0 k hkl;have hgk:(pvE ps).getD k []=[ps[k].1]:=bU hkl;rw[hw2] at hgk;have hd:=aAm (ta:=0) (tb:=0) rfl rfl hw1 hv1 hw3 hv3
       have hJ3n:disB ps[i].2 ps[k].2=true→∀a (ha:a<k+1) (hl:a<i),disB ps[i].2 (ps[a]'(Nat.lt_trans hl hi)).2=true:=fun h a ha hl=>by
        by_cases e:a=k
        · subst e;exact h
        · exact hJ3 a (by omega) hl
       have hovk:=hov k hki;rw[aKl] at hd;generalize ps[k]=q at *;generalize hpi':ps[i]=p at *;refine aI ?_;refine aA fun K2 hK2=>?_;refine aQ (by decide) ?_;simp only[↓zP,zG,Nat.reduceLT,Nat.reduceEqDiff,Nat.reduceAdd,zD,reduceCtorEq,zI,Nat.reduceLeDiff,w1,w5,e3,g0,bl,bg1,aD,hpe,hi,hkl,hg,hgk];refine cE (hd _) ?_;simp only[↓zP,zG,Nat.reduceLT,Nat.reduceAdd,zD,reduceCtorEq,zI];apply hK2;clear hK2 K2
       cases hdb:disB p.2 q.2 with
       |true=>
        simp only[↓zP,zG,Nat.reduceLT,zI];exact⟨trivial,hJ3n hdb⟩
       |false=>
        simp only[↓zP,zG,Nat.reduceLT,zI];refine⟨rfl,_,by simp only[↓zP,zR];rfl,?_⟩;rw[hovk hdb];rfl
     · rintro f3 H3 hk3 ⟨rfl,hJ3⟩
       simp only[↓zP];exact⟨trivial,hJn fun k hk=>hJ3 k hk hk⟩
   · rintro f2 H2 hk2 ⟨rfl,hJ2⟩
     have :=lV (ls:=ps.map (·.2)) (fun a k ha hk=>by
      rw[List.getElem_map,List.getElem_map]
      exact hJ2 a k (by rwa [hll] at ha) (by rwa [hll] at ha) hk)
     simp only[↓zP];apply hK;clear hK K;simp only[↓zP,zG,Nat.reduceLT];refine⟨rfl,_,by simp only[↓zP,zR];rfl,?_⟩;rw[hR,this];rfl
theorem aGc {name:List UInt8} (hname:name.length<2^63) (m0 m1 r0 r1:Int) (H:Heap):
 Sound Tryz.prog gv 7 [.agg (bodyC name .nilsl m0 m1 r0 r1)] H (.ret (.int .i64 (chkB name [] m0 m1 r0 r1))) H:=by
 refine Sp is7 (by simp only[sf,bodyC]) (by simp only[sf]) ?_ H;unfold W7;dsimp only;refine aA fun K hK=>?_;simp only[↓zP,zG,Nat.reduceLT,zI,bodyC];apply hK;clear hK K;have hvo:=aDh name hname;have d1:decide ((0:Int)<1)=true:=rfl;refine aA fun K hK=>?_;simp only[↓zP,zG,Nat.reduceLT,Nat.reduceEqDiff,Nat.reduceAdd,zI,Nat.reduceLeDiff];refine bF (hvo _) ?_
 cases hv:validN name with
 |false=>
  simp only[↓zP,zG,Nat.reduceLT,zI];refine⟨rfl,_,by simp only[↓zP,zR];rfl,?_⟩;unfold chkB;rw[if_pos hv];rfl
 |true=>
 simp only[↓zP,zG,Nat.reduceLT,zI];apply hK;clear hK K;refine aA fun K hK=>?_;simp only[↓zP,zG,Nat.reduceLT,Nat.reduceEqDiff,Nat.reduceAdd,zI,Nat.reduceLeDiff,Int.reduceLT,decide_true];refine⟨rfl,_,by simp only[↓zP,zR];rfl,?_⟩;unfold chkB;rw[if_neg (by rw[hv];decide),if_pos (.inl (by decide))];rfl
theorem aLm {name:List UInt8} (hname:name.length<2^63) {pv:AV} {ps:List (AV×List Geo.V)} (hpv:PartsR pv ps) (hps:∀p∈ps,PartR p) (hlen:∀p∈ps,p.2.length<2^30) (hpl:ps.length<2^30) (m0 m1 r0 r1:Int) (H:Heap):
 Sound Tryz.prog gv 7 [.agg (bodyC name pv m0 m1 r0 r1)] H (.ret (.int .i64 (chkB name (ps.map (·.2)) m0 m1 r0 r1))) H:=by
 rcases hpv with ⟨h1,h2⟩|h1
 · rw[h1,h2];exact aGc hname m0 m1 r0 r1 H
 · rw[h1];exact aGb hname hps hlen hpl m0 m1 r0 r1 H
def fewB (ls:List (List Geo.V)):Bool:= !(ls.any fun l=>decide (10<l.length))&&decide (ls.length≤3)
theorem aPd {name:List UInt8} {ps:List (AV×List Geo.V)} (hps:∀p∈ps,PartR p) (hpl:ps.length<2^63) (m0 m1 r0 r1:Int) (H:Heap):
 Sound Tryz.prog gv 5 [.agg (bodyC name (.aT 0 1 (pvE ps)) m0 m1 r0 r1)] H (.ret (.bool (fewB (ps.map (·.2))))) H:=by
 have hfr:freeL [AV.agg (bodyC name (.aT 0 1 (pvE ps)) m0 m1 r0 r1)]=true:=by simp only[sf,bodyC,qI hps]
 refine Sp is5 hfr (by simp only[sf]) ?_ H;unfold W5;dsimp only;have hpe:(pvE ps).length=ps.length:=List.length_map _;refine aA fun K hK=>?_;simp only[↓zP,zG,Nat.reduceLT,zI,bodyC];apply hK;clear hK K;generalize hX:(Heap.mk 0 .nil).alloc _=HA
 have g0:HA.get 0=some (.cells [.str name,.aT 0 1 (pvE ps),.int .i64 m0,.int .i64 m1,.int .i64 r0,.int .i64 r1] false):=by subst hX;simp only[zI]
 clear hX;generalize hbody:[AV.str name,.aT 0 1 (pvE ps),.int .i64 m0,.int .i64 m1,.int .i64 r0,.int .i64 r1]=bc at *
 have bg1:bc.getD 1 undefA=.aT 0 1 (pvE ps):=by subst hbody;rfl
 have bl:bc.length=6:=by subst hbody;rfl
 refine aA fun K hK=>?_;refine aA fun K2 hK2=>?_;simp only[↓zP,zG,Nat.reduceLT];apply hK2;clear hK2 K2;refine bB [] (fun i _ H'=>H'=HA∧∀j (hj:j<i) (hl:j<ps.length),¬10<ps[j].2.length) 0 ps.length (Nat.zero_le _) (by omega) (by decide) ?_ ?_ ?_ ?_ ?_
 · simp only[aC];rfl
 · exact⟨rfl,fun j hj=>absurd hj (Nat.not_lt_zero _)⟩
 · rintro i f H1 h0 hi hk e1 ⟨rfl,_⟩
   have f1:f 1=.ref 0 0:=by rw[hk 1 rfl];simp only[aC,ne_eq,Nat.reduceEqDiff,not_false_eq_true]
   simp only[↓zP,zG,Nat.reduceLT,Nat.reduceEqDiff,Nat.reduceAdd,zI,Nat.reduceLeDiff,e1,f1,g0,bl,bg1,hpe];exact⟨trivial,trivial,congrArg AV.bool (decide_eq_decide.2 (by omega))⟩
 · rintro i f H1 h0 hi hk e1 ⟨rfl,hJ⟩
   have f1:f 1=.ref 0 0:=by rw[hk 1 rfl];simp only[aC,ne_eq,Nat.reduceEqDiff,not_false_eq_true]
   have hg:(pvE ps).getD i []=[ps[i].1]:=bU hi;have hp:=hps _ (List.getElem_mem hi)
   have hbad:10<ps[i].2.length→fewB (ps.map (·.2))=false:=fun h=>by
    unfold fewB;rw[show((ps.map (·.2)).any fun l=>decide (10<l.length))=true from List.any_eq_true.2 ⟨ps[i].2,List.mem_map.2 ⟨_,List.getElem_mem hi,rfl⟩,decide_eq_true h⟩];rfl
   have hJn:¬10<ps[i].2.length→∀j (hj:j<i+1) (hl:j<ps.length),¬10<ps[j].2.length:=fun h j hj hl=>by
    by_cases e:j=i
    · subst e;exact h
    · exact hJ j (by omega) hl
   generalize ps[i]=p at *;obtain⟨pv,l⟩:=p;simp only at hg hp hbad hJn
   have dd:decide ((l.length:Int)>10)=decide (10<l.length):=by rw[decide_eq_decide];omega
   refine aI ?_;refine aA fun K2 hK2=>?_
   rcases hp with ⟨h1,h2⟩|h1
   · simp only at h1 h2
     subst h1;subst h2;simp only[↓zP,zG,Nat.reduceLT,Nat.reduceEqDiff,Nat.reduceAdd,zI,Nat.reduceLeDiff,e1,f1,g0,bl,bg1,aD,hpe,hi,hg];have d0:decide ((0:Int)>10)=false:=rfl;apply hK2;clear hK2 K2;simp only[↓zP,zG,d0];exact⟨trivial,hJn (by decide)⟩
   · simp only at h1
     subst h1;by_cases h10:10<l.length
     · rw[decide_eq_true h10] at dd
       simp only[↓zP,zG,Nat.reduceLT,Nat.reduceEqDiff,Nat.reduceAdd,zI,Nat.reduceLeDiff,e1,f1,g0,bl,bg1,aD,hpe,hi,hg,aJ,dd];apply hK2;clear hK2 K2;simp only[↓zP,zG,Nat.reduceLT];refine⟨rfl,_,by simp only[↓zP,zR];rfl,?_⟩;rw[hbad h10];rfl
     · rw[decide_eq_false h10] at dd
       simp only[↓zP,zG,Nat.reduceLT,Nat.reduceEqDiff,Nat.reduceAdd,zI,Nat.reduceLeDiff,e1,f1,g0,bl,bg1,aD,hpe,hi,hg,aJ,dd];apply hK2;clear hK2 K2;simp only[↓zP,zG];exact⟨trivial,hJn h10⟩
 · rintro f H1 hk ⟨rfl,hJ⟩
   have f1:f 1=.ref 0 0:=by rw[hk 1 rfl];simp only[aC,ne_eq,Nat.reduceEqDiff,not_false_eq_true]
   simp only[↓zP];apply hK;clear hK K
   have dd:decide ((ps.length:Int)≤3)=decide (ps.length≤3):=by rw[decide_eq_decide];omega
   simp only[↓zP,zG,Nat.reduceLT,Nat.reduceAdd,zI,Nat.reduceLeDiff,f1,g0,bl,bg1,hpe,dd];refine⟨rfl,_,by simp only[↓zP,zR];rfl,?_⟩;unfold fewB
   rw[show((ps.map (·.2)).any fun l=>decide (10<l.length))=false from by
    rw[List.any_eq_false];intro l hl;obtain⟨p,hp,rfl⟩:=List.mem_map.1 hl;obtain⟨j,hj,rfl⟩:=List.getElem_of_mem hp
    rw[decide_eq_false (hJ j hj hj)];decide,List.length_map]
   rfl
theorem aPe {name:List UInt8} (m0 m1 r0 r1:Int) (H:Heap):
 Sound Tryz.prog gv 5 [.agg (bodyC name .nilsl m0 m1 r0 r1)] H (.ret (.bool (fewB []))) H:=by
 refine Sp is5 (by simp only[sf,bodyC]) (by simp only[sf]) ?_ H;unfold W5;dsimp only;refine aA fun K hK=>?_;simp only[↓zP,zG,Nat.reduceLT,zI,bodyC];apply hK;clear hK K;generalize hX:(Heap.mk 0 .nil).alloc _=HA
 have g0:HA.get 0=some (.cells [.str name,.nilsl,.int .i64 m0,.int .i64 m1,.int .i64 r0,.int .i64 r1] false):=by subst hX;simp only[zI]
 clear hX;refine aA fun K hK=>?_;refine aA fun K2 hK2=>?_;simp only[↓zP,zG,Nat.reduceLT];apply hK2;clear hK2 K2;refine bB [] (fun i _ H'=>H'=HA) 0 0 (Nat.zero_le _) (by omega) (by decide) ?_ ?_ ?_ ?_ ?_
 · simp only[aC];rfl
 · rfl
 · rintro i f H1 h0 hi hk e1 rfl
   have f1:f 1=.ref 0 0:=by rw[hk 1 rfl];simp only[aC,ne_eq,Nat.reduceEqDiff,not_false_eq_true]
   simp only[↓zP,zG,Nat.reduceLT,Nat.reduceEqDiff,Nat.reduceAdd,zI,Nat.reduceLeDiff,e1,f1,g0];exact⟨trivial,trivial,congrArg AV.bool (decide_eq_decide.2 (by omega))⟩
 · rintro i f H1 h0 hi hk
   exact absurd hi (Nat.not_lt_zero _)
 · rintro f H1 hk rfl
   have f1:f 1=.ref 0 0:=by rw[hk 1 rfl];simp only[aC,ne_eq,Nat.reduceEqDiff,not_false_eq_true]
   have d0:decide ((0:Int)≤3)=true:=rfl;simp only[↓zP];apply hK;clear hK K;simp only[↓zP,zG,Nat.reduceLT,Nat.reduceAdd,zI,Nat.reduceLeDiff,f1,g0,d0];refine⟨rfl,_,by simp only[↓zP,zR];rfl,?_⟩;rfl
theorem aTa {name:List UInt8} {pv:AV} {ps:List (AV×List Geo.V)} (hpv:PartsR pv ps) (hps:∀p∈ps,PartR p) (hpl:ps.length<2^63) (m0 m1 r0 r1:Int) (H:Heap):
 Sound Tryz.prog gv 5 [.agg (bodyC name pv m0 m1 r0 r1)] H (.ret (.bool (fewB (ps.map (·.2))))) H:=by
 rcases hpv with ⟨h1,h2⟩|h1
 · rw[h1,h2];exact aPe m0 m1 r0 r1 H
 · rw[h1];exact aPd hps hpl m0 m1 r0 r1 H
end Go.Proofs.YtjiignefffdelaaGreatDoor
namespace Go.Proofs.YtjiignefffdelaaGreatDoor
open Go Go.Av Go.Num
def decX:AV→Option Nat
 |.int .u32 n=>match Nat.blt n.natAbs W&&decide ((n.natAbs:Int)=n) with
  |true=>some n.natAbs
  |false=>none
 |_=>none
theorem aRg {x:AV} {a:Nat} (h:decX x=some a):x=.int .u32 (a:Nat)∧a<W:=by
 unfold decX at h;split at h
 · split at h
   · rename_i n hc
     cases h;simp only[Bool.and_eq_true,decide_eq_true_eq] at hc;exact⟨by rw[hc.2],by simpa using hc.1⟩
   · cases h
 · cases h
def decW:List AV→Option (List Nat)
 |[]=>some []
 |x::r=>match decX x,decW r with
  |some a,some l=>some (a::l)
  |_,_=>none
theorem aHo:∀{v:List AV} {l:List Nat},decW v=some l→v=wC l∧∀d∈l,d<W
 |[],l,h=>by
  cases h;exact⟨rfl,fun d hd=>by cases hd⟩
 |x::r,l,h=>by
  simp only[decW] at h;split at h
  · rename_i a l' ha hl'
    cases h;obtain⟨h1,h2⟩:=aHo hl';obtain⟨h3,h4⟩:=aRg ha;refine⟨by rw[h1,h3];rfl,fun d hd=>?_⟩
    rcases List.mem_cons.1 hd with rfl|hd
    · exact h4
    · exact h2 d hd
  · cases h
def decI:List AV→Option (Option Int)
 |.bool b::.bool n::r=>match decW r with
  |some l=>match Nat.beq l.length 16 with
   |true=>some (valI b n l)
   |false=>none
  |none=>none
 |_=>none
theorem gK {v:List AV} {x:Option Int} (h:decI v=some x):IsI v x:=by
 unfold decI at h;split at h
 · rename_i b n r
   split at h
   · rename_i l hl
     split at h
     · rename_i hc
       cases h;obtain⟨h1,h2⟩:=aHo hl;exact⟨b,n,l,⟨Nat.eq_of_beq_eq_true hc,h2⟩,by rw[h1],rfl⟩
     · cases h
   · cases h
 · cases h
def orc1 (g:Option Int→AV):List AV→Option AV
 |[.agg a]=>match decI a with
  |some x=>some (g x)
  |none=>none
 |_=>none
def orc2 (g:Option Int→Option Int→AV):List AV→Option AV
 |[.agg a,.agg b]=>match decI a,decI b with
  |some x,some y=>some (g x y)
  |_,_=>none
 |_=>none
theorem sZ {g:Option Int→AV} {f:FuncId} (hS:∀a x,IsI a x→∀H,Sound Tryz.prog gv f [.agg a] H (.ret (g x)) H) {args:List AV} {v:AV} (h:orc1 g args=some v) (H:Heap):Sound Tryz.prog gv f args H (.ret v) H:=by
 unfold orc1 at h;split at h
 · rename_i a
   split at h
   · rename_i x hx
     cases h;exact hS a x (gK hx) H
   · cases h
 · cases h
theorem tA {g:Option Int→Option Int→AV} {f:FuncId} (hS:∀a b x y,IsI a x→IsI b y→∀H,Sound Tryz.prog gv f [.agg a,.agg b] H (.ret (g x y)) H) {args:List AV} {v:AV} (h:orc2 g args=some v) (H:Heap):Sound Tryz.prog gv f args H (.ret v) H:=by
 unfold orc2 at h;split at h
 · rename_i a b
   split at h
   · rename_i x y hx hy
     cases h;exact hS a b x y (gK hx) (gK hy) H
   · cases h
 · cases h
def orcOf:List AV→Option AV
 |[.int .i64 z]=>match decide (-2^63≤z)&&decide (z<2^63) with
  |true=>some (.agg (cI z))
  |false=>none
 |_=>none
theorem aOy {args:List AV} {v:AV} (h:orcOf args=some v) (H:Heap):Sound Tryz.prog gv 15 args H (.ret v) H:=by
 unfold orcOf at h;split at h
 · rename_i z
   split at h
   · rename_i hc
     cases h;simp only[Bool.and_eq_true,decide_eq_true_eq] at hc;exact oW hc.1 hc.2 H
   · cases h
 · cases h
def orcW (f:FuncId) (args:List AV):Option AV:=
 match Nat.beq f 15 with
 |true=>orcOf args
 |false=>match Nat.beq f 42 with
 |true=>orc2 (fun x y=>.agg (cO (addO x y))) args
 |false=>match Nat.beq f 97 with
 |true=>orc2 (fun x y=>.agg (cO (addO x (negO y)))) args
 |false=>match Nat.beq f 69 with
 |true=>orc2 (fun x y=>.agg (cO (mulO x y))) args
 |false=>match Nat.beq f 70 with
 |true=>orc1 (fun x=>.agg (cO (negO x))) args
 |false=>match Nat.beq f 141 with
 |true=>orc1 (fun x=>.agg (cO (absO x))) args
 |false=>match Nat.beq f 99 with
 |true=>orc1 (fun x=>.int .i64 (signO x)) args
 |false=>match Nat.beq f 55 with
 |true=>orc2 (fun x y=>.int .i64 (cmpO x y)) args
 |false=>match Nat.beq f 83 with
 |true=>orc1 (fun x=>.tup [.int .i64 (smallO x).1,.bool (smallO x).2]) args
 |false=>none
theorem aSm {f:FuncId} {args:List AV} {v:AV} (h:orcW f args=some v) (H:Heap):Sound Tryz.prog gv f args H (.ret v) H:=by
 unfold orcW at h;split at h
 · rename_i hf;obtain rfl:=Nat.eq_of_beq_eq_true hf;exact aOy h H
 split at h
 · rename_i hf;obtain rfl:=Nat.eq_of_beq_eq_true hf;exact tA (fun a b x y ha hb H=>aEd ha hb H) h H
 split at h
 · rename_i hf;obtain rfl:=Nat.eq_of_beq_eq_true hf;exact tA (fun a b x y ha hb H=>aNc ha hb H) h H
 split at h
 · rename_i hf;obtain rfl:=Nat.eq_of_beq_eq_true hf;exact tA (fun a b x y ha hb H=>yX ha hb H) h H
 split at h
 · rename_i hf;obtain rfl:=Nat.eq_of_beq_eq_true hf;exact sZ (fun a x ha H=>aEh ha H) h H
 split at h
 · rename_i hf;obtain rfl:=Nat.eq_of_beq_eq_true hf;exact sZ (fun a x ha H=>aUm ha H) h H
 split at h
 · rename_i hf;obtain rfl:=Nat.eq_of_beq_eq_true hf;exact sZ (fun a x ha H=>sU ha H) h H
 split at h
 · rename_i hf;obtain rfl:=Nat.eq_of_beq_eq_true hf;exact tA (fun a b x y ha hb H=>qT ha hb H) h H
 split at h
 · rename_i hf;obtain rfl:=Nat.eq_of_beq_eq_true hf;exact sZ (fun a x ha H=>oX ha H) h H
 · cases h
end Go.Proofs.YtjiignefffdelaaGreatDoor
namespace Go.Proofs.YtjiignefffdelaaGreatDoor
open Go Go.Av
def pow10C:List AV:=[1,10,100,1000,10000,100000,1000000,10000000,100000000,1000000000,10000000000,100000000000,1000000000000,10000000000000,100000000000000,1000000000000000,10000000000000000,100000000000000000,1000000000000000000,10000000000000000000].map (AV.int .u64)
def gvalT (n:Nat):Option (List AV):=match Nat.beq n 3 with
 |true=>some pow10C
 |false=>match Nat.beq n 999999999 with
  |true=>some []
  |false=>none
def gvT:Genv:=mkG Tryz.prog gvalT
theorem wM:Fit Tryz.prog gvT:=aId (by kernel_rfl)
theorem iX:GFree gvT:=fun n cs h=>by
 have h:gvalT n=some cs:=h;unfold gvalT at h;split at h
 · cases h;rfl
 · split at h
   · cases h;rfl
   · cases h
theorem moT:gvT.mo=false:=rfl
theorem toT {f:FuncId} {args:List AV} {v:AV} (ha:freeL args=true) (hv:v.free=true) (h:∀H,Sound Tryz.prog gv f args H (.ret v) H) (H:Heap):Sound Tryz.prog gvT f args H (.ret v) H:=
 (Sound.up (g:=gv) (g':=gvT) (fun n cs h=>by cases h) rfl moT (h ⟨0,.nil⟩)).frame iX ha (tk:=none) (fun k hk=>by cases hk) (n:=0) H (jL hv)
theorem aXl {K:List Fact} (h:KOK Tryz.prog gv K) (hf:(K.all fun e=>freeL e.2.1&&e.2.2.free)=true):KOK Tryz.prog gvT K:=fun e he H=>by
 have :=List.all_eq_true.1 hf e he;rw[Bool.and_eq_true] at this;exact toT this.1 this.2 (h e he) H
attribute [local congr] aU aN aO aM aW aR aP aL
attribute [local irreducible] FC FOps FD2
def codeO (fn:Go.Func):Code:=fn.body.getD .skip
def RPw:{x // acodeR Tryz.prog gvT false (codeO Tryz.f36)=some x}:=by
 apply Subtype.mk
 conv=>lhs;cbv
theorem bFn:FnIsR Tryz.prog gvT false 36 9 RPw.1.1 RPw.1.2.1 RPw.1.2.2:=⟨Tryz.f36,_,Tryz.func36,rfl,by kernel_rfl,RPw.2,by kernel_rfl,by kernel_rfl⟩
theorem aLj (args:List AV) (ha:args.length=2) (H:Heap):SoundD Tryz.prog gvT 36 args none H H:=by
 refine yZ wM bFn (by omega) ?_;show FOps Tryz.prog gvT 9 [⟨(some 2),.mov (.tmp 3),none⟩] (upd (startF args) 3 .nilif) [] H (thenF (fun f ds H'=>FC Tryz.prog gvT 9 RPw.1.2.2 f ds H' _) _);unfold RPw;dsimp only;have n1:isNilA .ifc .nilif=some true:=rfl;simp only[↓zP,zG,Nat.reduceLT,zI,n1,Bool.or_true,Bool.and_self,bne_self_eq_false,Bool.or_false]
end Go.Proofs.YtjiignefffdelaaGreatDoor
