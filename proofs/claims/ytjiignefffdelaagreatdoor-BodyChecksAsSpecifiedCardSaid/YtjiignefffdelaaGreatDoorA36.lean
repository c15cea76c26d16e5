/-
  Parts of the proof of statement 4: Kzc, Kzd, Kze, Kzf
-/
import Derived.Test.YtjiignefffdelaaGreatDoorA35
import Derived.Test.YtjiignefffdelaaGreatDoorA26
import Derived.Test.YtjiignefffdelaaGreatDoorA22
import Derived.Test.YtjiignefffdelaaGreatDoorA21
import Derived.Test.YtjiignefffdelaaGreatDoorA34
set_option linter.unusedVariables false
set_option maxRecDepth 100000
set_option maxHeartbeats 16000000
namespace Go.Proofs.YtjiignefffdelaaGreatDoor
open Go Go.Av Go.Geo Go.Num
attribute [local congr] aU aN aO aM aW aR aP aL
attribute [local irreducible] FC FOps FD2
def crs (U W:List Geo.V):List Geo.V:=U.flatMap fun u=>W.filterMap fun w=>if Geo.cross u w=V0 then none else some (Geo.cross u w)
def dirs (Sa Sb:List (Geo.V×Int)) (U W:List Geo.V):List Geo.V:=(Sa++Sb).map (·.1)++crs U W
def pre (D:List Geo.V) (U W:List Geo.V) (i j:Nat):List Geo.V:=D++crs (U.take i) W++crs ((U.drop i).take 1) (W.take j)
theorem zH (A B W:List Geo.V):crs (A++B) W=crs A W++crs B W:=by simp only[crs,List.flatMap_append]
theorem aHh (u:Geo.V) (A B:List Geo.V):crs [u] (A++B)=crs [u] A++crs [u] B:=by
 simp only[crs,List.flatMap_cons,List.flatMap_nil,List.append_nil,List.filterMap_append]
theorem aXo (A:List Geo.V):crs A []=[]:=by simp[crs]
theorem aNk (u w:Geo.V):crs [u] [w]=if Geo.cross u w=V0 then [] else [Geo.cross u w]:=by
 by_cases h:Geo.cross u w=V0<;>simp[crs,h]
theorem jB {U:List Geo.V} {i:Nat} (h:i<U.length):(U.drop i).take 1=[U[i]]:=by
 rw[List.drop_eq_getElem_cons h];rfl
theorem nJ {U:List Geo.V} {i:Nat} (h:i<U.length):U.take (i+1)=U.take i++[U[i]]:=by
 rw[List.take_add_one];simp[h]
theorem aAl (D U W:List Geo.V) (i:Nat):pre D U W i 0=D++crs (U.take i) W:=by simp[pre,aXo]
theorem aSs {D U W:List Geo.V} {i:Nat} (h:i<U.length):pre D U W i W.length=pre D U W (i+1) 0:=by
 rw[aAl,nJ h,zH];simp only[pre,jB h,List.take_length,List.append_assoc]
theorem aPa {D U W:List Geo.V} {i j:Nat} (h:i<U.length) (hj:j<W.length):pre D U W i (j+1)=pre D U W i j++crs [U[i]] [W[j]]:=by
 simp only[pre,jB h,nJ hj,aHh,List.append_assoc]
theorem aSr (Sa Sb:List (Geo.V×Int)) (U W:List Geo.V):dirs Sa Sb U W=pre ((Sa++Sb).map (·.1)) U W U.length 0:=by
 rw[aAl,List.take_length];rfl
theorem aSt {D U W:List Geo.V} {i j:Nat} (h:i<U.length) (hj:j≤W.length):∃R,pre D U W U.length 0=pre D U W i j++R:=by
 refine⟨crs [U[i]] (W.drop j)++crs (U.drop (i+1)) W,?_⟩;rw[aAl,List.take_length]
 have e:U=U.take i++([U[i]]++U.drop (i+1)):=by
  rw[List.singleton_append,←List.drop_eq_getElem_cons h,List.take_append_drop]
 have e2:crs [U[i]] W=crs [U[i]] (W.take j)++crs [U[i]] (W.drop j):=by rw[←aHh,List.take_append_drop]
 conv=>lhs;rw[e]
 rw[zH,zH,e2];simp only[pre,jB h,List.append_assoc]
theorem sM {ta tb:Nat} {a b:List Geo.V} {Sa Sb:List (Geo.V×Int)} {La Lb:Geo.V×Int→List Nat} {U W:List Geo.V} {MU:Nat} (hMU:MU≤2^20)
 (fa:∀H,Sound Tryz.prog gv 104 [.agg [.aT ta 3 (ivE a)]] H (.ret (.aT (H.next+2) 5 (Sa.map (facC La)))) (H.alloc .tok))
 (fb:∀H,Sound Tryz.prog gv 104 [.agg [.aT tb 3 (ivE b)]] H (.ret (.aT (H.next+2) 5 (Sb.map (facC Lb)))) (H.alloc .tok))
 (ea:∀H,Sound Tryz.prog gv 105 [.agg [.aT ta 3 (ivE a)]] H (.ret (.aT 0 3 (ivE U))) H)
 (eb:∀H,Sound Tryz.prog gv 105 [.agg [.aT tb 3 (ivE b)]] H (.ret (.aT 0 3 (ivE W))) H)
 (nU:∀v∈U,Near MU v) (nW:∀v∈W,Near MU v) (lSa:Sa.length≤64) (lSb:Sb.length≤64) (hSb:Sb≠[]) (lU:U.length≤2^20) (lW:W.length≤2^20)
 {id r1 r2:Nat} {o1 o2:Bool} {H:Heap} (I:Nat→Heap→Prop) (Stop:Heap→Prop) (sep:Geo.V→Bool) (hst:∀k H H',Over H H'→I k H→I k H') (hst2:∀H H',Over H H'→Stop H→Stop H')
 (hstep:∀k (hk:k<(dirs Sa Sb U W).length) H1,I k H1→∃H',YSound Tryz.prog gv id [.agg (ivC (dirs Sa Sb U W)[k])] H1 (.ret (.bool (!sep (dirs Sa Sb U W)[k]))) H'∧(if sep (dirs Sa Sb U W)[k] then Stop H' else I (k+1) H')∧H1.next≤H'.next∧∀j,H.next≤j→j<H1.next→H'.get j=H1.get j)
 (hI0:∀k H1,I k H1→H.next≤H1.next) (b1:r1<H.next) (b2:r2<H.next) (g1:H.get r1=some (.cells [.aT ta 3 (ivE a)] o1)) (g2:H.get r2=some (.cells [.aT tb 3 (ivE b)] o2))
 (aOd:∀k H',I k H'→H'.get r1=some (.cells [.aT ta 3 (ivE a)] o1)∧H'.get r2=some (.cells [.aT tb 3 (ivE b)] o2)) (h0:I 0 H):
 ∃H',(if(dirs Sa Sb U W).any sep then Stop H' else I (dirs Sa Sb U W).length H')∧Sound Tryz.prog gv 103 [.yield id,.ref r1 0,.ref r2 0] H (.ret (.tup [])) H':=by
 suffices h:∃out H',(out=.ret (.tup [])∧if(dirs Sa Sb U W).any sep then Stop H' else I (dirs Sa Sb U W).length H')∧Sound Tryz.prog gv 103 [.yield id,.ref r1 0,.ref r2 0] H out H' by
  obtain⟨_,H',⟨rfl,hm⟩,hS⟩:=h;exact⟨H',hm,hS⟩
 refine cV fit aXw (Nat.le_of_ble_eq_true rfl) ?_;unfold W103;dsimp only;refine aA fun K hK=>?_;refine aA fun K2 hK2=>?_;refine aQ (by decide) ?_
 have k2:(H.alloc .tok).get r2=H.get r2:=by rw[Heap.aH,if_neg (by omega)]
 simp only[↓zP,zG,Nat.reduceLT,zD,reduceCtorEq,zI,g1];refine oU (by decide) (by simp only[sm,aC]) (fa _) (by simp) (fun x hx hp=>by simp only[List.mem_singleton] at hx;subst hx;simp at hp) ?_;simp only[↓zP,zG,Nat.reduceLT,Nat.reduceEqDiff,Nat.reduceAdd,zD,zI,g2,k2];refine⟨by rw[if_neg (by omega)],?_⟩;refine oU (by decide) (by simp only[sm,aC]) (fb _) (by simp) (fun x hx hp=>by simp at hp) ?_;have hOwn:Own ((H.alloc .tok).alloc .tok) 5 (.aT (H.next+2) 5 (Sa.map (facC La))) (Sa.map (facC La)):=.inr ⟨H.next,rfl,by simp;omega,by rw[Heap.aH,if_neg (by simp),Heap.aH,if_pos rfl]⟩;obtain⟨v',H5,z1,z2,z3⟩:=hOwn.append (ys:=Sb.map (facC Lb)) (bytes:=56) (by simp only[List.length_map];omega)
 have hov:Over H H5:=⟨by have :=z3.next;simp at this;omega,fun j hj=>by
  rw[z3.get j (by simp[tokOf];omega) (by simp;omega),Heap.aH,if_neg (by simp;omega),Heap.aH,if_neg (by omega)]⟩
 rcases z2 with ⟨_,h⟩|⟨tk,rfl,_,_⟩
 · simp at h
   exact absurd h.2 hSb
 simp only[↓zP,zG,Nat.reduceLT,Nat.reduceEqDiff,Nat.reduceAdd,zD,reduceCtorEq,zI];rw[show ∀(h:Heap) (n:Nat) (y:List (List AV)),elemsOf h 5 (.aT n 5 y)=some y from fun _ _ _=>rfl];simp only[z1,aZ,↓zP,zD,List.length_append,List.length_map];refine⟨by have :=z3.next;simpa using this,?_⟩;apply hK2;clear hK2 K2
 have hdl:(Sa++Sb).length≤(dirs Sa Sb U W).length:=by simp only[dirs,List.length_append,List.length_map];omega
 have hdg:∀i (h:i<(Sa++Sb).length),(dirs Sa Sb U W)[i]'(Nat.lt_of_lt_of_le h hdl)=((Sa++Sb)[i]).1:=fun i h=>by
  simp only[dirs];rw[List.getElem_append_left (by simpa using h),List.getElem_map]
 have hel:∀i (h:i<(Sa++Sb).length),((Sa.map (facC La)++Sb.map (facC Lb)).getD i []).length=5∧((Sa.map (facC La)++Sb.map (facC Lb)).getD i []).take 3=ivC ((Sa++Sb)[i]).1:=fun i h=>by
  by_cases h1:i<Sa.length
  · have :(Sa.map (facC La)++Sb.map (facC Lb)).getD i []=facC La Sa[i]:=by simp[List.getD,List.getElem?_append,h1]
    rw[this,List.getElem_append_left h1];exact⟨rfl,rfl⟩
  · have h2:i -Sa.length<Sb.length:=by rw[List.length_append] at h;omega
    have :(Sa.map (facC La)++Sb.map (facC Lb)).getD i []=facC Lb Sb[i -Sa.length]:=by simp[List.getD,List.getElem?_append,h1,h2]
    rw[this,List.getElem_append_right (by omega)];exact⟨rfl,rfl⟩
 refine bD [] (fun i vs H'=>I i H'∧∀k,k<i→∀h:k<(dirs Sa Sb U W).length,sep (dirs Sa Sb U W)[k]=false) (Sa.length+Sb.length) (by omega) (by decide) ?_ ?_ ?_ ?_ ?_
 · simp only[aC]
 · simp only[aC,ne_eq,Nat.reduceEqDiff,not_false_eq_true]
 · exact⟨hst 0 _ _ hov h0,fun k hk=>absurd hk (Nat.not_lt_zero _)⟩
 · rintro i f H1 hi hk e1 ⟨hI,hns⟩
   have hi':i<(Sa++Sb).length:=by rw[List.length_append];exact hi
   obtain⟨p5,p3⟩:=hel i hi';have hs:=hstep i (Nat.lt_of_lt_of_le hi' hdl)
   have hns':∀k,k<i+1→sep ((dirs Sa Sb U W)[i]'(Nat.lt_of_lt_of_le hi' hdl))=false→∀h:k<(dirs Sa Sb U W).length,sep (dirs Sa Sb U W)[k]=false:=fun k hk h1 h=>by
    by_cases e:k=i
    · subst e;exact h1
    · exact hns k (by omega) h
   have hany:sep ((dirs Sa Sb U W)[i]'(Nat.lt_of_lt_of_le hi' hdl))=true→(dirs Sa Sb U W).any sep=true:=fun h=>List.any_eq_true.2 ⟨_,List.getElem_mem _,h⟩;rw[hdg i hi'] at hs hns' hany
   have hil:i<(Sa.map (facC La)++Sb.map (facC Lb)).length:=by simp only[List.length_append,List.length_map];exact hi
   generalize hcs:(Sa.map (facC La)++Sb.map (facC Lb)).getD i []=cs at *;generalize ((Sa++Sb)[i]).1=d at *;refine aI ?_;refine aA fun K2 hK2=>?_;have hil2:i<Sa.length+Sb.length:=hi;simp only[↓zP,zG,Nat.reduceLT,Nat.reduceEqDiff,Nat.reduceAdd,zI,e1,hk 17 rfl,aD,List.length_append,List.length_map,hil2,hcs,oL p5];apply hK2;clear hK2 K2;have hov1:Over H1 ((H1.alloc (.cells [.int .i64 0,.int .i64 0,.int .i64 0,.int .i64 0,.nilsl] false)).set H1.next (.cells cs false)):=((Over.refl H1).alloc _).set (Nat.le_refl _) _
   have hgc:((H1.alloc (.cells [.int .i64 0,.int .i64 0,.int .i64 0,.int .i64 0,.nilsl] false)).set H1.next (.cells cs false)).get H1.next=some (.cells cs false):=by rw[Heap.aB,if_pos rfl]
   obtain⟨H2,hy,hI2,_,_⟩:=hs _ (hst i _ _ hov1 hI);generalize (H1.alloc (.cells [.int .i64 0,.int .i64 0,.int .i64 0,.int .i64 0,.nilsl] false)).set H1.next (.cells cs false)=HA at *;simp only[↓zP,zG,Nat.reduceLT,Nat.reduceEqDiff,zI,Nat.reduceLeDiff,hgc,p5,p3,hk 0 rfl];refine nN (by decide) (by rfl) (by rfl) hy ?_
   cases hsd:sep d with
   |true=>
    rw[hsd] at hI2;simp only[↓zP,zG,Nat.reduceLT,zI];refine⟨rfl,_,by simp only[zR];rfl,?_⟩;exact⟨rfl,by rw[if_pos (hany hsd)];simpa using hI2⟩
   |false=>
    rw[hsd] at hI2;simp only[↓zP,zG,Nat.reduceLT,zI];exact⟨by simpa using hI2,fun k hk h=>hns' k hk hsd h⟩
 · rintro f H1 hk ⟨hI,hns⟩
   simp only[↓zP];apply hK;clear hK K;obtain⟨w1,w2⟩:=aOd _ _ hI;refine aA fun K hK=>?_;refine aQ (by decide) ?_;simp only[↓zP,zG,Nat.reduceLT,Nat.reduceEqDiff,zD,reduceCtorEq,zI,hk 1 rfl,w1];refine cE (ea _) ?_;simp only[↓zP,zG,Nat.reduceLT,Nat.reduceEqDiff,Nat.reduceAdd,zD,zI,hk 2 rfl,w2];refine cE (eb _) ?_;simp only[↓zP,zG,Nat.reduceLT,Nat.reduceEqDiff,Nat.reduceAdd,zD,reduceCtorEq,zI];apply hK;clear hK K;refine aA fun K hK=>?_;simp only[↓zP,zG,Nat.reduceLT,Nat.reduceEqDiff,aJ];apply hK;clear hK K;have hSl:(Sa++Sb).length=Sa.length+Sb.length:=List.length_append
   have hD0:((Sa++Sb).map (·.1)).length=Sa.length+Sb.length:=by rw[List.length_map,hSl]
   have hdl':dirs Sa Sb U W=pre ((Sa++Sb).map (·.1)) U W U.length 0:=aSr ..
   have hns0:∀x∈(Sa++Sb).map (·.1),sep x=false:=fun x hx=>by
    obtain⟨k,hk',rfl⟩:=List.getElem_of_mem hx
    have hk1:k<Sa.length+Sb.length:=by rw[←hD0];exact hk'
    have :=hns k hk1 (by omega);rw[hdg k (by rw[hSl];exact hk1)] at this;rw[List.getElem_map];exact this
   generalize hDg:(Sa++Sb).map (·.1)=D at *;refine bD [] (fun i vs H'=>I (pre D U W i 0).length H'∧∀x∈pre D U W i 0,sep x=false) U.length (by omega) (by decide) ?_ ?_ ?_ ?_ ?_
   · simp only[aC]
   · simp only[aC,ne_eq,Nat.reduceEqDiff,not_false_eq_true]
   · have e:pre D U W 0 0=D:=by simp[aAl,crs]
     rw[e,hD0];exact⟨hI,hns0⟩
   · rintro i f2 H2 hi hk2 e2 ⟨hI2,hns2⟩
     have hgu:=bC hi;have hnu:=nU _ (List.getElem_mem hi);refine aI ?_;simp only[↓zP,zG,Nat.reduceLT,Nat.reduceEqDiff,Nat.reduceAdd,zI,e2,hk2 33 rfl,hk2 7 rfl,aD,aJ,hi,hgu,oL (aG U[i])];refine bD [] (fun j vs H'=>I (pre D U W i j).length H'∧(∀x∈pre D U W i j,sep x=false)∧H2.next<H'.next∧H'.get H2.next=some (.cells (ivC U[i]) false)) W.length (by omega) (by decide) ?_ ?_ ?_ ?_ ?_
     · simp only[aC]
     · simp only[aC,ne_eq,Nat.reduceEqDiff,not_false_eq_true]
     · exact⟨hst _ _ _ (((Over.refl H2).alloc _).set (Nat.le_refl _) _) hI2,hns2,by simp,by rw[Heap.aB,if_pos rfl]⟩
     · rintro j f3 H3 hj hk3 e3 ⟨hI3,hns3,hn3,g9⟩
       have hgw:=bC hj;have hnw:=nW _ (List.getElem_mem hj);have hps:=aPa (D:=D) hi hj;obtain⟨R,hR⟩:=aSt (D:=D) (W:=W) hi (show j+1≤W.length from hj);rw[←hdl',hps,aNk] at hR;rw[aNk] at hps;have hH2:=hI0 _ _ hI2;generalize pre D U W i (j+1)=Pn at *;generalize pre D U W i j=Pj at *;generalize U[i]=u at *;generalize W[j]=w at *;have hcn:Near (2*(MU*MU)) (Geo.cross u w):=dJ hnu hnw;have hMM:MU*MU≤2^20*2^20:=Nat.mul_le_mul hMU hMU
       have hIu:∀i,I64 (u.at i):=fun i=>by have :=Near.c hnu i;unfold I64;omega
       have hIw:∀i,I64 (w.at i):=fun i=>by have :=Near.c hnw i;unfold I64;omega
       have hcr:∀i,i<3→crO (fun i=>some (u.at i)) (fun i=>some (w.at i)) i=some ((Geo.cross u w).at i):=fun i hi=>aEv hnu hnw (by
        have :(3*(2^20*2^20):Nat)<2^240:=by decide
        omega) hi
       have hcc:∀i,((Geo.cross u w).at i).natAbs≤2*(MU*MU):=fun i=>Near.c hcn i
       have w16:2*(2^20*2^20)<Num.W^16:=by decide
       have hcI:∀i,i<3→IsI (cO (crO (fun i=>some (u.at i)) (fun i=>some (w.at i)) i)) (crO (fun i=>some (u.at i)) (fun i=>some (w.at i)) i):=fun i hi=>by
        rw[hcr i hi];exact .enc (by have :=hcc i;omega)
       have hnar:(⟨(smallO (crO (fun i=>some (u.at i)) (fun i=>some (w.at i)) 0)).1,(smallO (crO (fun i=>some (u.at i)) (fun i=>some (w.at i)) 1)).1,(smallO (crO (fun i=>some (u.at i)) (fun i=>some (w.at i)) 2)).1⟩:Geo.V)=Geo.cross u w:=by
        have sm:∀z:Int,z.natAbs≤2*(MU*MU)→(smallO (some z)).1=z:=fun z hz=>by
         simp only[smallO];rw[if_pos (by omega)]
        rw[hcr 0 (by decide),hcr 1 (by decide),hcr 2 (by decide),sm _ (hcc 0),sm _ (hcc 1),sm _ (hcc 2)];rfl
       have n9:¬(H2.next=H3.next):=by omega
       refine aI ?_;simp only[↓zP,zG,Nat.reduceLT,Nat.reduceEqDiff,Nat.reduceAdd,zI,e3,hk3 39 rfl,hk3 9 rfl,aD,aJ,hj,hgw,oL (aG w),oL (aG u),g9,n9];refine bF (aMs hIu hIw _) ?_;refine bF (aKy hcI _) ?_;rw[hnar];generalize hc:Geo.cross u w=c at *;by_cases hc0:c=V0
       · rw[if_pos hc0,List.append_nil] at hps
         have hd:decide (c=V0)=true:=decide_eq_true hc0;simp only[↓zP,zG,Nat.reduceLT,Nat.reduceEqDiff,Nat.reduceAdd,zI,oL (aG c),pG,hd];rw[hps];refine⟨hst _ _ _ (((((Over.refl H3).alloc _).set (Nat.le_refl _) _).alloc _).set (by simp) _) hI3,hns3,by omega,?_⟩;rw[if_neg (by omega),if_neg (by omega),if_neg (by omega),if_neg (by omega)];exact g9
       · have hd:decide (c=V0)=false:=decide_eq_false hc0
         simp only[↓zP,zG,Nat.reduceLT,Nat.reduceEqDiff,Nat.reduceAdd,zI,oL (aG c),pG,hd];generalize hX:(((H3.alloc _).set _ _).alloc _).set _ _=HX
         have hovX:Over H3 HX:=by subst hX;exact((((Over.refl H3).alloc _).set (Nat.le_refl _) _).alloc _).set (by omega) _
         clear hX;have g9X:=(hovX.same H2.next hn3).trans g9;have hIX:=hst _ _ _ hovX hI3;have hnX:=hovX.le;rw[if_neg hc0] at hps hR
         have hlt:Pj.length<(dirs Sa Sb U W).length:=by rw[hR];simp
         have hgetc:(dirs Sa Sb U W)[Pj.length]'hlt=c:=by simp[hR]
         obtain⟨H6,hy,hI6,hn6,hs6⟩:=hstep _ hlt HX hIX;rw[hgetc] at hy hI6
         have hf0:f3 0=.yield id:=by
          rw[hk3 0 rfl];simp only[aC,ne_eq,Nat.reduceEqDiff,not_false_eq_true];rw[hk2 0 rfl];simp only[aC,ne_eq,Nat.reduceEqDiff,not_false_eq_true];rw[hk 0 rfl];simp only[aC,ne_eq,Nat.reduceEqDiff,not_false_eq_true,startF,List.getD_cons_zero]
         refine nN (by decide) (by simp only[sm,aC,Nat.reduceEqDiff];exact hf0) (by simp only[sm,aC]) hy ?_
         cases hsd:sep c with
         |true=>
          rw[hsd] at hI6;have hany:(dirs Sa Sb U W).any sep=true:=List.any_eq_true.2 ⟨c,by rw[←hgetc];exact List.getElem_mem hlt,hsd⟩;simp only[↓zP,zG,Nat.reduceLT,Nat.reduceEqDiff,zI];refine⟨rfl,_,by simp only[zR];rfl,?_⟩;exact⟨rfl,by rw[if_pos hany];simpa using hI6⟩
         |false=>
          rw[hsd] at hI6;simp only[↓zP,zG,Nat.reduceLT,Nat.reduceEqDiff,zI];rw[hps,List.length_append];refine⟨by simpa using hI6,fun x hx=>?_,by omega,(hs6 _ (by omega) (by omega)).trans g9X⟩
          rcases List.mem_append.1 hx with hx|hx
          · exact hns3 x hx
          · rw[List.mem_singleton] at hx;subst hx;exact hsd
     · rintro f3 H3 hk3 ⟨hI3,hns3,hn3,g9⟩
       rw[aSs hi] at hI3 hns3;exact⟨hI3,hns3⟩
   · rintro f2 H2 hk2 ⟨hI2,hns2⟩
     rw[←hdl'] at hI2 hns2
     have hany:(dirs Sa Sb U W).any sep=false:=by
      rw[List.any_eq_false];intro x hx;simp[hns2 x hx]
     refine⟨rfl,_,by simp only[zR];rfl,?_⟩;exact⟨rfl,by rw[hany];exact hI2⟩
def sepD (a b:List Geo.V) (n:Geo.V):Bool:=decide (hiF n (Geo.dot n (a.getD 0 V0)) a≤loF n (Geo.dot n (b.getD 0 V0)) b)||decide (hiF n (Geo.dot n (b.getD 0 V0)) b≤loF n (Geo.dot n (a.getD 0 V0)) a)
theorem pY {n:Geo.V} {X:Nat}:∀{l:List Geo.V} {m:Int},m.natAbs≤X→(∀v∈l,(Geo.dot n v).natAbs≤X)→(loF n m l).natAbs≤X
 |[],_,h,_=>h
 |v::l,m,h,hl=>by
  have h1:=hl v List.mem_cons_self;have :=pY (n:=n) (l:=l) (m:=if Geo.dot n v<m then Geo.dot n v else m) (by split<;>omega) (fun w hw=>hl w (List.mem_cons_of_mem _ hw));exact this
theorem pR {n:Geo.V} {X:Nat}:∀{l:List Geo.V} {m:Int},m.natAbs≤X→(∀v∈l,(Geo.dot n v).natAbs≤X)→(hiF n m l).natAbs≤X
 |[],_,h,_=>h
 |v::l,m,h,hl=>by
  have h1:=hl v List.mem_cons_self;have :=pR (n:=n) (l:=l) (m:=if Geo.dot n v>m then Geo.dot n v else m) (by split<;>omega) (fun w hw=>hl w (List.mem_cons_of_mem _ hw));exact this
theorem aBb {ta tb:Nat} (hta:Nat.blt ta 2=true) (htb:Nat.blt tb 2=true) {a b:List Geo.V} {M B:Nat} (ha:∀v∈a,Near M v) (hb:∀v∈b,Near M v) (hM:M≤2^18) (hla:a.length<2^30) (hlb:b.length<2^30) (ha0:a≠[]) (hb0:b≠[])
 {Sa Sb:List (Geo.V×Int)} {La Lb:Geo.V×Int→List Nat} {U W:List Geo.V} {MU:Nat} (hMU:MU≤2^20)
 (fa:∀H,Sound Tryz.prog gv 104 [.agg [.aT ta 3 (ivE a)]] H (.ret (.aT (H.next+2) 5 (Sa.map (facC La)))) (H.alloc .tok))
 (fb:∀H,Sound Tryz.prog gv 104 [.agg [.aT tb 3 (ivE b)]] H (.ret (.aT (H.next+2) 5 (Sb.map (facC Lb)))) (H.alloc .tok))
 (ea:∀H,Sound Tryz.prog gv 105 [.agg [.aT ta 3 (ivE a)]] H (.ret (.aT 0 3 (ivE U))) H)
 (eb:∀H,Sound Tryz.prog gv 105 [.agg [.aT tb 3 (ivE b)]] H (.ret (.aT 0 3 (ivE W))) H)
 (nU:∀v∈U,Near MU v) (nW:∀v∈W,Near MU v) (lSa:Sa.length≤64) (lSb:Sb.length≤64) (hSb:Sb≠[]) (lU:U.length≤2^20) (lW:W.length≤2^20)
 (hdn:∀n∈dirs Sa Sb U W,Near B n) (hB:B≤2^62) (H:Heap):
 Sound Tryz.prog gv 21 [.agg [.aT ta 3 (ivE a)],.agg [.aT tb 3 (ivE b)]] H (.ret (.bool ((dirs Sa Sb U W).any (sepD a b)))) H:=by
 suffices h:∃out H',out=.ret (.bool ((dirs Sa Sb U W).any (sepD a b)))∧Sound Tryz.prog gv 21 [.agg [.aT ta 3 (ivE a)],.agg [.aT tb 3 (ivE b)]] ⟨0,.nil⟩ out H' by
  obtain⟨_,H',rfl,hS⟩:=h;exact Sound.frame bW (by simp only[sf,bG hta,bG htb]) hS (tk:=none) (fun k hk=>by cases hk) (n:=0) H (jL rfl)
 obtain⟨a0,ar,hae⟩:=List.exists_cons_of_ne_nil ha0;obtain⟨b0,br,hbe⟩:=List.exists_cons_of_ne_nil hb0;refine jQ fit bDj (Nat.le_of_ble_eq_true rfl) ?_;unfold W21;dsimp only;refine aA fun K hK=>?_;simp only[↓zP,zG,Nat.reduceLT,Nat.reduceEqDiff,Nat.reduceAdd,zI];apply hK;clear hK K;refine aA fun K hK=>?_;refine aA fun K2 hK2=>?_;simp only[↓zP,zG,Nat.reduceLT,Nat.reduceEqDiff,Nat.reduceAdd,zI];refine bF (wJ (ta:=ta) (tb:=tb) a b _) ?_;simp only[↓zP,Nat.reduceAdd,zI];apply hK2;clear hK2 K2
 refine aUo (by
  repeat (first|exact(jO (Nat.le_of_ble_eq_true rfl)).1|refine FBnd.upd ?_ (by decide) _)) (fun f HX hbd hf hHX=>?_)
 have f2:f 2=.ref 0 0:=by subst hf;simp only[aC,ne_eq,Nat.reduceEqDiff,not_false_eq_true]
 have f3:f 3=.ref 1 0:=by subst hf;simp only[aC,ne_eq,Nat.reduceEqDiff,not_false_eq_true]
 have f4:f 4=.ref 2 0:=by subst hf;simp only[aC,ne_eq,Nat.reduceEqDiff,not_false_eq_true]
 have f12:f 12=.func (.func 103) [] [.ref 3 0,.ref 4 0]:=by subst hf;simp only[aC]
 have xn:HX.next=5:=by subst hHX;simp only[zI,Nat.reduceAdd]
 have x0:HX.get 0=some (.cells [.aT ta 3 (ivE a)] false):=by subst hHX;simp only[zI,Nat.reduceAdd,Nat.reduceEqDiff]
 have x1:HX.get 1=some (.cells [.aT tb 3 (ivE b)] false):=by subst hHX;simp only[zI,Nat.reduceAdd,Nat.reduceEqDiff]
 have x2:HX.get 2=some (.cells [.bool false] false):=by subst hHX;simp only[zI,Nat.reduceAdd,Nat.reduceEqDiff]
 have x3:HX.get 3=some (.cells [.aT ta 3 (ivE a)] false):=by subst hHX;simp only[zI,Nat.reduceAdd,Nat.reduceEqDiff]
 have x4:HX.get 4=some (.cells [.aT tb 3 (ivE b)] false):=by subst hHX;simp only[zI,Nat.reduceAdd,Nat.reduceEqDiff]
 clear hf hHX;refine aI ?_;refine nM (by rw[dA];exact f12) ?_;simp only[xn,Nat.reduceAdd];generalize hkey:LKey.mk [13] _ _=key
 let I:Nat→Heap→Prop:=fun _ H'=>7≤H'.next∧H'.get 0=some (.cells [.aT ta 3 (ivE a)] false)∧H'.get 1=some (.cells [.aT tb 3 (ivE b)] false)∧H'.get 2=some (.cells [.bool false] false)∧H'.get 3=some (.cells [.aT ta 3 (ivE a)] false)∧H'.get 4=some (.cells [.aT tb 3 (ivE b)] false)∧H'.get 5=some .dfd∧H'.get 6=some (.loop key (LF 36 f) .ready)
 let Stop:Heap→Prop:=fun H'=>H'.get 2=some (.cells [.bool true] false)∧7≤H'.next∧H'.get 5=some .dfd∧∃k s,H'.get 6=some (.loop k s (.done .ret))
 have hst:∀i H1 H2,Over H1 H2→I i H1→I i H2:=fun i H1 H2 ho ⟨w1,w2,w3,w4,w5,w6,w7,w8⟩=>
  ⟨Nat.le_trans w1 ho.le,(ho.same _ (by omega)).trans w2,(ho.same _ (by omega)).trans w3,(ho.same _ (by omega)).trans w4,(ho.same _ (by omega)).trans w5,(ho.same _ (by omega)).trans w6,(ho.same _ (by omega)).trans w7,(ho.same _ (by omega)).trans w8⟩
 have hst2:∀H1 H2,Over H1 H2→Stop H1→Stop H2:=fun H1 H2 ho ⟨w1,w2,w3,k,s,w4⟩=>
  ⟨(ho.same _ (by omega)).trans w1,Nat.le_trans w2 ho.le,(ho.same _ (by omega)).trans w3,k,s,(ho.same _ (by omega)).trans w4⟩
 have yn:((HX.alloc .dfd).alloc (.loop key (LF 36 f) .ready)).next=7:=by simp[xn]
 have h0:I 0 ((HX.alloc .dfd).alloc (.loop key (LF 36 f) .ready)):=by
  refine⟨by rw[yn];decide,?_,?_,?_,?_,?_,?_,?_⟩<;>simp[Heap.aH, *]
 have hstep:∀k (hk:k<(dirs Sa Sb U W).length) H1,I k H1→∃H',YSound Tryz.prog gv 6 [.agg (ivC (dirs Sa Sb U W)[k])] H1 (.ret (.bool (!sepD a b (dirs Sa Sb U W)[k]))) H'∧(if sepD a b (dirs Sa Sb U W)[k] then Stop H' else I (k+1) H')∧H1.next≤H'.next∧∀j,((HX.alloc .dfd).alloc (.loop key (LF 36 f) .ready)).next≤j→j<H1.next→H'.get j=H1.get j:=by
  rintro k hk H1 ⟨w1,w2,w3,w4,w5,w6,w7,w8⟩;have hn:=hdn _ (List.getElem_mem hk);rw[yn];generalize (dirs Sa Sb U W)[k]=n at *
  suffices h:∃out H',(out=.ret (.bool (!sepD a b n))∧(if sepD a b n then Stop H' else I (k+1) H')∧H1.next≤H'.next∧∀j,7≤j→j<H1.next→H'.get j=H1.get j)∧YSound Tryz.prog gv 6 [.agg (ivC n)] H1 out H' by
   obtain⟨_,H',⟨rfl,h1,h2,h3⟩,hS⟩:=h;exact⟨H',hS,h1,h2,h3⟩
  refine aEl fit hbd w8 (by rw[←hkey];rfl) (by rw[←hkey];rfl) (by rw[←hkey];rfl) ?_
  have hasg:FC Tryz.prog gv 36 key.asg (putAllF 36 f (key.ps.zip [.agg (ivC n)])) [] H1 (fun e f1 ds1 H1'=>e=.normal∧f1=upd (upd f 13 (.agg (ivC n))) 5 (.ref H1.next 0)∧ds1=[]∧H1'=(H1.alloc (.cells [.int .i64 0,.int .i64 0,.int .i64 0] false)).set H1.next (.cells (ivC n) false)):=by
   subst hkey;dsimp only[List.zip,List.zipWith,putAllF,putF];simp only[↓zP,zG,Nat.reduceLT,Nat.reduceEqDiff,Nat.reduceAdd,zI,oL (aG n)]
  refine dG (fun e f1 ds1 H1' h=>?_) hasg;obtain⟨rfl,rfl,rfl,rfl⟩:=h;have ho1:Over H1 ((H1.alloc (.cells [.int .i64 0,.int .i64 0,.int .i64 0] false)).set H1.next (.cells (ivC n) false)):=((Over.refl H1).alloc _).set (Nat.le_refl _) _
  have ga:((H1.alloc (.cells [.int .i64 0,.int .i64 0,.int .i64 0] false)).set H1.next (.cells (ivC n) false)).get H1.next=some (.cells (ivC n) false):=by rw[Heap.aB,if_pos rfl]
  have gan:((H1.alloc (.cells [.int .i64 0,.int .i64 0,.int .i64 0] false)).set H1.next (.cells (ivC n) false)).next=H1.next+1:=by simp
  refine⟨rfl,key,LF 36 f,(ho1.same 6 (by omega)).trans w8,?_⟩;generalize hbz:Heap.set _ 6 _=HB
  have z0:HB.get 0=some (.cells [.aT ta 3 (ivE a)] false):=by rw[←hbz,Heap.aB,if_neg (by decide)];exact(ho1.same 0 (by omega)).trans w2
  have z1:HB.get 1=some (.cells [.aT tb 3 (ivE b)] false):=by rw[←hbz,Heap.aB,if_neg (by decide)];exact(ho1.same 1 (by omega)).trans w3
  have zr:HB.get H1.next=some (.cells (ivC n) false):=by rw[←hbz,Heap.aB,if_neg (by omega)];exact ga
  have zn:HB.next=H1.next+1:=by rw[←hbz,Heap.aS];exact gan
  have z6:HB.get 6=some (.loop key (LF 36 f) .busy):=by rw[←hbz,Heap.aB,if_pos rfl]
  have zo:∀j,j≠6→j<H1.next→HB.get j=H1.get j:=fun j h1 h2=>by rw[←hbz,Heap.aB,if_neg h1];exact ho1.same j h2
  clear hbz hasg ho1 ga gan;subst hkey;dsimp only;refine aI ?_;simp only[↓zP,zG,Nat.reduceLT,Nat.reduceEqDiff,zI,f2,z0,zr,oL (aG n)];have sa:=fun H=>aIt (tag:=ta) hta ha hla hM hn hB hae H;have sb:=fun H=>aIt (tag:=tb) htb hb hlb hM hn hB hbe H
  have c18:∀z,(cI z).length=18:=fun z=>by simp[cI,bH,bE]
  have z18:(AV.bool false::AV.bool false::wC zs).length=18:=by simp[bH];rfl
  have hBM:B*M≤2^62*2^18:=Nat.mul_le_mul hB hM
  have w16:3*(B*M)<Num.W^16:=by
   have :3*(2^62*2^18)<Num.W^16:=by decide
   omega
  have da:∀v∈a,(Geo.dot n v).natAbs≤3*(B*M):=fun v hv=>fD hn (ha v hv);have db:∀v∈b,(Geo.dot n v).natAbs≤3*(B*M):=fun v hv=>fD hn (hb v hv);have na0:=da a0 (by rw[hae];simp);have nb0:=db b0 (by rw[hbe];simp)
  have hsep:sepD a b n=(decide (hiF n (Geo.dot n a0) a≤loF n (Geo.dot n b0) b)||decide (hiF n (Geo.dot n b0) b≤loF n (Geo.dot n a0) a)):=by
   simp only[sepD,hae,hbe,List.getD_cons_zero]
  rw[hsep];have ila:IsI (cI (loF n (Geo.dot n a0) a)) (some (loF n (Geo.dot n a0) a)):=.enc (by have :=pY na0 da;omega);have iha:IsI (cI (hiF n (Geo.dot n a0) a)) (some (hiF n (Geo.dot n a0) a)):=.enc (by have :=pR na0 da;omega);have ilb:IsI (cI (loF n (Geo.dot n b0) b)) (some (loF n (Geo.dot n b0) b)):=.enc (by have :=pY nb0 db;omega);have ihb:IsI (cI (hiF n (Geo.dot n b0) b)) (some (hiF n (Geo.dot n b0) b)):=.enc (by have :=pR nb0 db;omega);clear hsep hst hst2 h0;generalize loF n (Geo.dot n a0) a=p1 at *;generalize hiF n (Geo.dot n a0) a=p2 at *;generalize loF n (Geo.dot n b0) b=q1 at *;generalize hiF n (Geo.dot n b0) b=q2 at *
  have n0:¬(H1.next=0):=by omega
  have n1:¬(H1.next=1):=by omega
  have n2:¬(2=H1.next):=by omega
  have z2:HB.get 2=some (.cells [.bool false] false):=(zo 2 (by decide) (by omega)).trans w4;refine bF (sa _) ?_;simp only[↓zP,zG,Nat.reduceLT,Nat.reduceEqDiff,Nat.reduceAdd,zI,Nat.add_assoc,Nat.left_eq_add,Nat.add_left_cancel_iff,c18,z18,oL z18,zn,z1,zr,f3,oL (aG n),n0];refine bF (sb _) ?_
  have hc2:∀x y:Int,decide (cmpO (some x) (some y)≤0)=decide (x≤y):=fun x y=>by
   rw[decide_eq_decide];simp only[cmpO];split<;>(try split)<;>omega
  by_cases c1:p2≤q1
  · have d1:decide (cmpO (some p2) (some q1)≤0)=true:=by rw[hc2];exact decide_eq_true c1
    simp only[↓zP,zG,Nat.reduceLT,Nat.reduceEqDiff,Nat.reduceAdd,zI,Nat.add_assoc,Nat.add_left_cancel_iff,c18,z18,oL (c18 p2),oL (c18 q1),oL z18,zn];refine bF (qT iha ilb _) ?_;simp only[↓zP,zG,Nat.reduceLT,Nat.reduceEqDiff,Nat.reduceAdd,zI,Nat.add_assoc,d1,f4,n0,n1,zn,z2]
    have ttt:(decide (p2≤q1)||decide (q2≤p1))=true:=by simp[c1]
    generalize hZ:Heap.set _ (H1.next+4) _=HZ
    have hz:Over HB HZ:=by subst hZ;exact(((((((((Over.refl HB).alloc _).alloc _).set (by omega) _).set (by omega) _).alloc _).alloc _).set (by omega) _).set (by omega) _)
    clear hZ;have hzn:=hz.le;refine⟨rfl,_,_,by rw[Heap.aB,if_neg (by decide)];exact(hz.same 6 (by omega)).trans z6,by rw[ttt];rfl,?_,by simp only[Heap.aS];omega,fun j h1 h2=>?_⟩
    · rw[ttt,if_pos rfl]
      exact⟨by rw[Heap.aB,if_neg (by decide),Heap.aB,if_pos rfl],by simp only[Heap.aS];omega,by rw[Heap.aB,if_neg (by decide),Heap.aB,if_neg (by decide)];exact(hz.same 5 (by omega)).trans ((zo 5 (by decide) (by omega)).trans w7),_,_,by rw[Heap.aB,if_pos rfl]⟩
    · by_cases j6:j=6
      · omega
      · rw[Heap.aB,if_neg j6,Heap.aB,if_neg (by omega)]
        exact(hz.same j (by omega)).trans (zo j j6 h2)
  · have d1:decide (cmpO (some p2) (some q1)≤0)=false:=by rw[hc2];exact decide_eq_false c1
    simp only[↓zP,zG,Nat.reduceLT,Nat.reduceEqDiff,Nat.reduceAdd,zI,Nat.add_assoc,Nat.add_left_cancel_iff,c18,z18,oL (c18 p2),oL (c18 q1),oL z18,zn];refine bF (qT iha ilb _) ?_;simp only[↓zP,zG,Nat.reduceLT,Nat.reduceEqDiff,Nat.reduceAdd,zI,Nat.add_assoc,Nat.add_left_cancel_iff,d1,c18,zn,oL (c18 p1),oL (c18 q2)];refine bF (qT ihb ila _) ?_;by_cases c2:q2≤p1
    · have d2:decide (cmpO (some q2) (some p1)≤0)=true:=by rw[hc2];exact decide_eq_true c2
      simp only[↓zP,zG,Nat.reduceLT,Nat.reduceEqDiff,Nat.reduceAdd,zI,Nat.add_assoc,d2,f4,n0,n1,zn,z2]
      have ttt:(decide (p2≤q1)||decide (q2≤p1))=true:=by simp[c2]
      generalize hZ:Heap.set _ (H1.next+4) _=HZ
      have hz:Over HB HZ:=by subst hZ;exact(((((((((Over.refl HB).alloc _).alloc _).set (by omega) _).set (by omega) _).alloc _).alloc _).set (by omega) _).set (by omega) _)
      clear hZ;have hzn:=hz.le;refine⟨rfl,_,_,by rw[Heap.aB,if_neg (by decide)];exact(hz.same 6 (by omega)).trans z6,by rw[ttt];rfl,?_,by simp only[Heap.aS];omega,fun j h1 h2=>?_⟩
      · rw[ttt,if_pos rfl]
        exact⟨by rw[Heap.aB,if_neg (by decide),Heap.aB,if_pos rfl],by simp only[Heap.aS];omega,by rw[Heap.aB,if_neg (by decide),Heap.aB,if_neg (by decide)];exact(hz.same 5 (by omega)).trans ((zo 5 (by decide) (by omega)).trans w7),_,_,by rw[Heap.aB,if_pos rfl]⟩
      · by_cases j6:j=6
        · omega
        · rw[Heap.aB,if_neg j6,Heap.aB,if_neg (by omega)]
          exact(hz.same j (by omega)).trans (zo j j6 h2)
    · have d2:decide (cmpO (some q2) (some p1)≤0)=false:=by rw[hc2];exact decide_eq_false c2
      simp only[↓zP,zG,Nat.reduceLT,Nat.reduceEqDiff,zI,d2];generalize hZ:Heap.set _ (H1.next+4) _=HZ
      have hz:Over HB HZ:=by subst hZ;exact(((((((((Over.refl HB).alloc _).alloc _).set (by omega) _).set (by omega) _).alloc _).alloc _).set (by omega) _).set (by omega) _)
      clear hZ;have hzn:=hz.le
      have ttt:(decide (p2≤q1)||decide (q2≤p1))=false:=by simp[c1,c2]
      refine⟨rfl,_,_,(hz.same 6 (by omega)).trans z6,by rw[ttt];rfl,?_,by simp only[Heap.aS];omega,fun j h1 h2=>?_⟩
      · rw[ttt,if_neg (by decide)]
        have hk:∀(ob:AObj) (j:Nat),j<6→(HZ.set 6 ob).get j=H1.get j:=fun ob j hj=>by
         rw[Heap.aB,if_neg (by omega)];exact(hz.same j (by omega)).trans (zo j (by omega) (by omega))
        exact⟨by simp only[Heap.aS];omega,(hk _ 0 (by decide)).trans w2,(hk _ 1 (by decide)).trans w3,(hk _ 2 (by decide)).trans w4,(hk _ 3 (by decide)).trans w5,(hk _ 4 (by decide)).trans w6,(hk _ 5 (by decide)).trans w7,by rw[Heap.aB,if_pos rfl]⟩
      · by_cases j6:j=6
        · omega
        · rw[Heap.aB,if_neg j6]
          exact(hz.same j (by omega)).trans (zo j j6 h2)
 obtain⟨He,hfin,hS⟩:=sM (ta:=ta) (tb:=tb) hMU fa fb ea eb nU nW lSa lSb hSb lU lW (id:=6) (r1:=3) (r2:=4) (o1:=false) (o2:=false) I Stop (sepD a b) hst hst2 hstep (fun k H1 h=>by rw[yn];exact h.1) (by rw[yn];decide) (by rw[yn];decide) h0.2.2.2.2.1 h0.2.2.2.2.2.1 (fun k H' h=>⟨h.2.2.2.2.1,h.2.2.2.2.2.1⟩) h0
 cases hany:(dirs Sa Sb U W).any (sepD a b) with
 |true=>
  rw[hany,if_pos rfl] at hfin;obtain⟨w1,w2,w3,k,s,w4⟩:=hfin;refine⟨_,He,_,_,_,hS,w4,fun Hf hf=>?_⟩;obtain⟨e1,e2⟩:=hf
  have b2:Hf.get 2=some (.cells [.bool true] false):=by rw[e2,if_neg (by decide)];exact w1
  have b5:Hf.get 5=some .dfd:=by rw[e2,if_neg (by decide)];exact w3
  refine⟨b5,[.bool true],?_,rfl⟩;simp only[↓zP,zR,Nat.reduceEqDiff,f4,b2]
 |false=>
  rw[hany,if_neg (by decide)] at hfin;obtain⟨w1,w2,w3,w4,w5,w6,w7,w8⟩:=hfin;refine⟨_,He,_,_,_,hS,w8,fun Hf hf=>?_⟩;obtain⟨e1,e2⟩:=hf
  have b2:Hf.get 2=some (.cells [.bool false] false):=by rw[e2,if_neg (by decide)];exact w4
  have b5:Hf.get 5=some .dfd:=by rw[e2,if_neg (by decide)];exact w7
  show K f [.mark 5] Hf;apply hK;simp only[↓zP,zG,zI,f4,b2];refine⟨by rw[Heap.aB,if_neg (by decide)];exact b5,[.bool false],?_,by rw[hany];rfl⟩;simp only[↓zP,zR,Nat.reduceEqDiff,f4,b2]
end Go.Proofs.YtjiignefffdelaaGreatDoor
namespace Go.Proofs.YtjiignefffdelaaGreatDoor
open Go Go.Av
attribute [local congr] aU aN aO aM aW aR aP aL
attribute [local irreducible] FC FOps FD2
def letC (c:Nat):Bool:=decide (97≤c|||32)&&decide (c|||32≤122)&&decide (c<128)
def chrC (i c:Nat):Bool:=letC c||(!decide (i=0)&&(decide (c=95)||(decide (48≤c)&&decide (c≤57))))
def validN (s:List UInt8):Bool:=(List.range s.length).all (fun k=>chrC k (s.getD k 0).toNat)&&(decide (1≤s.length)&&decide (s.length≤32))
theorem vU (s:List UInt8):(u8s s).length=s.length:=by simp[u8s]
theorem aQf {s:List UInt8} {i:Nat} (h:i<s.length):(u8s s).getD i []=[.int .u8 ((s.getD i 0).toNat:Nat)]:=by
 simp[u8s,List.getD,h]
theorem aDv (s:List UInt8) (hlen:s.length<2^63) (H:Heap):Sound Tryz.prog gv 22 [.str s] H (.ret (.bool (validN s))) H:=by
 refine Sp bDk (by simp only[sf]) (by simp only[sf]) ?_ H;unfold W22;dsimp only;simp only[↓zP,zG,Nat.reduceLT,Nat.reduceEqDiff,zI,vU];refine bD [] (fun i vs H'=>∀k,k<i→chrC k (s.getD k 0).toNat=true) s.length (by omega) (by decide) ?_ ?_ ?_ ?_ ?_
 · simp only[aC]
 · simp only[aC,ne_eq,Nat.reduceEqDiff,not_false_eq_true]
 · exact fun k hk=>absurd hk (Nat.not_lt_zero _)
 · rintro i f H1 hi hk e1 hJ
   have hg:=aQf hi;have hc256:(s.getD i 0).toNat<2^8:=(s.getD i 0).toNat_lt
   have hall:chrC i (s.getD i 0).toNat=true→∀k,k<i+1→chrC k (s.getD k 0).toNat=true:=fun h k hk=>by
    by_cases e:k=i
    · subst e;exact h
    · exact hJ k (by omega)
   have hno:chrC i (s.getD i 0).toNat=false→validN s=false:=fun h=>by
    have :(List.range s.length).all (fun k=>chrC k (s.getD k 0).toNat)=false:=by
     rw[List.all_eq_false];exact⟨i,List.mem_range.2 hi,by rw[h];decide⟩
    unfold validN;rw[this];rfl
   generalize (s.getD i 0).toNat=c at *;have hor:bitsI .or .u8 (c:Int) (32:Int)=some (.int .u8 ((c|||32:Nat):Int)):=aQt (k:=.u8) rfl hc256 (b:=32) (by decide)
   have d1:decide (((c|||32:Nat):Int)≥97)=decide (97≤c|||32):=by rw[decide_eq_decide];omega
   have d2:decide (((c|||32:Nat):Int)≤122)=decide (c|||32≤122):=by rw[decide_eq_decide];omega
   have d3:decide ((c:Int)<128)=decide (c<128):=by rw[decide_eq_decide];omega
   have d4:((i:Int)==0)=decide (i=0):=by rw[Bool.beq_eq_decide_eq,decide_eq_decide];omega
   have d5:((c:Int) != 95)= !decide (c=95):=by
    have :((c:Int)==95)=decide (c=95):=by rw[Bool.beq_eq_decide_eq,decide_eq_decide];omega
    rw[bne,this]
   have d6:decide ((c:Int)<48)= !decide (48≤c):=by rw[←decide_not,decide_eq_decide];omega
   have d7:decide ((c:Int)>57)= !decide (c≤57):=by rw[←decide_not,decide_eq_decide];omega
   refine aI ?_;refine aA fun K2 hK2=>?_;simp only[↓zP,zG,Nat.reduceLT,Nat.reduceEqDiff,zI,e1,hk 7 rfl,aD,vU,hi,hg];apply hK2;clear hK2 K2;refine aA fun K2 hK2=>?_
   have key:∀f':Slt,f' 3=.int .i64 i→f' 4=.int .u8 c→f' 5=.bool (letC c)→K2 f' [] H1:=by
    intro f' v3 v4 v5;apply hK2;clear hK2 K2;unfold chrC at hall hno
    cases hL:letC c with
    |true=>
     rw[hL] at v5 hall;simp only[↓zP,zG,Nat.reduceLT,Nat.reduceEqDiff,zI,v5];exact hall (by simp)
    |false=>
     rw[hL] at v5 hall hno
     cases h4:decide (i=0) with
     |true=>
      rw[h4] at d4 hno;simp only[↓zP,zG,Nat.reduceLT,Nat.reduceEqDiff,zI,v5,v3,d4];exact⟨rfl,[.bool false],by simp only[resFs,resF,aC],by rw[hno (by simp)];rfl⟩
     |false=>
      rw[h4] at d4 hall hno
      cases h5:decide (c=95) with
      |true=>
       rw[h5] at d5 hall;simp only[↓zP,zG,Nat.reduceLT,Nat.reduceEqDiff,zI,v5,v3,v4,d4,d5];exact hall (by simp)
      |false=>
       rw[h5] at d5 hall hno
       cases h6:decide (48≤c) with
       |false=>
        rw[h6] at d6 hno;simp only[↓zP,zG,Nat.reduceLT,Nat.reduceEqDiff,zI,v5,v3,v4,d4,d5,d6];exact⟨rfl,[.bool false],by simp only[resFs,resF,aC],by rw[hno (by simp)];rfl⟩
       |true=>
        rw[h6] at d6 hall hno
        cases h7:decide (c≤57) with
        |false=>
         rw[h7] at d7 hno;simp only[↓zP,zG,Nat.reduceLT,Nat.reduceEqDiff,zI,v5,v3,v4,d4,d5,d6,d7];exact⟨rfl,[.bool false],by simp only[resFs,resF,aC],by rw[hno (by simp)];rfl⟩
        |true=>
         rw[h7] at d7 hall;simp only[↓zP,zG,Nat.reduceLT,Nat.reduceEqDiff,zI,v5,v3,v4,d4,d5,d6,d7];exact hall (by simp)
   clear hK2 hall hno d4 d5 d6 d7;unfold letC at key
   cases h1:decide (97≤c|||32) with
   |false=>
    rw[h1] at d1 key;simp only[↓zP,zG,Nat.reduceLT,Nat.reduceEqDiff,zI,hor,d1];exact key _ (by simp only[aC,ne_eq,Nat.reduceEqDiff,not_false_eq_true]) (by simp only[aC,ne_eq,Nat.reduceEqDiff,not_false_eq_true]) (by simp only[aC];rfl)
   |true=>
    rw[h1] at d1 key
    cases h2:decide (c|||32≤122) with
    |false=>
     rw[h2] at d2 key;simp only[↓zP,zG,Nat.reduceLT,Nat.reduceEqDiff,zI,hor,d1,d2];exact key _ (by simp only[aC,ne_eq,Nat.reduceEqDiff,not_false_eq_true]) (by simp only[aC,ne_eq,Nat.reduceEqDiff,not_false_eq_true]) (by simp only[aC];rfl)
    |true=>
     rw[h2] at d2 key;simp only[↓zP,zG,Nat.reduceLT,Nat.reduceEqDiff,zI,hor,d1,d2,d3];exact key _ (by simp only[aC,ne_eq,Nat.reduceEqDiff,not_false_eq_true]) (by simp only[aC,ne_eq,Nat.reduceEqDiff,not_false_eq_true]) (by simp only[aC];rfl)
 · rintro f H1 hk hJ
   have hall:(List.range s.length).all (fun k=>chrC k (s.getD k 0).toNat)=true:=by
    rw[List.all_eq_true];exact fun k hk=>hJ k (List.mem_range.1 hk)
   unfold validN;rw[hall]
   have f0:f 0=.str s:=by rw[hk 0 rfl];simp only[aC,ne_eq,Nat.reduceEqDiff,not_false_eq_true,startF,List.getD_cons_zero]
   have d1:decide ((s.length:Int)≥1)=decide (1≤s.length):=by rw[decide_eq_decide];omega
   have d2:decide ((s.length:Int)≤32)=decide (s.length≤32):=by rw[decide_eq_decide];omega
   cases h1:decide (1≤s.length) with
   |false=>
    rw[h1] at d1;simp only[↓zP,zG,zI,f0,d1];exact⟨rfl,[.bool false],by simp only[resFs,resF,aC],rfl⟩
   |true=>
    rw[h1] at d1;simp only[↓zP,zG,zI,f0,d1,d2];exact⟨rfl,[.bool (decide (s.length≤32))],by simp only[resFs,resF,aC],rfl⟩
end Go.Proofs.YtjiignefffdelaaGreatDoor
namespace Go.Proofs.YtjiignefffdelaaGreatDoor
open Go Go.Av Go.Geo
theorem uV (l:List Geo.V):∃C,Ord l C:=by
 obtain⟨s,h1,h2⟩:=iW (fun a b:Geo.V=>¬VLt b a) (fun {a b c} h h'=>by unfold VLt at *;omega) (fun a b=>by unfold VLt;omega) l;exact⟨dd s s.length,aFa h2 _ (Nat.le_refl _),fun v=>by rw[tW s v _ (Nat.le_refl _),List.take_length];exact h1.mem_iff⟩
noncomputable def srtC (l:List Geo.V):List Geo.V:=Classical.choose (uV l)
theorem jM (l:List Geo.V):Ord l (srtC l):=Classical.choose_spec (uV l)
noncomputable def facS (C:List Geo.V):List (Geo.V×Int):=Classical.choose (FList.exists (fun i=>C.getD i V0) C.length)
theorem gN (C:List Geo.V):FList (fun i=>C.getD i V0) C.length (facS C):=Classical.choose_spec (FList.exists (fun i=>C.getD i V0) C.length)
open Classical in
noncomputable def facL (C:List Geo.V) (q:Geo.V×Int):List Nat:=if h:∃L,Poly (fun i=>C.getD i V0) C.length q.1 q.2 L then Classical.choose h else []
theorem tP {C:List Geo.V} (h:C.Pairwise VLt):Asc (fun i=>C.getD i V0) C.length:=fun i j hij hj=>by
 have h1:C.getD i V0=C[i]:=by simp[List.getD,Nat.lt_trans hij hj]
 have h2:C.getD j V0=C[j]:=by simp[List.getD,hj]
 simp only[h1,h2];exact List.pairwise_iff_getElem.1 h i j (Nat.lt_trans hij hj) hj hij
theorem eM {C:List Geo.V} (h:C.Pairwise VLt):Facs C (facS C) (facL C) where
 fl:=gN C
 po q hq:=by
  have hF:=((gN C).mem q).1 hq;have hx:=Poly.exists (tP h) hF.fct;unfold facL;rw[dif_pos hx];exact Classical.choose_spec hx
noncomputable def chkL (l:List Geo.V):Int:=chkP l (srtC l) (facS (srtC l)) (facL (srtC l))
theorem uW {l:List Geo.V} (h:l.Pairwise VLt):srtC l=l:=Ord.uniq (jM l) ⟨h,fun v=>Iff.rfl⟩
theorem jR {l:List Geo.V} (h:chkL l=0):l.Pairwise VLt∧srtC l=l∧facS l≠[]∧(facS l).length≤64∧l.length≤64∧l≠[]∧∀v∈l,Near (2^18) v:=by
 unfold chkL chkP at h;split at h
 · cases h
 · rename_i h1
   have h2:hullL (srtC l) (facS (srtC l)) (facL (srtC l))=l:=Classical.byContradiction fun hc=>h1 ⟨h,hc⟩;obtain⟨a1,a2,a3⟩:=zT h;have hs:=(jM l).srt
   have hsub:l.Pairwise VLt:=by
    rw[←h2];unfold hullL;rw[List.pairwise_map];refine List.Pairwise.imp_of_mem (R:=fun a b=>a<b) ?_ (List.Pairwise.filter _ List.pairwise_lt_range);intro a b ha hb hab;exact tP hs a b hab (by simpa using(List.mem_filter.1 hb).1)
   have he:=uW hsub;have hne:=uB (eM hs) a1;rw[h2] at hne;rw[he] at a1;refine⟨hsub,he,a1,?_,a3,hne,?_⟩
   · unfold hullO at h
     rw[he] at h;split at h
     · cases h
     · split at h
       · cases h
       · split at h
         · cases h
         · split at h
           · cases h
           · omega
   · unfold hullO at h
     split at h
     · cases h
     · split at h
       · cases h
       · rename_i hb
         intro v hv
         have hb':l.all inB=true:=by simpa using hb
         exact uC.1 (List.all_eq_true.1 hb' v hv)
theorem pD:chkL []=120:=by
 have h:srtC []=[]:=uW .nil;unfold chkL chkP;rw[h]
 have hS:facS []=[]:=by
  cases hf:facS [] with
  |nil=>rfl
  |cons q r=>
   have :=((gN []).mem q).1 (by rw[hf];simp);obtain⟨k,hk,_⟩:=this.lt;exact absurd hk (Nat.not_lt_zero _)
 rw[hS];rfl
def IsE (l:List Geo.V) (v:Geo.V):Prop:=∃q:Geo.V×Int,IsF (fun i=>l.getD i V0) l.length q.1 q.2∧∃a b,Sd q.1 (fun i=>l.getD i V0) (onL (fun i=>l.getD i V0) l.length q.1 q.2) a b∧a∈onL (fun i=>l.getD i V0) l.length q.1 q.2∧a<b∧v=Geo.sub (l.getD b V0) (l.getD a V0)
def IsD (a b:List Geo.V) (n:Geo.V):Prop:=(∃d,IsF (fun i=>a.getD i V0) a.length n d)∨(∃d,IsF (fun i=>b.getD i V0) b.length n d)∨∃u w,IsE a u∧IsE b w∧n=Geo.cross u w∧n≠V0
open Classical in
noncomputable def disB (a b:List Geo.V):Bool:=decide (∃n,IsD a b n∧sepD a b n=true)
theorem fC {a b:List Geo.V}:disB a b=true↔∃n,IsD a b n∧sepD a b n=true:=by
 unfold disB;exact @decide_eq_true_iff _ (Classical.propDecidable _)
end Go.Proofs.YtjiignefffdelaaGreatDoor
