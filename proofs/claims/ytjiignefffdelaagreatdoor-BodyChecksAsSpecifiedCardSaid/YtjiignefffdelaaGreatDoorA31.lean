/-
  Parts of the proof of statement 4: Ki, Kj
-/
import Derived.Test.YtjiignefffdelaaGreatDoorA30
import Derived.Test.YtjiignefffdelaaGreatDoorA25
import Derived.Test.YtjiignefffdelaaGreatDoorA28
import Derived.Test.YtjiignefffdelaaGreatDoorA22
import Derived.Test.YtjiignefffdelaaGreatDoorA17
set_option linter.unusedVariables false
set_option maxRecDepth 100000
set_option maxHeartbeats 16000000
namespace Go.Proofs.YtjiignefffdelaaGreatDoor
open Go Go.Av Go.Geo
attribute [local congr] aU aN aO aM aW aR aP aL
attribute [local irreducible] FC FOps FD2
theorem lY (p q:Geo.V×Int):plCmp p q<0↔VLt p.1 q.1:=by
 unfold plCmp orZ cmpZ VLt
 rcases Int.lt_trichotomy p.1.x q.1.x with h|h|h
 · simp[h]
 · rcases Int.lt_trichotomy p.1.y q.1.y with h2|h2|h2
   · simp[h,h2]
   · rcases Int.lt_trichotomy p.1.z q.1.z with h3|h3|h3
     · simp[h,h2,h3]
     · simp[h,h2,h3]
     · simp[h,h2,h3,Int.lt_asymm h3]
   · simp[h,h2,Int.lt_asymm h2,Int.ne_of_gt h2]
 · simp[h,Int.lt_asymm h,Int.ne_of_gt h]
def plV (q:Geo.V×Int):Vec 4:=⟨[q.1.x,q.1.y,q.1.z,q.2],rfl⟩
def unV (x:Vec 4):Geo.V×Int:=(⟨x.1.getD 0 0,x.1.getD 1 0,x.1.getD 2 0⟩,x.1.getD 3 0)
theorem aTl (q:Geo.V×Int):unV (plV q)=q:=rfl
theorem aAk (x:Vec 4):plV (unV x)=x:=by
 obtain⟨l,hl⟩:=x
 match l,hl with
 |[a,b,c,d],_=>rfl
theorem aBw (q:Geo.V×Int):encA (plV q)=plC q:=rfl
theorem vM:∀S:List (Geo.V×Int),(rowV (S.map plV)).map (AV.int .i64)=(S.map plC).flatten
 |[]=>rfl
 |q::S=>by
  have :=vM S;simp only[rowV,List.map_cons,List.flatMap_cons,List.map_append,List.flatten_cons] at this ⊢;rw[this];rfl
theorem bCo:Go.Sort.SWO (Go.Proofs.ltOf fun x y:Vec 4=>plCmp (unV x) (unV y)) where
 irrefl x:=by simp only[Go.Proofs.ltOf,lY,decide_eq_false_iff_not];exact VLt.irr _
 trans x y z h1 h2:=by
  simp only[Go.Proofs.ltOf,lY,decide_eq_true_eq] at *;exact VLt.trans h1 h2
 ntrans x y z h1 h2:=by
  simp only[Go.Proofs.ltOf,lY,decide_eq_false_iff_not] at *;unfold VLt at *;omega
def keysA (K:List (Geo.V×Int)):List (AV×AV):=K.map fun q=>(.agg (plC q),.bool true)
theorem aKo (p q:Geo.V×Int):eqFlat [.i,.i,.i,.i] (plC p) (plC q)=some (decide (p=q)):=by
 obtain⟨⟨a,b,c⟩,d⟩:=p;obtain⟨⟨a',b',c'⟩,d'⟩:=q;simp only[plC,eqFlat,if_true,Option.map_some,Prod.mk.injEq,V.mk.injEq,Bool.and_true];congr 1;rw[Bool.eq_iff_iff];simp[and_assoc]
theorem aLb {bs:List Nat} (h:bs.Nodup) {i j:Nat} (hi:i<bs.length) (hj:j<bs.length) (e:bs.getD i 0=bs.getD j 0):i=j:=by
 simp only[List.getD,List.getElem?_eq_getElem hi,List.getElem?_eq_getElem hj,Option.getD_some] at e;have hp:=List.pairwise_iff_getElem.1 h
 rcases Nat.lt_trichotomy i j with h1|h1|h1
 · exact absurd e (hp i j hi hj h1)
 · exact h1
 · exact absurd e.symm (hp j i hj hi h1)
theorem aHt (q:Geo.V×Int):∀(K:List (Geo.V×Int)) (n:Nat),(q∈K→∃i,findKeyA (.f [.i,.i,.i,.i]) (.agg (plC q)) (keysA K) n=some (some (i,.bool true)))∧(q∉K→findKeyA (.f [.i,.i,.i,.i]) (.agg (plC q)) (keysA K) n=some none)
 |[],n=>⟨fun h=>(nomatch h),fun _=>rfl⟩
 |x::K,n=>by
  obtain⟨h1,h2⟩:=aHt q K (n+1);simp only[keysA,List.map_cons,findKeyA,sameKey,aKo] at h1 h2 ⊢;by_cases e:q=x
  · subst e
    simp
  · simp only[e,decide_false,List.mem_cons,false_or]
    exact⟨h1,h2⟩
theorem pG (v:Geo.V):eqFlat [.i,.i,.i] (ivC v) [.int .i64 0,.int .i64 0,.int .i64 0]=some (decide (v=V0)):=by
 obtain⟨a,b,c⟩:=v;simp only[ivC,eqFlat,if_true,Option.map_some,V0,V.mk.injEq,Bool.and_true];congr 1;rw[Bool.eq_iff_iff];simp
theorem qE {l:List Geo.V} {q:Geo.V×Int}:outB l q=true↔(∀k,k<l.length→Geo.dot q.1 (l.getD k V0)≤q.2)∧∃k,k<l.length∧Geo.dot q.1 (l.getD k V0)<q.2:=by
 have hg:∀k (h:k<l.length),l.getD k V0=l[k]:=fun k h=>by simp[List.getD,h]
 simp only[outB,Bool.and_eq_true,List.all_eq_true,decide_eq_true_eq,Bool.not_eq_true',←Bool.not_eq_true,beq_iff_eq];constructor
 · rintro⟨h1,h2⟩
   refine⟨fun k hk=>by rw[hg k hk];exact h1 _ (List.getElem_mem hk),?_⟩;refine Classical.byContradiction fun hc=>h2 fun v hv=>?_;obtain⟨k,hk,rfl⟩:=List.getElem_of_mem hv;have a1:=h1 _ (List.getElem_mem hk);have a2:¬Geo.dot q.1 l[k]<q.2:=fun hh=>hc ⟨k,hk,by rw[hg k hk];exact hh⟩;omega
 · rintro⟨h1,k,hk,h2⟩
   refine⟨fun v hv=>?_,fun h=>?_⟩
   · obtain⟨k,hk,rfl⟩:=List.getElem_of_mem hv
     have :=h1 k hk
     rwa [hg k hk] at this
   · have :=h _ (List.getElem_mem hk)
     rw[hg k hk] at h2;omega
structure Found (l:List Geo.V) (i j k:Nat) (K:List (Geo.V×Int)) (H:Heap):Prop where
 nd:K.Nodup
 is:∀q∈K,IsF (fun i=>l.getD i V0) l.length q.1 q.2
 tr:Tried (fun i=>l.getD i V0) l.length i j k K
 mp:H.get 0=some (.map (keysA K))
 nx:1≤H.next
 fr:FreeUp H
theorem Found.heap {l:List Geo.V} {i j k:Nat} {K:List (Geo.V×Int)} {H H':Heap} (h:Found l i j k K H) (h0:H'.get 0=H.get 0) (hn:H.next≤H'.next) (hf:FreeUp H'):Found l i j k K H':=
 ⟨h.nd,h.is,h.tr,h0.trans h.mp,Nat.le_trans h.nx hn,hf⟩
theorem Found.to {l:List Geo.V} {i j k i' j' k':Nat} {K:List (Geo.V×Int)} {H:Heap} (h:Found l i j k K H) (ht:Tried (fun i=>l.getD i V0) l.length i' j' k' K):Found l i' j' k' K H:=⟨h.nd,h.is,ht,h.mp,h.nx,h.fr⟩
theorem aAe:FnOK Tryz.prog 156:=⟨_,Tryz.func156,by kernel_rfl,by kernel_rfl⟩
theorem aPy (d:List (Vec 4)) (hd:d.length<4611686018427387904):
 ∃d':List (Vec 4),d'.Perm d∧(d'.Pairwise fun a b=>¬plCmp (unV b) (unV a)<0)∧∀(H:Heap) (id:Nat) (opn:Bool),H.get id=some (.cells ((rowV d).map (AV.int .i64)) opn)→
  Sound Tryz.prog gv 156 [.sl id 4 0 d.length d.length,.func (.func 157) [] []] H (.ret (.tup [])) (H.set id (.cells ((rowV d').map (AV.int .i64)) opn)):=
 nO (fun _=>rfl) Tryz.aPx (by decide) Tryz.isAgg156 Tryz.sizeOf156 rfl aAe (aCw (V0,0) (V0,0) ⟨0,.nil⟩).1 bCo (fun x y=>by
  have :=aCw (unV x) (unV y) ⟨0,.nil⟩
  rwa [←aBw,←aBw,aAk,aAk] at this) d hd
theorem yD {tag:Nat} (ht:Nat.blt tag 2=true) {l:List Geo.V} {M:Nat} (hl:∀v∈l,Near M v) (hM:M≤2^18) (hlen:l.length≤64) {S:List (Geo.V×Int)} (hS:FList (fun i=>l.getD i V0) l.length S) (H:Heap):
 Sound Tryz.prog gv 109 [.aT tag 3 (ivE l)] H (.ret (rowO 4 (S.map plC))) H:=by
 refine bZ fit bW aTz (Nat.le_of_ble_eq_true rfl) (by simp only[sf,bG ht]) ?_ H;unfold W109;dsimp only
 have hget:∀k (h:k<l.length),l.getD k V0=l[k]:=fun k h=>by simp[List.getD,h]
 refine aA fun K hK=>?_;simp only[↓zP,zG,Nat.reduceLT];apply hK;clear hK K;refine aA fun K hK=>?_;simp only[↓zP,zG,Nat.reduceLT,zI];apply hK;clear hK K;refine aA fun K hK=>?_;refine aA fun K2 hK2=>?_;simp only[↓zP,zG,Nat.reduceLT,Nat.reduceEqDiff,zI];apply hK2;clear hK2 K2;refine bD [] (fun i _ H=>∃K,Found l i 0 0 K H) l.length (by omega) (by decide) ?_ ?_ ?_ ?_ ?_
 · simp only[aC]
 · simp only[aC,ne_eq,Nat.reduceEqDiff,not_false_eq_true,aJ]
 · refine⟨[],List.nodup_nil,fun q hq=>(nomatch hq),Tried.zero,?_,Nat.le_refl _,(FreeUp.nil 0).alloc _⟩
   rfl
 · rintro i f H hi hk e1 ⟨F,hF⟩
   refine aI ?_;refine aA fun K2 hK2=>?_;simp only[↓zP,zG,Nat.reduceLT,e1];apply hK2;clear hK2 K2;refine aA fun K2 hK2=>?_;simp only[↓zP,zG,Nat.reduceLT];apply hK2;clear hK2 K2;refine bD [] (fun j _ H=>∃K,Found l i j 0 K H) i (by omega) (by decide) ?_ ?_ ?_ ?_ ?_
   · simp only[aC]
   · simp only[aC,ne_eq,Nat.reduceEqDiff,not_false_eq_true]
   · exact⟨F,hF⟩
   · clear hF F
     rintro j f2 H2 hj hk2 e2 ⟨F,hF⟩;refine aI ?_;refine aA fun K2 hK2=>?_;simp only[↓zP,zG,Nat.reduceLT,e2];apply hK2;clear hK2 K2;refine aA fun K2 hK2=>?_;simp only[↓zP,zG,Nat.reduceLT];apply hK2;clear hK2 K2;refine bD [] (fun k _ H=>∃K,Found l i j k K H) j (by omega) (by decide) ?_ ?_ ?_ ?_ ?_
     · simp only[aC]
     · simp only[aC,ne_eq,Nat.reduceEqDiff,not_false_eq_true]
     · exact⟨F,hF⟩
     · clear hF F
       rintro k f3 H3 hkk hk3 e3 ⟨F,hF⟩
       have hjl:j<l.length:=by omega
       have hkl:k<l.length:=by omega
       have gi:=bC hi;have gj:=bC hjl;have gk:=bC hkl;have ni:=hl _ (List.getElem_mem hi);have nj:=hl _ (List.getElem_mem hjl);have nk:=hl _ (List.getElem_mem hkl)
       have hpl:throughP l[i] l[j] l[k]=plane3 (fun i=>l.getD i V0) i j k:=by
        simp only[throughP,plane3,vec,hget i hi,hget j hjl,hget k hkl]
       refine aI ?_;refine aA fun K2 hK2=>?_;simp only[↓zP,zG,Nat.reduceLT,e3];apply hK2;clear hK2 K2;refine aA fun K2 hK2=>?_;refine eY 1 (by decide) hF.fr.at1 fun H1 n1 e1'=>?_
       have hne:¬(0=H3.next):=by have :=hF.nx;omega
       simp only[↓zP,zG,Nat.reduceLT,Nat.reduceEqDiff,Nat.reduceAdd,zD,reduceCtorEq,zI,hk3 0 rfl,hk3 4 rfl,hk3 5 rfl,hk2 0 rfl,hk2 4 rfl,hk 0 rfl,aD,aJ,hi,hjl,hkl,gi,gj,gk,oL (aG l[i]),oL (aG l[j]),oL (aG l[k])];refine cE (aGw ni nj nk hM _) ?_;rw[hpl]
       have hq0:Near (2*((M+M)*(M+M))) (plane3 (fun i=>l.getD i V0) i j k).1:=by
        rw[←hpl];exact gP (dJ (cH nj ni) (cH nk ni))
       have hT2:(plane3 (fun i=>l.getD i V0) i j k).2.natAbs≤3*(2*((M+M)*(M+M))*M):=by
        rw[←hpl];exact fD (gP (dJ (cH nj ni) (cH nk ni))) ni
       have hcd:∀q∈cands (fun i=>l.getD i V0) i j k,outB l q=true→IsF (fun i=>l.getD i V0) l.length q.1 q.2:=fun q hq ho=>jW hi hjl hkl hq (qE.1 ho).1 (qE.1 ho).2;have hMM:(M+M)*(M+M)≤2^19*2^19:=Nat.mul_le_mul (by omega) (by omega);have hMM2:2*((M+M)*(M+M))*M≤2^39*2^18:=Nat.mul_le_mul (by omega) (by omega)
       have hB0:2*((M+M)*(M+M))≤2^39:=by omega
       have hcands:cands (fun i=>l.getD i V0) i j k=if(plane3 (fun i=>l.getD i V0) i j k).1=V0 then [] else [plane3 (fun i=>l.getD i V0) i j k,(Geo.neg (plane3 (fun i=>l.getD i V0) i j k).1,-(plane3 (fun i=>l.getD i V0) i j k).2)]:=rfl
       generalize plane3 (fun i=>l.getD i V0) i j k=T at *;generalize hBB:2*((M+M)*(M+M))=B at *;have p4:(plC T).length=4:=rfl;have p3:(plC T).take 3=ivC T.1:=rfl;have p1:(plC T).getD 3 undefA=.int .i64 T.2:=rfl;simp only[↓zP,zG,Nat.reduceLT,Nat.reduceEqDiff,Nat.reduceAdd,zD,zI,n1,oL p4];apply hK2;clear hK2 K2;generalize hX:(H1.set H3.next _).set H3.next _=H4
       have fr1:FreeUp H1:=fun j hj=>by rw[e1'];exact hF.fr j (by omega)
       have hF4:Found l i j k F H4:=hF.heap (by subst hX;rw[Heap.aB,if_neg hne,Heap.aB,if_neg hne,e1']) (by subst hX;simp only[Heap.aS];omega)
        (by subst hX;exact(fr1.set (by omega) _).set (by simp only[Heap.aS];omega) _)
       have g7:H4.get H3.next=some (.cells (plC T) false):=by subst hX;simp only[zI]
       have hrn:H3.next<H4.next:=by subst hX;simp only[Heap.aS];omega
       clear hX e1' n1 fr1;clear hF;generalize H3.next=r at *;refine aA fun K2 hK2=>?_;simp only[↓zP,zG,Nat.reduceLT,Nat.reduceEqDiff,zI,Nat.reduceLeDiff,g7,oL p4,p3,pG];refine⟨fun hz=>?_,fun hz=>?_⟩
       · refine⟨F,hF4.to (hF4.tr.step (fun q h=>h) fun q hq=>?_)⟩
         rw[hcands,if_pos hz] at hq;cases hq
       · apply hK2
         clear hK2 K2;rw[if_neg hz] at hcands;have wn:IntKind.i64.wrap (0 -T.2)= -T.2:=(cJ (B:=3*(B*M)) (by omega) (by omega)).trans (by omega);have hlit:[AV.int .i64 (Geo.neg T.1).x,.int .i64 (Geo.neg T.1).y,.int .i64 (Geo.neg T.1).z,.int .i64 (-T.2)]=plC (Geo.neg T.1,-T.2):=rfl;refine aA fun K2 hK2=>?_;refine aQ (by decide) ?_;simp only[↓zP,zG,Nat.reduceLT,Nat.reduceEqDiff,Nat.reduceAdd,zD,reduceCtorEq,zI,Nat.reduceLeDiff,g7,oL p4,p3];refine cE (aIy hq0 (by omega) _) ?_;simp only[↓zP,zG,Nat.reduceLT,Nat.reduceEqDiff,Nat.reduceAdd,zD,reduceCtorEq,zI,Nat.reduceLeDiff,g7,oL p4,p1,wn,ivC,hlit,show(plC (Geo.neg T.1,-T.2)).length=4 from rfl];apply hK2;clear hK2 K2
         have hq1:∀q∈cands (fun i=>l.getD i V0) i j k,Near B q.1:=fun q hq=>by
          rw[hcands] at hq;simp only[List.mem_cons,List.not_mem_nil,or_false] at hq
          rcases hq with rfl|rfl
          · exact hq0
          · exact qB hq0
         have hml:[plC T,plC (Geo.neg T.1,-T.2)]=(cands (fun i=>l.getD i V0) i j k).map plC:=by rw[hcands];rfl
         rw[hml]
         have hcl:(cands (fun i=>l.getD i V0) i j k).length=2:=by rw[hcands];rfl
         generalize hcs:cands (fun i=>l.getD i V0) i j k=cs at *;refine bD [] (fun s _ H=>∃K,Found l i j k K H∧∀q∈cs.take s,IsF (fun i=>l.getD i V0) l.length q.1 q.2→q∈K) 2 (by decide) (by decide) ?_ ?_ ?_ ?_ ?_
         · simp only[aC]
         · simp only[aC,ne_eq,Nat.reduceEqDiff,not_false_eq_true]
         · exact⟨F,hF4,fun q hq=>(by simp at hq)⟩
         · clear hF4 F g7 hrn H4
           rintro s f4 H4 hs hk4 e4 ⟨F,hF,hprev⟩
           have hsl:s<cs.length:=by omega
           have hcg:(cs.map plC).getD s []=plC cs[s]:=bU hsl;have hqm:=List.getElem_mem hsl;have hpl4:(plC cs[s]).length=4:=rfl;have hnx:=hF.nx
           have hne:¬(0=H4.next):=by omega
           have hout:=aFx ht hl (by omega) (hq1 _ hqm) (by omega)
           have hcur:∀q,q∈cs.take (s+1)→q∈cs.take s∨q=cs[s]:=fun q hq=>by
            rw[List.take_add_one,List.mem_append] at hq
            rcases hq with h|h
            · exact .inl h
            · simp[hsl] at h;exact .inr h
           have hcdq:=hcd _ hqm;generalize cs[s]=q at *;have hfind:=aHt q F 0;have hmp:=hF.mp;have hFa:∀H5:Heap,H5.get 0=H4.get 0→H5.next=H4.next+1→FreeUp H5→Found l i j k F H5:=fun H5 h1 h2 h3=>hF.heap h1 (by omega) h3;refine aI ?_;by_cases hin:q∈F
           · obtain⟨ix,hfi⟩:=hfind.1 hin
             simp only[↓zP,zG,Nat.reduceLT,Nat.reduceEqDiff,Nat.reduceAdd,zI,e4,hk4 51 rfl,hk4 3 rfl,hk3 3 rfl,hk2 3 rfl,hk 3 rfl,aD,List.length_map,hsl,hcg,oL hpl4,hne,keyOk,decide_true,hmp,hfi];refine⟨F,hFa _ ?_ ?_ ?_,fun x hx hx'=>?_⟩
             · rw[Heap.aB,if_neg hne,Heap.aH,if_neg hne]
             · simp only[Heap.aS,Heap.aX]
             · exact(hF.fr.alloc _).set (by simp) _
             · rcases hcur x hx with h|rfl
               · exact hprev x h hx'
               · exact hin
           · have hfi:=hfind.2 hin
             simp only[↓zP,zG,Nat.reduceLT,Nat.reduceEqDiff,Nat.reduceAdd,zI,e4,hk4 51 rfl,hk4 3 rfl,hk4 0 rfl,hk3 3 rfl,hk3 0 rfl,hk2 3 rfl,hk2 0 rfl,hk 3 rfl,hk 0 rfl,aD,List.length_map,hsl,hcg,oL hpl4,hne,keyOk,decide_true,hmp,hfi];refine bF (hout _) ?_
             cases hb:outB l q with
             |false=>
              simp only[↓zP,zG,Nat.reduceLT,Nat.reduceEqDiff,zI];refine⟨F,hFa _ ?_ ?_ ?_,fun x hx hx'=>?_⟩
              · rw[Heap.aB,if_neg hne,Heap.aH,if_neg hne]
              · simp only[Heap.aS,Heap.aX]
              · exact(hF.fr.alloc _).set (by simp) _
              · rcases hcur x hx with h|rfl
                · exact hprev x h hx'
                · rw[qE.2 ⟨hx'.le,hx'.lt⟩] at hb
                  cases hb
             |true=>
              simp only[↓zP,zG,Nat.reduceLT,Nat.reduceEqDiff,zI,hk4 3 rfl,hk3 3 rfl,hk2 3 rfl,hk 3 rfl,hne,oL hpl4,decide_true,hmp,hfi]
              have hks:keysA (F++[q])=keysA F++[(AV.agg (plC q),AV.bool true)]:=by simp[keysA]
              refine⟨F++[q],⟨?_,fun x hx=>?_,fun a b c h1 h2 h3 h4 x hx hx'=>List.mem_append_left _ (hF.tr a b c h1 h2 h3 h4 x hx hx'),?_,?_,?_⟩,fun x hx hx'=>?_⟩
              · rw[List.nodup_append]
                refine⟨hF.nd,by simp,fun a ha b hb'=>?_⟩;simp only[List.mem_cons,List.not_mem_nil,or_false] at hb';subst hb';rintro rfl;exact hin ha
              · rcases List.mem_append.1 hx with h|h
                · exact hF.is x h
                · simp only[List.mem_cons,List.not_mem_nil,or_false] at h
                  subst h;exact hcdq hb
              · rw[hks];simp only[zI]
              · simp only[Heap.aS,Heap.aX];omega
              · exact((hF.fr.alloc _).set (by simp) _).set (by simp only[Heap.aS,Heap.aX];omega) _
              · rcases hcur x hx with h|rfl
                · exact List.mem_append_left _ (hprev x h hx')
                · exact List.mem_append_right _ (by simp)
         · rintro f4 H4 hk4 ⟨F,hF,hprev⟩
           simp only[↓zP];refine⟨F,hF.to (hF.tr.step (fun q h=>h) fun q hq hF'=>hprev q ?_ hF')⟩;rw[List.take_of_length_le (by omega),←hcs];exact hq
     · rintro f3 H3 hk3 ⟨F,hF⟩
       simp only[↓zP];exact⟨F,hF.to hF.tr.down⟩
   · rintro f2 H2 hk2 ⟨F,hF⟩
     simp only[↓zP];exact⟨F,hF.to hF.tr.next⟩
 · rintro f H hk ⟨F,hF⟩
   simp only[↓zP];apply hK;clear hK K;have hFm:=hF.tr.all hF.is;have hnx:=hF.nx;have hmp:=hF.mp;refine aA fun K hK=>?_;simp only[↓zP,zG,Nat.reduceLT];apply hK;clear hK K;refine aA fun K hK=>?_;refine aA fun K2 hK2=>?_;simp only[↓zP,zG,Nat.reduceLT,Nat.reduceEqDiff,hk 3 rfl];refine rQ (by decide) (by simp only[↓zP]) hmp fun bs c mb hbl hbn=>?_;simp only[↓zP];apply hK2;clear hK2 K2
   have hlF:(keysA F).length=F.length:=by simp[keysA]
   rw[hlF] at hbl;generalize hit:H.next=it at *
   have hit0:¬(0=it):=by omega
   refine aI ?_
   refine dM [10] (fun m vs H'=>∃js:List Nat,js.Nodup∧(∀j∈js,j<F.length)∧m+js.length=F.length∧H'.get it=some (.iter 0 mb c (js.map fun j=>bs.getD j 0))∧H'.get 0=some (.mapf (keysA F) bs c mb)∧it<H'.next∧
    ((js=[]∧vs=[.nilsl])∨∃rid,js≠[]∧vs=[.sl rid 4 0 js.length js.length]∧H'.get rid=some (.cells (js.map fun j=>plC (F.getD j (V0,0))).flatten true)∧rid<H'.next∧¬(0=rid)∧¬(it=rid))) F.length (by rfl) ?_ ?_
   · refine⟨[],List.nodup_nil,fun j hj=>(nomatch hj),rfl,?_,?_,?_,.inl ⟨rfl,?_⟩⟩
     · simp only[zI,hit]
     · simp only[zI,hit]
       rw[if_neg (by omega)]
     · simp only[zI,hit]
       try omega
     · simp only[sm,aC,Nat.reduceEqDiff]
   · rintro m f2 H2 hk2 ⟨js,j1,j2,j3,gi,g0,hlt,hrow⟩
     have hmem:∀j,j<F.length→bs.getD j 0∈(js.map fun j=>bs.getD j 0)→j∈js:=fun j hj hm=>by
      obtain⟨x,x1,x2⟩:=List.mem_map.1 hm;have hx:=j2 x x1;rw[←aLb hbn (by omega) (by omega) x2];exact x1
     refine aA fun K2 hK2=>?_;simp only[↓zP,zG];refine tF (by decide) (by simp only[↓zP,hk2 73 rfl]) gi g0 (fun hall=>?_) fun j hj hnj=>?_
     · simp only[↓zP,zG,Nat.reduceLT]
       apply hK2;clear hK2 K2;simp only[↓zP,zG];apply hK;clear hK K
       have hp0:(js.map fun j=>F.getD j (V0,0)).Perm F:=by
        have h1:=(aFz j1 j2 fun j hj=>hmem j hj (hall _ (by
         simp only[List.getD,List.getElem?_eq_getElem (show j<bs.length by omega),Option.getD_some]
         exact List.getElem_mem _))).map fun j=>F.getD j (V0,0)
        rwa [uP] at h1
       have hfin:∀S1:List (Geo.V×Int),S1.Perm F→(S1.Pairwise fun a b=>¬VLt b.1 a.1)→S1=S:=fun S1 h1 h2=>(FList.aIh hF.nd hFm h1 h2).uniq hS
       have hFl:F.length≤2^20:=by
        have h1:=mL hF.nd hF.is;have h2:l.length*(l.length*(l.length*2))≤64*(64*(64*2)):=Nat.mul_le_mul hlen (Nat.mul_le_mul hlen (Nat.mul_le_mul hlen (Nat.le_refl _)));omega
       rcases hrow with ⟨rfl,hv⟩|⟨rid,hne,hv,gr,hr1,hr2,hr3⟩
       · simp only[sm,List.cons.injEq,and_true] at hv
         simp only[↓zP,zG,Nat.reduceLT,Nat.reduceEqDiff,hv];refine bF (dT Tryz.aPx rfl aAe 157 _) ?_;simp only[↓zP,zG,Nat.reduceEqDiff,hv];have hS0:[]=S:=hfin [] hp0 List.Pairwise.nil;refine⟨rfl,_,by simp only[↓zP,zR];rfl,?_⟩;rw[←hS0];exact⟨_,0,rfl,fun nw=>rfl⟩
       · simp only[sm,List.cons.injEq,and_true] at hv
         simp only[↓zP,zG,Nat.reduceLT,Nat.reduceEqDiff,hv];generalize hS0:(js.map fun j=>F.getD j (V0,0))=S0 at hp0
         have hjl:(S0.map plV).length=js.length:=by rw[←hS0];simp
         have hS0l:=hp0.length_eq;obtain⟨d',q1,q2,q3⟩:=aPy (S0.map plV) (by simp only[List.length_map];omega)
         have hgr:H2.get rid=some (.cells ((rowV (S0.map plV)).map (AV.int .i64)) true):=by
          rw[gr,vM,←hS0,List.map_map];rfl
         have hc:=q3 H2 rid true hgr;rw[hjl] at hc;refine bF (hc) ?_;simp only[↓zP,zG,Nat.reduceEqDiff,hv]
         have hd':d'=(d'.map unV).map plV:=by rw[List.map_map];exact(List.map_congr_left (g:=id) (fun x _=>aAk x)).trans (List.map_id d') |>.symm
         have hS1:d'.map unV=S:=hfin _ (by
          have h1:=q1.map unV;rw[List.map_map,show(unV∘plV)=id from funext aTl,List.map_id] at h1
          exact h1.trans hp0) (by
           rw[List.pairwise_map]
           exact q2.imp fun h h2=>h ((lY _ _).2 h2))
         rw[hd',hS1,vM];refine⟨rfl,_,by simp only[↓zP,zR];rfl,?_⟩
         have hSl:(S.map plC).length=js.length:=by rw[←hS1,List.length_map,List.length_map,q1.length_eq,hjl]
         have hSn:¬(S.map plC=[]):=fun h=>hne (List.eq_nil_of_length_eq_zero (by rw[←hSl,h];rfl));refine⟨_,0,rfl,fun nw=>?_⟩;rw[←hSl,rowO,if_neg hSn];refine aDq (by rw[Heap.aB,if_pos rfl]) (fun e he=>?_) (bR lX S) nw;obtain⟨q,_,rfl⟩:=List.mem_map.1 he;rfl
     · have hjF:j<F.length:=by omega
       have hkj:(keysA F).getD j (undefA,undefA)=(.agg (plC (F.getD j (V0,0))),.bool true):=by
        simp[keysA,List.getD,hjF]
       have hjs:j∉js:=fun h=>hnj (List.mem_map.2 ⟨j,h,rfl⟩)
       have hjl:(js++[j]).length=js.length+1:=by simp
       have hm1:js.length+1≤F.length:=by
        have :=hU (js++[j]) (List.range F.length) (List.nodup_append.2 ⟨j1,by simp,fun a ha b hb=>by
         simp only[List.mem_cons,List.not_mem_nil,or_false] at hb;rintro rfl
         exact hjs (hb▸ha)⟩) (fun x hx=>by
         rw[List.mem_range]
         rcases List.mem_append.1 hx with h|h
         · exact j2 x h
         · simp only[List.mem_cons,List.not_mem_nil,or_false] at h
           omega)
        rwa [List.length_range,hjl] at this
       rw[hkj];simp only[↓zP,zG,Nat.reduceLT,Nat.reduceAdd];apply hK2;clear hK2 K2
       have g2:(H2.set it (.iter 0 mb c ((js.map fun j=>bs.getD j 0)++[bs.getD j 0]))).get 0=some (.mapf (keysA F) bs c mb):=by rw[Heap.aB,if_neg (by omega),g0]
       have g1:(H2.set it (.iter 0 mb c ((js.map fun j=>bs.getD j 0)++[bs.getD j 0]))).get it=some (.iter 0 mb c ((js.map fun j=>bs.getD j 0)++[bs.getD j 0])):=by rw[Heap.aB,if_pos rfl]
       simp only[↓zP,zG];refine aI ?_;refine aA fun K2 hK2=>?_;simp only[↓zP];refine aBf (by decide) (by simp only[↓zP,zG,Nat.reduceEqDiff,hk2 73 rfl]) g1 g2 hj ?_;rw[hkj];have p4:(plC (F.getD j (V0,0))).length=4:=rfl;generalize hq:F.getD j (V0,0)=q at *;simp only[↓zP,zG,Nat.reduceLT,Nat.reduceEqDiff,Nat.reduceAdd,zI,oL p4];apply hK2;clear hK2 K2;generalize hH4:((H2.set it _).alloc _).set _ _=H4
       have k1:H4.get H2.next=some (.cells (plC q) false):=by rw[←hH4,Heap.aB,if_pos rfl]
       have k2:H4.get it=some (.iter 0 mb c ((js++[j]).map fun j=>bs.getD j 0)):=by
        rw[←hH4,Heap.aB,if_neg (by omega),Heap.aH,Heap.aS,if_neg (by omega),g1,List.map_append];rfl
       have k3:H4.get 0=some (.mapf (keysA F) bs c mb):=by
        rw[←hH4,Heap.aB,if_neg (by omega),Heap.aH,Heap.aS,if_neg (by omega),g2]
       have k4:H4.next=H2.next+1:=by rw[←hH4];simp only[Heap.aS,Heap.aX]
       have k5:∀r,¬(r=it)→r<H2.next→H4.get r=H2.get r:=fun r h1 h2=>by
        rw[←hH4,Heap.aB,if_neg (by omega),Heap.aH,Heap.aS,if_neg (by omega),Heap.aB,if_neg (by omega)]
       clear hH4 g1 g2
       have hjn:(js++[j]).Nodup:=List.nodup_append.2 ⟨j1,by simp,fun a ha b hb=>by
        simp only[List.mem_cons,List.not_mem_nil,or_false] at hb;rintro rfl
        exact hjs (hb▸ha)⟩
       have hjb:∀x∈js++[j],x<F.length:=fun x hx=>by
        rcases List.mem_append.1 hx with h|h
        · exact j2 x h
        · simp only[List.mem_cons,List.not_mem_nil,or_false] at h
          omega
       have hje:¬(js++[j]=[]):=by simp
       have hFl:F.length≤2^20:=by
        have h1:=mL hF.nd hF.is;have h2:l.length*(l.length*(l.length*2))≤64*(64*(64*2)):=Nat.mul_le_mul hlen (Nat.mul_le_mul hlen (Nat.mul_le_mul hlen (Nat.le_refl _)));omega
       rcases hrow with ⟨rfl,hv⟩|⟨rid,hne,hv,gr,hr1,hr2,hr3⟩
       · simp only[sm,List.cons.injEq,and_true] at hv
         have ha:=lC (H:=H4) (sz:=4) (bytes:=32) (ys:=[plC q]) rfl (by simp only[List.length_cons,List.length_nil];omega);simp only[↓zP,zG,Nat.reduceLT,Nat.reduceEqDiff,zI,hv,k1,oL p4];rw[show elemsOf H4 4 (.aT 1 4 [plC q])=some [plC q] from rfl];simp only[ha,aZ];refine⟨m -1,?_,[]++[j],hjn,hjb,?_,?_,?_,?_,.inr ⟨H4.next,hje,rfl,?_,?_,?_,?_⟩⟩
         · simp only[List.length_nil] at *;omega
         · simp only[List.length_nil] at *;omega
         · rw[Heap.aH,if_neg (by omega),k2]
         · rw[Heap.aH,if_neg (by omega),k3]
         · simp only[Heap.aX];omega
         · rw[Heap.aH,if_pos rfl]
           simp only[List.map_cons,List.map_nil,List.nil_append,hq]
         · simp only[Heap.aX];omega
         · omega
         · omega
       · simp only[sm,List.cons.injEq,and_true] at hv
         have gr4:=(k5 rid (fun h=>hr3 h.symm) hr1).trans gr
         have hl4:((js.map fun j=>plC (F.getD j (V0,0))).flatten).length=js.length*4:=by
          rw[eV (sz:=4) (fun e he=>?_),List.length_map];obtain⟨x,_,rfl⟩:=List.mem_map.1 he;rfl
         have ha:=lD (H:=H4) (sz:=4) (bytes:=32) (ys:=[plC q]) gr4 hl4 rfl (by simp only[List.length_cons,List.length_nil];omega) (by decide);simp only[↓zP,zG,Nat.reduceLT,Nat.reduceEqDiff,zI,hv,k1,oL p4];rw[show elemsOf H4 4 (.aT 1 4 [plC q])=some [plC q] from rfl];simp only[ha,aZ];refine⟨m -1,?_,js++[j],hjn,hjb,?_,?_,?_,?_,.inr ⟨H4.next,hje,?_,?_,?_,?_,?_⟩⟩
         · omega
         · omega
         · rw[Heap.aH,Heap.aS,if_neg (by omega),Heap.aB,if_neg (by omega),k2]
         · rw[Heap.aH,Heap.aS,if_neg (by omega),Heap.aB,if_neg (by omega),k3]
         · simp only[Heap.aX,Heap.aS];omega
         · rw[hjl];rfl
         · rw[Heap.aH,Heap.aS,if_pos rfl]
           simp only[List.map_append,List.map_cons,List.map_nil,List.flatten_append,hq]
         · simp only[Heap.aX,Heap.aS];omega
         · omega
         · omega
theorem aOa (b:Bool) (A B:Prop):guardK undefA b A B=B:=bS id id
theorem aBl (x:Int):cmpZ x 0=sgn x:=by unfold cmpZ sgn;split<;>(try split)<;>omega
theorem tB (x:Int):(sgn x).natAbs≤1:=by unfold sgn;split<;>(try split)<;>decide
theorem aIw (n c:Geo.V) {i:Nat} (hi:i<3) (h0:∀k,k<i→n.at k=0) (h:n.at i≠0):Geo.turn n c=sgn (c.at i)*sgn (n.at i):=by
 unfold Geo.turn
 match i,hi with
 |0,_=>rw[if_pos (show n.x≠0 from h)];rfl
 |1,_=>rw[if_neg (show ¬n.x≠0 from fun e=>e (h0 0 (by decide))),if_pos (show n.y≠0 from h)];rfl
 |2,_=>rw[if_neg (show ¬n.x≠0 from fun e=>e (h0 0 (by decide))),if_neg (show ¬n.y≠0 from fun e=>e (h0 1 (by decide))),if_pos (show n.z≠0 from h)];rfl
theorem yN (n c:Geo.V) (h0:∀k,k<3→n.at k=0):Geo.turn n c=0:=by
 unfold Geo.turn;rw[if_neg (show ¬n.x≠0 from fun e=>e (h0 0 (by decide))),if_neg (show ¬n.y≠0 from fun e=>e (h0 1 (by decide))),if_neg (show ¬n.z≠0 from fun e=>e (h0 2 (by decide)))]
theorem aTk {a b:Geo.V} {A B:Nat} (n:Geo.V) (ha:Near A a) (hb:Near B b) (hs:A*B<2^61) (H:Heap):
 Sound Tryz.prog gv 160 [.agg (ivC n),.agg (ivC a),.agg (ivC b)] H (.ret (.int .i64 (Geo.turn n (Geo.cross a b)))) H:=by
 refine Sp aZg (by simp only[sf,bA]) (by simp only[sf]) ?_ H;unfold W160;dsimp only;refine aA fun K hK=>?_;simp only[↓zP,zG,Nat.reduceLT,Nat.reduceEqDiff,Nat.reduceAdd,zI];apply hK;clear hK K;refine aA fun K hK=>?_;simp only[↓zP,zG,Nat.reduceLT,Nat.reduceEqDiff,Nat.reduceAdd,zI,oL (aG a),oL (aG b)];refine bF (xS ha hb hs _) ?_;generalize hc:Geo.cross a b=c;simp only[↓zP,zG,Nat.reduceLT,Nat.reduceEqDiff,Nat.reduceAdd,zI,oL (aG c)];apply hK;clear hK K;refine aA fun K hK=>?_;refine aA fun K2 hK2=>?_;simp only[↓zP,zG,Nat.reduceLT,Nat.reduceEqDiff,Nat.reduceAdd,zI,oL (aG n)];apply hK2;clear hK2 K2;refine dH [] (fun i _ H=>(∀k,k<i→n.at k=0)∧H.get 3=some (.cells (ivC c) false)) 3 (by decide) rfl (by decide) ?_ ?_ ?_ ?_
 · simp only[aC]
 · refine⟨fun k hk=>absurd hk (Nat.not_lt_zero _),?_⟩
   simp only[zI,Nat.reduceAdd,Nat.reduceEqDiff]
 · rintro i f H hi hk e1 ⟨h0,g3⟩
   refine aI ?_
   have hi2:i≤2:=by omega
   have hi3:i+1≤3:=hi;by_cases hz:n.at i=0
   · have hb:(n.at i != 0)=false:=by simp[hz]
     simp only[↓zP,zG,Nat.reduceLT,Nat.reduceEqDiff,zI,e1,hk 13 rfl,aD,dB n hi,aG,g3,hi,hi3,hb];refine⟨fun k hk=>?_,trivial⟩;by_cases hki:k=i
     · subst hki;exact hz
     · exact h0 k (by omega)
   · have hb:(n.at i != 0)=true:=by simp[hz]
     simp only[↓zP,zG,Nat.reduceLT,Nat.reduceEqDiff,zI,e1,hk 13 rfl,hk 7 rfl,aD,dB n hi,aG,g3,hi,hi3,dB c hi,hb];refine bF (cX (c.at i) 0 _) ?_;simp only[↓zP,zG,Nat.reduceLT,Nat.reduceEqDiff];refine bF (cX (n.at i) 0 _) ?_;rw[aBl,aBl]
     have w:IntKind.i64.wrap (sgn (c.at i)*sgn (n.at i))=sgn (c.at i)*sgn (n.at i):=cJ (B:=1*1) (by
      rw[Int.natAbs_mul];exact Nat.mul_le_mul (tB _) (tB _)) (by decide)
     simp only[↓zP,zG,Nat.reduceLT,Nat.reduceEqDiff,w];refine⟨rfl,_,by simp only[↓zP,zR];rfl,?_⟩;rw[hc,aIw n c hi h0 hz];rfl
 · rintro f H hk ⟨h0,g3⟩
   simp only[↓zP];apply hK;simp only[↓zP,zG,Nat.reduceLT];refine⟨rfl,_,by simp only[↓zP,zR];rfl,?_⟩;rw[hc,yN n c h0];rfl
def onE (on:List Nat):List (List AV):=on.map fun(k:Nat)=>[AV.int .i64 (k:Int)]
theorem bP (on:List Nat):(onE on).length=on.length:=by simp[onE]
theorem iB {on:List Nat} {i:Nat} (h:i<on.length):(onE on).getD i []=[AV.int .i64 (on[i]:Int)]:=bU h
def bI:Option Nat→Int
 |none=> -1
 |some k=>k
structure More (H H':Heap):Prop where
 free:FreeUp H'
 le:H.next≤H'.next
 same:∀j,j<H.next→H'.get j=H.get j
theorem xN {n:Geo.V} {p:Nat→Geo.V} {a:Nat} {on:List Nat}:∀(l:List Nat) (best:Option Nat) {b:Nat},l.foldl (nextStep n p a) best=some b→(∀k∈l,k∈on)→(∀c,best=some c→c∈on)→b∈on
 |[],best,b,h,_,hb=>hb b h
 |k::l,best,b,h,hl,hb=>by
  refine xN l _ h (fun x hx=>hl x (List.mem_cons_of_mem _ hx)) fun c hc=>?_;have hk:=hl k List.mem_cons_self;unfold nextStep at hc;split at hc
  · exact hb c hc
  · split at hc
    · cases hc;exact hk
    · split at hc
      · cases hc;exact hk
      · cases hc;exact hb _ rfl
theorem aOo {n:Geo.V} {p:Nat→Geo.V} {a:Nat} {on l:List Nat} {b:Nat} (h:l.foldl (nextStep n p a) none=some b) (hl:∀k∈l,k∈on):b∈on:=
 xN l none h hl fun c hc=>by cases hc
theorem aIe {tag t1:Nat} {o1 o2 o3:Bool} {l:List Geo.V} {M:Nat} (hl:∀v∈l,Near M v) (hM:M≤2^18) (hlen:l.length≤64) {on:List Nat} (hon:∀k∈on,k<l.length) (hol:on.length≤64) {a:Nat} (ha:a<l.length) (q:Geo.V×Int)
 {H:Heap} (hf:FreeUp H) {i1 i2 i3:Nat} (b1:i1<H.next) (b2:i2<H.next) (b3:i3<H.next) (g1:H.get i1=some (.cells [.aT t1 1 (onE on)] o1)) (g2:H.get i2=some (.cells [.aT tag 3 (ivE l)] o2)) (g3:H.get i3=some (.cells (plC q) o3)):
 ∃H',More H H'∧Sound Tryz.prog gv 159 [.int .i64 a,.ref i1 0,.ref i2 0,.ref i3 0] H (.ret (.int .i64 (bI (nextP q.1 (fun i=>l.getD i V0) on a)))) H':=by
 suffices h:∃out H',(out=.ret (.int .i64 (bI (nextP q.1 (fun i=>l.getD i V0) on a)))∧More H H')∧Sound Tryz.prog gv 159 [.int .i64 a,.ref i1 0,.ref i2 0,.ref i3 0] H out H' by
  obtain⟨_,H',⟨rfl,hm⟩,hS⟩:=h;exact⟨H',hm,hS⟩
 refine cV fit aZf (Nat.le_of_ble_eq_true rfl) ?_;unfold W159;dsimp only
 have hget:∀k (h:k<l.length),l.getD k V0=l[k]:=fun k h=>by simp[List.getD,h]
 refine aA fun K hK=>?_;simp only[↓zP,zG,Nat.reduceLT];apply hK;clear hK K;refine aA fun K hK=>?_;simp only[↓zP,zG,Nat.reduceLT];apply hK;clear hK K;refine aA fun K hK=>?_;refine aA fun K2 hK2=>?_;simp only[↓zP,zG,Nat.reduceLT,Nat.reduceEqDiff,zI,g1];apply hK2;clear hK2 K2;refine bD [6] (fun i vs H'=>vs=[.int .i64 (bI ((on.take i).foldl (nextStep q.1 (fun i=>l.getD i V0) a) none))]∧More H H') on.length (by omega) (by decide) ?_ ?_ ?_ ?_ ?_
 · simp only[aC]
 · simp only[aC,ne_eq,Nat.reduceEqDiff,not_false_eq_true,bP]
 · exact⟨by simp only[sm,aC,Nat.reduceEqDiff];rfl,hf,Nat.le_refl _,fun j hj=>rfl⟩
 · rintro i f H1 hi hk e1 ⟨hv,hm⟩
   simp only[sm,List.cons.injEq,and_true] at hv
   have hstep:(on.take (i+1)).foldl (nextStep q.1 (fun i=>l.getD i V0) a) none=nextStep q.1 (fun i=>l.getD i V0) a ((on.take i).foldl (nextStep q.1 (fun i=>l.getD i V0) a) none) on[i]:=by
    rw[List.take_add_one,List.foldl_append];simp[hi]
   have hbest:∀b,(on.take i).foldl (nextStep q.1 (fun i=>l.getD i V0) a) none=some b→b<l.length:=fun b hb=>hon b (aOo hb (fun k hk=>List.mem_of_mem_take hk));have hg:=iB hi;have hkl:=hon _ (List.getElem_mem hi);generalize on[i]=k at *;generalize (on.take i).foldl (nextStep q.1 (fun i=>l.getD i V0) a) none=best at *;refine aI ?_;refine aA fun K2 hK2=>?_;simp only[↓zP,zG,Nat.reduceLT,Nat.reduceEqDiff,zI,e1,hk 12 rfl,aD,bP,hi,hg];apply hK2;clear hK2 K2;refine aA fun K2 hK2=>?_;simp only[↓zP,zG,Nat.reduceLT,Nat.reduceEqDiff,zI,hk 0 rfl];rw[hstep];by_cases hka:k=a
   · have hb:((k:Int)==(a:Int))=true:=by simp[hka]
     have hn:nextStep q.1 (fun i=>l.getD i V0) a best k=best:=if_pos hka;simp only[zG,hb,hn,hv];exact⟨trivial,hm⟩
   · have hb:((k:Int)==(a:Int))=false:=by simp;omega
     simp only[zG,hb];apply hK2;clear hK2 K2;refine aA fun K2 hK2=>?_
     cases best with
     |none=>
      have hn:nextStep q.1 (fun i=>l.getD i V0) a none k=some k:=if_neg hka;have hd:decide (bI none<0)=true:=rfl;simp only[↓zP,zG,Nat.reduceLT,Nat.reduceEqDiff,hv,hd];rw[hstep,hn];exact⟨by simp only[sm,aC];rfl,hm⟩
     |some b=>
      have hn:nextStep q.1 (fun i=>l.getD i V0) a (some b) k=if better q.1 (fun i=>l.getD i V0) a b k then some k else some b:=if_neg hka
      have hd:decide (bI (some b)<0)=false:=decide_eq_false (show ¬((b:Int)<0) by omega);have hbl:=hbest b rfl;have hbv:bI (some b)=(b:Int):=rfl;simp only[↓zP,zG,Nat.reduceLT,Nat.reduceEqDiff,hv,hd];apply hK2;clear hK2 K2;have gk:=bC hkl;have gb:=bC hbl;have ga:=bC ha;refine aA fun K2 hK2=>?_;refine eY 2 (by decide) hm.free.at2 fun H2 n2 e2=>?_;have h2:=(e2 i2).trans ((hm.same _ b2).trans g2);have h3:=(e2 i3).trans ((hm.same _ b3).trans g3);simp only[↓zP,zG,Nat.reduceLT,Nat.reduceEqDiff,Nat.reduceAdd,zD,reduceCtorEq,zI,hk 2 rfl,hk 0 rfl,hbv,h2,aD,aJ,hkl,ha,gk,ga,oL (aG l[k]),oL (aG l[a])];have nk:=hl _ (List.getElem_mem hkl);have nb:=hl _ (List.getElem_mem hbl);have na:=hl _ (List.getElem_mem ha)
      have vk:Geo.sub l[k] l[a]=vec (fun i=>l.getD i V0) a k:=by simp only[vec,hget k hkl,hget a ha]
      have vb:Geo.sub l[b] l[a]=vec (fun i=>l.getD i V0) a b:=by simp only[vec,hget b hbl,hget a ha]
      have nvk:=cH nk na;have nvb:=cH nb na;rw[vk] at nvk;rw[vb] at nvb;refine cE (qQ nk na (by omega) _) ?_;rw[vk];simp only[↓zP,zG,Nat.reduceLT,Nat.reduceEqDiff,Nat.reduceAdd,zD,reduceCtorEq,zI,hk 2 rfl,hk 0 rfl,hv,hbv,h2,aD,aJ,ha,hbl,gb,ga,oL (aG l[a]),oL (aG l[b])];refine cE (qQ nb na (by omega) _) ?_;rw[vb];have hbt:better q.1 (fun i=>l.getD i V0) a b k=(decide (Geo.turn q.1 (Geo.cross (vec (fun i=>l.getD i V0) a b) (vec (fun i=>l.getD i V0) a k))<0)||(decide (Geo.turn q.1 (Geo.cross (vec (fun i=>l.getD i V0) a b) (vec (fun i=>l.getD i V0) a k))=0)&&decide (Geo.dot (vec (fun i=>l.getD i V0) a k) (vec (fun i=>l.getD i V0) a k)>Geo.dot (vec (fun i=>l.getD i V0) a b) (vec (fun i=>l.getD i V0) a b)))):=rfl;generalize vec (fun i=>l.getD i V0) a k=to at *;generalize vec (fun i=>l.getD i V0) a b=wy at *
      have hx1:¬(H1.next=H1.next+1):=by omega
      have hx2:¬(H1.next+1=H1.next):=by omega
      simp only[↓zP,zG,Nat.reduceLT,Nat.reduceEqDiff,Nat.reduceAdd,zD,reduceCtorEq,zI,oL (aG to),oL (aG wy),hx1,hx2,n2];apply hK2;clear hK2 K2;generalize hX:(((H2.set H1.next _).set (H1.next+1) _).set H1.next _).set (H1.next+1) _=H3
      have u1:H3.get H1.next=some (.cells (ivC to) false):=by subst hX;simp only[zI,hx1]
      have u2:H3.get (H1.next+1)=some (.cells (ivC wy) false):=by subst hX;simp only[zI,hx2]
      have hm3:More H H3:=by
       have hnx:H3.next=H1.next+2:=by subst hX;simp only[Heap.aS,n2]
       refine⟨fun j hj=>?_,by have :=hm.le;omega,fun j hj=>?_⟩
       · have :=hm.free j (by omega)
         subst hX;rw[Heap.aB,if_neg (by omega),Heap.aB,if_neg (by omega),Heap.aB,if_neg (by omega),Heap.aB,if_neg (by omega),e2];exact this
       · have hle:=hm.le
         have :=hm.same j hj;subst hX;rw[Heap.aB,if_neg (by omega),Heap.aB,if_neg (by omega),Heap.aB,if_neg (by omega),Heap.aB,if_neg (by omega),e2];exact this
      have u3:=(hm3.same _ b3).trans g3;generalize H1.next=r at *;clear hX h2 h3 e2 n2;have pl3:(plC q).take 3=ivC q.1:=rfl;have pl4:(plC q).length=4:=rfl;have hB:(M+M)*(M+M)≤2^19*2^19:=Nat.mul_le_mul (by omega) (by omega);refine aA fun K2 hK2=>?_;simp only[↓zP,zG,Nat.reduceLT,Nat.reduceEqDiff,zI,Nat.reduceLeDiff,hk 3 rfl,u1,u2,u3,pl3,pl4,oL (aG to),oL (aG wy)];refine bF (aTk q.1 nvb nvk (by omega) _) ?_;generalize Geo.turn q.1 (Geo.cross wy to)=tn at *;simp only[↓zP,zG,Nat.reduceLT];apply hK2;clear hK2 K2;refine aA fun K2 hK2=>?_;refine aQ (by decide) ?_;by_cases c1:tn<0
      · have d1:=decide_eq_true c1
        simp only[↓zP,zG,Nat.reduceLT,Nat.reduceEqDiff,Nat.reduceAdd,zD,reduceCtorEq,zI,d1,aOa];apply hK2;clear hK2 K2;simp only[↓zP,zG,Nat.reduceLT,Nat.reduceEqDiff,zI];rw[hstep,hn,if_pos (by rw[hbt,d1];rfl)];exact⟨rfl,hm3⟩
      · have d1:=decide_eq_false c1
        by_cases c2:tn=0
        · have d2:(tn==0)=true:=beq_iff_eq.2 c2
          simp only[↓zP,zG,Nat.reduceLT,Nat.reduceEqDiff,Nat.reduceAdd,zD,reduceCtorEq,zI,d1,d2,u1,oL (aG to)];refine cE (pQ nvk nvk (by omega) _) ?_;simp only[↓zP,zG,Nat.reduceLT,Nat.reduceEqDiff,Nat.reduceAdd,zD,zI,u2,oL (aG wy)];refine cE (pQ nvb nvb (by omega) _) ?_;simp only[↓zP,zG,Nat.reduceLT,Nat.reduceEqDiff,Nat.reduceAdd,zD,reduceCtorEq,zI];apply hK2;clear hK2 K2;have d3:decide (tn=0)=true:=decide_eq_true c2;by_cases c3:Geo.dot wy wy<Geo.dot to to
          · have d4:decide (Geo.dot to to>Geo.dot wy wy)=true:=decide_eq_true c3
            simp only[↓zP,zG,Nat.reduceLT,Nat.reduceEqDiff,zI,d4];rw[hstep,hn,if_pos (by rw[hbt,d1,d3,d4];rfl)];exact⟨rfl,hm3⟩
          · have d4:decide (Geo.dot to to>Geo.dot wy wy)=false:=decide_eq_false c3
            simp only[↓zP,zG,Nat.reduceEqDiff,zI,d4,hv];rw[hstep,hn,if_neg (by rw[hbt,d1,d3,d4];decide)];exact⟨rfl,hm3⟩
        · have d2:(tn==0)=false:=beq_eq_false_iff_ne.2 c2
          have d3:decide (tn=0)=false:=decide_eq_false c2;simp only[↓zP,zG,Nat.reduceLT,Nat.reduceEqDiff,Nat.reduceAdd,zD,reduceCtorEq,zI,d1,d2];apply hK2;clear hK2 K2;simp only[↓zP,zG,Nat.reduceEqDiff,zI,hv];rw[hstep,hn,if_neg (by rw[hbt,d1,d3];simp)];exact⟨rfl,hm3⟩
 · rintro f H1 hk ⟨hv,hm⟩
   simp only[sm,List.cons.injEq,and_true] at hv;rw[List.take_length] at hv;simp only[↓zP];apply hK;simp only[↓zP,zG,Nat.reduceLT,hv];refine⟨rfl,_,by simp only[↓zP,zR];rfl,?_⟩;exact⟨rfl,hm⟩
end Go.Proofs.YtjiignefffdelaaGreatDoor
