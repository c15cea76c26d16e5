/-
  Parts of the proof of statement 4: KRl, KRm
-/
import Derived.Test.YtjiignefffdelaaGreatDoorA40
import Derived.Test.YtjiignefffdelaaGreatDoorA32
import Derived.Test.YtjiignefffdelaaGreatDoorA26
import Derived.Test.YtjiignefffdelaaGreatDoorA23
set_option linter.unusedVariables false
set_option maxRecDepth 100000
set_option maxHeartbeats 16000000
namespace Go.Proofs.YtjiignefffdelaaGreatDoor
open Go Go.Av Go.Geo Go.Num
attribute [local congr] aU aN aO aM aW aR aP aL
attribute [local irreducible] FC FOps FD2
theorem aJr {α:Type} (f:α→Bool) (z:α):∀l:List α,l.all f=(List.range l.length).all fun k=>f (l.getD k z):=fun l=>by
 rw[Bool.eq_iff_iff,List.all_eq_true,List.all_eq_true];constructor
 · intro h k hk
   have hk:=List.mem_range.1 hk
   have :l.getD k z=l[k]:=by simp[List.getD,hk]
   rw[this];exact h _ (List.getElem_mem hk)
 · intro h x hx
   obtain⟨k,hk,rfl⟩:=List.getElem_of_mem hx;have :=h k (List.mem_range.2 hk)
   rwa [show l.getD k z=l[k] by simp[List.getD,hk]] at this
theorem aTf {l:List Geo.V} {n:Geo.V} {d:Int} (a b:Nat):sideV l n d (l.getD a V0) (l.getD b V0)=sideR n (fun i=>l.getD i V0) (onL (fun i=>l.getD i V0) l.length n d) a b:=by
 unfold sideV sideR onL;rw[List.all_filter,aJr _ V0];rfl
theorem aFh {on:List Nat} (hs:on.Pairwise (· < ·)) {p:Nat→Bool} {b:Nat} (h:on.find? p=some b):b∈on∧p b=true∧∀k∈on,k<b→p k=false:=by
 obtain⟨h1,xs,bs,rfl,h2⟩:=List.find?_eq_some_iff_append.1 h;refine⟨by simp,h1,fun k hk hkb=>?_⟩
 rcases List.mem_append.1 hk with hk|hk
 · simpa using h2 k hk
 · rcases List.mem_cons.1 hk with rfl|hk
   · omega
   · rw[List.pairwise_append] at hs
     have :=(List.pairwise_cons.1 hs.2.1).1 k hk;omega
theorem aMa {l:List Geo.V} {M B:Nat} (hl:∀v∈l,Near M v) (hM:M≤2^18) (hlen:l.length≤64) {n:Geo.V} {d:Int} (hq:Near B n) (hs:3*(B*M)<2^62)
 {L:List Nat} (hP:Poly (fun i=>l.getD i V0) l.length n d L) (H:Heap):
 Sound Tryz.prog gv 167 [.aT 0 3 (ivE l),.agg (ivC n),.int .i64 d] H (.ret (.aT 0 1 (onE L))) H:=by
 have ht0:Nat.blt 0 2=true:=rfl;refine bZ fit bW aZn (Nat.le_of_ble_eq_true rfl) (by simp only[sf,bG ht0,bA]) ?_ H;have hPn:=fun k (hk:k∈L)=>hP.nextR hk;obtain⟨s0,r,m,hon,W,hL⟩:=hP.ex
 have hmem:∀i,i<m→iter (nxt n (fun i=>l.getD i V0) (onL (fun i=>l.getD i V0) l.length n d)) i s0∈L:=fun i hi=>by
  rw[hL];exact List.mem_map.2 ⟨i,List.mem_range.2 hi,rfl⟩
 have hsorted:=uU (fun i=>l.getD i V0) l.length n d
 have hm64:m≤l.length:=by
  have h1:=W.le;have h2:=List.length_filter_le (fun k=>decide (Geo.dot n (l.getD k V0)=d)) (List.range l.length);rw[List.length_range] at h2;exact Nat.le_trans h1 h2
 unfold W167;dsimp only
 have hget:∀k (h:k<l.length),l.getD k V0=l[k]:=fun k h=>by simp[List.getD,h]
 have hs0:s0<l.length∧Geo.dot n (l.getD s0 V0)=d:=bO.1 (show s0∈onL (fun i=>l.getD i V0) l.length n d by rw[hon];simp)
 have hbefore:∀k,k<s0→k<l.length→Geo.dot n (l.getD k V0)≠d:=fun k h1 h2 h3=>by
  have :k∈onL (fun i=>l.getD i V0) l.length n d:=bO.2 ⟨h2,h3⟩;rw[hon] at this hsorted
  rcases List.mem_cons.1 this with h|h
  · omega
  · have :=(List.pairwise_cons.1 hsorted).1 k h
    omega
 refine aA fun K hK=>?_;simp only[↓zP,zG,Nat.reduceLT,zI];apply hK;clear hK K;refine aA fun K hK=>?_;simp only[↓zP,zG,Nat.reduceLT];apply hK;clear hK K;refine aA fun K hK=>?_;simp only[↓zP,zG,Nat.reduceLT];apply hK;clear hK K;refine aA fun K hK=>?_;simp only[↓zP,zG,Nat.reduceLT];refine bB [8] (fun i vs H'=>H'=((⟨0,.nil⟩:Heap).alloc (.cells (ivC n) false))∧vs=[.int .i64 (if i≤s0 then -1 else(s0:Int))]) 0 (s0+1) (Nat.zero_le _) (by omega) (by decide) ?_ ?_ ?_ ?_ ?_
 · simp only[aC];rfl
 · exact⟨rfl,by simp only[sm,aC,Nat.reduceEqDiff];rw[if_pos (Nat.zero_le _)]⟩
 · rintro i f H1 h0 hi hk e1 ⟨rfl,hv⟩
   simp only[sm,List.cons.injEq,and_true] at hv
   have f0:f 0=.aT 0 3 (ivE l):=by rw[hk 0 rfl];simp only[aC,ne_eq,Nat.reduceEqDiff,not_false_eq_true,startF,List.getD_cons_zero]
   have d1:decide ((i:Int)<(l.length:Int))=decide (i<l.length):=by rw[decide_eq_decide];omega
   by_cases h1:i≤s0
   · rw[if_pos h1] at hv
     have d1':decide ((i:Int)<(l.length:Int))=true:=decide_eq_true (by omega);have d2:decide ((-1:Int)<0)=true:=rfl;simp only[↓zP,zG,Nat.reduceLT,Nat.reduceEqDiff,zI,Int.reduceLT,e1,f0,aJ,d1',hv];exact⟨trivial,trivial,congrArg AV.bool (decide_eq_true (by omega)).symm⟩
   · rw[if_neg h1] at hv
     have d2:decide ((s0:Int)<0)=false:=decide_eq_false (by omega);by_cases hx:i<l.length
     · have d1':decide ((i:Int)<(l.length:Int))=true:=decide_eq_true (by omega)
       simp only[↓zP,zG,Nat.reduceLT,Nat.reduceEqDiff,zI,e1,f0,aJ,d1',hv,d2];exact⟨trivial,trivial,congrArg AV.bool (decide_eq_false (by omega)).symm⟩
     · have d1':decide ((i:Int)<(l.length:Int))=false:=decide_eq_false (by omega)
       simp only[↓zP,zG,Nat.reduceLT,Nat.reduceEqDiff,zI,e1,f0,aJ,d1'];exact⟨trivial,trivial,congrArg AV.bool (decide_eq_false (by omega)).symm⟩
 · rintro i f H1 h0 hi hk e1 ⟨rfl,hv⟩
   simp only[sm,List.cons.injEq,and_true] at hv
   have f0:f 0=.aT 0 3 (ivE l):=by rw[hk 0 rfl];simp only[aC,ne_eq,Nat.reduceEqDiff,not_false_eq_true,startF,List.getD_cons_zero]
   have f2:f 2=.int .i64 d:=by rw[hk 2 rfl];simp only[aC,ne_eq,Nat.reduceEqDiff,not_false_eq_true,startF,List.getD_cons_zero,List.getD_cons_succ]
   have f4:f 4=.ref 0 0:=by rw[hk 4 rfl];simp only[aC,ne_eq,Nat.reduceEqDiff,not_false_eq_true]
   have hil:i<l.length:=by omega
   have hg:=bC hil;have hd:=fP hq (hl _ (List.getElem_mem hil)) hs;have hbi:=hbefore i;rw[hget i hil] at hbi
   have hsi:i=s0→Geo.dot n l[i]=d:=fun h=>by rw[←hget i hil,h];exact hs0.2
   generalize l[i]=x at *;refine aI ?_;refine aA fun K2 hK2=>?_;refine aQ (by decide) ?_;simp only[↓zP,zG,Nat.reduceLT,Nat.reduceEqDiff,Nat.reduceAdd,zD,reduceCtorEq,zI,f0,f4,e1,aD,aJ,hil,hg,oL (aG n),oL (aG x)];refine cE (hd _) ?_;simp only[↓zP,zG,Nat.reduceLT,Nat.reduceEqDiff,Nat.reduceAdd,zD,reduceCtorEq,zI,f2];apply hK2;clear hK2 K2;by_cases hc:i=s0
   · have hb1:(Geo.dot n x==d)=true:=by simp[hsi hc]
     simp only[↓zP,zG,Nat.reduceLT,Nat.reduceEqDiff,zI,hb1,e1];exact⟨trivial,by rw[if_neg (by omega),hc]⟩
   · have hb1:(Geo.dot n x==d)=false:=by simp[hbi (by omega) hil]
     simp only[↓zP,zG,Nat.reduceEqDiff,zI,hb1,hv];exact⟨trivial,by rw[if_pos (by omega),if_pos (by omega)]⟩
 · rintro f H1 hk ⟨rfl,hv⟩
   simp only[sm,List.cons.injEq,and_true] at hv;rw[if_neg (by omega)] at hv
   have f0:f 0=.aT 0 3 (ivE l):=by rw[hk 0 rfl];simp only[aC,ne_eq,Nat.reduceEqDiff,not_false_eq_true,startF,List.getD_cons_zero]
   have fd2:f 2=.int .i64 d:=by rw[hk 2 rfl];simp only[aC,ne_eq,Nat.reduceEqDiff,not_false_eq_true,startF,List.getD_cons_zero,List.getD_cons_succ]
   have f4:f 4=.ref 0 0:=by rw[hk 4 rfl];simp only[aC,ne_eq,Nat.reduceEqDiff,not_false_eq_true]
   have f7:f 7=.nilsl:=by rw[hk 7 rfl];simp only[aC,ne_eq,Nat.reduceEqDiff,not_false_eq_true]
   show K f [] _;apply hK;clear hK K;refine aA fun K hK=>?_;simp only[↓zP,zG,Nat.reduceLT,hv];apply hK;clear hK K;refine aA fun K hK=>?_;generalize honv:onL (fun i=>l.getD i V0) l.length n d=on at *;generalize hitv:iter (nxt n (fun i=>l.getD i V0) on)=it at *
   have hlt:∀k∈on,k<l.length:=fun k hk=>by
    rw[←honv] at hk;exact(bO.1 hk).1
   refine aI ?_;refine dM [7,8] (fun M' vs H'=>∃i,i<m∧M'=m -i∧∃v,vs=[v,.int .i64 (it i s0:Nat)]∧H'.get 0=some (.cells (ivC n) false)∧1≤H'.next∧Own H' 1 v (onE ((List.range i).map fun i=>it i s0))) m (by rfl) ?_ ?_
   · exact⟨0,W.pos,rfl,.nilsl,by simp only[sm,aC,Nat.reduceEqDiff,f7,hv];rw[←hitv];rfl,by simp only[zI],by simp only[zI,Nat.reduceLeDiff],.nil _ _⟩
   · rintro M' f2 H2 hk2 ⟨i,hi,rfl,v,hv2,g0,gn,ho⟩
     simp only[sm,List.cons.injEq,and_true] at hv2;obtain⟨v7,v8⟩:=hv2
     have k0:f2 0=.aT 0 3 (ivE l):=by rw[hk2 0 rfl];simp only[aC,ne_eq,Nat.reduceEqDiff,not_false_eq_true];exact f0
     have k2:f2 2=.int .i64 d:=by rw[hk2 2 rfl];simp only[aC,ne_eq,Nat.reduceEqDiff,not_false_eq_true];exact fd2
     have k4:f2 4=.ref 0 0:=by rw[hk2 4 rfl];simp only[aC,ne_eq,Nat.reduceEqDiff,not_false_eq_true];exact f4
     have k10:f2 10=.int .i64 s0:=by rw[hk2 10 rfl];simp only[aC]
     have hle:i≤l.length:=by omega
     have d1:decide ((i:Int)≤(l.length:Int))=true:=decide_eq_true (by omega)
     have hil:((List.range i).map fun i=>it i s0).length=i:=by simp
     refine aA fun K2 hK2=>?_
     have key:∀f':Slt,f' 0=.aT 0 3 (ivE l)→f' 2=.int .i64 d→f' 4=.ref 0 0→f' 10=.int .i64 s0→f' 7=v→f' 8=.int .i64 (it i s0:Nat)→K2 f' [] H2:=by
      intro f3 w0 w2 w4 w10 w7 w8;apply hK2;clear hK2 K2;obtain⟨hoa,hSa⟩:=W.side i;have hob:=hSa.1;rw[hitv] at hoa hob
      have hnx:nxt n (fun i=>l.getD i V0) on (it i s0)=it (i+1) s0:=by rw[←hitv];rfl
      have hfind:=hPn _ (hmem i hi);rw[hnx] at hfind;unfold Geo.nextR at hfind;obtain⟨_,hp1,hp2⟩:=aFh hsorted hfind;have hal:=hlt _ hoa;have hbl:=hlt _ hob
      have hda:Geo.dot n (l.getD (it (i+1) s0) V0)=d:=by rw[←honv] at hob;exact(bO.1 hob).2
      have hmon:∀k,k<l.length→Geo.dot n (l.getD k V0)=d→k∈on:=fun k h1 h2=>by rw[←honv];exact bO.2 ⟨h1,h2⟩
      have hback:i+1=m→it (i+1) s0=s0:=fun h=>by rw[h,←hitv];exact W.back
      have hfst:i+1<m→it (i+1) s0≠s0:=fun h=>by rw[←hitv];exact W.first (i+1) (by omega) h
      have hrs:(List.range (i+1)).map (fun i=>it i s0)=(List.range i).map (fun i=>it i s0)++[it i s0]:=by
       rw[List.range_succ,List.map_append];rfl
      generalize ha:it i s0=a at *;generalize hb:it (i+1) s0=b at *;generalize hX:(List.range i).map (fun i=>it i s0)=X at *;obtain⟨H5,z1,z2,z3,z4,z5⟩:=Has.push (.inr ho) (ys:=[[AV.int .i64 (a:Nat)]]) (bytes:=8) rfl (by rw[bP,hil,List.length_cons,List.length_nil];omega);have y0:=(z4 0 (by omega) (by rw[g0];simp)).trans g0;have yo:Own H5 1 (.aT (H2.next+2) 1 (onE (X++[a]))) (onE (X++[a])):=.inr ⟨H2.next,rfl,by omega,z3⟩;have hna:=hl _ (List.getElem_mem hal);refine aI ?_;refine aA fun K2 hK2=>?_;simp only[↓zP,zG,Nat.reduceLT,Nat.reduceEqDiff,zI,w7,w8];rw[show ∀(h:Heap) (x:List AV),elemsOf h 1 (.aT 1 1 [x])=some [x] from fun _ _=>rfl];simp only[z1,aZ];apply hK2;clear hK2 K2;rw[show onE X++[[AV.int .i64 (a:Int)]]=onE (X++[a]) from by simp[onE]];refine aA fun K2 hK2=>?_;simp only[↓zP,zG,Nat.reduceLT];apply hK2;clear hK2 K2;refine aA fun K2 hK2=>?_;simp only[↓zP,zG,Nat.reduceLT,zI];refine bB [11] (fun k vs H'=>H'=H5∧vs=[.int .i64 (if k≤b then -1 else(b:Int))]) 0 (b+1) (Nat.zero_le _) (by omega) (by decide) ?_ ?_ ?_ ?_ ?_
      · simp only[aC];rfl
      · exact⟨rfl,by simp only[sm,aC,Nat.reduceEqDiff];rw[if_pos (Nat.zero_le _)]⟩
      · rintro k f5 H6 h0 hkb hk5 e5 ⟨rfl,hv5⟩
        simp only[sm,List.cons.injEq,and_true] at hv5
        have u0:f5 0=.aT 0 3 (ivE l):=by rw[hk5 0 rfl];simp only[aC,ne_eq,Nat.reduceEqDiff,not_false_eq_true];exact w0
        by_cases h1:k≤b
        · rw[if_pos h1] at hv5
          have d1':decide ((k:Int)<(l.length:Int))=true:=decide_eq_true (by omega);have d2:decide ((-1:Int)<0)=true:=rfl;simp only[↓zP,zG,Nat.reduceLT,Nat.reduceEqDiff,zI,Int.reduceLT,e5,u0,aJ,d1',hv5];exact⟨trivial,trivial,congrArg AV.bool (decide_eq_true (by omega)).symm⟩
        · rw[if_neg h1] at hv5
          have d2:decide ((b:Int)<0)=false:=decide_eq_false (by omega);by_cases hx:k<l.length
          · have d1':decide ((k:Int)<(l.length:Int))=true:=decide_eq_true (by omega)
            simp only[↓zP,zG,Nat.reduceLT,Nat.reduceEqDiff,zI,e5,u0,aJ,d1',hv5,d2];exact⟨trivial,trivial,congrArg AV.bool (decide_eq_false (by omega)).symm⟩
          · have d1':decide ((k:Int)<(l.length:Int))=false:=decide_eq_false (by omega)
            simp only[↓zP,zG,Nat.reduceLT,Nat.reduceEqDiff,zI,e5,u0,aJ,d1'];exact⟨trivial,trivial,congrArg AV.bool (decide_eq_false (by omega)).symm⟩
      · rintro k f5 H6 h0 hkb hk5 e5 ⟨rfl,hv5⟩
        simp only[sm,List.cons.injEq,and_true] at hv5
        have u0:f5 0=.aT 0 3 (ivE l):=by rw[hk5 0 rfl];simp only[aC,ne_eq,Nat.reduceEqDiff,not_false_eq_true];exact w0
        have u2:f5 2=.int .i64 d:=by rw[hk5 2 rfl];simp only[aC,ne_eq,Nat.reduceEqDiff,not_false_eq_true];exact w2
        have u4:f5 4=.ref 0 0:=by rw[hk5 4 rfl];simp only[aC,ne_eq,Nat.reduceEqDiff,not_false_eq_true];exact w4
        have u8:f5 8=.int .i64 (a:Nat):=by rw[hk5 8 rfl];simp only[aC,ne_eq,Nat.reduceEqDiff,not_false_eq_true];exact w8
        have hkl:k<l.length:=by omega
        have hgk:=bC hkl;have hga:=bC hal;have hnk:=hl _ (List.getElem_mem hkl);have hd:=fP hq hnk hs;have hsd:=aPq 0 hl hM (by omega) hq hs (d:=d) hna hnk;rw[if_pos (show k≤b by omega)] at hv5
        have hpk:(decide (k≠a)&&sideR n (fun i=>l.getD i V0) on a k)=decide (k=b)∨k∉on:=by
         by_cases hko:k∈on
         · left
           by_cases hkb2:k=b
           · subst hkb2;rw[hp1];simp
           · rw[hp2 k hko (by omega)];simp[hkb2]
         · exact .inr hko
        have hVR:sideV l n d l[a] l[k]=sideR n (fun i=>l.getD i V0) on a k:=by
         rw[←hget a hal,←hget k hkl,aTf,honv]
        have hdk:Geo.dot n l[k]=d→k∈on:=fun h=>hmon k hkl (by rw[hget k hkl];exact h)
        have hdk2:k∈on→Geo.dot n l[k]=d:=fun h=>by rw[←honv] at h;have :=(bO.1 h).2;rwa [hget k hkl] at this
        generalize l[k]=x at *;generalize l[a]=y at *;refine aI ?_;refine aA fun K3 hK3=>?_;refine aQ (by decide) ?_
        have no:∀f6:Slt,f6 65=.bool false→f6 11=.int .i64 (-1)→k≠b→K3 f6 [] H6:=by
         intro f6 v65 v11 hkne;apply hK3;simp only[↓zP,zG,zI,v65];exact⟨trivial,by rw[v11,if_pos (show k+1≤b by omega)]⟩
        by_cases hka:k=a
        · have hb1:(((k:Nat):Int) != ((a:Nat):Int))=false:=by rw[hka];simp
          have hkne:k≠b:=fun h=>by
           rw[←h,hka] at hp1;simp at hp1
          simp only[↓zP,zG,Nat.reduceLT,Nat.reduceEqDiff,Nat.reduceAdd,zD,reduceCtorEq,zI,e5,u8,hb1];exact no _ (by simp only[aC]) (by simp only[aC,ne_eq,Nat.reduceEqDiff,not_false_eq_true];exact hv5) hkne
        · have hb1:(((k:Nat):Int) != ((a:Nat):Int))=true:=by rw[bne_iff_ne];omega
          simp only[↓zP,zG,Nat.reduceLT,Nat.reduceEqDiff,Nat.reduceAdd,zD,reduceCtorEq,zI,e5,u0,u4,u8,y0,hb1,aD,aJ,hkl,hgk,oL (aG n),oL (aG x)];refine cE (hd _) ?_;simp only[↓zP,zG,Nat.reduceLT,Nat.reduceEqDiff,Nat.reduceAdd,zD,reduceCtorEq,zI,u2];by_cases hdd:Geo.dot n x=d
          · have hb2:(Geo.dot n x==d)=true:=by simp[hdd]
            have hko:=hdk hdd
            have hpk':sideV l n d y x=decide (k=b):=by
             rcases hpk with h|h
             · rw[hVR];simpa [hka] using h
             · exact absurd hko h
            rw[hb2];apply hK3;clear hK3 K3 no;refine mF true (by simp only[aC]) (fun _=>?_) (fun h=>by cases h);refine aA fun K3 hK3=>?_;refine aQ (by decide) ?_;simp only[↓zP,zG,Nat.reduceLT,Nat.reduceEqDiff,Nat.reduceAdd,zD,reduceCtorEq,zI,e5,u0,u2,u4,u8,y0,aD,aJ,hkl,hal,hgk,hga,oL (aG n),oL (aG x),oL (aG y)];refine cE (hsd _) ?_;rw[hpk'];simp only[↓zP,zG,Nat.reduceLT,Nat.reduceAdd,zD,reduceCtorEq,zI];apply hK3;clear hK3 K3;by_cases hkb2:k=b
            · have d3:=decide_eq_true hkb2
              simp only[↓zP,zG,Nat.reduceLT,Nat.reduceEqDiff,zI,d3,e5];exact⟨trivial,by rw[if_neg (by omega),hkb2]⟩
            · have d3:=decide_eq_false hkb2
              simp only[↓zP,zG,Nat.reduceLT,Nat.reduceEqDiff,zI,d3,hv5];exact⟨trivial,by rw[if_pos (show k+1≤b by omega)]⟩
          · have hb2:(Geo.dot n x==d)=false:=by simp[hdd]
            have hkne:k≠b:=fun h=>hdd (hdk2 (by rw[h];exact hob));rw[hb2];exact no _ (by simp only[aC]) (by simp only[aC,ne_eq,Nat.reduceEqDiff,not_false_eq_true];exact hv5) hkne
      · rintro f5 H6 hk5 ⟨rfl,hv5⟩
        simp only[sm,List.cons.injEq,and_true] at hv5;rw[if_neg (by omega)] at hv5
        have u10:f5 10=.int .i64 s0:=by rw[hk5 10 rfl];simp only[aC,ne_eq,Nat.reduceEqDiff,not_false_eq_true];exact w10
        have u7:f5 7=.aT (H2.next+2) 1 (onE (X++[a])):=by rw[hk5 7 rfl];simp only[aC,ne_eq,Nat.reduceEqDiff,not_false_eq_true]
        show K2 f5 [] _;apply hK2;clear hK2 K2;by_cases him:i+1=m
        · have hb2:(((b:Nat):Int)==((s0:Nat):Int))=true:=by rw[hback him];simp
          simp only[↓zP,zG,Nat.reduceLT,Nat.reduceEqDiff,zI,hv5,u10,hb2];apply hK;clear hK K;simp only[↓zP,zG,Nat.reduceLT,Nat.reduceEqDiff,u7];refine⟨rfl,_,by simp only[↓zP,zR];rfl,?_⟩
          have hLe:L=X++[a]:=by rw[hL,←him];exact hrs
          refine⟨.aT (H2.next+2) 1 (onE (X++[a])),0,rfl,fun nw=>?_⟩;rw[hLe];have hfr:=nY (X++[a]);simp[shutF,shut1,hfr,tagA]
        · have hb2:(((b:Nat):Int)==((s0:Nat):Int))=false:=by
           have :=hfst (by omega);rw[beq_eq_false_iff_ne];omega
          have d3:decide (((b:Nat):Int)<0)=false:=decide_eq_false (by omega);simp only[↓zP,zG,Nat.reduceLT,Nat.reduceEqDiff,zI,hv5,u10,hb2,d3];exact⟨m -(i+1),by omega,i+1,by omega,rfl,_,by rw[u7,hb],y0,by omega,by rw[hrs];exact yo⟩
     rcases ho with ⟨e1,e2⟩|⟨k,e1,e2,e3⟩
     · have hi0:i=0:=by
        have :=congrArg List.length e2;rw[bP,hil] at this;simpa using this
       subst hi0;rw[e1] at v7;have d1':decide ((0:Int)≤(l.length:Int))=true:=decide_eq_true (by omega);simp only[↓zP,zG,Nat.reduceLT,Nat.reduceEqDiff,zI,v7,k0,aJ];refine⟨fun _=>?_,fun h=>absurd (Int.natCast_nonneg _) h⟩;refine key _ ?_ ?_ ?_ ?_ ?_ ?_
       · simp only[aC,ne_eq,Nat.reduceEqDiff,not_false_eq_true];exact k0
       · simp only[aC,ne_eq,Nat.reduceEqDiff,not_false_eq_true];exact k2
       · simp only[aC,ne_eq,Nat.reduceEqDiff,not_false_eq_true];exact k4
       · simp only[aC,ne_eq,Nat.reduceEqDiff,not_false_eq_true];exact k10
       · simp only[aC,ne_eq,Nat.reduceEqDiff,not_false_eq_true];rw[v7,e1]
       · simp only[aC,ne_eq,Nat.reduceEqDiff,not_false_eq_true];exact v8
     · rw[e1] at v7
       simp only[↓zP,zG,Nat.reduceLT,Nat.reduceEqDiff,zI,v7,k0,aJ,bP,hil,d1];refine key _ ?_ ?_ ?_ ?_ ?_ ?_
       · simp only[aC,ne_eq,Nat.reduceEqDiff,not_false_eq_true];exact k0
       · simp only[aC,ne_eq,Nat.reduceEqDiff,not_false_eq_true];exact k2
       · simp only[aC,ne_eq,Nat.reduceEqDiff,not_false_eq_true];exact k4
       · simp only[aC,ne_eq,Nat.reduceEqDiff,not_false_eq_true];exact k10
       · simp only[aC,ne_eq,Nat.reduceEqDiff,not_false_eq_true];rw[v7,e1]
       · simp only[aC,ne_eq,Nat.reduceEqDiff,not_false_eq_true];exact v8
theorem aDi (tag:Nat) {l:List Geo.V} {M B:Nat} (hl:∀v∈l,Near M v) (hM:M≤2^18) (hlen:l.length≤64) {n:Geo.V} {d:Int} (hq:Near B n) (hs:3*(B*M)<2^62)
 {L:List Nat} (hP:Poly (fun i=>l.getD i V0) l.length n d L) (H:Heap):
 Sound Tryz.prog gv 167 [.aT tag 3 (ivE l),.agg (ivC n),.int .i64 d] H (.ret (.aT 0 1 (onE L))) H:=(aMa hl hM hlen hq hs hP H).oO tag
theorem lP {q x:Geo.V×Int}:∀{S:List (Geo.V×Int)},x∈insS q S↔x=q∨x∈S
 |[]=>by simp[insS]
 |s::r=>by
  unfold insS;split
  · simp
  · rw[List.mem_cons,lP,List.mem_cons]
    constructor
    · rintro(h|h|h)
      · exact .inr (.inl h)
      · exact .inl h
      · exact .inr (.inr h)
    · rintro(h|h|h)
      · exact .inr (.inl h)
      · exact .inl h
      · exact .inr (.inr h)
theorem aCi {q:Geo.V×Int}:∀{S:List (Geo.V×Int)},(S.Pairwise fun a b=>VLt a.1 b.1)→(∀s∈S,s.1≠q.1)→(insS q S).Pairwise fun a b=>VLt a.1 b.1
 |[],_,_=>by simp[insS]
 |s::r,h,hne=>by
  rw[List.pairwise_cons] at h;unfold insS
  cases hv:vltB q.1 s.1 with
  |true=>
   have hq:=mC.1 hv;rw[if_pos rfl,List.pairwise_cons];refine⟨fun x hx=>?_,List.pairwise_cons.2 h⟩
   rcases List.mem_cons.1 hx with rfl|hx
   · exact hq
   · exact VLt.trans hq (h.1 x hx)
  |false=>
   rw[if_neg (by decide),List.pairwise_cons]
   have hsq:VLt s.1 q.1:=by
    rcases VLt.total (hne s List.mem_cons_self) with h1|h1
    · exact h1
    · rw[mC.2 h1] at hv;cases hv
   refine⟨fun x hx=>?_,aCi h.2 fun x hx=>hne x (List.mem_cons_of_mem _ hx)⟩
   rcases lP.1 hx with rfl|hx
   · exact hsq
   · exact h.1 x hx
structure FndU (l:List Geo.V) (K:List (Geo.V×Int)):Prop where
 srt:K.Pairwise fun a b=>VLt a.1 b.1
 is:∀q∈K,IsF (fun i=>l.getD i V0) l.length q.1 q.2
theorem FndU.nodup {l:List Geo.V} {K:List (Geo.V×Int)} (h:FndU l K):K.Nodup:=List.Pairwise.imp (fun {a b} (h:VLt a.1 b.1) (e:a=b)=>VLt.irr b.1 (by rw[e] at h;exact h)) h.srt
theorem FndU.len {l:List Geo.V} {K:List (Geo.V×Int)} (h:FndU l K) (hl:l.length≤64):K.length<2^20:=by
 have h1:=mL (N:=l.length) (p:=fun i=>l.getD i V0) h.nodup h.is;have h2:l.length*(l.length*(l.length*2))≤64*(64*(64*2)):=Nat.mul_le_mul hl (Nat.mul_le_mul hl (Nat.mul_le_mul hl (Nat.le_refl _)));omega
theorem FndU.ins {l:List Geo.V} {K:List (Geo.V×Int)} (h:FndU l K) {q:Geo.V×Int} (hq:IsF (fun i=>l.getD i V0) l.length q.1 q.2) (hk:(K.any fun x=>decide (x.1=q.1))=false):FndU l (insS q K) where
 srt:=aCi h.srt fun s hs e=>by
  rw[List.any_eq_false] at hk;exact hk s hs (by simpa using e)
 is:=fun x hx=>by
  rcases lP.1 hx with rfl|hx
  · exact hq
  · exact h.is x hx
theorem FndU.known {l:List Geo.V} {K:List (Geo.V×Int)} (h:FndU l K) {q:Geo.V×Int} (hk:(K.any fun x=>decide (x.1=q.1))=true) (hq:IsF (fun i=>l.getD i V0) l.length q.1 q.2):q∈K:=by
 obtain⟨x,hx,e⟩:=List.any_eq_true.1 hk;have e:=of_decide_eq_true e;have hx':=h.is x hx;rw[e] at hx';have :=hx'.uniq hq;have :x=q:=Prod.ext e this
 rwa [←this]
def RowF (L:Geo.V×Int→List Nat) (H:Heap) (v:AV) (K:List (Geo.V×Int)):Prop:=
 (K=[]∧v=.nilsl)∨(K≠[]∧∃k,v=.aT (k+2) 5 (K.map (facC L))∧k<H.next∧H.get k=some .tok)
theorem RowF.aOd {L:Geo.V×Int→List Nat} {H H':Heap} {v:AV} {K:List (Geo.V×Int)} (h:RowF L H v K) (hn:H.next≤H'.next) (hk:∀k,k<H.next→H.get k=some .tok→H'.get k=some .tok):RowF L H' v K:=by
 rcases h with h|⟨h,k,rfl,h1,h2⟩
 · exact .inl h
 · exact .inr ⟨h,k,rfl,by omega,hk k h1 h2⟩
theorem RowF.sound {L:Geo.V×Int→List Nat} {H:Heap} {v:AV} {K:List (Geo.V×Int)} (h:RowF L H v K) {f:FuncId} {rest:List AV} {H1 H2:Heap} {out:Out} (hS:Sound Tryz.prog gv f (facR L K::rest) H1 out H2):Sound Tryz.prog gv f (v::rest) H1 out H2:=by
 rcases h with ⟨h1,rfl⟩|⟨h1,k,rfl,_,_⟩
 · rcases cZ L K with ⟨_,e⟩|⟨h2,_⟩
   · rwa [e] at hS
   · exact absurd h1 h2
 · rcases cZ L K with ⟨h2,_⟩|⟨_,e⟩
   · exact absurd h2 h1
   · rw[e] at hS
     exact hS.oO (k+2)
theorem RowF.aXr {L:Geo.V×Int→List Nat} {f:FuncId} {args:List AV} (ha:freeL args=true) {K:List (Geo.V×Int)} (h:∃out H',(∃v,out=.ret v∧RowF L H' v K)∧Sound Tryz.prog gv f args ⟨0,.nil⟩ out H') (H:Heap):Sound Tryz.prog gv f args H (.ret (facR L K)) H:=by
 obtain⟨out,H',⟨v,rfl,hr⟩,hS⟩:=h;refine hS.frame bW ha (tk:=none) (fun k' hk'=>by cases hk') (n:=0) H ?_
 rcases hr with ⟨rfl,rfl⟩|⟨h1,k,rfl,_,_⟩
 · rfl
 · have hf:freeLL (K.map (facC L))=true:=bR (fK L) _
   rcases cZ L K with ⟨h2,_⟩|⟨_,e⟩
   · exact absurd h2 h1
   · rw[e]
     simp[Out.av,shutF,shut1,hf,tagA]
theorem sG {l:List Geo.V} {M:Nat} (hl:∀v∈l,Near M v) (hM:M≤2^18) (hlen:l.length≤64) {S:List (Geo.V×Int)} {L:Geo.V×Int→List Nat} (hS:Facs l S L):
 ∃out H',(∃v,out=.ret v∧RowF L H' v S)∧Sound Tryz.prog gv 112 [.aT 0 3 (ivE l)] ⟨0,.nil⟩ out H':=by
 have ht0:Nat.blt 0 2=true:=rfl;refine cV fit aUb (Nat.le_of_ble_eq_true rfl) ?_;unfold W112;dsimp only
 have hget:∀k (h:k<l.length),l.getD k V0=l[k]:=fun k h=>by simp[List.getD,h]
 simp only[↓zP,zG,Nat.reduceLT];refine bB [3] (fun i vs H'=>FreeUp H'∧∃v K,vs=[v]∧RowF L H' v K∧FndU l K∧TriedU (fun i=>l.getD i V0) l.length i 0 0 K) 0 l.length (Nat.zero_le _) (by omega) (by decide) ?_ ?_ ?_ ?_ ?_
 · simp only[aC];rfl
 · refine⟨.nil 0,.nilsl,[],by simp only[sm,aC,Nat.reduceEqDiff],.inl ⟨rfl,rfl⟩,⟨.nil,fun q hq=>by cases hq⟩,.zero⟩
 · rintro i f H1 h0 hi hk e1 ⟨hf,w,K,hv,hR,hK,hT⟩
   have f0:f 0=.aT 0 3 (ivE l):=by rw[hk 0 rfl];simp only[aC,ne_eq,Nat.reduceEqDiff,not_false_eq_true,startF,List.getD_cons_zero]
   simp only[↓zP,zG,Nat.reduceLT,Nat.reduceEqDiff,zI,e1,f0,aJ];exact⟨trivial,trivial,congrArg AV.bool (decide_eq_decide.2 (by omega))⟩
 · rintro i f H1 h0 hi hk e1 ⟨hf,w,K,hv,hR,hK,hT⟩
   simp only[sm,List.cons.injEq,and_true] at hv
   have f0:f 0=.aT 0 3 (ivE l):=by rw[hk 0 rfl];simp only[aC,ne_eq,Nat.reduceEqDiff,not_false_eq_true,startF,List.getD_cons_zero]
   have w1:IntKind.i64.wrap ((i:Int)+1)=((i+1:Nat):Int):=by rw[wrap_i64 (by omega) (by omega)];rfl
   refine aI ?_;simp only[↓zP,zG,Nat.reduceLT,zI,e1,w1];refine bB [3] (fun j vs H'=>FreeUp H'∧∃v K,vs=[v]∧RowF L H' v K∧FndU l K∧TriedU (fun i=>l.getD i V0) l.length i j 0 K) (i+1) l.length (by omega) (by omega) (by decide) ?_ ?_ ?_ ?_ ?_
   · simp only[aC]
   · exact⟨hf,w,K,by simp only[sm,aC,Nat.reduceEqDiff,hv],hR,hK,hT.j0⟩
   · rintro j f2 H2 h0 hj hk2 e2 ⟨hf2,w2,K2,hv2,hR2,hK2,hT2⟩
     have k0:f2 0=.aT 0 3 (ivE l):=by rw[hk2 0 rfl];simp only[aC,ne_eq,Nat.reduceEqDiff,not_false_eq_true];exact f0
     simp only[↓zP,zG,Nat.reduceLT,Nat.reduceEqDiff,zI,e2,k0,aJ];exact⟨trivial,trivial,congrArg AV.bool (decide_eq_decide.2 (by omega))⟩
   · rintro j f2 H2 hij hj hk2 e2 ⟨hf2,w2,K2,hv2,hR2,hK2,hT2⟩
     simp only[sm,List.cons.injEq,and_true] at hv2
     have k0:f2 0=.aT 0 3 (ivE l):=by rw[hk2 0 rfl];simp only[aC,ne_eq,Nat.reduceEqDiff,not_false_eq_true];exact f0
     have k4:f2 4=.int .i64 i:=by rw[hk2 4 rfl];simp only[aC,ne_eq,Nat.reduceEqDiff,not_false_eq_true];exact e1
     have wj2:IntKind.i64.wrap ((j:Int)+1)=((j+1:Nat):Int):=by rw[wrap_i64 (by omega) (by omega)];rfl
     refine aI ?_;simp only[↓zP,zG,Nat.reduceLT,zI,e2,wj2];refine bB [3] (fun k vs H'=>FreeUp H'∧∃v K,vs=[v]∧RowF L H' v K∧FndU l K∧TriedU (fun i=>l.getD i V0) l.length i j k K) (j+1) l.length (by omega) (by omega) (by decide) ?_ ?_ ?_ ?_ ?_
     · simp only[aC]
     · exact⟨hf2,w2,K2,by simp only[sm,aC,Nat.reduceEqDiff,hv2],hR2,hK2,hT2.k0⟩
     · rintro k f3 H3 h0 hkl hk3 e3 ⟨hf3,w3,K3,hv3,hR3,hK3,hT3⟩
       have u0:f3 0=.aT 0 3 (ivE l):=by rw[hk3 0 rfl];simp only[aC,ne_eq,Nat.reduceEqDiff,not_false_eq_true];exact k0
       simp only[↓zP,zG,Nat.reduceLT,Nat.reduceEqDiff,zI,e3,u0,aJ];exact⟨trivial,trivial,congrArg AV.bool (decide_eq_decide.2 (by omega))⟩
     · rintro k f3 H3 hjk hkl hk3 e3 ⟨hf3,w3,K3,hv3,hR3,hK3,hT3⟩
       simp only[sm,List.cons.injEq,and_true] at hv3
       have u0:f3 0=.aT 0 3 (ivE l):=by rw[hk3 0 rfl];simp only[aC,ne_eq,Nat.reduceEqDiff,not_false_eq_true];exact k0
       have u4:f3 4=.int .i64 i:=by rw[hk3 4 rfl];simp only[aC,ne_eq,Nat.reduceEqDiff,not_false_eq_true];exact k4
       have u5:f3 5=.int .i64 j:=by rw[hk3 5 rfl];simp only[aC,ne_eq,Nat.reduceEqDiff,not_false_eq_true];exact e2
       have hil:i<l.length:=by omega
       have hjl:j<l.length:=by omega
       have gi:=bC hil;have gj:=bC hjl;have gk:=bC hkl;have ni:=hl _ (List.getElem_mem hil);have nj:=hl _ (List.getElem_mem hjl);have nk:=hl _ (List.getElem_mem hkl);have hnm:=aGn ni nj nk hM;have hMM:(M+M)*(M+M)≤2^19*2^19:=Nat.mul_le_mul (by omega) (by omega);have hBM:2*((M+M)*(M+M))*M≤2^39*2^18:=Nat.mul_le_mul (by omega) hM;have hnn0:Near (2*((M+M)*(M+M))) (prim (Geo.cross (Geo.sub l[j] l[i]) (Geo.sub l[k] l[i]))):=gP (dJ (cH nj ni) (cH nk ni))
       have hpl:plane3 (fun i=>l.getD i V0) i j k=(prim (Geo.cross (Geo.sub l[j] l[i]) (Geo.sub l[k] l[i])),Geo.dot (prim (Geo.cross (Geo.sub l[j] l[i]) (Geo.sub l[k] l[i]))) l[i]):=by
        simp only[plane3,vec,hget i hil,hget j hjl,hget k hkl]
       have hcd:∀q,q∈cands (fun i=>l.getD i V0) i j k↔(plane3 (fun i=>l.getD i V0) i j k).1≠V0∧(q=plane3 (fun i=>l.getD i V0) i j k∨q=(Geo.neg (plane3 (fun i=>l.getD i V0) i j k).1,-(plane3 (fun i=>l.getD i V0) i j k).2)):=fun q=>by
        unfold cands;by_cases hz:(plane3 (fun i=>l.getD i V0) i j k).1=V0
        · rw[if_pos hz];exact⟨fun h=>(by cases h),fun h=>absurd hz h.1⟩
        · rw[if_neg hz,List.mem_cons,List.mem_singleton];exact⟨fun h=>⟨hz,h⟩,fun h=>h.2⟩
       rw[hpl] at hcd;generalize prim (Geo.cross (Geo.sub l[j] l[i]) (Geo.sub l[k] l[i]))=n0 at *;generalize hBv:2*((M+M)*(M+M))=B at *;have hp:∀k (h:k<l.length),l.getD k V0=l[k]:=hget;refine aI ?_;refine aA fun K4 hK4=>?_;refine eY 1 (by decide) hf3.at1 fun H4 n4 e4=>?_;simp only[↓zP,zG,Nat.reduceLT,Nat.reduceEqDiff,Nat.reduceAdd,zD,reduceCtorEq,zI,u0,u4,u5,e3,aD,aJ,hil,hjl,hkl,gi,gj,gk,oL (aG l[i]),oL (aG l[j]),oL (aG l[k])];refine cE (hnm _) ?_;simp only[↓zP,zG,Nat.reduceLT,Nat.reduceEqDiff,Nat.reduceAdd,zD,zI,oL (aG n0)];apply hK4;clear hK4 K4;generalize hX:(H4.set H3.next _).set H3.next _=H5
       have y7:H5.get H3.next=some (.cells (ivC n0) false):=by subst hX;rw[Heap.aB,if_pos rfl]
       have yn:H3.next<H5.next:=by subst hX;simp only[Heap.aS];omega
       have yf:FreeUp H5:=fun j hj=>by
        subst hX;simp only[Heap.aS] at hj;rw[Heap.aB,if_neg (by omega),Heap.aB,if_neg (by omega),e4];exact hf3 j (by omega)
       have yr:RowF L H5 w3 K3:=by
        refine hR3.aOd (by omega) fun k h1 h2=>?_;subst hX;rw[Heap.aB,if_neg (by omega),Heap.aB,if_neg (by omega),e4];exact h2
       clear hX;simp only[↓zP,zG,Nat.reduceLT,zI]
       let nn:Nat→Geo.V:=fun t=>if t=1 then Geo.neg n0 else n0
       have hnnB:∀t,Near B (nn t):=fun t=>by
        simp only[nn];split
        · exact qB hnn0
        · exact hnn0
       have hnnV:∀t,nn t=V0↔n0=V0:=fun t=>by
        simp only[nn];split
        · constructor
          · intro h;exact Decidable.byContradiction fun hc=>aAa hc h
          · intro h;rw[h];rfl
        · exact Iff.rfl
       have hcand:∀t,t<2→n0≠V0→(nn t,Geo.dot (nn t) l[i])∈cands (fun i=>l.getD i V0) i j k:=fun t ht hz=>by
        rw[hcd];refine⟨hz,?_⟩
        match t,ht with
        |0,_=>exact .inl rfl
        |1,_=>exact .inr (by simp only[nn,if_true,fE])
       refine bB [3] (fun t vs H'=>H'.get H3.next=some (.cells (ivC (nn t)) false)∧H3.next<H'.next∧FreeUp H'∧∃v K',vs=[v]∧RowF L H' v K'∧FndU l K'∧(∀q∈K3,q∈K')∧∀u,u<t→n0≠V0→IsF (fun i=>l.getD i V0) l.length (nn u) (Geo.dot (nn u) l[i])→(nn u,Geo.dot (nn u) l[i])∈K') 0 2 (by decide) (by decide) (by decide) ?_ ?_ ?_ ?_ ?_
       · simp only[aC];rfl
       · exact⟨y7,yn,yf,w3,K3,by simp only[sm,aC,Nat.reduceEqDiff,hv3],yr,hK3,fun q hq=>hq,fun u hu=>absurd hu (Nat.not_lt_zero _)⟩
       · rintro t f6 H6 h0 ht hk6 e6 ⟨g7,gn,gf,w6,K6,hv6,hR6,hK6,hsub,hdone⟩
         simp only[↓zP,zG,Nat.reduceLT,zI,e6];exact⟨trivial,trivial,congrArg AV.bool (decide_eq_decide.2 (by omega))⟩
       · rintro t f6 H6 h0 ht hk6 e6 ⟨g7,gn,gf,w6,K6,hv6,hR6,hK6,hsub,hdone⟩
         simp only[sm,List.cons.injEq,and_true] at hv6
         have v0:f6 0=.aT 0 3 (ivE l):=by rw[hk6 0 rfl];simp only[aC,ne_eq,Nat.reduceEqDiff,not_false_eq_true];exact u0
         have v4:f6 4=.int .i64 i:=by rw[hk6 4 rfl];simp only[aC,ne_eq,Nat.reduceEqDiff,not_false_eq_true];exact u4
         have v7:f6 7=.ref H3.next 0:=by rw[hk6 7 rfl];simp only[aC,ne_eq,Nat.reduceEqDiff,not_false_eq_true]
         have hnB:=hnnB t;have hnV:=hnnV t;have hcdt:=hcand t ht
         have hnext:nn (t+1)=Geo.sub V0 (nn t):=by
          match t,ht with
          |0,_=>simp[nn,Geo.neg,Geo.sub,V0]
          |1,_=>simp[nn,Geo.neg,Geo.sub,V0]
         have hd:=fP hnB ni (by omega)
         have hdone':∀K':List (Geo.V×Int),(∀q∈K6,q∈K')→(n0≠V0→IsF (fun i=>l.getD i V0) l.length (nn t) (Geo.dot (nn t) l[i])→(nn t,Geo.dot (nn t) l[i])∈K')→∀u,u<t+1→n0≠V0→IsF (fun i=>l.getD i V0) l.length (nn u) (Geo.dot (nn u) l[i])→(nn u,Geo.dot (nn u) l[i])∈K':=fun K' h1 h2 u hu hz hF=>by
          by_cases e:u=t
          · subst e;exact h2 hz hF
          · exact h1 _ (hdone u (by omega) hz hF)
         rw[hnext];have ex:=fun H=>aDe 0 hl (by omega) (n:=nn t) (d:=Geo.dot (nn t) l[i]) hnB (by omega) H
         have hF:n0≠V0→(outB l (nn t,Geo.dot (nn t) l[i])=true↔IsF (fun i=>l.getD i V0) l.length (nn t) (Geo.dot (nn t) l[i])):=fun hz=>by
          rw[qE];constructor
          · rintro⟨h1,h2⟩
            exact jW hil hjl hkl (hcdt hz) h1 h2
          · intro h;exact⟨h.le,h.lt⟩
         have kn:=fun H=>hR6.sound (aLy L K6 (by have :=hK6.len hlen;omega) (nn t) H);have hsb:=jK (a:=V0) (b:=nn t) (A:=0) (B:=B) ⟨by decide,by decide,by decide⟩ hnB (by omega);generalize nn t=n at *;generalize hdv:Geo.dot n l[i]=d at *;refine aI ?_;refine aA fun K7 hK7=>?_;refine aQ (by decide) ?_;simp only[↓zP,zG,Nat.reduceLT,Nat.reduceEqDiff,Nat.reduceAdd,zD,reduceCtorEq,zI,v0,v4,v7,g7,aD,aJ,hil,gi,oL (aG l[i]),oL (aG n)];refine cE (hd _) ?_;simp only[↓zP,zG,Nat.reduceLT,Nat.reduceAdd,zD,reduceCtorEq,zI];apply hK7;clear hK7 K7;refine aA fun K7 hK7=>?_;simp only[↓zP,zG,Nat.reduceLT,Nat.reduceEqDiff,zI,hv6,v7,g7,oL (aG n)];refine bF (kn _) ?_;simp only[↓zP,zG,Nat.reduceLT];apply hK7;clear hK7 K7;refine aA fun K7 hK7=>?_;simp only[↓zP,zG,Nat.reduceLT,Nat.reduceEqDiff,zI,v7,g7,oL (aG n),pG];apply hK7;clear hK7 K7;refine aA fun K7 hK7=>?_
         have fin:∀(f7:Slt) (H7:Heap) (w':AV) (K':List (Geo.V×Int)),f7 3=w'→RowF L H7 w' K'→f7 7=.ref H3.next 0→H7.get H3.next=some (.cells (ivC n) false)→H3.next<H7.next→FreeUp H7→FndU l K'→(∀q∈K6,q∈K')→(n0≠V0→IsF (fun i=>l.getD i V0) l.length n d→(n,d)∈K')→K7 f7 [] H7:=by
          intro f7 H7 w' K' a3 ar a7 ag an af aK as1 as2;apply hK7;clear hK7 K7;simp only[↓zP,zG,Nat.reduceLT,Nat.reduceEqDiff,zI,a7,ag,oL (aG n)];rw[show [AV.int .i64 0,.int .i64 0,.int .i64 0]=ivC V0 from rfl];refine bF (hsb _) ?_;simp only[↓zP,zG,Nat.reduceEqDiff,zI,a7,ag,oL (aG n),oL (aG (Geo.sub V0 n))]
          refine⟨trivial,an,af.set an _,w',K',by rw[a3],ar.aOd (by simp) (fun k h1 h2=>by
           rw[Heap.aB];split
           · rename_i e;subst e;rw[ag] at h2;cases h2
           · exact h2),aK,fun q hq=>as1 q (hsub q hq),hdone' K' as1 as2⟩
         cases hkn:K6.any fun q=>decide (q.1=n) with
         |true=>
          simp only[↓zP,zG,Nat.reduceLT,Nat.reduceEqDiff,zI];exact fin _ H6 w6 K6 (by simp only[aC,ne_eq,Nat.reduceEqDiff,not_false_eq_true];exact hv6) hR6 (by simp only[aC,ne_eq,Nat.reduceEqDiff,not_false_eq_true];exact v7) g7 gn gf hK6 (fun q hq=>hq) (fun _ hFq=>hK6.known (q:=(n,d)) hkn hFq)
         |false=>
          by_cases hz:n=V0
          · have d1:=decide_eq_true hz
            simp only[↓zP,zG,Nat.reduceLT,Nat.reduceEqDiff,zI,d1];exact fin _ H6 w6 K6 (by simp only[aC,ne_eq,Nat.reduceEqDiff,not_false_eq_true];exact hv6) hR6 (by simp only[aC,ne_eq,Nat.reduceEqDiff,not_false_eq_true];exact v7) g7 gn gf hK6 (fun q hq=>hq) (fun h=>absurd (hnV.1 hz) h)
          · have d1:=decide_eq_false hz
            have hz0:n0≠V0:=fun h=>hz (hnV.2 h);simp only[↓zP,zG,Nat.reduceLT,Nat.reduceEqDiff,zI,d1,v0,v7,g7,oL (aG n)];refine bF (ex _) ?_
            cases hob:outB l (n,d) with
            |false=>
             simp only[↓zP,zG,Nat.reduceLT,Nat.reduceEqDiff,zI]
             exact fin _ H6 w6 K6 (by simp only[aC,ne_eq,Nat.reduceEqDiff,not_false_eq_true];exact hv6) hR6 (by simp only[aC,ne_eq,Nat.reduceEqDiff,not_false_eq_true];exact v7) g7 gn gf hK6 (fun q hq=>hq) (fun _ hFq=>by
              have :=(hF hz0).2 hFq
              rw[hob] at this;cases this)
            |true=>
             have hFq:=(hF hz0).1 hob;have hqS:(n,d)∈S:=(hS.fl.mem (n,d)).2 hFq;have hpol:=fun H=>aDi 0 hl hM hlen (d:=d) hnB (by omega) (hS.po (n,d) hqS) H;have hins:=fun H=>hR6.sound (aGk L K6 (hK6.len hlen) (n,d) H);simp only[↓zP,zG,Nat.reduceLT,Nat.reduceEqDiff,zI];refine aQ (by decide) ?_;simp only[↓zP,zG,Nat.reduceLT,Nat.reduceEqDiff,Nat.reduceAdd,zD,reduceCtorEq,zI,hv6,v0,v7,g7,oL (aG n)];refine cE (hpol _) ?_;simp only[↓zP,zG,Nat.reduceLT,Nat.reduceEqDiff,Nat.reduceAdd,zD,reduceCtorEq,zI,Nat.reduceLeDiff,ivC];rw[show [AV.int .i64 n.x,.int .i64 n.y,.int .i64 n.z,.int .i64 d,.aT 0 1 (onE (L (n,d)))]=facC L (n,d) from rfl];refine oU (by decide) (by simp only[sm,aC,Nat.reduceEqDiff]) (hins _) (by simp) (fun x hx hp=>?_) ?_
             · have hx7:x.2=H3.next:=by
                simp only[List.mem_cons,List.not_mem_nil,or_false] at hx
                rcases hx with rfl|rfl<;>rfl
               rw[hx7,Heap.aH,if_neg (by omega)]
             simp only[↓zP,zG,Nat.reduceLT,Nat.reduceEqDiff,Nat.reduceAdd,zD,reduceCtorEq,zI];exact fin _ (H6.alloc .tok) _ (insS (n,d) K6) (by simp only[aC]) (.inr ⟨fun h=>by have :=uE (n,d) K6;rw[h] at this;simp at this,H6.next,rfl,by simp,by rw[Heap.aH,if_pos rfl]⟩) (by simp only[aC,ne_eq,Nat.reduceEqDiff,not_false_eq_true];exact v7) (by rw[Heap.aH,if_neg (by omega)];exact g7) (by simp only[Heap.aX];omega) (gf.alloc _) (hK6.ins hFq hkn) (fun q hq=>lP.2 (.inr hq)) (fun _ _=>lP.2 (.inl rfl))
       · rintro f6 H6 hk6 ⟨g7,gn,gf,w6,K6,hv6,hR6,hK6,hsub,hdone⟩
         simp only[↓zP];refine⟨gf,w6,K6,hv6,hR6,hK6,hT3.step hsub fun q hq hF=>?_⟩;obtain⟨hz,h⟩:=(hcd q).1 hq
         rcases h with rfl|rfl
         · exact hdone 0 (by decide) hz hF
         · have :=hdone 1 (by decide) hz (by simp only[nn,if_true,fE];exact hF)
           simpa only[nn,if_true,fE] using this
     · rintro f3 H3 hk3 ⟨hf3,w3,K3,hv3,hR3,hK3,hT3⟩
       simp only[↓zP];exact⟨hf3,w3,K3,hv3,hR3,hK3,hT3.kN⟩
   · rintro f2 H2 hk2 ⟨hf2,w2,K2,hv2,hR2,hK2,hT2⟩
     simp only[↓zP];exact⟨hf2,w2,K2,hv2,hR2,hK2,hT2.jN⟩
 · rintro f H1 hk ⟨hf,w,K,hv,hR,hK,hT⟩
   simp only[sm,List.cons.injEq,and_true] at hv;have :K=S:=FList.uniq ⟨hT.all hK.is,hK.srt⟩ hS.fl;subst this;simp only[↓zP,hv];refine⟨rfl,_,by simp only[↓zP,zR];rfl,?_⟩;exact⟨w,rfl,hR⟩
theorem vI (tag:Nat) {l:List Geo.V} {M:Nat} (hl:∀v∈l,Near M v) (hM:M≤2^18) (hlen:l.length≤64) {S:List (Geo.V×Int)} {L:Geo.V×Int→List Nat} (hS:Facs l S L) (H:Heap):
 Sound Tryz.prog gv 112 [.aT tag 3 (ivE l)] H (.ret (facR L S)) H:=(RowF.aXr (by simp only[sf,bG (show Nat.blt 0 2=true from rfl)]) (sG hl hM hlen hS) H).oO tag
theorem aDf (tag:Nat) {l:List Geo.V} {M:Nat} (hl:∀v∈l,Near M v) (hM:M≤2^18) (hlen:l.length≤64) {S:List (Geo.V×Int)} {L:Geo.V×Int→List Nat} (hS:Facs l S L) (hne:S≠[]) (H:Heap):
 Sound Tryz.prog gv 112 [.aT tag 3 (ivE l)] H (.ret (.aT (H.next+2) 5 (S.map (facC L)))) (H.alloc .tok):=by
 refine(mG bW (by simp only[sf,bG (show Nat.blt 0 2=true from rfl)]) (by simpa using hne) (bR (fK L) S) ?_ H).oO tag;obtain⟨out,H',⟨v,h1,h2⟩,hS'⟩:=sG hl hM hlen hS;refine⟨out,H',⟨v,h1,?_⟩,hS'⟩
 rcases h2 with ⟨h,_⟩|⟨_,k,e,h3,h4⟩
 · exact absurd h hne
 · exact .inr ⟨k,e,h3,h4⟩
end Go.Proofs.YtjiignefffdelaaGreatDoor
