/-
  Parts of the proof of statement 4: KRs, KRt
-/
import Derived.Test.YtjiignefffdelaaGreatDoorA43
set_option linter.unusedVariables false
set_option maxRecDepth 100000
set_option maxHeartbeats 16000000
namespace Go.Proofs.YtjiignefffdelaaGreatDoor
open Go Go.Av Go.Geo Go.Num
attribute [local congr] aU aN aO aM aW aR aP aL
attribute [local irreducible] FC FOps FD2
theorem aGm {v:Geo.V} {B:Nat} (hv:Near B v) (hB:B<2^62) (H:Heap):Sound Tryz.prog gv 64 [.agg (c3 fun i=>cI (v.at i))] H (.ret (.agg (ivC v))) H:=by
 refine Sp bEm (by simp only[sf,dI fun i _=>bK _]) (by simp only[sf,bA]) ?_ H;unfold W64;dsimp only;have hl:=fun i (hi:i<3)=>gE (c:=fun i=>cI (v.at i)) (fun i _=>bM _) hi;have l0:(c3 fun i=>cI (v.at i)).take 18=cI (v.at 0):=hl 0 (by decide);have l1:((c3 fun i=>cI (v.at i)).drop 18).take 18=cI (v.at 1):=hl 1 (by decide);have l2:((c3 fun i=>cI (v.at i)).drop 36).take 18=cI (v.at 2):=hl 2 (by decide);have h54:(c3 fun i=>cI (v.at i)).length=54:=cK fun _ _=>bM _
 have hs:∀i,∀H,Sound Tryz.prog gv 117 [.agg (cI (v.at i))] H (.ret (.tup [.int .i64 (v.at i),.bool true])) H:=fun i=>by
  have :=Near.c hv i;exact yH (by omega) (by omega)
 refine aA fun K hK=>?_;simp only[↓zP,zG,Nat.reduceLT,zI];apply hK;clear hK K;simp only[↓zP,zG,Nat.reduceLT,Nat.reduceEqDiff,Nat.reduceAdd,zI,Nat.reduceLeDiff,Nat.reduceMul,fS,h54,l0];refine bF (hs 0 _) ?_;simp only[↓zP,zG,Nat.reduceLT,Nat.reduceEqDiff,Nat.reduceAdd,zI,Nat.reduceLeDiff,h54,l1];refine bF (hs 1 _) ?_;simp only[↓zP,zG,Nat.reduceLT,Nat.reduceEqDiff,Nat.reduceAdd,zI,h54,l2];refine bF (hs 2 _) ?_;simp only[↓zP,zG,Nat.reduceLT,Nat.reduceEqDiff,Nat.reduceAdd,zI,Nat.reduceLeDiff];refine⟨rfl,_,by simp only[↓zP,zR,Nat.reduceEqDiff,Nat.reduceAdd];rfl,?_⟩;rfl
theorem aUy {a b Z:List AV} (ha:a.length=18) (hb:b.length=18) (hZ:Z.length=18):
 (if True∧36≤(a++Z).length∧True then some ((a++Z).take 18++b++(a++Z).drop 36) else none)=some (a++b):=by
 have hl:(a++Z).length=36:=by rw[List.length_append,ha,hZ]
 rw[if_pos ⟨trivial,by omega,trivial⟩,List.take_append_of_le_length (by omega),List.take_of_length_le (by omega),List.drop_of_length_le (by omega),List.append_nil]
theorem aDl {tag:Nat} (ht:Nat.blt tag 2=true) {l:List Geo.V} {M B:Nat} (hl:∀v∈l,Near M v) (hlen:l.length<2^30) {n:Geo.V} (hn:Near B n) (hM:M<2^31) (hB:B<2^31) (hs:3*(B*M)<2^62) {x0:Geo.V} {r:List Geo.V} (hx:l=x0::r) (H:Heap):
 Sound Tryz.prog gv 113 [.agg [.aT tag 3 (ivE l)],.agg (ivC n)] H (.ret (.agg (cI (loF n (Geo.dot n x0) l)++cI (hiF n (Geo.dot n x0) l)))) H:=by
 have hdot:∀v∈l,∀H,Sound Tryz.prog gv 168 [.agg (ivC n),.agg (ivC v)] H (.ret (.agg (cI (Geo.dot n v)))) H:=fun v hv H=>aSz hn (hl v hv) hB hM hs H;refine Sp aYb (by simp only[sf,bG ht,bA]) (by simp only[AV.free,eC,aHf];rfl) ?_ H;unfold W113;dsimp only
 have hx0:0<l.length:=by rw[hx];simp
 have hx0e:l[0]=x0:=by subst hx;rfl
 have g0:=bC hx0;have hd0:=hdot _ (List.getElem_mem hx0);have a0:asNat (.int .i64 0)=some 0:=rfl
 have c18:∀z,(cI z).length=18:=fun z=>by simp[cI,bH,bE]
 have d3:∀v:Geo.V,(ivC v).take 3=ivC v:=fun _=>rfl;refine aA fun K hK=>?_;simp only[↓zP,zG,Nat.reduceLT,Nat.reduceEqDiff,Nat.reduceAdd,zI];apply hK;clear hK K;generalize hX:(((Heap.mk 0 .nil).alloc _).alloc _).alloc _=HA
 have m0:HA.get 0=some (.cells [.aT tag 3 (ivE l)] false):=by subst hX;simp only[zI,Nat.reduceAdd,Nat.reduceEqDiff]
 have m1:HA.get 1=some (.cells (ivC n) false):=by subst hX;simp only[zI,Nat.reduceAdd,Nat.reduceEqDiff]
 obtain⟨z,m2,lz⟩:∃z,HA.get 2=some (.cells z false)∧z.length=36:=⟨_,by subst hX;simp only[zI,Nat.reduceAdd,Nat.reduceEqDiff];rfl,by simp[bH];rfl⟩
 have mn:HA.next=3:=by subst hX;simp only[zI,Nat.reduceAdd]
 have mf:FreeUp HA:=by subst hX;exact(((FreeUp.nil 0).alloc _).alloc _).alloc _
 clear hX;refine aA fun K hK=>?_;refine eY 1 (by decide) mf.at1 fun H1 n1 e1=>?_;simp only[↓zP,zG,Nat.reduceLT,Nat.reduceEqDiff,Nat.reduceAdd,zD,reduceCtorEq,zI,m0,m1,mn,e1,a0,aJ,hx0,g0,oL (aG l[0]),oL (aG n)]
 have z18:(AV.bool false::AV.bool false::wC zs).length=18:=by simp[bH];rfl
 refine cE (hd0 _) ?_;rw[hx0e];generalize hd:Geo.dot n x0=d0 at *;rw[mn] at n1;simp only[↓zP,zG,Nat.reduceLT,Nat.reduceEqDiff,Nat.reduceAdd,zD,reduceCtorEq,zI,c18,z18,oL z18,n1,e1];apply hK;clear hK K
 have f3:FreeUp H1:=fun j hj=>by rw[e1 j];exact mf j (by omega)
 generalize hX:(H1.set 3 _).set 3 _=HB
 have b0:HB.get 0=some (.cells [.aT tag 3 (ivE l)] false):=by subst hX;rw[Heap.aB,if_neg (by decide),Heap.aB,if_neg (by decide),e1];exact m0
 have b1:HB.get 1=some (.cells (ivC n) false):=by subst hX;rw[Heap.aB,if_neg (by decide),Heap.aB,if_neg (by decide),e1];exact m1
 have b2:HB.get 2=some (.cells z false):=by subst hX;rw[Heap.aB,if_neg (by decide),Heap.aB,if_neg (by decide),e1];exact m2
 have b3:HB.get 3=some (.cells (cI d0) false):=by subst hX;rw[Heap.aB,if_pos rfl]
 have bn:HB.next=4:=by subst hX;simp only[Heap.aS];omega
 have bf:FreeUp HB:=by subst hX;exact(f3.set (by omega) _).set (by simp only[Heap.aS];omega) _
 clear hX
 have hT:∀a b:Int,(cI a++cI b).take 18=cI a:=fun a b=>by rw[List.take_append_of_le_length (by rw[c18];exact Nat.le_refl _),←c18 a,List.take_length]
 have hD:∀a b:Int,(cI a++cI b).drop 18=cI b:=fun a b=>by rw[←c18 a,List.drop_left]
 have h36:∀a b:Int,(cI a++cI b).length=36:=fun a b=>by rw[List.length_append,c18,c18]
 refine aA fun K hK=>?_;simp only[↓zP,zG,Nat.reduceLT,Nat.reduceEqDiff,Nat.reduceAdd,zI,Nat.reduceLeDiff,b3,oL (c18 d0)];rw[aUy (c18 d0) (c18 d0) z18]
 have z36:(AV.bool false::AV.bool false::AV.int .u32 0::AV.int .u32 0::AV.int .u32 0::AV.int .u32 0::AV.int .u32 0::AV.int .u32 0::AV.int .u32 0::AV.int .u32 0::AV.int .u32 0::AV.int .u32 0::AV.int .u32 0::AV.int .u32 0::AV.int .u32 0::AV.int .u32 0::AV.int .u32 0::AV.int .u32 0::AV.bool false::AV.bool false::wC zs).length=36:=by simp[bH];rfl
 generalize (AV.bool false::AV.bool false::AV.int .u32 0::AV.int .u32 0::AV.int .u32 0::AV.int .u32 0::AV.int .u32 0::AV.int .u32 0::AV.int .u32 0::AV.int .u32 0::AV.int .u32 0::AV.int .u32 0::AV.int .u32 0::AV.int .u32 0::AV.int .u32 0::AV.int .u32 0::AV.int .u32 0::AV.int .u32 0::AV.bool false::AV.bool false::wC zs)=Z36 at *;simp only[zG,zI,h36,oL z36,bn];apply hK;clear hK K;generalize hX:((HB.alloc _).set 4 _)=HC
 have p0:HC.get 0=some (.cells [.aT tag 3 (ivE l)] false):=by subst hX;rw[Heap.aB,if_neg (by decide),Heap.aH,bn,if_neg (by decide)];exact b0
 have p1:HC.get 1=some (.cells (ivC n) false):=by subst hX;rw[Heap.aB,if_neg (by decide),Heap.aH,bn,if_neg (by decide)];exact b1
 have p2:HC.get 2=some (.cells z false):=by subst hX;rw[Heap.aB,if_neg (by decide),Heap.aH,bn,if_neg (by decide)];exact b2
 have p4:HC.get 4=some (.cells (cI d0++cI d0) false):=by subst hX;rw[Heap.aB,if_pos rfl]
 have pn:HC.next=5:=by subst hX;simp only[Heap.aS,Heap.aX];omega
 have pf:FreeUp HC:=by subst hX;exact(bf.alloc _).set (by simp only[Heap.aX];omega) _
 clear hX
 have lf1:loF n d0 (l.take 1)=d0:=by subst hx;simp[loF,hd]
 have hf1:hiF n d0 (l.take 1)=d0:=by subst hx;simp[hiF,hd]
 have hdn0:d0.natAbs≤3*(B*M):=by
  have :=fD hn (hl x0 (by rw[hx];simp))
  rwa [hd] at this
 have w16:3*(B*M)<W^16:=by
  have :2^62<W^16:=by decide
  omega
 refine aA fun K hK=>?_;refine aA fun K2 hK2=>?_;simp only[↓zP,zG,Nat.reduceLT];apply hK2;clear hK2 K2;refine bB [] (fun i _ H'=>H'.get 0=some (.cells [.aT tag 3 (ivE l)] false)∧H'.get 1=some (.cells (ivC n) false)∧H'.get 2=some (.cells z false)∧H'.get 4=some (.cells (cI (loF n d0 (l.take i))++cI (hiF n d0 (l.take i))) false)∧5≤H'.next∧FreeUp H'∧(loF n d0 (l.take i)).natAbs≤3*(B*M)∧(hiF n d0 (l.take i)).natAbs≤3*(B*M)) 1 l.length (by omega) (by omega) (by decide) ?_ ?_ ?_ ?_ ?_
 · simp only[aC];rfl
 · rw[lf1,hf1]
   exact⟨p0,p1,p2,p4,by omega,pf,hdn0,hdn0⟩
 · rintro i f H2 h0 hi hk e2 ⟨q0,_⟩
   have f2:f 2=.ref 0 0:=by rw[hk 2 rfl];simp only[aC,ne_eq,Nat.reduceEqDiff,not_false_eq_true]
   simp only[↓zP,zG,Nat.reduceLT,Nat.reduceEqDiff,zI,e2,f2,q0,aJ];exact⟨trivial,trivial,congrArg AV.bool (decide_eq_decide.2 (by omega))⟩
 · rintro i f H2 h0 hi hk e2 ⟨q0,q1,q2,q4,qn,qf,c1,c2⟩
   have f2:f 2=.ref 0 0:=by rw[hk 2 rfl];simp only[aC,ne_eq,Nat.reduceEqDiff,not_false_eq_true]
   have f3':f 3=.ref 1 0:=by rw[hk 3 rfl];simp only[aC,ne_eq,Nat.reduceEqDiff,not_false_eq_true]
   have f6:f 6=.ref 4 0:=by rw[hk 6 rfl];simp only[aC,ne_eq,Nat.reduceEqDiff,not_false_eq_true]
   have hg:=bC hi;have hmem:=List.getElem_mem hi;have hdi:=hdot _ hmem;have hdn:=fD hn (hl _ hmem)
   have hlo:loF n d0 (l.take (i+1))=if Geo.dot n l[i]<loF n d0 (l.take i) then Geo.dot n l[i] else loF n d0 (l.take i):=by
    unfold loF;rw[List.take_add_one,List.foldl_append];simp[hi]
   have hhi:hiF n d0 (l.take (i+1))=if Geo.dot n l[i]>hiF n d0 (l.take i) then Geo.dot n l[i] else hiF n d0 (l.take i):=by
    unfold hiF;rw[List.take_add_one,List.foldl_append];simp[hi]
   rw[hlo,hhi];generalize loF n d0 (l.take i)=lo at *;generalize hiF n d0 (l.take i)=hi' at *;generalize l[i]=x at *;generalize Geo.dot n x=d at *;refine aI ?_;refine aA fun K2 hK2=>?_;refine eY 1 (by decide) qf.at1 fun H3 n3 e3=>?_;simp only[↓zP,zG,Nat.reduceLT,Nat.reduceEqDiff,Nat.reduceAdd,zD,reduceCtorEq,zI,f2,f3',e2,q0,q1,e3,aD,aJ,hi,hg,oL (aG x),oL (aG n)];refine cE (hdi _) ?_;simp only[↓zP,zG,Nat.reduceLT,Nat.reduceEqDiff,Nat.reduceAdd,zD,reduceCtorEq,zI,c18,z18,oL z18,n3,e3];apply hK2;clear hK2 K2
   have f3:FreeUp H3:=fun j hj=>by rw[e3 j];exact qf j (by omega)
   generalize hX:(H3.set H2.next _).set H2.next _=H4
   have y0:H4.get 0=some (.cells [.aT tag 3 (ivE l)] false):=by subst hX;rw[Heap.aB,if_neg (by omega),Heap.aB,if_neg (by omega),e3];exact q0
   have y1:H4.get 1=some (.cells (ivC n) false):=by subst hX;rw[Heap.aB,if_neg (by omega),Heap.aB,if_neg (by omega),e3];exact q1
   have y2:H4.get 2=some (.cells z false):=by subst hX;rw[Heap.aB,if_neg (by omega),Heap.aB,if_neg (by omega),e3];exact q2
   have y4:H4.get 4=some (.cells (cI lo++cI hi') false):=by subst hX;rw[Heap.aB,if_neg (by omega),Heap.aB,if_neg (by omega),e3];exact q4
   have y8:H4.get H2.next=some (.cells (cI d) false):=by subst hX;rw[Heap.aB,if_pos rfl]
   have yn:5≤H4.next:=by subst hX;simp only[Heap.aS];omega
   have yf:FreeUp H4:=by subst hX;exact(f3.set (by omega) _).set (by simp only[Heap.aS];omega) _
   clear hX e3 f3
   have q8:H2.next<H4.next:=Classical.byContradiction fun h=>by have :=yf H2.next (by omega);rw[y8] at this;cases this
   clear n3;generalize H2.next=r8 at *
   have hc2:∀y:Int,(decide (cmpO (some d) (some y)<0)=decide (d<y))∧(decide (cmpO (some d) (some y)>0)=decide (d>y)):=fun y=>by
    constructor<;>(rw[decide_eq_decide];simp only[cmpO];split<;>(try split)<;>omega)
   refine aA fun K3 hK3=>?_
   have key:∀(f':Slt) (H':Heap) (lo2:Int),f' 8=.ref r8 0→f' 6=.ref 4 0→H'.get r8=some (.cells (cI d) false)→H'.get 0=some (.cells [.aT tag 3 (ivE l)] false)→H'.get 1=some (.cells (ivC n) false)→H'.get 2=some (.cells z false)→H'.get 4=some (.cells (cI lo2++cI hi') false)→5≤H'.next→FreeUp H'→lo2=(if d<lo then d else lo)→K3 f' [] H':=by
    intro f' H' lo2 v8 v6 u8 u0 u1 u2 u4 un uf plo;apply hK3;clear hK3 K3
    have hb2:(if d<lo then d else lo).natAbs≤3*(B*M):=by split<;>omega
    have hcm:=mS (x:=d) (y:=hi') (by omega) (by omega)
    have hl2:4<H'.next:=by omega
    refine aA fun K4 hK4=>?_;simp only[↓zP,zG,Nat.reduceLT,Nat.reduceEqDiff,Nat.reduceAdd,zI,v8,v6,u8,u4,h36,hD,oL (c18 d),oL (c18 hi')];refine bF (hcm _) ?_;by_cases c:d>hi'
    · have d2:decide (cmpO (some d) (some hi')>0)=true:=by rw[(hc2 hi').2];exact decide_eq_true c
      simp only[↓zP,zG,Nat.reduceLT,zI,d2];apply hK4;clear hK4 K4;simp only[↓zP,zG,Nat.reduceLT,Nat.reduceEqDiff,Nat.reduceAdd,zI,v8,v6,u8,u4,h36,hT,oL (c18 d),oL (h36 lo2 hi')];rw[if_pos c,←plo];exact⟨u0,u1,u2,rfl,un,uf.set hl2 _,by rw[plo];exact hb2,hdn⟩
    · have d2:decide (cmpO (some d) (some hi')>0)=false:=by rw[(hc2 hi').2];exact decide_eq_false c
      simp only[↓zP,zG,Nat.reduceLT,zI,d2];apply hK4;clear hK4 K4;simp only[↓zP,zG];rw[if_neg c,←plo];exact⟨u0,u1,u2,u4,un,uf,by rw[plo];exact hb2,c2⟩
   have hcm:=mS (x:=d) (y:=lo) (by omega) (by omega)
   have hl2:4<H4.next:=by omega
   clear hK3;refine aA fun K4 hK4=>?_;simp only[↓zP,zG,Nat.reduceLT,Nat.reduceEqDiff,zI,Nat.reduceLeDiff,f6,y8,y4,h36,hT,oL (c18 d)];refine bF (hcm _) ?_;by_cases c:d<lo
   · have d2:decide (cmpO (some d) (some lo)<0)=true:=by rw[(hc2 lo).1];exact decide_eq_true c
     simp only[↓zP,zG,Nat.reduceLT,zI,d2];apply hK4;clear hK4 K4;simp only[↓zP,zG,Nat.reduceLT,Nat.reduceEqDiff,zI,Nat.reduceLeDiff,f6,y8,y4,h36,hD,oL (c18 d)];refine key _ _ d (by simp only[aC,ne_eq,Nat.reduceEqDiff,not_false_eq_true]) (by simp only[aC,ne_eq,Nat.reduceEqDiff,not_false_eq_true];exact f6) ?_ ?_ ?_ ?_ ?_ ?_ (yf.set hl2 _) (if_pos c).symm
     · rw[Heap.aB,if_neg (by omega)];exact y8
     · rw[Heap.aB,if_neg (by omega)];exact y0
     · rw[Heap.aB,if_neg (by omega)];exact y1
     · rw[Heap.aB,if_neg (by omega)];exact y2
     · rw[Heap.aB,if_pos rfl]
     · simp only[Heap.aS];exact yn
   · have d2:decide (cmpO (some d) (some lo)<0)=false:=by rw[(hc2 lo).1];exact decide_eq_false c
     simp only[↓zP,zG,Nat.reduceLT,zI,d2];apply hK4;clear hK4 K4;simp only[↓zP,zG];exact key _ H4 lo (by simp only[aC,ne_eq,Nat.reduceEqDiff,not_false_eq_true]) (by simp only[aC,ne_eq,Nat.reduceEqDiff,not_false_eq_true];exact f6) y8 y0 y1 y2 y4 yn yf (if_neg c).symm
 · rintro f H2 hk ⟨q0,q1,q2,q4,qn,qf,c1,c2⟩
   have f4:f 4=.ref 2 0:=by rw[hk 4 rfl];simp only[aC,ne_eq,Nat.reduceEqDiff,not_false_eq_true]
   have f6:f 6=.ref 4 0:=by rw[hk 6 rfl];simp only[aC,ne_eq,Nat.reduceEqDiff,not_false_eq_true]
   rw[List.take_length] at q4;simp only[↓zP];apply hK;clear hK K;simp only[↓zP,zG,Nat.reduceLT,Nat.reduceEqDiff,zI,f4,f6,q4,h36,q2,lz,oL lz,oL (h36 (loF n d0 l) (hiF n d0 l))];refine⟨rfl,_,by simp only[↓zP,zR,Nat.reduceEqDiff,f4,h36,q2,oL (h36 (loF n d0 l) (hiF n d0 l))];rfl,?_⟩;rfl
theorem aTd {ta tb:Nat} (hta:Nat.blt ta 2=true) (htb:Nat.blt tb 2=true) {a b:List Geo.V} {M B:Nat} (ha:∀v∈a,Near M v) (hb:∀v∈b,Near M v) (hal:a.length<2^30) (hbl:b.length<2^30) (ha0:a≠[]) (hb0:b≠[]) {n:Geo.V} (hn:Near B n) (hM:M<2^31) (hB:B<2^31) (hs:3*(B*M)<2^62) (H:Heap):
 Sound Tryz.prog gv 62 [.agg [.aT ta 3 (ivE a)],.agg [.aT tb 3 (ivE b)],.agg (ivC n)] H (.ret (.bool (decide (n≠V0)&&sepD a b n))) H:=by
 obtain⟨xa,ra,hxa⟩:=List.exists_cons_of_ne_nil ha0;obtain⟨xb,rb,hxb⟩:=List.exists_cons_of_ne_nil hb0;have hsa:=fun H=>aDl hta ha hal hn hM hB hs hxa H;have hsb:=fun H=>aDl htb hb hbl hn hM hB hs hxb H
 have hsep:sepD a b n=(decide (hiF n (Geo.dot n xa) a≤loF n (Geo.dot n xb) b)||decide (hiF n (Geo.dot n xb) b≤loF n (Geo.dot n xa) a)):=by
  unfold sepD;rw[hxa,hxb];rfl
 refine Sp bEk (by simp only[sf,bG hta,bG htb,bA]) (by simp only[sf]) ?_ H;unfold W62;dsimp only;have hz:[AV.int .i64 0,AV.int .i64 0,AV.int .i64 0]=ivC V0:=rfl
 have c18:∀z,(cI z).length=18:=fun z=>by simp[cI,bH,bE]
 have hT:∀a b:Int,(cI a++cI b).take 18=cI a:=fun a b=>by rw[List.take_append_of_le_length (by rw[c18];exact Nat.le_refl _),←c18 a,List.take_length]
 have hD:∀a b:Int,(cI a++cI b).drop 18=cI b:=fun a b=>by rw[←c18 a,List.drop_left]
 have h36:∀a b:Int,(cI a++cI b).length=36:=fun a b=>by rw[List.length_append,c18,c18]
 have z36:(AV.bool false::AV.bool false::AV.int .u32 0::AV.int .u32 0::AV.int .u32 0::AV.int .u32 0::AV.int .u32 0::AV.int .u32 0::AV.int .u32 0::AV.int .u32 0::AV.int .u32 0::AV.int .u32 0::AV.int .u32 0::AV.int .u32 0::AV.int .u32 0::AV.int .u32 0::AV.int .u32 0::AV.int .u32 0::AV.bool false::AV.bool false::wC zs).length=36:=by simp[bH];rfl
 refine aA fun K hK=>?_;simp only[↓zP,zG,Nat.reduceLT,Nat.reduceEqDiff,Nat.reduceAdd,zI];apply hK;clear hK K;generalize hX:(((Heap.mk 0 .nil).alloc _).alloc _).alloc _=HA
 have m0:HA.get 0=some (.cells [.aT ta 3 (ivE a)] false):=by subst hX;simp only[zI,Nat.reduceAdd,Nat.reduceEqDiff]
 have m1:HA.get 1=some (.cells [.aT tb 3 (ivE b)] false):=by subst hX;simp only[zI,Nat.reduceAdd,Nat.reduceEqDiff]
 have m2:HA.get 2=some (.cells (ivC n) false):=by subst hX;simp only[zI,Nat.reduceAdd,Nat.reduceEqDiff]
 have mn:HA.next=3:=by subst hX;simp only[zI,Nat.reduceAdd]
 clear hX;refine aA fun K hK=>?_;by_cases hn0:n=V0
 · simp only[↓zP,zG,Nat.reduceLT,Nat.reduceEqDiff,zI,m2,oL (aG n),hz,dY,decide_eq_true hn0]
   refine⟨rfl,_,by simp only[↓zP,zR];rfl,?_⟩;rw[decide_eq_false (fun h=>h hn0)];rfl
 simp only[↓zP,zG,Nat.reduceLT,Nat.reduceEqDiff,zI,m2,oL (aG n),hz,dY,decide_eq_false hn0];apply hK;clear hK K;rw[decide_eq_true hn0,Bool.true_and,hsep];refine aA fun K hK=>?_;simp only[↓zP,zG,Nat.reduceLT,Nat.reduceEqDiff,zI,m0,m2,oL (aG n)];refine bF (hsa _) ?_;simp only[↓zP,zG,Nat.reduceLT,Nat.reduceEqDiff,Nat.reduceAdd,zI,mn,h36];apply hK;clear hK K
 have hBM:∀v,v∈a∨v∈b→(Geo.dot n v).natAbs≤3*(B*M):=fun v hv=>by
  rcases hv with h|h
  · exact fD hn (ha v h)
  · exact fD hn (hb v h)
 have da:=hBM xa (.inl (by rw[hxa];simp));have db:=hBM xb (.inr (by rw[hxb];simp));have lan:=pY (n:=n) (l:=a) da fun v hv=>hBM v (.inl hv);have han:=pR (n:=n) (l:=a) da fun v hv=>hBM v (.inl hv);have lbn:=pY (n:=n) (l:=b) db fun v hv=>hBM v (.inr hv);have hbn:=pR (n:=n) (l:=b) db fun v hv=>hBM v (.inr hv);generalize loF n (Geo.dot n xa) a=la at *;generalize hiF n (Geo.dot n xa) a=ua at *;generalize loF n (Geo.dot n xb) b=lb at *;generalize hiF n (Geo.dot n xb) b=ub at *;generalize hX:(HA.alloc _).set 3 _=HB
 have b1:HB.get 1=some (.cells [.aT tb 3 (ivE b)] false):=by subst hX;rw[Heap.aB,if_neg (by decide),Heap.aH,mn,if_neg (by decide)];exact m1
 have b2:HB.get 2=some (.cells (ivC n) false):=by subst hX;rw[Heap.aB,if_neg (by decide),Heap.aH,mn,if_neg (by decide)];exact m2
 have b3:HB.get 3=some (.cells (cI la++cI ua) false):=by subst hX;rw[Heap.aB,if_pos rfl]
 have bn:HB.next=4:=by subst hX;simp only[Heap.aS,Heap.aX];omega
 clear hX;refine aA fun K hK=>?_;simp only[↓zP,zG,Nat.reduceLT,Nat.reduceEqDiff,zI,b1,b2,oL (aG n)];refine bF (hsb _) ?_;simp only[↓zP,zG,Nat.reduceLT,Nat.reduceEqDiff,Nat.reduceAdd,zI,bn,h36];apply hK;clear hK K;generalize hX:(HB.alloc _).set 4 _=HC
 have p3:HC.get 3=some (.cells (cI la++cI ua) false):=by subst hX;rw[Heap.aB,if_neg (by decide),Heap.aH,bn,if_neg (by decide)];exact b3
 have p4:HC.get 4=some (.cells (cI lb++cI ub) false):=by subst hX;rw[Heap.aB,if_pos rfl]
 clear hX
 have w16:3*(B*M)<W^16:=by
  have :2^62<W^16:=by decide
  omega
 have hc1:=mS (x:=ua) (y:=lb) (by omega) (by omega);have hc2:=mS (x:=ub) (y:=la) (by omega) (by omega)
 have hle:∀x y:Int,decide (cmpO (some x) (some y)≤0)=decide (x≤y):=fun x y=>by
  rw[decide_eq_decide];simp only[cmpO];split<;>(try split)<;>omega
 refine aA fun K hK=>?_;simp only[↓zP,zG,Nat.reduceLT,Nat.reduceEqDiff,Nat.reduceAdd,zI,Nat.reduceLeDiff,p3,p4,h36,hT,hD,oL (c18 _)];refine bF (hc1 _) ?_;by_cases c:ua≤lb
 · have d1:decide (cmpO (some ua) (some lb)≤0)=true:=by rw[hle];exact decide_eq_true c
   simp only[↓zP,zG,Nat.reduceLT,Nat.reduceEqDiff,zI,d1];apply hK;clear hK K;simp only[↓zP];refine⟨rfl,_,by simp only[↓zP,zR];rfl,?_⟩;rw[decide_eq_true c];rfl
 · have d1:decide (cmpO (some ua) (some lb)≤0)=false:=by rw[hle];exact decide_eq_false c
   simp only[↓zP,zG,Nat.reduceLT,Nat.reduceEqDiff,Nat.reduceAdd,zI,Nat.reduceLeDiff,d1,p3,p4,h36,hT,hD,oL (c18 _)];refine bF (hc2 _) ?_;simp only[↓zP,zG,Nat.reduceLT,Nat.reduceEqDiff,zI,hle];apply hK;clear hK K;simp only[↓zP];refine⟨rfl,_,by simp only[↓zP,zR];rfl,?_⟩;rw[decide_eq_false c];rfl
theorem aAm {ta tb:Nat} (hta:Nat.blt ta 2=true) (htb:Nat.blt tb 2=true) {a b:List Geo.V} (ha:chkL a=0) (hb:chkL b=0) (na:∀v∈a,Near (2^12) v) (nb:∀v∈b,Near (2^12) v) (H:Heap):
 Sound Tryz.prog gv 28 [.agg [.aT ta 3 (ivE a)],.agg [.aT tb 3 (ivE b)]] H (.ret (.bool (disB a b))) H:=by
 obtain⟨U,lU,zU,mU,nU,fa,ea⟩:=vL hta ha na (by decide);obtain⟨W',lW,zW,mW,nW,fb,eb⟩:=vL htb hb nb (by decide);obtain⟨sa,_,ha1,ha2,ha3,ha4,_⟩:=jR ha;obtain⟨sb,_,hb1,hb2,hb3,hb4,_⟩:=jR hb;have hFa:=eM sa;have hFb:=eM sb
 have hsep:∀n,Near (2^27) n→∀H,Sound Tryz.prog gv 62 [.agg [.aT ta 3 (ivE a)],.agg [.aT tb 3 (ivE b)],.agg (ivC n)] H (.ret (.bool (decide (n≠V0)&&sepD a b n))) H:=fun n hn H=>
  aTd hta htb na nb (by omega) (by omega) ha4 hb4 hn (by decide) (by decide) (by decide) H
 have hrow:∀(T:List (List AV)),T=(facS a).map (facC (facL a))++(facS b).map (facC (facL b))→T.length≤128∧(∀i,i<T.length→∃n,(T.getD i []).take 3=ivC n∧(T.getD i []).length=5∧n≠V0∧IsD a b n∧Near (2^27) n)∧∀n d,(IsF (fun i=>a.getD i V0) a.length n d∨IsF (fun i=>b.getD i V0) b.length n d)→∃i,i<T.length∧(T.getD i []).take 3=ivC n:=by
  intro T hT
  have hm:∀x,x∈T→∃n,x.take 3=ivC n∧x.length=5∧n≠V0∧IsD a b n∧Near (2^27) n:=fun x hx=>by
   rw[hT,List.mem_append] at hx
   rcases hx with hx|hx
   · obtain⟨q,hq,rfl⟩:=List.mem_map.1 hx
     have hF:=(hFa.fl.mem q).1 hq;exact⟨q.1,rfl,rfl,hF.fct.hn,.inl ⟨q.2,hF⟩,fL na hF⟩
   · obtain⟨q,hq,rfl⟩:=List.mem_map.1 hx
     have hF:=(hFb.fl.mem q).1 hq;exact⟨q.1,rfl,rfl,hF.fct.hn,.inr (.inl ⟨q.2,hF⟩),fL nb hF⟩
  have hgm:∀x,x∈T→∃i,i<T.length∧T.getD i []=x:=fun x hx=>by
   obtain⟨i,hi,h⟩:=List.getElem_of_mem hx;exact⟨i,hi,by simp[List.getD,hi,h]⟩
  refine⟨by rw[hT];simp;omega,fun i hi=>?_,fun n d h=>?_⟩
  · have :T.getD i []=T[i]:=by simp[List.getD,hi]
    rw[this];exact hm _ (List.getElem_mem hi)
  · rcases h with h|h
    · obtain⟨i,hi,e⟩:=hgm (facC (facL a) (n,d)) (by rw[hT,List.mem_append];exact .inl (List.mem_map.2 ⟨_,(hFa.fl.mem (n,d)).2 h,rfl⟩))
      exact⟨i,hi,by rw[e];rfl⟩
    · obtain⟨i,hi,e⟩:=hgm (facC (facL b) (n,d)) (by rw[hT,List.mem_append];exact .inr (List.mem_map.2 ⟨_,(hFb.fl.mem (n,d)).2 h,rfl⟩))
      exact⟨i,hi,by rw[e];rfl⟩
 refine Sp bDo (by simp only[sf,bG hta,bG htb]) (by simp only[sf]) ?_ H;unfold W28;dsimp only
 have hbe:((facS b).map (facC (facL b))).isEmpty=false:=by simpa using hb1
 obtain⟨hTl,hTi,hTn⟩:=hrow _ rfl;refine aA fun K hK=>?_;simp only[↓zP,zG,Nat.reduceLT,Nat.reduceEqDiff,zI];apply hK;clear hK K;generalize hX:((Heap.mk 0 .nil).alloc _).alloc _=HA
 have m0:HA.get 0=some (.cells [.aT ta 3 (ivE a)] false):=by subst hX;simp only[zI,Nat.reduceEqDiff]
 have m1:HA.get 1=some (.cells [.aT tb 3 (ivE b)] false):=by subst hX;simp only[zI,Nat.reduceEqDiff]
 have mn:HA.next=2:=by subst hX;simp only[zI,Nat.reduceAdd]
 have mf:FreeUp HA:=by subst hX;exact((FreeUp.nil 0).alloc _).alloc _
 clear hX;refine aA fun K hK=>?_;simp only[↓zP,zG,Nat.reduceLT,Nat.reduceEqDiff,zI,m0];refine bF (fa _) ?_;simp only[↓zP,zG,Nat.reduceLT];apply hK;clear hK K;have oA:Own ((HA.alloc .tok).alloc .tok) 5 (.aT (HA.next+2) 5 ((facS a).map (facC (facL a)))) ((facS a).map (facC (facL a))):=.inr ⟨HA.next,rfl,by simp only[Heap.aX];omega,by rw[Heap.aH,if_neg (by simp only[Heap.aX];omega),Heap.aH,if_pos rfl]⟩;obtain⟨HB,z1,z2,z3,z4,z5⟩:=Has.push (.inr oA) (ys:=(facS b).map (facC (facL b))) (bytes:=56) hbe (by rw[List.length_append] at hTl;omega)
 have m0':((HA.alloc .tok).alloc .tok).get 0=some (.cells [.aT ta 3 (ivE a)] false):=by rw[Heap.aH,if_neg (by simp only[Heap.aX];omega),Heap.aH,if_neg (by omega)];exact m0
 have m1':(HA.alloc .tok).get 1=some (.cells [.aT tb 3 (ivE b)] false):=by rw[Heap.aH,if_neg (by omega)];exact m1
 have m1'':((HA.alloc .tok).alloc .tok).get 1=some (.cells [.aT tb 3 (ivE b)] false):=by rw[Heap.aH,if_neg (by simp only[Heap.aX];omega)];exact m1'
 have b0:=(z4 0 (by simp only[Heap.aX];omega) (by rw[m0'];simp)).trans m0';have b1:=(z4 1 (by simp only[Heap.aX];omega) (by rw[m1''];simp)).trans m1'';have bf:=z5 ((mf.alloc _).alloc _)
 have bn:2≤HB.next:=by rw[z2];simp only[Heap.aX];omega
 generalize hHA:HA.alloc .tok=HA1 at *;refine aA fun K hK=>?_;simp only[↓zP,zG,Nat.reduceLT,Nat.reduceEqDiff,zI,m1'];refine bF (fb _) ?_;simp only[↓zP,zG,Nat.reduceLT,Nat.reduceEqDiff];rw[show ∀(h:Heap) (x:List (List AV)) (t:Nat),elemsOf h 5 (.aT t 5 x)=some x from fun _ _ _=>rfl];simp only[z1,aZ,zI];apply hK;clear hK K;generalize (facS a).map (facC (facL a))++(facS b).map (facC (facL b))=T at *;generalize HA1.next+1+2=tg at *;clear z1 z2 z3 z4 z5 fa fb hbe oA;refine aA fun K hK=>?_;refine aA fun K2 hK2=>?_;simp only[↓zP,zG,Nat.reduceLT];apply hK2;clear hK2 K2;refine bB [] (fun i _ H'=>H'=HB∧∀j,j<i→∀n,(T.getD j []).take 3=ivC n→sepD a b n=false) 0 T.length (Nat.zero_le _) (by omega) (by decide) ?_ ?_ ?_ ?_ ?_
 · simp only[aC];rfl
 · exact⟨rfl,fun j hj=>absurd hj (Nat.not_lt_zero _)⟩
 · rintro i f H1 h0 hi hk e1 _
   have f5:f 5=.aT tg 5 T:=by rw[hk 5 rfl];simp only[aC,ne_eq,Nat.reduceEqDiff,not_false_eq_true]
   simp only[↓zP,zG,Nat.reduceLT,Nat.reduceEqDiff,zI,e1,f5];exact⟨trivial,trivial,congrArg AV.bool (decide_eq_decide.2 (by omega))⟩
 · rintro i f H1 h0 hi hk e1 ⟨rfl,hno⟩
   have f2:f 2=.ref 0 0:=by rw[hk 2 rfl];simp only[aC,ne_eq,Nat.reduceEqDiff,not_false_eq_true]
   have f3:f 3=.ref 1 0:=by rw[hk 3 rfl];simp only[aC,ne_eq,Nat.reduceEqDiff,not_false_eq_true]
   have f5:f 5=.aT tg 5 T:=by rw[hk 5 rfl];simp only[aC,ne_eq,Nat.reduceEqDiff,not_false_eq_true]
   obtain⟨n,t3,t5,hn0,hD,hnn⟩:=hTi i hi;have hse:=hsep n hnn;rw[decide_eq_true hn0,Bool.true_and] at hse
   have t3':3≤(T.getD i []).length:=by omega
   refine aI ?_;refine aA fun K2 hK2=>?_;refine aQ (by decide) ?_;simp only[↓zP,zG,Nat.reduceLT,Nat.reduceEqDiff,Nat.reduceAdd,zD,reduceCtorEq,zI,Nat.reduceLeDiff,f2,f3,f5,e1,b0,b1,aD,hi,t3,t5];refine cE (hse _) ?_;simp only[↓zP,zG,Nat.reduceLT,Nat.reduceAdd,zD,reduceCtorEq,zI];apply hK2;clear hK2 K2;by_cases hs:sepD a b n=true
   · simp only[↓zP,zG,Nat.reduceLT,hs]
     refine⟨rfl,_,by simp only[↓zP,zR];rfl,?_⟩;rw[show disB a b=true from fC.2 ⟨n,hD,hs⟩];rfl
   · have hs':sepD a b n=false:=by simpa using hs
     simp only[↓zP,zG,Nat.reduceLT,hs'];refine⟨trivial,fun j hj n' hn'=>?_⟩;by_cases hji:j=i
     · subst hji
       have :n'=n:=by
        rw[t3] at hn';obtain⟨x,y,z⟩:=n;obtain⟨x',y',z'⟩:=n';simp only[ivC,List.cons.injEq,AV.int.injEq,true_and,and_true] at hn';obtain⟨h1,h2,h3⟩:=hn';subst h1;subst h2;subst h3;rfl
       rw[this];exact hs'
     · exact hno j (by omega) n' hn'
 · rintro f H1 hk ⟨rfl,hno⟩
   have f2:f 2=.ref 0 0:=by rw[hk 2 rfl];simp only[aC,ne_eq,Nat.reduceEqDiff,not_false_eq_true]
   have f3:f 3=.ref 1 0:=by rw[hk 3 rfl];simp only[aC,ne_eq,Nat.reduceEqDiff,not_false_eq_true]
   simp only[↓zP];apply hK;clear hK K;refine aA fun K hK=>?_;simp only[↓zP,zG,Nat.reduceLT,zI,f2,b0];refine bF (ea _) ?_;simp only[↓zP,zG,Nat.reduceLT];apply hK;clear hK K;refine aA fun K hK=>?_;simp only[↓zP,zG,Nat.reduceLT,Nat.reduceEqDiff,zI,f3,b1];refine bF (eb _) ?_;simp only[↓zP,zG,Nat.reduceLT];apply hK;clear hK K;refine aA fun K hK=>?_;refine aA fun K2 hK2=>?_;simp only[↓zP,zG,Nat.reduceLT];apply hK2;clear hK2 K2;have hvl:∀i (h:i<U.length),(ivE U).getD i []=ivC U[i]:=fun i h=>bC h;have hwl:∀i (h:i<W'.length),(ivE W').getD i []=ivC W'[i]:=fun i h=>bC h;have hUl:(ivE U).length=U.length:=aJ _;have hWl:(ivE W').length=W'.length:=aJ _;refine bB [] (fun i _ H'=>H'.get 0=some (.cells [.aT ta 3 (ivE a)] false)∧H'.get 1=some (.cells [.aT tb 3 (ivE b)] false)∧2≤H'.next∧FreeUp H'∧∀u∈U.take i,∀w∈W',(decide (Geo.cross u w≠V0)&&sepD a b (Geo.cross u w))=false) 0 U.length (Nat.zero_le _) (by omega) (by decide) ?_ ?_ ?_ ?_ ?_
   · simp only[aC];rfl
   · exact⟨b0,b1,bn,bf,fun u hu=>by simp at hu⟩
   · rintro i g H2 h0 hi hk2 e2 _
     have g8:g 8=.aT 0 3 (ivE U):=by rw[hk2 8 rfl];simp only[aC,ne_eq,Nat.reduceEqDiff,not_false_eq_true]
     simp only[↓zP,zG,Nat.reduceLT,Nat.reduceEqDiff,zI,e2,g8,hUl];exact⟨trivial,trivial,congrArg AV.bool (decide_eq_decide.2 (by omega))⟩
   · rintro i g H2 h0 hi hk2 e2 ⟨c0,c1,cn,cf,hnu⟩
     have g2:g 2=.ref 0 0:=by rw[hk2 2 rfl];simp only[aC,ne_eq,Nat.reduceEqDiff,not_false_eq_true];exact f2
     have g3:g 3=.ref 1 0:=by rw[hk2 3 rfl];simp only[aC,ne_eq,Nat.reduceEqDiff,not_false_eq_true];exact f3
     have g8:g 8=.aT 0 3 (ivE U):=by rw[hk2 8 rfl];simp only[aC,ne_eq,Nat.reduceEqDiff,not_false_eq_true]
     have g9:g 9=.aT 0 3 (ivE W'):=by rw[hk2 9 rfl];simp only[aC,ne_eq,Nat.reduceEqDiff,not_false_eq_true]
     have hgu:=hvl i hi;have hum:=(mU _).1 (List.getElem_mem hi);have nu:=nU _ (List.getElem_mem hi)
     have htk:∀y,y∈U.take (i+1)→y∈U.take i∨y=U[i]:=fun y hy=>by
      rw[List.take_add_one,List.mem_append] at hy
      rcases hy with h|h
      · exact .inl h
      · simp[hi] at h;exact .inr h
     generalize U[i]=u at *;refine aI ?_;refine aA fun K2 hK2=>?_;simp only[↓zP,zG,Nat.reduceLT];apply hK2;clear hK2 K2;refine bB [] (fun j _ H'=>H'.get 0=some (.cells [.aT ta 3 (ivE a)] false)∧H'.get 1=some (.cells [.aT tb 3 (ivE b)] false)∧2≤H'.next∧FreeUp H'∧∀w∈W'.take j,(decide (Geo.cross u w≠V0)&&sepD a b (Geo.cross u w))=false) 0 W'.length (Nat.zero_le _) (by omega) (by decide) ?_ ?_ ?_ ?_ ?_
     · simp only[aC];rfl
     · exact⟨c0,c1,cn,cf,fun w hw=>by simp at hw⟩
     · rintro j g' H3 h0 hj hk3 e3 _
       have g9':g' 9=.aT 0 3 (ivE W'):=by rw[hk3 9 rfl];simp only[aC,ne_eq,Nat.reduceEqDiff,not_false_eq_true];exact g9
       simp only[↓zP,zG,Nat.reduceLT,Nat.reduceEqDiff,zI,e3,g9',hWl];exact⟨trivial,trivial,congrArg AV.bool (decide_eq_decide.2 (by omega))⟩
     · rintro j g' H3 h0 hj hk3 e3 ⟨d0,d1,dn,df,hnw⟩
       have g2':g' 2=.ref 0 0:=by rw[hk3 2 rfl];simp only[aC,ne_eq,Nat.reduceEqDiff,not_false_eq_true];exact g2
       have g3':g' 3=.ref 1 0:=by rw[hk3 3 rfl];simp only[aC,ne_eq,Nat.reduceEqDiff,not_false_eq_true];exact g3
       have g8':g' 8=.aT 0 3 (ivE U):=by rw[hk3 8 rfl];simp only[aC,ne_eq,Nat.reduceEqDiff,not_false_eq_true];exact g8
       have g9':g' 9=.aT 0 3 (ivE W'):=by rw[hk3 9 rfl];simp only[aC,ne_eq,Nat.reduceEqDiff,not_false_eq_true];exact g9
       have g10:g' 10=.int .i64 i:=by rw[hk3 10 rfl];simp only[aC,ne_eq,Nat.reduceEqDiff,not_false_eq_true];exact e2
       have hgw:=hwl j hj;have hwm:=(mW _).1 (List.getElem_mem hj);have nw:=nW _ (List.getElem_mem hj)
       have htk':∀y,y∈W'.take (j+1)→y∈W'.take j∨y=W'[j]:=fun y hy=>by
        rw[List.take_add_one,List.mem_append] at hy
        rcases hy with h|h
        · exact .inl h
        · simp[hj] at h;exact .inr h
       generalize W'[j]=w at *;have ncr:=dJ nu nw;have hcr:=aLn nu nw (by decide) (by decide);have hnr:=aGm ncr (by decide);have hse:=hsep (Geo.cross u w) ncr
       have hdis:(decide (Geo.cross u w≠V0)&&sepD a b (Geo.cross u w))=true→disB a b=true:=fun h=>by
        rw[Bool.and_eq_true,decide_eq_true_eq] at h;exact fC.2 ⟨_,.inr (.inr ⟨u,w,hum,hwm,rfl,h.1⟩),h.2⟩
       generalize hsv:(decide (Geo.cross u w≠V0)&&sepD a b (Geo.cross u w))=sv at *;have d3:∀v:Geo.V,(ivC v).take 3=ivC v:=fun _=>rfl;refine aI ?_;refine aA fun K2 hK2=>?_;refine eY 1 (by decide) df.at1 fun H4 n4 e4=>?_;simp only[↓zP,zG,Nat.reduceLT,Nat.reduceEqDiff,Nat.reduceAdd,zD,reduceCtorEq,zI,g8',g9',g10,e3,aD,hUl,hWl,hi,hj,hgu,hgw,oL (aG u),oL (aG w)];refine cE (hcr _) ?_;simp only[Nat.reduceAdd];refine cE (hnr _) ?_;generalize hcv:Geo.cross u w=cv at *;simp only[↓zP,zG,Nat.reduceLT,Nat.reduceEqDiff,Nat.reduceAdd,zD,zI,n4,e4,oL (aG cv)];apply hK2;clear hK2 K2
       have q0:¬(0=H3.next):=by omega
       have q1:¬(1=H3.next):=by omega
       generalize hX:(H4.set H3.next _).set H3.next _=H5
       have y0:H5.get 0=some (.cells [.aT ta 3 (ivE a)] false):=by subst hX;rw[Heap.aB,if_neg q0,Heap.aB,if_neg q0,e4];exact d0
       have y1:H5.get 1=some (.cells [.aT tb 3 (ivE b)] false):=by subst hX;rw[Heap.aB,if_neg q1,Heap.aB,if_neg q1,e4];exact d1
       have y2:H5.get H3.next=some (.cells (ivC cv) false):=by subst hX;rw[Heap.aB,if_pos rfl]
       have yn:2≤H5.next:=by subst hX;simp only[Heap.aS];omega
       have yf:FreeUp H5:=fun j hj=>by
        subst hX;simp only[Heap.aS] at hj;rw[Heap.aB,if_neg (by omega),Heap.aB,if_neg (by omega),e4];exact df j (by omega)
       clear hX;generalize H3.next=r5 at *;refine aA fun K2 hK2=>?_;simp only[↓zP,zG,Nat.reduceLT,Nat.reduceEqDiff,zI,g2',g3',y0,y1,y2,oL (aG cv)];refine bF (hse _) ?_;simp only[↓zP,zG,Nat.reduceLT];apply hK2;clear hK2 K2
       cases sv with
       |true=>
        simp only[↓zP,zG,Nat.reduceLT];refine⟨rfl,_,by simp only[↓zP,zR];rfl,?_⟩;rw[hdis rfl];rfl
       |false=>
        simp only[↓zP,zG,Nat.reduceLT];refine⟨y0,y1,yn,yf,fun y hy=>?_⟩
        rcases htk' y hy with h|rfl
        · exact hnw y h
        · rw[hcv];exact hsv
     · rintro g' H3 hk3 ⟨d0,d1,dn,df,hnw⟩
       rw[List.take_length] at hnw;simp only[↓zP,zG];refine⟨d0,d1,dn,df,fun y hy=>?_⟩
       rcases htk y hy with h|rfl
       · exact hnu y h
       · exact hnw
   · rintro g H2 hk2 ⟨c0,c1,cn,cf,hnu⟩
     rw[List.take_length] at hnu;simp only[↓zP];apply hK;clear hK K;simp only[↓zP,zG,Nat.reduceLT];refine⟨rfl,_,by simp only[↓zP,zR];rfl,?_⟩
     have :disB a b=false:=by
      rw[←Bool.not_eq_true,fC];rintro⟨n,hn,hs⟩
      rcases hn with ⟨d,h⟩|⟨d,h⟩|⟨u,w,hu,hw,rfl,hn0⟩
      · obtain⟨i,hi,e⟩:=hTn n d (.inl h)
        rw[hno i hi n e] at hs;cases hs
      · obtain⟨i,hi,e⟩:=hTn n d (.inr h)
        rw[hno i hi n e] at hs;cases hs
      · have :=hnu u ((mU u).2 hu) w ((mW w).2 hw)
        rw[decide_eq_true hn0,hs] at this;cases this
     rw[this];rfl
end Go.Proofs.YtjiignefffdelaaGreatDoor
