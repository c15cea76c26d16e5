/-
  Parts of the proof of statement 4: KRa, KRb, KRc
-/
import Derived.Test.YtjiignefffdelaaGreatDoorA26
import Derived.Test.YtjiignefffdelaaGreatDoorA21
import Derived.Test.YtjiignefffdelaaGreatDoorA22
import Derived.Test.YtjiignefffdelaaGreatDoorA23
set_option linter.unusedVariables false
set_option maxRecDepth 100000
set_option maxHeartbeats 16000000
namespace Go.Proofs.YtjiignefffdelaaGreatDoor
open Go Go.Av Go.Num
attribute [local congr] aU aN aO aM aW aR aP aL
attribute [local irreducible] FC FOps FD2
def nE (l:List Nat):List (List AV):=l.map fun(k:Nat)=>[AV.int .i64 (k:Int)]
theorem bT (on:List Nat):(nE on).length=on.length:=by simp[nE]
theorem zZ {on:List Nat} {i:Nat} (h:i<on.length):(nE on).getD i []=[AV.int .i64 (on[i]:Int)]:=bU h
theorem yA (a b:List Nat):nE (a++b)=nE a++nE b:=by simp[nE]
theorem aKq (a:List Nat):freeLL (nE a)=true:=bR (fun _=>by simp only[sf]) a
theorem iM {tag:Nat} (ht:Nat.blt tag 2=true) (l:List Nat):(AV.aT tag 1 (nE l)).free=true:=by
 simp only[AV.free,ht,aKq,Bool.and_self]
theorem Kc2 {α:Type} (a b d:α) (l:List α) (k:Nat):(a::b::l).getD (2+k) d=l.getD k d:=by
 rw[Nat.add_comm];rfl
theorem fF {l:List Nat} {k:Nat} (h:k<l.length):l.getD k 0=l[k]:=by simp[List.getD,h]
theorem aSy (H:Heap):Sound Tryz.prog gv 244 [] H (.ret (.agg badC)) H:=by
 refine Sp bAx (by simp only[sf]) (by simp only[sf,sfI]) ?_ H;unfold W244;dsimp only;simp only[↓zP,zG,Nat.reduceLT,Nat.reduceEqDiff,Nat.reduceAdd,zI,Nat.reduceLeDiff];exact⟨rfl,_,by simp only[↓zP,zR,Nat.reduceEqDiff,Nat.reduceAdd];rfl,rfl⟩
theorem mT {tag:Nat} (ht:Nat.blt tag 2=true) (l:List Nat) (hlen:l.length<2^30) (k:Nat) (hk:k<2^30) (H:Heap):Sound Tryz.prog gv 211 [.aT tag 1 (nE l),.int .i64 k] H (.ret (.int .i64 (l.getD k 0:Nat))) H:=by
 refine Sp bAk (by simp only[sf,iM ht]) (by simp only[sf]) ?_ H;unfold W211;dsimp only;simp only[↓zP,zG,Nat.reduceLT,Nat.reduceEqDiff,zI,bT];refine⟨fun h=>?_,fun h=>?_⟩
 · have h':k<l.length:=by omega
   have hg:=zZ h';simp only[zG,zI,aD,h',hg,fF h'];exact⟨rfl,_,by simp only[↓zP,zR];rfl,rfl⟩
 · have h':¬k<l.length:=by omega
   have :l.getD k 0=0:=by rw[List.getD_eq_getElem?_getD,List.getElem?_eq_none (by omega)];rfl
   rw[this];exact⟨rfl,_,by simp only[↓zP,zR];rfl,rfl⟩
theorem _root_.Go.Av.Sound.aTh {P:Program} {g:Genv} {f:FuncId} {x:AV} {sz:Nat} {els:List (List AV)} {rest:List AV} {H H':Heap} {out:Out} (h:Sound P g f (x::.aT 0 sz els::rest) H out H') (tag:Nat):
 Sound P g f (x::.aT tag sz els::rest) H out H':=by
 refine⟨h.1,fun G w vs hw hv=>h.2 G w vs hw ⟨hv.1,fun j hj=>?_⟩⟩;have :=hv.2 j hj
 match j with
 |0=>exact this
 |1=>exact VR.oO this
 |j+2=>exact this
theorem aXf (l:List Nat) (hlen:l.length<2^30) (H:Heap):Sound Tryz.prog gv 210 [.aT 0 1 (nE l)] H (.ret (.aT 0 1 (nE (trimL l)))) H:=by
 have ht:Nat.blt 0 2=true:=rfl;refine Sp bAj (by simp only[sf,iM ht]) (by simp only[iM ht]) ?_ H;unfold W210;dsimp only;simp only[↓zP,zG,Nat.reduceLT,Nat.reduceEqDiff,zI,bT];refine aI ?_;refine dM [3] (fun n vs H'=>H'=⟨0,.nil⟩∧vs=[.int .i64 n]∧n≤l.length∧∀k,n≤k→k<l.length→l.getD k 0=0) l.length (by rfl) ?_ ?_
 · exact⟨rfl,by simp only[sm,aC],Nat.le_refl _,fun k h1 h2=>absurd h2 (by omega)⟩
 · rintro n f H1 hk ⟨rfl,hv,hn,hz⟩
   simp only[sm,List.cons.injEq,and_true] at hv
   have f0:f 0=.aT 0 1 (nE l):=by rw[hk 0 rfl];simp only[aC,ne_eq,Nat.reduceEqDiff,not_false_eq_true,startF,List.getD_cons_zero]
   have htk:(nE l).take n=nE (l.take n):=by simp[nE]
   have hsl:sliceA 1 (.aT 0 1 (nE l)) none (some n) none=some (.aT 0 1 (nE (l.take n))):=by
    simp only[sliceA,Option.getD_none,Option.getD_some];rw[if_pos ⟨trivial,Nat.zero_le _,by rw[bT];exact hn⟩];split
    · rename_i h
      rw[bT] at h;rw[h.1,List.take_length,List.drop_zero]
    · rw[List.drop_zero,Nat.sub_zero,htk]
   have hfin:(n=0∨l.getD (n -1) 0≠0)→l.take n=trimL l:=fun h=>kS hn hz h;by_cases h0:n=0
   · have hd:decide ((n:Int)>0)=false:=decide_eq_false (by omega)
     rw[hfin (.inl h0)] at hsl;simp only[↓zP,zG,Nat.reduceLT,Nat.reduceEqDiff,zI,hv,hd,f0,optNat,aD,hsl,Option.isSome_none,Option.isSome_some];refine⟨rfl,_,by simp only[↓zP,zR];rfl,?_⟩;rfl
   · have hd:decide ((n:Int)>0)=true:=decide_eq_true (by omega)
     have w1:IntKind.i64.wrap ((n:Int) -1)=((n -1:Nat):Int):=by rw[wrap_i64 (by omega) (by omega)];omega
     have hn1:n -1<l.length:=by omega
     have hg:=zZ hn1;by_cases hz0:l[n -1]=0
     · have hb:(((l[n -1]:Nat):Int)==0)=true:=by rw[hz0];rfl
       simp only[↓zP,zG,Nat.reduceLT,Nat.reduceEqDiff,zI,hv,hd,f0,w1,aD,bT,hn1,hg,hb];refine aI ?_;simp only[↓zP,zG,Nat.reduceLT,Nat.reduceEqDiff,zI,hv,w1];refine⟨n -1,by omega,trivial,rfl,by omega,fun k h1 h2=>?_⟩;by_cases e:k=n -1
       · subst e;rw[fF hn1];exact hz0
       · exact hz k (by omega) h2
     · have hb:(((l[n -1]:Nat):Int)==0)=false:=by rw[beq_eq_false_iff_ne];omega
       rw[hfin (.inr (by rw[fF hn1];exact hz0))] at hsl;simp only[↓zP,zG,Nat.reduceLT,Nat.reduceEqDiff,zI,hv,hd,f0,w1,aD,bT,hn1,hg,hb,optNat,hsl,Option.isSome_none,Option.isSome_some];refine⟨rfl,_,by simp only[↓zP,zR];rfl,?_⟩;rfl
theorem vN (tag:Nat) (l:List Nat) (hlen:l.length<2^30) (H:Heap):Sound Tryz.prog gv 210 [.aT tag 1 (nE l)] H (.ret (.aT 0 1 (nE (trimL l)))) H:=(aXf l hlen H).oO tag
def allZ (l:List Nat) (i:Nat):Bool:=(List.range i).all fun k=>((l.getD k 0:Nat):Int)==0
theorem aJq (l:List Nat) (i:Nat):allZ l (i+1)=(allZ l i&&(((l.getD i 0:Nat):Int)==0)):=by
 unfold allZ;rw[List.range_succ,List.all_append];simp
theorem aQs {l:List Nat} (hl:L16 l):allZ l 16=decide (l=zs):=by
 unfold allZ;rw[Bool.eq_iff_iff,List.all_eq_true,decide_eq_true_eq];constructor
 · intro h
   refine List.ext_getElem (by rw[hl.1];rfl) fun k h1 h2=>?_;have :=h k (List.mem_range.2 (by rw[hl.1] at h1;exact h1));rw[beq_iff_eq,fF h1] at this;have h3:zs[k]∈zs:=List.getElem_mem h2;rw[List.eq_of_mem_replicate h3];omega
 · rintro rfl k hk
   have hk':k<zs.length:=List.mem_range.1 hk;have h3:zs[k]'hk'=0:=List.eq_of_mem_replicate (List.getElem_mem hk');rw[beq_iff_eq,fF hk',h3];rfl
theorem aLs (b n:Bool) {l:List Nat} (hl:L16 l) (H:Heap):Sound Tryz.prog gv 209 [.agg (.bool b::.bool n::wC l)] H (.ret (.bool (if b then decide (l=zs)&& !n else !decide (l=zs)|| !n))) H:=by
 refine Sp bAh (by simp only[sf]) (by simp only[sf]) ?_ H;unfold W209;dsimp only;simp only[↓zP,zG,Nat.reduceLT,Nat.reduceEqDiff,zI];refine bB [3] (fun i vs H'=>H'=((⟨0,.nil⟩:Heap).alloc (.cells (.bool b::.bool n::wC l) false))∧vs=[.bool (allZ l i)]) 0 16 (by decide) (by decide) (by decide) ?_ ?_ ?_ ?_ ?_
 · simp only[aC];rfl
 · exact⟨rfl,by simp only[sm,aC,Nat.reduceEqDiff];rfl⟩
 · rintro i f H1 h0 hi hk e1 ⟨rfl,hv⟩
   simp only[↓zP,zG,Nat.reduceLT,zI,e1];exact⟨trivial,trivial,congrArg AV.bool (decide_eq_decide.2 (by omega))⟩
 · rintro i f H1 h0 hi hk e1 ⟨rfl,hv⟩
   simp only[sm,List.cons.injEq,and_true] at hv
   have f1:f 1=.ref 0 0:=by rw[hk 1 rfl];simp only[aC,ne_eq,Nat.reduceEqDiff,not_false_eq_true]
   have hg:=iU (l:=l) (i:=i) (by rw[hl.1];omega)
   have hlen:(wC l).length=16:=by rw[bH,hl.1]
   have hg2:(AV.bool b::.bool n::wC l).getD (2+i) undefA=.int .u32 (l.getD i 0):=by rw[Kc2];exact hg
   have h2i:2+i≤17:=by omega
   refine aI ?_;rw[aJq]
   cases hb:allZ l i with
   |false=>
    rw[hb] at hv;simp only[↓zP,zG,Nat.reduceLT,Nat.reduceEqDiff,zI,hv,Bool.false_and]
   |true=>
    rw[hb] at hv;simp only[↓zP,zG,Nat.reduceLT,Nat.reduceEqDiff,Nat.reduceAdd,zI,Nat.reduceLeDiff,hv,f1,e1,aD,hi,hlen,hg2,h2i,Bool.true_and]
 · rintro f H1 hk ⟨rfl,hv⟩
   simp only[sm,List.cons.injEq,and_true] at hv
   have f1:f 1=.ref 0 0:=by rw[hk 1 rfl];simp only[aC,ne_eq,Nat.reduceEqDiff,not_false_eq_true]
   rw[aQs hl] at hv;cases b<;>cases h:decide (l=zs)<;>rw[h] at hv
   · simp only[↓zP,zG,zI,Nat.reduceLeDiff,f1,hv]
     exact⟨rfl,_,by simp only[↓zP,zR];rfl,rfl⟩
   · simp only[↓zP,zG,Nat.reduceAdd,zI,Nat.reduceLeDiff,f1,hv]
     exact⟨rfl,_,by simp only[↓zP,zR];rfl,rfl⟩
   · simp only[↓zP,zG,zI,Nat.reduceLeDiff,f1,hv]
     exact⟨rfl,_,by simp only[↓zP,zR];rfl,rfl⟩
   · simp only[↓zP,zG,Nat.reduceAdd,zI,Nat.reduceLeDiff,f1,hv]
     exact⟨rfl,_,by simp only[↓zP,zR];rfl,rfl⟩
theorem aLq (b n:Bool) {l:List Nat} (hl:L16 l) (H:Heap):Sound Tryz.prog gv 169 [.agg (.bool b::.bool n::wC l)] H (.ret (.bool (goodW b n l))) H:=by
 refine Sp aZp (by simp only[sf]) (by simp only[sf]) ?_ H;unfold W169;dsimp only;have hv:=aLs b n hl;unfold goodW;simp only[↓zP,zG,Nat.reduceLT,Nat.reduceEqDiff,Nat.reduceAdd,zI,iL hl];cases b<;>cases n<;>cases h:decide (l=zs)<;>rw[h] at hv
 · refine bF (hv _) ?_
   simp only[↓zP,zG,Nat.reduceLT,Nat.reduceEqDiff,zI,Nat.reduceLeDiff];exact⟨rfl,_,by simp only[↓zP,zR];rfl,rfl⟩
 · refine bF (hv _) ?_
   simp only[↓zP,zG,Nat.reduceLT,Nat.reduceEqDiff,zI,Nat.reduceLeDiff];exact⟨rfl,_,by simp only[↓zP,zR];rfl,rfl⟩
 · refine bF (hv _) ?_
   simp only[↓zP,zG,Nat.reduceLT,Nat.reduceEqDiff,zI,Nat.reduceLeDiff];exact⟨rfl,_,by simp only[↓zP,zR];rfl,rfl⟩
 · refine bF (hv _) ?_
   simp only[↓zP,zG,Nat.reduceLT,Nat.reduceEqDiff,zI,Nat.reduceLeDiff];exact⟨rfl,_,by simp only[↓zP,zR];rfl,rfl⟩
 · refine bF (hv _) ?_
   simp only[↓zP,zG,Nat.reduceLT,Nat.reduceEqDiff,zI,Nat.reduceLeDiff];exact⟨rfl,_,by simp only[↓zP,zR];rfl,rfl⟩
 · refine bF (hv _) ?_
   simp only[↓zP,zG,Nat.reduceLT,Nat.reduceEqDiff,zI,Nat.reduceLeDiff];exact⟨rfl,_,by simp only[↓zP,zR];rfl,rfl⟩
 · refine bF (hv _) ?_
   simp only[↓zP,zG,Nat.reduceLT,Nat.reduceEqDiff,zI,Nat.reduceLeDiff];exact⟨rfl,_,by simp only[↓zP,zR];rfl,rfl⟩
 · refine bF (hv _) ?_
   simp only[↓zP,zG,Nat.reduceLT,Nat.reduceEqDiff,zI,Nat.reduceLeDiff];exact⟨rfl,_,by simp only[↓zP,zR];rfl,rfl⟩
theorem iC {v:List AV} {x:Option Int} (h:IsI v x) (H:Heap):Sound Tryz.prog gv 169 [.agg v] H (.ret (.bool x.isSome)) H:=by
 obtain⟨b,n,l,hl,rfl,rfl⟩:=h
 have :(valI b n l).isSome=goodW b n l:=by
  unfold valI;cases goodW b n l<;>rfl
 rw[this];exact aLq b n hl H
theorem aCh {l:List Nat} {i:Nat} (h:i<l.length):halves (l.take (i+1))=halves (l.take i)++[l[i]%65536,l[i] / 65536]:=by
 unfold halves;rw[List.take_add_one,List.flatMap_append,List.getElem?_eq_getElem h];simp
theorem nZ (l:List Nat):(halves l).length=2*l.length:=by
 induction l with
 |nil=>rfl
 |cons x l ih=>
  have :halves (x::l)=x%65536::x / 65536::halves l:=rfl;rw[this];simp only[List.length_cons,ih];omega
theorem iE (b n:Bool) {l:List Nat} (hl:L16 l) (H:Heap):Sound Tryz.prog gv 170 [.agg (.bool b::.bool n::wC l)] H (.ret (.aT 0 1 (nE (dg (ofL l))))) H:=by
 refine bZ fit bW aZq (Nat.le_of_ble_eq_true rfl) (by simp only[sf]) ?_ H;unfold W170;dsimp only;simp only[↓zP,zG,Nat.reduceLT,zI];refine bB [3] (fun i vs H'=>∃v,vs=[v]∧H'.get 0=some (.cells (.bool b::.bool n::wC l) false)∧1≤H'.next∧Own H' 1 v (nE (halves (l.take i)))) 0 16 (by decide) (by decide) (by decide) ?_ ?_ ?_ ?_ ?_
 · simp only[aC];rfl
 · exact⟨.nilsl,by simp only[sm,aC,Nat.reduceEqDiff],by simp only[zI],by simp only[zI,Nat.reduceLeDiff],.nil _ _⟩
 · rintro i f H1 h0 hi hk e1 ⟨v,hv,g0,hn,ho⟩
   simp only[↓zP,zG,Nat.reduceLT,zI,e1];exact⟨trivial,trivial,congrArg AV.bool (decide_eq_decide.2 (by omega))⟩
 · rintro i f H1 h0 hi hk e1 ⟨v,hv,g0,hn,ho⟩
   simp only[sm,List.cons.injEq,and_true] at hv
   have f1:f 1=.ref 0 0:=by rw[hk 1 rfl];simp only[aC,ne_eq,Nat.reduceEqDiff,not_false_eq_true]
   have hil:i<l.length:=by rw[hl.1];exact hi
   have hg2:(AV.bool b::.bool n::wC l).getD (2+i) undefA=.int .u32 (l[i]:Nat):=by
    rw[Kc2,iU hil,fF hil]
   have h2i:2+i≤17:=by omega
   have hlt:=hl.2 _ (List.getElem_mem hil);have hht:=aCh hil;have hhl:=nZ (l.take i);rw[hht,yA];generalize halves (l.take i)=done at *;generalize l[i]=w at *;have hW:w<4294967296:=hlt
   have w1:IntKind.i64.wrap ((w:Int).tmod 65536)=((w%65536:Nat):Int):=by
    rw[Int.tmod_eq_emod_of_nonneg (by omega),wrap_i64 (by omega) (by omega)];omega
   have w2:IntKind.i64.wrap (IntKind.u32.wrap ((w:Int).tdiv 65536))=((w / 65536:Nat):Int):=by
    rw[Int.tdiv_eq_ediv_of_nonneg (by omega),wB (k:=.u32) rfl,wrap_i64 (by simp only[IntKind.bits];omega) (by simp only[IntKind.bits];omega)];simp only[IntKind.bits];omega
   obtain⟨H5,z1,z2,z3,z4,z5⟩:=Has.push (.inr ho) (ys:=nE [w%65536,w / 65536]) (bytes:=8) rfl (by simp only[bT,hhl,List.length_take,List.length_cons,List.length_nil];omega);refine aI ?_;refine aQ (by decide) ?_;simp only[↓zP,zG,Nat.reduceLT,Nat.reduceEqDiff,Nat.reduceAdd,zD,reduceCtorEq,zI,Nat.reduceLeDiff,Int.reduceEq,f1,g0,hv,e1,aD,hi,hg2,h2i,iL hl,w1,w2];rw[show ∀(h:Heap) (x y:List AV),elemsOf h 1 (.aT 1 1 [x,y])=some [x,y] from fun _ _ _=>rfl];rw[show nE [w%65536,w / 65536]=[[.int .i64 ((w%65536:Nat):Int)],[.int .i64 ((w / 65536:Nat):Int)]] from rfl] at z1 ⊢;simp only[z1,aZ];exact⟨by omega,_,rfl,(z4 0 (by omega) (by rw[g0];simp)).trans g0,by omega,.inr ⟨H1.next,rfl,by omega,z3⟩⟩
 · rintro f H1 hk ⟨v,hv,g0,hn,ho⟩
   simp only[sm,List.cons.injEq,and_true] at hv
   have hl16:l.take 16=l:=by rw[←hl.1,List.take_length]
   rw[hl16] at ho
   have hne:nE (halves l)≠[]:=by
    intro h;have :=congrArg List.length h;rw[bT,nZ,hl.1] at this;cases this
   rcases ho with ⟨_,h⟩|⟨k,rfl,h1,h2⟩
   · exact absurd h hne
   · simp only[↓zP,hv]
     refine bF (vN (k+2) (halves l) (by rw[nZ,hl.1];decide) _) ?_;rw[qP (wW hl.2),sL];simp only[↓zP,zG,Nat.reduceLT];refine⟨rfl,_,by simp only[↓zP,zR];rfl,?_⟩;exact⟨_,0,rfl,fun nw=>jL (iM rfl _)⟩
theorem gV {n:Nat}:(dg n).length≤32↔n<W^16:=by
 have e:(65536:Nat)^32=W^16:=pow_even 16;constructor
 · intro h
   have h1:=mX (oS n);rw[kT] at h1;rw[←e];exact Nat.lt_of_lt_of_le h1 (Nat.pow_le_pow_right (by decide) h)
 · intro h
   rw[←e] at h;exact xC h
theorem aFl {d:List Nat} (hd:DD d) {m:Nat} (h:2*m<d.length) (hm:d.length≤32):limb (valD (d.take (2*m))) m=0∧(limbs 16 (valD (d.take (2*m)))).set m (d.getD (2*m) 0)=limbs 16 (valD (d.take (2*m+1))):=by
 have h1:=gL hd (k:=2*m) (by omega);rw[pow_even] at h1;have h0:limb (valD (d.take (2*m))) m=0:=mO h1;have h2:=hd.getD (2*m);have hW:W=4294967296:=rfl;have h3:=xX (v:=valD (d.take (2*m))) (X:=d.getD (2*m) 0) (m:=m) (by omega) (Nat.lt_of_lt_of_le h1 (Nat.pow_le_pow_right (by decide) (by omega))) (by rw[h0];omega);rw[h0,Nat.zero_add] at h3;refine⟨h0,?_⟩;rw[h3,rO h,pow_even,Nat.mul_comm (W^m)]
theorem aKx {d:List Nat} (hd:DD d) {m:Nat} (h:2*m+1<d.length) (hm:d.length≤32):limb (valD (d.take (2*m+1))) m<65536∧(limbs 16 (valD (d.take (2*m+1)))).set m (limb (valD (d.take (2*m+1))) m+d.getD (2*m+1) 0*65536)=limbs 16 (valD (d.take (2*m+1+1))):=by
 have h1:=gL hd (k:=2*m+1) (by omega);rw[pow_odd] at h1;have h0:=(aFk h1).1;have h2:=hd.getD (2*m+1);have hW:W=4294967296:=rfl
 have hlt:valD (d.take (2*m+1))<W^16:=by
  have :=gL hd (k:=2*m+1) (by omega);have e:(65536:Nat)^32=W^16:=pow_even 16;rw[←e];exact Nat.lt_of_lt_of_le this (Nat.pow_le_pow_right (by decide) (by omega))
 have h3:=xX (v:=valD (d.take (2*m+1))) (X:=d.getD (2*m+1) 0*65536) (m:=m) (by omega) hlt (by omega);refine⟨h0,?_⟩;rw[h3,rO h,pow_odd];congr 1;rw[Nat.mul_assoc,Nat.mul_comm (d.getD (2*m+1) 0)]
theorem bCq {a b:AV} {l:List Nat} {i:Nat} (h:i<l.length) (x:Nat):(a::b::wC l).take (2+i)++[AV.int .u32 (x:Int)]++(b::wC l).drop (2+i)=a::b::wC (l.set i x):=by
 rw[←mY h,Nat.add_comm 2 i];simp[splice]
theorem aXn (neg:Bool) {n:Nat} (hn:n<W^16):cI (sg neg n)=.bool false::.bool (neg&& !decide (n=0))::wC (limbs 16 n):=by
 cases neg with
 |false=>simp[cI,sg]
 |true=>
  simp only[cI,sg,if_true,Int.natAbs_neg,Int.natAbs_natCast,Bool.true_and];congr 2;by_cases h:n=0
  · subst h;simp
  · simp[h];omega
theorem aPo (neg:Bool) {l:List Nat} (hl:DD l) (hlen:l.length<2^30) (H:Heap):Sound Tryz.prog gv 212 [.bool neg,.aT 0 1 (nE l)] H (.ret (.agg (cO (norm (sg neg (valD l)))))) H:=by
 have ht0:Nat.blt 0 2=true:=rfl;refine Sp bAl (by simp only[sf,iM ht0]) (by simp only[AV.free,pJ]) ?_ H;unfold W212;dsimp only;refine aA fun K hK=>?_;simp only[↓zP,zG,Nat.reduceLT,zI];apply hK;clear hK K;refine aA fun K hK=>?_;simp only[↓zP,zG,Nat.reduceLT,Nat.reduceEqDiff,zI];refine bF (vN 0 l hlen _) ?_;rw[qP hl];simp only[↓zP,zG,Nat.reduceLT];apply hK;clear hK K;have hd:=oS (valD l);have hv:=kT (valD l);have hi:=gV (n:=valD l);by_cases hb:valD l<W^16
 · have h32:=hi.2 hb
   have d1:decide (((dg (valD l)).length:Int)>32)=false:=decide_eq_false (by omega)
   have hnorm:norm (sg neg (valD l))=some (sg neg (valD l)):=by
    unfold norm;rw[if_pos (by rw[dR];exact hb)]
   rw[hnorm];simp only[cO];rw[aXn neg hb]
   have hne:decide (valD l=0)= !decide (((dg (valD l)).length:Int)>0):=by
    rw[←decide_not,decide_eq_decide,←zJ (n:=valD l)];constructor
    · intro h;rw[h];simp
    · intro h
      exact List.eq_nil_of_length_eq_zero (by omega)
   rw[hne,Bool.not_not];generalize valD l=n at *;generalize dg n=d at *;clear hl hlen hi;subst hv;refine aA fun K hK=>?_;simp only[↓zP,zG,Nat.reduceLT,zI,bT,d1];apply hK;clear hK K;refine aA fun K hK=>?_
   have key:∀f:Slt,f 4=.ref 0 0→f 5=.aT 0 1 (nE d)→f 6=.ref 1 0→K f [] (((((⟨0,.nil⟩:Heap).alloc (.cells (.bool false::.bool false::wC zs) false)).alloc (.cells (.bool false::.bool false::wC zs) false)).set 1 (.cells (.bool false::.bool (neg&&decide ((d.length:Int)>0))::wC zs) false))):=by
    intro f f4 f5 f6;apply hK;clear hK K;generalize (neg&&decide ((d.length:Int)>0))=ng
    have hzs:wC zs=wC (limbs 16 (valD (d.take 0))):=by rw[List.take_zero];rfl
    simp only[↓zP,zG,Nat.reduceLT,Nat.reduceEqDiff,zI];refine bB [] (fun k vs H'=>H'.get 0=some (.cells (.bool false::.bool false::wC zs) false)∧H'.get 1=some (.cells (.bool false::.bool ng::wC (limbs 16 (valD (d.take k)))) false)) 0 d.length (Nat.zero_le _) (by omega) (by decide) ?_ ?_ ?_ ?_ ?_
    · simp only[aC];rfl
    · exact⟨by simp only[zI,Nat.reduceEqDiff],by rw[←hzs];simp only[zI,Nat.reduceEqDiff]⟩
    · rintro i f H1 h0 hi hk e1 ⟨g0,g1⟩
      have e5:f 5=.aT 0 1 (nE d):=by rw[hk 5 rfl];simp only[aC,ne_eq,Nat.reduceEqDiff,not_false_eq_true];exact f5
      simp only[↓zP,zG,Nat.reduceLT,Nat.reduceEqDiff,zI,e1,e5,bT];exact⟨trivial,trivial,congrArg AV.bool (decide_eq_decide.2 (by omega))⟩
    · rintro i f H1 h0 hi hk e1 ⟨g0,g1⟩
      have e5:f 5=.aT 0 1 (nE d):=by rw[hk 5 rfl];simp only[aC,ne_eq,Nat.reduceEqDiff,not_false_eq_true];exact f5
      have e6:f 6=.ref 1 0:=by rw[hk 6 rfl];simp only[aC,ne_eq,Nat.reduceEqDiff,not_false_eq_true];exact f6
      have hg:=zZ hi;have hdi:=hd.getD i;rw[fF hi] at hdi
      have hm16:i / 2<16:=by omega
      have w1:IntKind.i64.wrap ((i:Int).tdiv 2)=((i / 2:Nat):Int):=by
       rw[Int.tdiv_eq_ediv_of_nonneg (by omega),wrap_i64 (by omega) (by omega)];omega
      have hW:W=4294967296:=rfl
      have w2:IntKind.u32.wrap ((d[i]:Nat):Int)=(d[i]:Nat):=by rw[wB (k:=.u32) rfl];simp only[IntKind.bits];omega
      have hgl:=iU (l:=limbs 16 (valD (d.take i))) (i:=i / 2) (by rw[bE];exact hm16);rw[dL hm16] at hgl
      have hg2:(AV.bool false::.bool ng::wC (limbs 16 (valD (d.take i)))).getD (2+i / 2) undefA=.int .u32 (limb (valD (d.take i)) (i / 2):Nat):=by rw[Kc2];exact hgl
      have h2i:2+i / 2≤17:=by omega
      refine aI ?_;by_cases hev:i%2=0
      · have d2:(((i:Int).tmod 2)==0)=true:=by rw[Int.tmod_eq_emod_of_nonneg (by omega),beq_iff_eq];omega
        obtain⟨q1,q2⟩:=aFl hd (m:=i / 2) (by omega) h32;rw[show 2*(i / 2)=i by omega] at q1 q2;rw[fF hi] at q2;simp only[↓zP,zG,Nat.reduceLT,zI,Int.reduceEq,e1,d2];refine aQ (by decide) ?_;rw[q1] at hg2;simp only[↓zP,zG,Nat.reduceLT,Nat.reduceEqDiff,Nat.reduceAdd,zD,reduceCtorEq,zI,Nat.reduceLeDiff,Int.reduceEq,e1,e5,e6,w1,aD,hm16,g1,iL (.limbs _),h2i,hg2,bT,hi,hg,w2]
        have w3:IntKind.u32.wrap (((0:Nat):Int)+((d[i]:Nat):Int))=(d[i]:Nat):=by rw[wB (k:=.u32) rfl];simp only[IntKind.bits];omega
        rw[w3,bCq (by rw[bE];exact hm16),q2];exact⟨g0,rfl⟩
      · have d2:(((i:Int).tmod 2)==0)=false:=by rw[Int.tmod_eq_emod_of_nonneg (by omega),beq_eq_false_iff_ne];omega
        obtain⟨q1,q2⟩:=aKx hd (m:=i / 2) (by omega) h32;rw[show 2*(i / 2)+1=i by omega] at q1 q2;rw[fF hi] at q2;simp only[↓zP,zG,Nat.reduceLT,zI,Int.reduceEq,e1,d2];refine aQ (by decide) ?_;simp only[↓zP,zG,Nat.reduceLT,Nat.reduceEqDiff,Nat.reduceAdd,zD,reduceCtorEq,zI,Nat.reduceLeDiff,Int.reduceEq,e1,e5,e6,w1,aD,hm16,g1,iL (.limbs _),h2i,hg2,bT,hi,hg,w2]
        have w3:IntKind.u32.wrap (((limb (valD (d.take i)) (i / 2):Nat):Int)+IntKind.u32.wrap (((d[i]:Nat):Int)*65536))=((limb (valD (d.take i)) (i / 2)+d[i]*65536:Nat):Int):=by
         rw[wB (k:=.u32) rfl,wB (k:=.u32) rfl];simp only[IntKind.bits];omega
        rw[w3,bCq (by rw[bE];exact hm16),q2];exact⟨g0,rfl⟩
    · rintro f H1 hk ⟨g0,g1⟩
      rw[List.take_length] at g1
      have e4:f 4=.ref 0 0:=by rw[hk 4 rfl];simp only[aC,ne_eq,Nat.reduceEqDiff,not_false_eq_true];exact f4
      have e6:f 6=.ref 1 0:=by rw[hk 6 rfl];simp only[aC,ne_eq,Nat.reduceEqDiff,not_false_eq_true];exact f6
      simp only[↓zP,zG,Nat.reduceAdd,zI,e4,e6,g0,g1,iL (.limbs _)];refine⟨rfl,_,by simp only[↓zP,zR,Nat.reduceEqDiff,Nat.reduceAdd,e4,iL (.limbs _)];rfl,?_⟩;rfl
   cases neg with
   |false=>
    simp only[↓zP,zG,Nat.reduceLT,Nat.reduceEqDiff,Nat.reduceAdd,zI,Nat.reduceLeDiff];exact key _ (by simp only[aC,ne_eq,Nat.reduceEqDiff,not_false_eq_true]) (by simp only[aC,ne_eq,Nat.reduceEqDiff,not_false_eq_true]) (by simp only[aC])
   |true=>
    simp only[↓zP,zG,Nat.reduceLT,Nat.reduceEqDiff,Nat.reduceAdd,zI,Nat.reduceLeDiff,bT];exact key _ (by simp only[aC,ne_eq,Nat.reduceEqDiff,not_false_eq_true]) (by simp only[aC,ne_eq,Nat.reduceEqDiff,not_false_eq_true]) (by simp only[aC])
 · have d1:decide (((dg (valD l)).length:Int)>32)=true:=decide_eq_true (by omega)
   have hnorm:norm (sg neg (valD l))=none:=by
    unfold norm;rw[if_neg (by rw[dR];exact hb)]
   rw[hnorm];simp only[↓zP,zG,Nat.reduceLT,Nat.reduceEqDiff,Nat.reduceAdd,zI,Nat.reduceLeDiff,bT,d1];refine bF (aSy _) ?_;have hbl:badC.length=18:=rfl;simp only[↓zP,zG,Nat.reduceEqDiff,Nat.reduceAdd,zI,oL hbl];refine⟨rfl,_,by simp only[↓zP,zR,Nat.reduceEqDiff,oL hbl];rfl,?_⟩;rfl
theorem kK (neg:Bool) (tag:Nat) {l:List Nat} (hl:DD l) (hlen:l.length<2^30) (H:Heap):Sound Tryz.prog gv 212 [.bool neg,.aT tag 1 (nE l)] H (.ret (.agg (cO (norm (sg neg (valD l)))))) H:=(aPo neg hl hlen H).aTh tag
theorem aXc {a b:List Nat} (ha:DD a) (hb:DD b) (hla:a.length<2^29) (hlb:b.length<2^29) (H:Heap):Sound Tryz.prog gv 171 [.aT 0 1 (nE a),.aT 0 1 (nE b)] H (.ret (.bool (decide (valD a<valD b)))) H:=by
 have ht0:Nat.blt 0 2=true:=rfl;refine Sp aZr (by simp only[sf,iM ht0]) (by simp only[sf]) ?_ H;unfold W171;dsimp only
 have hw:IntKind.i64.wrap ((if(b.length:Int)>a.length then(b.length:Int) else a.length) -1)=((max a.length b.length:Nat):Int) -1:=by
  rw[wrap_i64 (by split<;>omega) (by split<;>omega)];split<;>omega
 simp only[↓zP,zG,Nat.reduceLT,Nat.reduceEqDiff,zI,bT,hw];refine aQp [] (fun i vs H'=>H'=⟨0,.nil⟩∧valD (a.drop i)=valD (b.drop i)) (max a.length b.length) (by omega) (by decide) ?_ ?_ ?_ ?_ ?_
 · simp only[aC]
 · exact⟨rfl,by rw[List.drop_of_length_le (by omega),List.drop_of_length_le (by omega)]⟩
 · rintro i f H1 hi hk e1 ⟨rfl,hv⟩
   simp only[↓zP,zG,Nat.reduceLT,zI,e1];exact⟨trivial,trivial,congrArg AV.bool (decide_eq_decide.2 (by omega))⟩
 · rintro i f H1 hi hk e1 ⟨rfl,hv⟩
   have f0:f 0=.aT 0 1 (nE a):=by rw[hk 0 rfl];simp only[aC,ne_eq,Nat.reduceEqDiff,not_false_eq_true,startF,List.getD_cons_zero]
   have f1:f 1=.aT 0 1 (nE b):=by rw[hk 1 rfl];simp only[aC,ne_eq,Nat.reduceEqDiff,not_false_eq_true,startF,List.getD_cons_zero,List.getD_cons_succ]
   have qa:=mT (tag:=0) rfl a (by omega) i (by omega);have qb:=mT (tag:=0) rfl b (by omega) i (by omega);refine aI ?_;refine aA fun K hK=>?_;simp only[↓zP,zG,Nat.reduceLT,Nat.reduceEqDiff,e1,f0];refine bF (qa _) ?_;simp only[↓zP,zG,Nat.reduceLT,Nat.reduceEqDiff,e1,f1];refine bF (qb _) ?_;by_cases he:a.getD i 0=b.getD i 0
   · have hb2:(((a.getD i 0:Nat):Int) != ((b.getD i 0:Nat):Int))=false:=by rw[he];simp
     simp only[↓zP,zG,Nat.reduceLT,Nat.reduceEqDiff,zI,hb2];apply hK;clear hK K;simp only[↓zP,zG];exact⟨trivial,aAw hv he⟩
   · have hb2:(((a.getD i 0:Nat):Int) != ((b.getD i 0:Nat):Int))=true:=by rw[bne_iff_ne];omega
     simp only[↓zP,zG,Nat.reduceLT,Nat.reduceEqDiff,zI,hb2];apply hK;clear hK K;simp only[↓zP,zG,Nat.reduceLT,Nat.reduceEqDiff,e1,f0];refine bF (qa _) ?_;simp only[↓zP,zG,Nat.reduceLT,Nat.reduceEqDiff,e1,f1];refine bF (qb _) ?_;simp only[↓zP,zG,Nat.reduceLT,Nat.reduceEqDiff,zI];refine⟨rfl,_,by simp only[↓zP,zR];rfl,?_⟩
     have :decide (((a.getD i 0:Nat):Int)<((b.getD i 0:Nat):Int))=decide (valD a<valD b):=by
      rw[decide_eq_decide];constructor
      · intro h;exact aDu ha hb hv (by omega)
      · intro h
        refine Decidable.byContradiction fun hc=>?_;have :=aDu hb ha hv.symm (k:=i) (by omega);omega
     rw[this];rfl
 · rintro f H1 hk ⟨rfl,hv⟩
   rw[List.drop_zero,List.drop_zero] at hv;simp only[↓zP];refine⟨rfl,_,by simp only[↓zP,zR];rfl,?_⟩;rw[hv,decide_eq_false (Nat.lt_irrefl _)];rfl
theorem aDg {a b:List Nat} (ha:DD a) (hb:DD b) (hla:a.length<2^29) (hlb:b.length<2^29) (t1 t2:Nat) (H:Heap):Sound Tryz.prog gv 171 [.aT t1 1 (nE a),.aT t2 1 (nE b)] H (.ret (.bool (decide (valD a<valD b)))) H:=
 ((aXc ha hb hla hlb H).aTh t2).oO t1
theorem aXd {a b:List Nat} (ha:DD a) (hb:DD b) (hla:a.length<2^29) (hlb:b.length<2^29) (H:Heap):Sound Tryz.prog gv 213 [.aT 0 1 (nE a),.aT 0 1 (nE b)] H (.ret (.aT 0 1 (nE (dg (valD a+valD b))))) H:=by
 have ht0:Nat.blt 0 2=true:=rfl;refine bZ fit bW bAm (Nat.le_of_ble_eq_true rfl) (by simp only[sf,iM ht0]) ?_ H;unfold W213;dsimp only;simp only[↓zP,zG,Nat.reduceLT];refine bB [5,6] (fun k vs H'=>∃v c ds,vs=[v,.int .i64 (c:Nat)]∧Own H' 1 v (nE ds)∧ds.length=k∧DD ds∧c≤1∧valD ds+65536^k*c=valD (a.take k)+valD (b.take k)) 0 (max a.length b.length+1) (Nat.zero_le _) (by omega) (by decide) ?_ ?_ ?_ ?_ ?_
 · simp only[aC];rfl
 · exact⟨.nilsl,0,[],by simp only[sm,aC,Nat.reduceEqDiff];rfl,.nil _ _,rfl,(fun d hd=>by cases hd),by decide,by simp[valD]⟩
 · rintro i f H1 h0 hi hk e1 ⟨v,c,ds,hv,ho,hl,hd,hc,he⟩
   have f0:f 0=.aT 0 1 (nE a):=by rw[hk 0 rfl];simp only[aC,ne_eq,Nat.reduceEqDiff,not_false_eq_true,startF,List.getD_cons_zero]
   have f1:f 1=.aT 0 1 (nE b):=by rw[hk 1 rfl];simp only[aC,ne_eq,Nat.reduceEqDiff,not_false_eq_true,startF,List.getD_cons_zero,List.getD_cons_succ]
   have hw:IntKind.i64.wrap ((if(b.length:Int)>a.length then(b.length:Int) else a.length)+1)=((max a.length b.length+1:Nat):Int):=by
    rw[wrap_i64 (by split<;>omega) (by split<;>omega)];split<;>omega
   simp only[↓zP,zG,Nat.reduceLT,Nat.reduceEqDiff,zI,e1,f0,f1,bT,hw];exact⟨trivial,trivial,congrArg AV.bool (decide_eq_decide.2 (by omega))⟩
 · rintro i f H1 h0 hi hk e1 ⟨v,c,ds,hv,ho,hl,hd,hc,he⟩
   simp only[sm,List.cons.injEq,and_true] at hv
   have f0:f 0=.aT 0 1 (nE a):=by rw[hk 0 rfl];simp only[aC,ne_eq,Nat.reduceEqDiff,not_false_eq_true,startF,List.getD_cons_zero]
   have f1:f 1=.aT 0 1 (nE b):=by rw[hk 1 rfl];simp only[aC,ne_eq,Nat.reduceEqDiff,not_false_eq_true,startF,List.getD_cons_zero,List.getD_cons_succ]
   have qa:=mT (tag:=0) rfl a (by omega) i (by omega);have qb:=mT (tag:=0) rfl b (by omega) i (by omega);have ba:=ha.getD i;have bb:=hb.getD i;have hs:=aMi he;generalize a.getD i 0=x at *;generalize b.getD i 0=y at *
   have w1:IntKind.i64.wrap ((x:Int)+(y:Int))=((x+y:Nat):Int):=by rw[wrap_i64 (by omega) (by omega)];omega
   have w2:IntKind.i64.wrap (((x+y:Nat):Int)+(c:Int))=((x+y+c:Nat):Int):=by rw[wrap_i64 (by omega) (by omega)];omega
   have w3:(((x+y+c:Nat):Int).tmod 65536)=(((x+y+c)%65536:Nat):Int):=by rw[Int.tmod_eq_emod_of_nonneg (by omega)];omega
   have w4:IntKind.i64.wrap (((x+y+c:Nat):Int).tdiv 65536)=(((x+y+c) / 65536:Nat):Int):=by rw[Int.tdiv_eq_ediv_of_nonneg (by omega),wrap_i64 (by omega) (by omega)];omega
   obtain⟨H5,z1,z2,z3,z4,z5⟩:=Has.push (.inr ho) (ys:=nE [(x+y+c)%65536]) (bytes:=8) rfl (by simp only[bT,hl,List.length_cons,List.length_nil];omega);rw[show nE [(x+y+c)%65536]=[[.int .i64 (((x+y+c)%65536:Nat):Int)]] from rfl] at z1;refine aI ?_;refine aA fun K hK=>?_;simp only[↓zP,zG,Nat.reduceLT,Nat.reduceEqDiff,zI,e1,f0];refine bF (qa _) ?_;simp only[↓zP,zG,Nat.reduceLT,Nat.reduceEqDiff,e1,f1];refine bF (qb _) ?_;simp only[↓zP,zG,Nat.reduceLT,Nat.reduceEqDiff,zI,hv.2,w1,w2];apply hK;clear hK K;simp only[↓zP,zG,Nat.reduceLT,Nat.reduceEqDiff,zI,Int.reduceEq,hv.1,w3,w4];rw[show ∀(h:Heap) (x:List AV),elemsOf h 1 (.aT 1 1 [x])=some [x] from fun _ _=>rfl];simp only[z1,aZ];refine⟨_,(x+y+c) / 65536,ds++[(x+y+c)%65536],rfl,?_,by simp[hl],?_,by omega,?_⟩
   · rw[yA];exact .inr ⟨H1.next,rfl,by omega,z3⟩
   · intro d hdm
     rcases List.mem_append.1 hdm with h|h
     · exact hd d h
     · rw[List.mem_singleton] at h;subst h;omega
   · rw[iT,hl]
     simp only[valD,Nat.mul_zero,Nat.add_zero];exact hs
 · rintro f H1 hk ⟨v,c,ds,hv,ho,hl,hd,hc,he⟩
   simp only[sm,List.cons.injEq,and_true] at hv;rw[List.take_of_length_le (by omega),List.take_of_length_le (by omega)] at he
   have hc0:c=0:=by
    have h1:=mX ha;have h2:=mX hb;have h3:valD a<65536^max a.length b.length:=Nat.lt_of_lt_of_le h1 (Nat.pow_le_pow_right (by decide) (by omega));have h4:valD b<65536^max a.length b.length:=Nat.lt_of_lt_of_le h2 (Nat.pow_le_pow_right (by decide) (by omega));rw[Nat.pow_succ] at he;generalize 65536^max a.length b.length=X at *
    rcases Nat.eq_zero_or_pos c with h|h
    · exact h
    · have :c=1:=by omega
      subst this;omega
   subst hc0;rw[Nat.mul_zero,Nat.add_zero] at he
   have hne:nE ds≠[]:=by
    intro h;have :=congrArg List.length h;rw[bT,hl] at this;simp at this
   rcases ho with ⟨_,h⟩|⟨k,hvk,h1,h2⟩
   · exact absurd h hne
   · rw[hvk] at hv
     simp only[↓zP,hv.1];refine bF (vN (k+2) ds (by rw[hl];omega) _) ?_;rw[qP hd,he];simp only[↓zP,zG,Nat.reduceLT];refine⟨rfl,_,by simp only[↓zP,zR];rfl,?_⟩;exact⟨_,0,rfl,fun nw=>jL (iM rfl _)⟩
theorem aPp {a b:List Nat} (ha:DD a) (hb:DD b) (hla:a.length<2^29) (hlb:b.length<2^29) (t1 t2:Nat) (H:Heap):Sound Tryz.prog gv 213 [.aT t1 1 (nE a),.aT t2 1 (nE b)] H (.ret (.aT 0 1 (nE (dg (valD a+valD b))))) H:=
 ((aXd ha hb hla hlb H).aTh t2).oO t1
theorem qD {z:Int} (h:z.natAbs<W^16):norm z=some z:=by
 unfold norm;rw[if_pos h]
theorem w63 {z:Int} (h:z.natAbs≤2^63):z.natAbs<W^16:=by
 have :(2:Nat)^63<W^16:=by decide
 omega
theorem bCj (a b c d:Nat):[[AV.int .i64 (a:Int)],[.int .i64 (b:Int)],[.int .i64 (c:Int)],[.int .i64 (d:Int)]]=nE [a,b,c,d]:=rfl
theorem DD4 {a b c d:Nat} (h:a<65536∧b<65536∧c<65536∧d<65536):DD [a,b,c,d]:=by
 intro x hx;simp only[List.mem_cons,List.not_mem_nil,or_false] at hx
 rcases hx with rfl|rfl|rfl|rfl
 · exact h.1
 · exact h.2.1
 · exact h.2.2.1
 · exact h.2.2.2
theorem iY {z:Int} (h0: -2^63≤z) (h1:z<2^63) (H:Heap):Sound Tryz.prog gv 172 [.int .i64 z] H (.ret (.agg (cI z))) H:=by
 refine Sp aZs (by simp only[sf]) (by simp only[sf,sfI]) ?_ H;unfold W172;dsimp only
 have w:∀(n k:Nat),n<2^63→k≠0→IntKind.i64.wrap ((n:Int).tdiv k)=((n / k:Nat):Int):=fun n k hn hk=>by
  have h2:n / k≤n:=Nat.div_le_self n k
  have e:(n:Int).tdiv k=((n / k:Nat):Int):=by rw[Int.tdiv_eq_ediv_of_nonneg (by omega)];rfl
  rw[e];generalize n / k=q at *;exact wrap_i64 (by omega) (by omega)
 have m:∀(n k:Nat),(n:Int).tmod k=((n%k:Nat):Int):=fun n k=>by
  rw[Int.tmod_eq_emod_of_nonneg (by omega)];rfl
 have all:∀n:Nat,n<2^63→((n:Int).tmod 65536=((n%65536:Nat):Int))∧(IntKind.i64.wrap ((n:Int).tdiv 65536)=((n / 65536:Nat):Int))∧(((n / 65536:Nat):Int).tmod 65536=((n / 65536%65536:Nat):Int))∧(IntKind.i64.wrap ((n:Int).tdiv 4294967296)=((n / 4294967296:Nat):Int))∧
  (((n / 4294967296:Nat):Int).tmod 65536=((n / 4294967296%65536:Nat):Int))∧(IntKind.i64.wrap ((n:Int).tdiv 281474976710656)=((n / 281474976710656:Nat):Int)):=fun n hn=>
  ⟨m n 65536,w n 65536 hn (by decide),m (n / 65536) 65536,w n 4294967296 hn (by decide),m (n / 4294967296) 65536,w n 281474976710656 hn (by decide)⟩
 by_cases hz:0≤z
 · obtain⟨n,rfl⟩:∃n:Nat,z=n:=⟨z.toNat,by omega⟩
   have hn:n<2^63:=by omega
   have hd:decide ((n:Int)≥0)=true:=decide_eq_true (by omega);have hDD:DD [n%65536,n / 65536%65536,n / 4294967296%65536,n / 281474976710656]:=DD4 ⟨by omega,by omega,by omega,by omega⟩
   have hval:valD [n%65536,n / 65536%65536,n / 4294967296%65536,n / 281474976710656]=n:=by simp only[valD];omega
   have hnum:=kK false 1 hDD (by simp);rw[hval,qD (by rw[dR];exact w63 (z:=n) (by omega))] at hnum;simp only[↓zP,zG,Nat.reduceLT,Nat.reduceEqDiff,zI,Int.reduceEq,hd,all n hn];rw[bCj];refine bF (hnum _) ?_;simp only[cO,sg];simp only[↓zP,zG,Nat.reduceEqDiff,Nat.reduceAdd,zI];refine⟨rfl,_,by simp only[↓zP,zR,Nat.reduceEqDiff];rfl,?_⟩;rfl
 · obtain⟨n,rfl⟩:∃n:Nat,z= -((n:Int)+1):=⟨(-z -1).toNat,by omega⟩
   have hn:n<2^63:=by omega
   have hd:decide (-((n:Int)+1)≥0)=false:=decide_eq_false (by omega)
   have b1:IntKind.i64.wrap (-((n:Int)+1)+1)= -(n:Int):=by rw[wrap_i64 (by omega) (by omega)];omega
   have b2:IntKind.i64.wrap (0 - -(n:Int))=(n:Int):=by rw[wrap_i64 (by omega) (by omega)];omega
   have hDD:DD [n%65536,n / 65536%65536,n / 4294967296%65536,n / 281474976710656]:=DD4 ⟨by omega,by omega,by omega,by omega⟩
   have hval:valD [n%65536,n / 65536%65536,n / 4294967296%65536,n / 281474976710656]=n:=by simp only[valD];omega
   have hD1:DD [1]:=fun d hd=>by rw[List.mem_singleton] at hd;subst hd;decide
   have hp:=aPp hDD hD1 (by simp) (by simp) 1 1;rw[hval,show valD [1]=1 from rfl] at hp
   have hnum:=kK true 0 (oS (n+1)) (by
    have :=xC (k:=5) (n:=n+1) (by
     have :(2:Nat)^63<65536^5:=by decide
     omega)
    omega)
   rw[kT,qD (by rw[dR];exact w63 (z:=(n+1:Nat)) (by omega))] at hnum;simp only[↓zP,zG,Nat.reduceLT,Nat.reduceEqDiff,zI,Int.reduceEq,hd,b1,b2,all n hn];rw[bCj,show [[AV.int .i64 1]]=nE [1] from rfl];refine bF (hp _) ?_;refine bF (hnum _) ?_;rw[show sg true (n+1)= -((n:Int)+1) by simp[sg]];simp only[cO];simp only[↓zP,zG,Nat.reduceEqDiff,Nat.reduceAdd,zI];refine⟨rfl,_,by simp only[↓zP,zR,Nat.reduceEqDiff];rfl,?_⟩;rfl
def wordO:Option Int→Int×Bool
 |some z=>if z.natAbs<2^62 then(z,true) else(0,false)
 |none=>(0,false)
theorem aHa {n:Nat} (h:n<W^16) (h1:limb n 1<1073741824) (h2:∀k,2≤k→k<16→limb n k=0):n<2^62∧n=limb n 1*4294967296+limb n 0:=by
 have hW:W=4294967296:=rfl;have h3:=uN (m:=2) h h2
 have e1:limb n 1=n / 4294967296%4294967296:=by simp[limb,hW]
 have e0:limb n 0=n%4294967296:=by simp[limb,hW]
 have e2:W^2=18446744073709551616:=rfl;rw[e2] at h3;omega
theorem aMm {n k:Nat} (hk:2≤k) (h:limb n k≠0):¬n<2^62:=by
 have h1:=aHz h;have h2:W^2≤W^k:=Nat.pow_le_pow_right (by decide) hk;have e2:W^2=18446744073709551616:=rfl;omega
theorem aQk {n:Nat} (h:¬limb n 1<1073741824):¬n<2^62:=by
 have hW:W=4294967296:=rfl
 have e1:limb n 1=n / 4294967296%4294967296:=by simp[limb,hW]
 omega
theorem aGz {p q n:Nat} (hp:p<1073741824) (hq:q<4294967296) (e:n=p*4294967296+q):IntKind.i64.wrap (p:Int)=p∧IntKind.i64.wrap ((p:Int)*4294967296)=(p:Int)*4294967296∧IntKind.i64.wrap (q:Int)=q∧IntKind.i64.wrap ((p:Int)*4294967296+(q:Int))=n∧IntKind.i64.wrap (0 -(n:Int))= -(n:Int):=by
 refine⟨wrap_i64 (by omega) (by omega),wrap_i64 (by omega) (by omega),wrap_i64 (by omega) (by omega),?_,?_⟩
 · rw[wrap_i64 (by omega) (by omega)];omega
 · rw[wrap_i64 (by omega) (by omega)];omega
theorem aGq {z:Int} (hz:z.natAbs<W^16) (H:Heap):Sound Tryz.prog gv 246 [.agg (cI z)] H (.ret (.tup [.int .i64 (wordO (some z)).1,.bool (wordO (some z)).2])) H:=by
 refine Sp bAz (by simp only[sf,bK]) (by simp only[sf]) ?_ H;unfold W246;dsimp only;have hgood:=iC (IsI.enc hz);have hl:=iL (.limbs z.natAbs);simp only[wordO];unfold cI at hgood ⊢
 have d1:decide (((limb z.natAbs 1:Nat):Int)≥1073741824)= !decide (limb z.natAbs 1<1073741824):=by rw[←decide_not,decide_eq_decide];omega
 have hg:∀k,k<16→(AV.bool false::.bool (decide (z<0))::wC (limbs 16 z.natAbs)).getD (2+k) undefA=.int .u32 (limb z.natAbs k:Nat):=fun k hk=>by
  rw[Kc2,iU (by rw[bE];exact hk),dL hk]
 have hg1:(wC (limbs 16 z.natAbs)).getD 1 undefA=.int .u32 (limb z.natAbs 1:Nat):=hg 1 (by decide);have hg0:(wC (limbs 16 z.natAbs)).getD 0 undefA=.int .u32 (limb z.natAbs 0:Nat):=hg 0 (by decide);refine aA fun K hK=>?_;simp only[↓zP,zG,Nat.reduceLT,zI];apply hK;clear hK K;simp only[↓zP,zG,Nat.reduceLT,Nat.reduceEqDiff,Nat.reduceAdd,zI,hl];refine bF (hgood _) ?_;by_cases h1:limb z.natAbs 1<1073741824
 · have d1':decide (((limb z.natAbs 1:Nat):Int)≥1073741824)=false:=by rw[d1];simp[h1]
   simp only[Option.isSome_some];simp only[↓zP,zG,Nat.reduceLT,Nat.reduceEqDiff,Nat.reduceAdd,zI,Nat.reduceLeDiff,fS,hl,hg1,d1'];refine bB [] (fun k vs H'=>H'=((⟨0,.nil⟩:Heap).alloc (.cells (.bool false::.bool (decide (z<0))::wC (limbs 16 z.natAbs)) false))∧∀j,2≤j→j<k→limb z.natAbs j=0) 2 16 (by decide) (by decide) (by decide) ?_ ?_ ?_ ?_ ?_
   · simp only[aC];rfl
   · exact⟨rfl,fun j h1 h2=>by omega⟩
   · rintro i f H1 h0 hi hk e1 ⟨rfl,hj⟩
     simp only[↓zP,zG,Nat.reduceLT,zI,e1];exact⟨trivial,trivial,congrArg AV.bool (decide_eq_decide.2 (by omega))⟩
   · rintro i f H1 h0 hi hk e1 ⟨rfl,hj⟩
     have f1:f 1=.ref 0 0:=by rw[hk 1 rfl];simp only[aC,ne_eq,Nat.reduceEqDiff,not_false_eq_true]
     have hgi:=hg i hi
     have h2i:2+i≤17:=by omega
     refine aI ?_;by_cases hz0:limb z.natAbs i=0
     · have hb:(((limb z.natAbs i:Nat):Int) != 0)=false:=by rw[hz0];rfl
       simp only[↓zP,zG,Nat.reduceLT,Nat.reduceEqDiff,Nat.reduceAdd,zI,Nat.reduceLeDiff,f1,e1,aD,hi,hl,hgi,h2i,hb]
       exact⟨trivial,fun j h1 h2=>by
        by_cases e:j=i
        · subst e;exact hz0
        · exact hj j h1 (by omega)⟩
     · have hb:(((limb z.natAbs i:Nat):Int) != 0)=true:=by rw[bne_iff_ne];omega
       simp only[↓zP,zG,Nat.reduceLT,Nat.reduceEqDiff,Nat.reduceAdd,zI,Nat.reduceLeDiff,f1,e1,aD,hi,hl,hgi,h2i,hb];refine⟨rfl,_,by simp only[↓zP,zR,Nat.reduceEqDiff];rfl,?_⟩;rw[if_neg (aMm h0 hz0)];rfl
   · rintro f H1 hk ⟨rfl,hj⟩
     have f1:f 1=.ref 0 0:=by rw[hk 1 rfl];simp only[aC,ne_eq,Nat.reduceEqDiff,not_false_eq_true]
     obtain⟨hlt,hval⟩:=aHa hz h1 hj;rw[if_pos hlt];have c0:limb z.natAbs 0<4294967296:=dC z.natAbs 0;obtain⟨w1,w2,w3,w4,w5⟩:=aGz h1 c0 hval;by_cases hn:z<0
     · have d2:decide (z<0)=true:=decide_eq_true hn
       simp only[↓zP,zG,Nat.reduceLT,Nat.reduceAdd,zI,Nat.reduceLeDiff,f1,hl,hg1,hg0,w1,w2,w3,w4,w5,d2];refine⟨rfl,_,by simp only[↓zP,zR,Nat.reduceEqDiff];rfl,?_⟩;rw[show -(z.natAbs:Int)=z by omega];rfl
     · have d2:decide (z<0)=false:=decide_eq_false hn
       simp only[↓zP,zG,Nat.reduceLT,Nat.reduceAdd,zI,Nat.reduceLeDiff,f1,hl,hg1,hg0,w1,w2,w3,w4,d2];refine⟨rfl,_,by simp only[↓zP,zR,Nat.reduceEqDiff];rfl,?_⟩;rw[show(z.natAbs:Int)=z by omega];rfl
 · have d1':decide (((limb z.natAbs 1:Nat):Int)≥1073741824)=true:=by rw[d1];simp[h1]
   simp only[Option.isSome_some];simp only[↓zP,zG,Nat.reduceLT,Nat.reduceEqDiff,Nat.reduceAdd,zI,Nat.reduceLeDiff,fS,hl,hg1,d1'];refine⟨rfl,_,by simp only[↓zP,zR,Nat.reduceEqDiff];rfl,?_⟩;rw[if_neg (aQk h1)];rfl
theorem gB {z:Int} (hz:z.natAbs<2^62) (H:Heap):Sound Tryz.prog gv 246 [.agg (cI z)] H (.ret (.tup [.int .i64 z,.bool true])) H:=by
 have :=aGq (z:=z) (w63 (by omega)) H
 rwa [wordO,if_pos hz] at this
end Go.Proofs.YtjiignefffdelaaGreatDoor
