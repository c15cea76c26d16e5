/-
  Parts of the proof of statement 4: Kk, Kl, Km, Kn
-/
import Derived.Test.YtjiignefffdelaaGreatDoorA31
import Derived.Test.YtjiignefffdelaaGreatDoorA25
import Derived.Test.YtjiignefffdelaaGreatDoorA30
import Derived.Test.YtjiignefffdelaaGreatDoorA28
import Derived.Test.YtjiignefffdelaaGreatDoorA22
set_option linter.unusedVariables false
set_option maxRecDepth 100000
set_option maxHeartbeats 16000000
namespace Go.Proofs.YtjiignefffdelaaGreatDoor
open Go Go.Av Go.Geo
attribute [local congr] aU aN aO aM aW aR aP aL
attribute [local irreducible] FC FOps FD2
theorem yP {n:Geo.V} {p:Nat→Geo.V} {on:List Nat} {s m:Nat} (h:Geo.Way n p on s m (nxt n p on)) (i:Nat):nextP n p on (iter (nxt n p on) i s)=some (iter (nxt n p on) (i+1) s):=by
 obtain⟨ho,hS⟩:=h.side i;obtain⟨b,hb,_⟩:=aCr h.H ho (hS.crn h.H ho) ⟨_,hS.1,hS.2.1⟩;show _=some ((Geo.nextP n p on _).getD 0);rw[hb];rfl
theorem aTq {n:Geo.V} {p:Nat→Geo.V} {on:List Nat} {s m:Nat} (h:Geo.Way n p on s m (nxt n p on)):2≤m:=by
 rcases Nat.lt_or_ge 1 m with h1|h1
 · exact h1
 · have hm:m=1:=by have :=h.pos;omega
   have hb:=h.back;rw[hm] at hb;exact absurd hb (h.side 0).2.2.1
theorem qF {H H':Heap} {sz:Nat} {v:AV} {els:List (List AV)} (h:Own H sz v els) (hn:H.next≤H'.next) (hk:∀k,k<H.next→H.get k=some .tok→H'.get k=some .tok):Own H' sz v els:=by
 rcases h with ⟨rfl,rfl⟩|⟨k,rfl,h1,h2⟩
 · exact .inl ⟨rfl,rfl⟩
 · exact .inr ⟨k,rfl,by omega,hk k h1 h2⟩
theorem uT (a b:List Nat):onE (a++b)=onE a++onE b:=by simp[onE]
theorem nY (a:List Nat):freeLL (onE a)=true:=bR (fun _=>by simp only[sf]) a
theorem vE {tag:Nat} (ht:Nat.blt tag 2=true) {l:List Geo.V} {M:Nat} (hl:∀v∈l,Near M v) (hM:M≤2^18) (hlen:l.length≤64) {q:Geo.V×Int} {B:Nat} (hq:Near B q.1) (hB:3*(B*M)<2^62)
 {L:List Nat} (hP:Poly (fun i=>l.getD i V0) l.length q.1 q.2 L) (H:Heap):
 Sound Tryz.prog gv 110 [.aT tag 3 (ivE l),.agg (plC q)] H (.ret (.aT 0 1 (onE L))) H:=by
 refine bZ fit bW aYa (Nat.le_of_ble_eq_true rfl) (by simp only[sf,bG ht,lX]) ?_ H;obtain⟨s0,r,m,hon,W,rfl⟩:=hP.ex;unfold W110;dsimp only
 have hget:∀k (h:k<l.length),l.getD k V0=l[k]:=fun k h=>by simp[List.getD,h]
 have p4:(plC q).length=4:=rfl;have p3:(plC q).take 3=ivC q.1:=rfl;have p1:(plC q).getD 3 undefA=.int .i64 q.2:=rfl;refine aA fun K hK=>?_;simp only[↓zP,zG,Nat.reduceLT,Nat.reduceEqDiff,zI];apply hK;clear hK K;refine aA fun K hK=>?_;simp only[↓zP,zG,Nat.reduceLT,Nat.reduceAdd,zI];apply hK;clear hK K;refine aA fun K hK=>?_;refine aA fun K2 hK2=>?_;simp only[↓zP,zG,Nat.reduceLT,Nat.reduceEqDiff,Nat.reduceAdd,zI];apply hK2;clear hK2 K2;generalize honv:onL (fun i=>l.getD i V0) l.length q.1 q.2=on at *;have h0:FreeUp (((Heap.mk 0 .nil |>.alloc (.cells [.aT tag 3 (ivE l)] false)).alloc (.cells (plC q) false)).alloc (.cells [.nilsl] false)):=(((FreeUp.nil 0).alloc _).alloc _).alloc _;refine bD [] (fun i vs H'=>∃v,H'.get 2=some (.cells [v] false)∧Own H' 1 v (onE ((List.range i).filter fun k=>decide (Geo.dot q.1 (l.getD k V0)=q.2)))∧H'.get 0=some (.cells [.aT tag 3 (ivE l)] false)∧H'.get 1=some (.cells (plC q) false)∧3≤H'.next∧FreeUp H') l.length (by omega) (by decide) ?_ ?_ ?_ ?_ ?_
 · simp only[aC]
 · simp only[aC,ne_eq,Nat.reduceEqDiff,not_false_eq_true,aJ]
 · exact⟨.nilsl,by simp only[zI,Nat.reduceAdd,Nat.reduceEqDiff],.nil _ _,by simp only[zI,Nat.reduceAdd,Nat.reduceEqDiff],by simp only[zI,Nat.reduceAdd,Nat.reduceEqDiff],by simp only[zI,Nat.reduceAdd,Nat.reduceLeDiff],h0⟩
 · rintro i f H1 hi hk e1 ⟨v,g2,ho,g0,g1,hn,hf⟩
   have hg:=bC hi;have hgi:=hget i hi;have hx:=hl _ (List.getElem_mem hi)
   have hfil:(List.range (i+1)).filter (fun k=>decide (Geo.dot q.1 (l.getD k V0)=q.2))=(List.range i).filter (fun k=>decide (Geo.dot q.1 (l.getD k V0)=q.2))++(if Geo.dot q.1 l[i]=q.2 then [i] else []):=by
    rw[List.range_succ,List.filter_append];congr 1;simp only[List.filter_cons,List.filter_nil,hgi,decide_eq_true_eq]
   have hfl:((List.range i).filter fun k=>decide (Geo.dot q.1 (l.getD k V0)=q.2)).length≤64:=by
    have :=List.length_filter_le (fun k=>decide (Geo.dot q.1 (l.getD k V0)=q.2)) (List.range i);rw[List.length_range] at this;omega
   rw[hfil];generalize (List.range i).filter (fun k=>decide (Geo.dot q.1 (l.getD k V0)=q.2))=on0 at *;generalize l[i]=x at *
   have nx1:¬(1=H1.next):=by omega
   have nx2:¬(2=H1.next):=by omega
   have nx0:¬(0=H1.next):=by omega
   refine aI ?_;refine aA fun K2 hK2=>?_;simp only[↓zP,zG,Nat.reduceLT,Nat.reduceEqDiff,Nat.reduceAdd,zI,e1,hk 11 rfl,aD,aJ,hi,hg,oL (aG x)];apply hK2;clear hK2 K2;refine aA fun K2 hK2=>?_;refine aQ (by decide) ?_;simp only[↓zP,zG,Nat.reduceLT,Nat.reduceEqDiff,Nat.reduceAdd,zD,reduceCtorEq,zI,Nat.reduceLeDiff,hk 3 rfl,nx1,g1,p4,p3,oL (aG x)];refine cE (pQ hq hx hB _) ?_;simp only[↓zP,zG,Nat.reduceLT,Nat.reduceEqDiff,Nat.reduceAdd,zD,reduceCtorEq,zI,hk 3 rfl,nx1,g1,p4,p1];apply hK2;clear hK2 K2;generalize hX:(H1.alloc _).set H1.next _=H4
   have y0:H4.get 0=some (.cells [.aT tag 3 (ivE l)] false):=by subst hX;rw[Heap.aB,if_neg nx0,Heap.aH,if_neg nx0];exact g0
   have y1:H4.get 1=some (.cells (plC q) false):=by subst hX;rw[Heap.aB,if_neg nx1,Heap.aH,if_neg nx1];exact g1
   have y2:H4.get 2=some (.cells [v] false):=by subst hX;rw[Heap.aB,if_neg nx2,Heap.aH,if_neg nx2];exact g2
   have yn:3≤H4.next:=by subst hX;simp only[Heap.aS,Heap.aX];omega
   have yf:FreeUp H4:=by subst hX;exact(hf.alloc _).set (by simp) _
   have yo:Own H4 1 v (onE on0):=by
    refine qF ho (by subst hX;simp only[Heap.aS,Heap.aX];omega) fun k h1 h2=>?_;subst hX;rw[Heap.aB,if_neg (by omega),Heap.aH,if_neg (by omega)];exact h2
   by_cases hc:Geo.dot q.1 x=q.2
   · have hb:(Geo.dot q.1 x==q.2)=true:=beq_iff_eq.2 hc
     obtain⟨H5,z1,z2,z3,z4,z5⟩:=Has.push (.inr yo) (ys:=[[AV.int .i64 (i:Int)]]) (bytes:=8) rfl (by simp only[bP,List.length_cons,List.length_nil];omega);simp only[↓zP,zG,Nat.reduceLT,Nat.reduceEqDiff,zI,hb,hk 5 rfl,y2];rw[show elemsOf H4 1 (.aT 1 1 [[.int .i64 (i:Int)]])=some [[.int .i64 (i:Int)]] from rfl];have w2:=(z4 2 (by omega) (by rw[y2];simp)).trans y2;simp only[z1,aZ,zG,Nat.reduceEqDiff,zI,w2];rw[if_pos hc,uT];exact⟨_,rfl,.inr ⟨H4.next,rfl,by simp only[Heap.aS];omega,by rw[Heap.aB,if_neg (by omega)];exact z3⟩,(z4 0 (by omega) (by rw[y0];simp)).trans y0,(z4 1 (by omega) (by rw[y1];simp)).trans y1,by omega,(z5 yf).set (by omega) _⟩
   · have hb:(Geo.dot q.1 x==q.2)=false:=beq_eq_false_iff_ne.2 hc
     simp only[↓zP,zG,hb];rw[if_neg hc,List.append_nil];exact⟨v,y2,yo,y0,y1,yn,yf⟩
 · rintro f H1 hk ⟨v,g2,ho,g0,g1,hn,hf⟩
   have e0:(List.range l.length).filter (fun k=>decide (Geo.dot q.1 (l.getD k V0)=q.2))=on:=honv;rw[e0] at ho;simp only[↓zP];apply hK;clear hK K
   have hne:onE on≠[]:=by rw[hon];simp[onE]
   rcases ho with ⟨_,h⟩|⟨tk,rfl,ht1,ht2⟩
   · exact absurd h hne
   have hon64:on.length≤64:=by
    have :=List.length_filter_le (fun k=>decide (Geo.dot q.1 (l.getD k V0)=q.2)) (List.range l.length);rw[e0,List.length_range] at this;omega
   have hlt:∀k∈on,k<l.length:=fun k hk=>by
    rw[←honv] at hk;exact(bO.1 hk).1
   have hg0:(onE on).getD 0 []=[AV.int .i64 (s0:Int)]:=by rw[hon];rfl
   have a0:asNat (.int .i64 0)=some 0:=rfl
   have hpos:0<(onE on).length:=by rw[hon];simp[onE]
   have nx:∀j,j<3→¬(j=H1.next):=fun j hj=>by omega
   have hs0:=hlt _ W.hs;refine aA fun K hK=>?_;simp only[↓zP,zG,Nat.reduceLT,Nat.reduceEqDiff,zI,hk 5 rfl,hk 2 rfl,hk 3 rfl];apply hK;clear hK K;refine aA fun K hK=>?_;simp only[↓zP,zG,Nat.reduceLT,Nat.reduceEqDiff,zI,hk 5 rfl,g2,hpos,hg0,a0];apply hK;clear hK K;obtain⟨H2,hm,hS⟩:=aIe (tag:=tag) hl hM hlen hlt hon64 hs0 q hf (i1:=2) (i2:=0) (i3:=1) (by omega) (by omega) (by omega) g2 g0 g1;have e0':=yP W 0;change Geo.nextP _ _ _ s0=_ at e0';rw[e0'] at hS;refine aA fun K hK=>?_;refine aA fun K2 hK2=>?_;simp only[↓zP,zG,Nat.reduceLT,Nat.reduceEqDiff,zI,hk 5 rfl,g2,hpos,hg0,a0];refine tE (fs:=[]) (cs:=[.ref 2 0,.ref 0 0,.ref 1 0]) (by decide) (by simp only[↓zP,zG,Nat.reduceEqDiff]) (by simp only[sm,aC];rfl) hS ?_;simp only[↓zP,zG,Nat.reduceLT];apply hK2;clear hK2 K2;refine aI ?_
   refine dM [9,10] (fun M' vs H'=>∃i,i<m∧M'=m -i∧∃v,vs=[v,.int .i64 (iter (nxt q.1 (fun i=>l.getD i V0) on) (i+1) s0:Nat)]∧Has H' 1 v (onE ((List.range (i+1)).map fun i=>iter (nxt q.1 (fun i=>l.getD i V0) on) i s0))∧(0<i→v≠ .aT 1 1 (onE ((List.range (i+1)).map fun i=>iter (nxt q.1 (fun i=>l.getD i V0) on) i s0)))∧
    H'.get 2=some (.cells [.aT (tk+2) 1 (onE on)] false)∧H'.get 0=some (.cells [.aT tag 3 (ivE l)] false)∧H'.get 1=some (.cells (plC q) false)∧3≤H'.next∧FreeUp H') m (by rfl) ?_ ?_
   · refine⟨0,W.pos,rfl,_,by simp only[sm,aC,Nat.reduceEqDiff];rfl,.inl rfl,fun h=>absurd h (Nat.lt_irrefl 0),(hm.same 2 (by omega)).trans g2,(hm.same 0 (by omega)).trans g0,(hm.same 1 (by omega)).trans g1,by have :=hm.le;omega,hm.free⟩
   · clear hS hm H2 g2 g0 g1 hf hn ht1 ht2
     rintro M' f2 H2 hk2 ⟨i,hi,rfl,v,hv,ho,hlit,g2,g0,g1,hn,hf⟩;simp only[sm,List.cons.injEq,and_true] at hv;obtain⟨v9,v10⟩:=hv;refine aA fun K2 hK2=>?_;refine aA fun K3 hK3=>?_;simp only[↓zP,zG,Nat.reduceLT,Nat.reduceEqDiff,zI,hk2 5 rfl,hk 5 rfl,g2,hpos,hg0,a0,v10];apply hK3;clear hK3 K3;by_cases hi1:i+1=m
     · have hb:((iter (nxt q.1 (fun i=>l.getD i V0) on) (i+1) s0:Int) != (s0:Int))=false:=by rw[hi1,W.back];simp
       have h2:=aTq W;simp only[↓zP,zG,hb];apply hK;clear hK K hK2 K2;simp only[↓zP,zG,Nat.reduceLT,Nat.reduceEqDiff,v9];refine⟨rfl,_,by simp only[↓zP,zR];rfl,?_⟩;rw[←hi1];exact⟨v,0,rfl,fun nw=>ho.shut (by simp[onE]) (hlit (by omega)) (nY _) nw⟩
     · have hb:((iter (nxt q.1 (fun i=>l.getD i V0) on) (i+1) s0:Int) != (s0:Int))=true:=by
        have :=W.first (i+1) (by omega) (by omega);simp only[bne_iff_ne,ne_eq];omega
       simp only[↓zP,zG,hb];apply hK2;clear hK2 K2;obtain⟨ho1,hS1⟩:=W.side (i+1);have hil:=hlt _ ho1;have hnp:=yP W (i+1);have hmle:=W.le
       have hlen1:((List.range (i+1)).map fun i=>iter (nxt q.1 (fun i=>l.getD i V0) on) i s0).length=i+1:=by simp
       have hrs:(List.range (i+1+1)).map (fun i=>iter (nxt q.1 (fun i=>l.getD i V0) on) i s0)=(List.range (i+1)).map (fun i=>iter (nxt q.1 (fun i=>l.getD i V0) on) i s0)++[iter (nxt q.1 (fun i=>l.getD i V0) on) (i+1) s0]:=by
        rw[List.range_succ (n:=i+1),List.map_append];rfl
       obtain⟨H5,z1,z2,z3,z4,z5⟩:=ho.push (ys:=[[AV.int .i64 (iter (nxt q.1 (fun i=>l.getD i V0) on) (i+1) s0:Nat)]]) (bytes:=8) rfl (by rw[bP,hlen1,List.length_cons,List.length_nil];omega);have w2:=(z4 2 (by omega) (by rw[g2];simp)).trans g2;have w0:=(z4 0 (by omega) (by rw[g0];simp)).trans g0;have w1:=(z4 1 (by omega) (by rw[g1];simp)).trans g1;obtain⟨H6,hm,hS⟩:=aIe (tag:=tag) hl hM hlen hlt hon64 hil q (z5 hf) (i1:=2) (i2:=0) (i3:=1) (by omega) (by omega) (by omega) w2 w0 w1;rw[hnp] at hS;refine aA fun K2 hK2=>?_;refine aI ?_;simp only[↓zP,zG,Nat.reduceLT,Nat.reduceEqDiff,zI,v9,v10];rw[show ∀x:AV,elemsOf H2 1 (.aT 1 1 [[x]])=some [[x]] from fun _=>rfl];simp only[z1,aZ];apply hK2;clear hK2 K2;simp only[↓zP,zG,Nat.reduceLT,Nat.reduceEqDiff,zI,hk2 8 rfl,v10];refine tE (fs:=[]) (cs:=[.ref 2 0,.ref 0 0,.ref 1 0]) (by decide) (by rfl) (by rfl) hS ?_;simp only[↓zP,zG,Nat.reduceLT,Nat.reduceEqDiff];refine⟨m -(i+1),by omega,i+1,by omega,rfl,.aT (H2.next+2) 1 _,rfl,?_,fun _ h=>by injection h with h;omega,(hm.same 2 (by omega)).trans w2,(hm.same 0 (by omega)).trans w0,(hm.same 1 (by omega)).trans w1,by have :=hm.le;omega,hm.free⟩;rw[hrs,uT];exact .inr (.inr ⟨H2.next,rfl,by have :=hm.le;omega,(hm.same _ (by omega)).trans z3⟩)
def facC (L:Geo.V×Int→List Nat) (q:Geo.V×Int):List AV:=[.int .i64 q.1.x,.int .i64 q.1.y,.int .i64 q.1.z,.int .i64 q.2,.aT 0 1 (onE (L q))]
theorem fK (L:Geo.V×Int→List Nat) (q:Geo.V×Int):freeL (facC L q)=true:=by
 simp only[facC,freeL,AV.free,nY,Bool.true_and];rfl
structure Facs (l:List Geo.V) (S:List (Geo.V×Int)) (L:Geo.V×Int→List Nat):Prop where
 fl:FList (fun i=>l.getD i V0) l.length S
 po:∀q∈S,Poly (fun i=>l.getD i V0) l.length q.1 q.2 (L q)
theorem fL {l:List Geo.V} {M:Nat} (hl:∀v∈l,Near M v) {q:Geo.V×Int} (h:IsF (fun i=>l.getD i V0) l.length q.1 q.2):Near (2*((M+M)*(M+M))) q.1:=by
 obtain⟨i,j,k,h1,h2,h3,hc⟩:=cM h
 have hn:∀k,k<l.length→Near M (l.getD k V0):=fun k hk=>by
  have :l.getD k V0=l[k]:=by simp[List.getD,hk]
  rw[this];exact hl _ (List.getElem_mem hk)
 have key:Near (2*((M+M)*(M+M))) (plane3 (fun i=>l.getD i V0) i j k).1:=
  gP (dJ (cH (hn j (by omega)) (hn i (by omega))) (cH (hn k (by omega)) (hn i (by omega))))
 unfold cands at hc;split at hc
 · cases hc
 · simp only[List.mem_cons,List.not_mem_nil,or_false] at hc
   rcases hc with e|e
   · have e1:q.1=(plane3 (fun i=>l.getD i V0) i j k).1:=congrArg Prod.fst e
     rw[e1];exact key
   · have e1:q.1=Geo.neg (plane3 (fun i=>l.getD i V0) i j k).1:=congrArg Prod.fst e
     rw[e1];exact qB key
theorem aBe {p:Nat→Geo.V} {N:Nat} {S:List (Geo.V×Int)} (h:FList p N S):S.Nodup:=List.Pairwise.imp (fun {a b} (h:VLt a.1 b.1) (e:a=b)=>VLt.irr b.1 (by rw[e] at h;exact h)) h.srt
theorem qV {tag:Nat} (ht:Nat.blt tag 2=true) {l:List Geo.V} {M:Nat} (hl:∀v∈l,Near M v) (hM:M≤2^18) (hlen:l.length≤64) {S:List (Geo.V×Int)} {L:Geo.V×Int→List Nat} (hS:Facs l S L) (hne:S≠[]) (H:Heap):
 Sound Tryz.prog gv 104 [.agg [.aT tag 3 (ivE l)]] H (.ret (.aT (H.next+2) 5 (S.map (facC L)))) (H.alloc .tok):=by
 refine mG bW (by simp only[sf,bG ht]) (by simpa using hne) (bR (fK L) S) ?_ H;refine cV fit aXx (Nat.le_of_ble_eq_true rfl) ?_;unfold W104;dsimp only;refine aA fun K hK=>?_;simp only[↓zP,zG,Nat.reduceLT,zI];apply hK;clear hK K;refine aA fun K hK=>?_;simp only[↓zP,zG,Nat.reduceLT];apply hK;clear hK K
 have hSl:S.length≤2^20:=by
  have h1:=mL (N:=l.length) (p:=fun i=>l.getD i V0) (aBe hS.fl) (fun q hq=>(hS.fl.mem q).1 hq);have h2:l.length*(l.length*(l.length*2))≤64*(64*(64*2)):=Nat.mul_le_mul hlen (Nat.mul_le_mul hlen (Nat.mul_le_mul hlen (Nat.le_refl _)));omega
 have hrow:rowO 4 (S.map plC)=.aT 0 4 (S.map plC):=if_neg (by simpa using hne);have hpl:=yD ht hl hM hlen hS.fl;rw[hrow] at hpl;refine aA fun K hK=>?_;refine aA fun K2 hK2=>?_;simp only[↓zP,zG,Nat.reduceLT,Nat.reduceEqDiff,zI];refine bF (hpl _) ?_;simp only[↓zP,zG,Nat.reduceLT];apply hK2;clear hK2 K2;refine bD [3] (fun i vs H'=>∃v,vs=[v]∧Own H' 5 v ((S.take i).map (facC L))∧H'.get 0=some (.cells [.aT tag 3 (ivE l)] false)∧1≤H'.next) S.length (by omega) (by decide) ?_ ?_ ?_ ?_ ?_
 · simp only[aC]
 · simp only[aC,ne_eq,Nat.reduceEqDiff,not_false_eq_true,List.length_map]
 · exact⟨.nilsl,by simp only[sm,aC,Nat.reduceEqDiff],.nil _ _,by simp only[zI],by simp only[zI,Nat.reduceLeDiff]⟩
 · rintro i f H1 hi hk e1 ⟨v,hv,ho,g0,hn⟩
   simp only[sm,List.cons.injEq,and_true] at hv;have hg:(S.map plC).getD i []=plC S[i]:=bU hi;have hqS:=List.getElem_mem hi;have hq:=fL hl ((hS.fl.mem _).1 hqS);have hpo:=hS.po _ hqS
   have htk:(S.take (i+1)).map (facC L)=(S.take i).map (facC L)++[facC L S[i]]:=by
    rw[List.take_add_one,List.map_append];simp[hi]
   rw[htk]
   have htl:((S.take i).map (facC L)).length=i:=by simp;omega
   generalize S[i]=q at *;have hMM:(M+M)*(M+M)≤2^19*2^19:=Nat.mul_le_mul (by omega) (by omega);have hMM2:2*((M+M)*(M+M))*M≤2^39*2^18:=Nat.mul_le_mul (by omega) (by omega);have p4:(plC q).length=4:=rfl;have p3:(plC q).take 3=ivC q.1:=rfl;have p1:(plC q).getD 3 undefA=.int .i64 q.2:=rfl
   have nx0:¬(0=H1.next):=by omega
   have hpg:=vE ht hl hM hlen hq (by omega) hpo;have ho':=ho;refine aI ?_;refine aA fun K2 hK2=>?_;simp only[↓zP,zG,Nat.reduceLT,Nat.reduceEqDiff,Nat.reduceAdd,zI,e1,hk 8 rfl,aD,List.length_map,hi,hg,oL p4];apply hK2;clear hK2 K2;generalize hX:(H1.alloc _).set H1.next _=H4
   have u0:H4.get 0=some (.cells [.aT tag 3 (ivE l)] false):=by subst hX;rw[Heap.aB,if_neg nx0,Heap.aH,if_neg nx0];exact g0
   have u1:H4.get H1.next=some (.cells (plC q) false):=by subst hX;rw[Heap.aB,if_pos rfl]
   have un:H4.next=H1.next+1:=by subst hX;simp only[Heap.aS,Heap.aX]
   have uo:Own H4 5 v ((S.take i).map (facC L)):=by
    refine qF ho (by omega) fun k h1 h2=>?_;subst hX;rw[Heap.aB,if_neg (by omega),Heap.aH,if_neg (by omega)];exact h2
   clear hX;obtain⟨H5,z1,z2,z3,z4,z5⟩:=Has.push (.inr uo) (ys:=[facC L q]) (bytes:=56) rfl (by rw[htl,List.length_cons,List.length_nil];omega);generalize H1.next=r1 at *;refine aQ (by decide) ?_;simp only[↓zP,zG,Nat.reduceLT,Nat.reduceEqDiff,Nat.reduceAdd,zD,reduceCtorEq,zI,Nat.reduceLeDiff,hk 1 rfl,hv,u0,u1,p4,p3,p1,oL p4];refine cE (hpg _) ?_;have hfac:[AV.int .i64 q.1.x,.int .i64 q.1.y,.int .i64 q.1.z,.int .i64 q.2,.aT 0 1 (onE (L q))]=facC L q:=rfl;have hfl:(facC L q).length=5:=rfl;simp only[↓zP,zG,Nat.reduceLT,Nat.reduceEqDiff,Nat.reduceAdd,zD,reduceCtorEq,zI,Nat.reduceLeDiff,u0,u1,ivC,hfac,hfl];rw[show ∀x:List AV,elemsOf H4 5 (.aT 1 5 [x])=some [x] from fun _=>rfl];simp only[z1,aZ];exact⟨by omega,_,rfl,.inr ⟨H4.next,rfl,by omega,z3⟩,(z4 0 (by omega) (by rw[u0];simp)).trans u0,by omega⟩
 · rintro f H1 hk ⟨v,hv,ho,g0,hn⟩
   simp only[sm,List.cons.injEq,and_true] at hv;rw[List.take_length] at ho;simp only[↓zP];apply hK;simp only[↓zP,zG,Nat.reduceLT,hv];refine⟨rfl,_,by simp only[↓zP,zR];rfl,?_⟩;exact⟨v,rfl,ho⟩
theorem aDw {tag:Nat} {l:List Geo.V} (hlen:l.length<2^30) {id r:Nat} {o:Bool} (I:Nat→Heap→Prop) (hst:∀i H H',Over H H'→I i H→I i H')
 (hstep:∀i (hi:i<l.length) H,I i H→∃H',YSound Tryz.prog gv id [.agg (ivC l[i])] H (.ret (.bool true)) H'∧I (i+1) H') {H:Heap} (hr:H.get r=some (.cells [.aT tag 3 (ivE l)] o)) (h0:I 0 H):
 ∃H',I l.length H'∧Sound Tryz.prog gv 200 [.yield id,.ref r 0] H (.ret (.tup [])) H':=by
 suffices h:∃out H',(out=.ret (.tup [])∧I l.length H')∧Sound Tryz.prog gv 200 [.yield id,.ref r 0] H out H' by
  obtain⟨_,H',⟨rfl,hm⟩,hS⟩:=h;exact⟨H',hm,hS⟩
 refine cV fit aUi (Nat.le_of_ble_eq_true rfl) ?_;unfold W200;dsimp only;refine aA fun K hK=>?_;simp only[↓zP,zG,Nat.reduceLT,zI,hr];apply hK;clear hK K;refine bD [] (fun i vs H'=>I i H') l.length (by omega) (by decide) ?_ ?_ ?_ ?_ ?_
 · simp only[aC]
 · simp only[aC,ne_eq,Nat.reduceEqDiff,not_false_eq_true,aJ]
 · exact h0
 · rintro i f H1 hi hk e1 hI
   have hg:=bC hi;have hs:=hstep i hi;generalize l[i]=x at *;refine aI ?_;simp only[↓zP,zG,Nat.reduceLT,Nat.reduceEqDiff,Nat.reduceAdd,zI,e1,hk 5 rfl,hk 0 rfl,aD,aJ,hi,hg,oL (aG x)];obtain⟨H',hy,hI'⟩:=hs _ (hst i _ _ (((Over.refl H1).alloc (.cells [.int .i64 0,.int .i64 0,.int .i64 0] false)).set (Nat.le_refl _) (.cells (ivC x) false)) hI);refine nN (by decide) (by rfl) (by rfl) hy ?_;simp only[↓zP,zG,Nat.reduceLT,zI];exact hI'
 · rintro f H1 hk hI
   refine⟨rfl,_,by simp only[zR];rfl,?_⟩;exact⟨rfl,hI⟩
def RowV (H:Heap) (lo:Nat) (v:AV) (l:List Geo.V):Prop:=
 (l=[]∧v=.nilsl)∨∃rid,l≠[]∧v=.sl rid 3 0 l.length l.length∧H.get rid=some (.cells (ivE l).flatten true)∧lo≤rid∧rid<H.next
theorem RowV.push {H:Heap} {lo:Nat} {v:AV} {l:List Geo.V} (h:RowV H lo v l) (hlo:lo≤H.next) (hlen:l.length<2^20) (x:Geo.V):
 ∃v' H',appendA H 3 24 true v [ivC x]=some (v',H')∧RowV H' lo v' (l++[x])∧H'.next=H.next+1∧∀j,j<lo→H'.get j=H.get j:=by
 rcases h with ⟨rfl,rfl⟩|⟨rid,hne,rfl,hg,h1,h2⟩
 · refine⟨_,_,lC rfl (by simp),.inr ⟨H.next,by simp,rfl,by rw[Heap.aH,if_pos rfl];rfl,hlo,by simp⟩,by simp,fun j hj=>by rw[Heap.aH,if_neg (by omega)]⟩
 · have hl4:(ivE l).flatten.length=l.length*3:=by
    rw[eV (sz:=3) (fun e he=>?_),aJ];obtain⟨x,_,rfl⟩:=List.mem_map.1 he;rfl
   refine⟨_,_,lD hg hl4 rfl (by simp only[List.length_cons,List.length_nil];omega) (by decide),.inr ⟨H.next,by simp,by simp,?_,hlo,by simp⟩,by simp,fun j hj=>by rw[Heap.aH,Heap.aS,if_neg (by omega),Heap.aB,if_neg (by omega)]⟩;rw[Heap.aH,Heap.aS,if_pos rfl];simp[ivE]
theorem RowV.over {H H':Heap} {lo:Nat} {v:AV} {l:List Geo.V} (h:RowV H lo v l) (ho:Over H H'):RowV H' lo v l:=by
 rcases h with h|⟨rid,h0,h1,h2,h3,h4⟩
 · exact .inl h
 · exact .inr ⟨rid,h0,h1,(ho.same _ h4).trans h2,h3,Nat.lt_of_lt_of_le h4 ho.le⟩
theorem yS {tag:Nat} {l:List Geo.V} (hlen:l.length≤64) {r:Nat} {o:Bool} {H:Heap} (hrn:r<H.next) (hr:H.get r=some (.cells [.aT tag 3 (ivE l)] o)):
 ∃H' v,Over H H'∧RowV H' H.next v l∧Sound Tryz.prog gv 227 [.nilsl,.func (.func 200) [] [.ref r 0]] H (.ret v) H':=by
 suffices h:∃out H',(∃v,out=.ret v∧Over H H'∧RowV H' H.next v l)∧Sound Tryz.prog gv 227 [.nilsl,.func (.func 200) [] [.ref r 0]] H out H' by
  obtain⟨_,H',⟨v,rfl,h1,h2⟩,hS⟩:=h;exact⟨H',v,h1,h2,hS⟩
 refine jQ fit aUj (Nat.le_of_ble_eq_true rfl) ?_;unfold W227;dsimp only;refine aA fun K hK=>?_;simp only[↓zP,zG,Nat.reduceLT,zI];apply hK;clear hK K;refine aA fun K hK=>?_;refine aA fun K2 hK2=>?_;simp only[↓zP,zG,Nat.reduceLT,Nat.reduceEqDiff,zI];apply hK2;clear hK2 K2
 have hbd:FBnd 13 (upd (upd (upd (startF [.nilsl,.func (.func 200) [] [.ref r 0]]) 2 (.ref H.next 0)) 4 .nilsl) 6 (.func (.func 200) [] [.ref r 0])):=
  ((((jO (Nat.le_of_ble_eq_true rfl)).1.upd (by decide) _).upd (by decide) _).upd (by decide) _)
 have hf2:(upd (upd (upd (startF [.nilsl,.func (.func 200) [] [.ref r 0]]) 2 (.ref H.next 0)) 4 .nilsl) 6 (.func (.func 200) [] [.ref r 0])) 2=.ref H.next 0:=rfl;have hf6:(upd (upd (upd (startF [.nilsl,.func (.func 200) [] [.ref r 0]]) 2 (.ref H.next 0)) 4 .nilsl) 6 (.func (.func 200) [] [.ref r 0])) 6=.func (.func 200) [] [.ref r 0]:=rfl;generalize upd (upd (upd (startF [.nilsl,.func (.func 200) [] [.ref r 0]]) 2 (.ref H.next 0)) 4 .nilsl) 6 (.func (.func 200) [] [.ref r 0])=f at *;refine aI ?_;refine nM (by rw[dA];exact hf6) ?_;simp only[Heap.aX];generalize hkey:LKey.mk [7] _ _=key
 let I:Nat→Heap→Prop:=fun i H'=>Over H H'∧H.next+3≤H'.next∧H'.get (H.next+1)=some .dfd∧H'.get (H.next+2)=some (.loop key (LF 13 f) .ready)∧∃v,H'.get H.next=some (.cells [v] false)∧RowV H' (H.next+3) v (l.take i)
 have hst:∀i H1 H2,Over H1 H2→I i H1→I i H2:=fun i H1 H2 ho ⟨w1,w2,w3,w4,v,w5,w6⟩=>
  ⟨⟨Nat.le_trans w1.le ho.le,fun j hj=>(ho.same j (by omega)).trans (w1.same j hj)⟩,Nat.le_trans w2 ho.le,(ho.same _ (by omega)).trans w3,(ho.same _ (by omega)).trans w4,v,(ho.same _ (by omega)).trans w5,w6.over ho⟩
 have h0:I 0 (((H.alloc (.cells [.nilsl] false)).alloc .dfd).alloc (.loop key (LF 13 f) .ready)):=
  ⟨(((Over.refl H).alloc _).alloc _).alloc _,by simp,by simp[Heap.aH],by simp[Heap.aH],.nilsl,by simp[Heap.aH];omega,.inl ⟨by simp,rfl⟩⟩
 have hstep:∀i (hi:i<l.length) H1,I i H1→∃H',YSound Tryz.prog gv (H.next+1+1) [.agg (ivC l[i])] H1 (.ret (.bool true)) H'∧I (i+1) H':=by
  rintro i hi H1 ⟨w1,w2,w3,w4,v,w5,w6⟩
  have htk:l.take (i+1)=l.take i++[l[i]]:=by rw[List.take_add_one];simp[hi]
  have htl:(l.take i).length=i:=by simp;omega
  generalize l[i]=x at *
  suffices h:∃H',FRound Tryz.prog gv 13 key f (H.next+1+1) [.agg (ivC x)] H1 (.ret (.bool true)) H'∧I (i+1) H' by
   obtain⟨H',hr,hI⟩:=h;exact⟨H',aEk fit hbd w4 (by rw[←hkey];rfl) hr,hI⟩
  have ov:Over H1 ((H1.alloc (.cells [.int .i64 0,.int .i64 0,.int .i64 0] false)).set H1.next (.cells (ivC x) false)):=((Over.refl H1).alloc _).set (Nat.le_refl _) _
  have gx:((H1.alloc (.cells [.int .i64 0,.int .i64 0,.int .i64 0] false)).set H1.next (.cells (ivC x) false)).get H1.next=some (.cells (ivC x) false):=by rw[Heap.aB,if_pos rfl]
  have gn:((H1.alloc (.cells [.int .i64 0,.int .i64 0,.int .i64 0] false)).set H1.next (.cells (ivC x) false)).next=H1.next+1:=by simp
  have hgen:∀(HA:Heap) (ob:AObj),Over H1 HA→HA.get H1.next=some (.cells (ivC x) false)→HA.next=H1.next+1→∃v' Hp,appendA (HA.set (H.next+1+1) ob) 3 24 true v [ivC x]=some (v',Hp)∧RowV Hp (H.next+3) v' (l.take (i+1))∧Hp.next=HA.next+1∧∀j,j<H.next+3→Hp.get j=(HA.set (H.next+1+1) ob).get j:=fun HA ob o1 o2 o3=>by
   have :RowV (HA.set (H.next+1+1) ob) (H.next+3) v (l.take i):=by
    rcases w6 with h|⟨rid,q0,q1,q2,q3,q4⟩
    · exact .inl h
    · exact .inr ⟨rid,q0,q1,by rw[Heap.aB,if_neg (by omega),o1.same _ q4];exact q2,q3,by rw[Heap.aS];omega⟩
   obtain⟨v',Hp,h1,h2,h3,h4⟩:=this.push (by rw[Heap.aS];omega) (by omega) x;exact⟨v',Hp,h1,by rw[htk];exact h2,h3,h4⟩
  have w4':=(ov.same (H.next+2) (by omega)).trans w4;have w5':=(ov.same H.next (by omega)).trans w5;have w3':=(ov.same (H.next+1) (by omega)).trans w3;have w1':Over H ((H1.alloc (.cells [.int .i64 0,.int .i64 0,.int .i64 0] false)).set H1.next (.cells (ivC x) false)):=⟨Nat.le_trans w1.le ov.le,fun j hj=>(ov.same j (by omega)).trans (w1.same j hj)⟩;obtain⟨v',Hp,p1,p2,p3,p4⟩:=hgen _ (.loop key (LF 13 f) .busy) ov gx gn
  obtain⟨sa,sb,sc,sd,se,rfl⟩:∃a b c d e,v'=.sl a b c d e:=by
   rcases p2 with ⟨h,_⟩|⟨rid,_,h,_⟩
   · rw[htk] at h;simp at h
   · exact⟨_,_,_,_,_,h⟩
  refine⟨(Hp.set H.next (.cells [.sl sa sb sc sd se] false)).set (H.next+1+1) (.loop key (LF 13 f) .ready),?_,?_⟩
  · subst hkey
    unfold FRound;dsimp only[List.zip,List.zipWith,putAllF,putF]
    have hasg:FC Tryz.prog gv 13 (.ops [⟨some 5,.alloc [.int .i64 0,.int .i64 0,.int .i64 0],none⟩,⟨none,.store 3 (.tmp 5) (.tmp 7),none⟩]) (upd f 7 (.agg (ivC x))) [] H1 (fun e f1 ds1 H1'=>e=.normal∧f1=upd (upd f 7 (.agg (ivC x))) 5 (.ref H1.next 0)∧ds1=[]∧H1'=(H1.alloc (.cells [.int .i64 0,.int .i64 0,.int .i64 0] false)).set H1.next (.cells (ivC x) false)):=by
     simp only[↓zP,zG,Nat.reduceLT,Nat.reduceEqDiff,Nat.reduceAdd,zI,oL (aG x)]
    refine dG (fun e f1 ds1 H1' h=>?_) hasg;obtain⟨rfl,rfl,rfl,rfl⟩:=h;refine⟨rfl,_,_,w4',?_⟩;generalize (H1.alloc (.cells [.int .i64 0,.int .i64 0,.int .i64 0] false)).set H1.next (.cells (ivC x) false)=HA at *;refine aI ?_
    have n1:¬(H.next=H.next+1+1):=by omega
    have n2:¬(H1.next=H.next+1+1):=by omega
    have pb:=(p4 H.next (by omega)).trans ((by rw[Heap.aB,if_neg (by omega)]:_=HA.get H.next).trans w5');have pl:=(p4 (H.next+1+1) (by omega)).trans (by rw[Heap.aB,if_pos rfl]);simp only[↓zP,zG,Nat.reduceLT,Nat.reduceEqDiff,zI,hf2,w5',gx,n1,n2,oL (aG x)];rw[show ∀(h:Heap) (x:List AV),elemsOf h 3 (.aT 1 3 [x])=some [x] from fun _ _=>rfl];simp only[p1,aZ,zG,zI,pb];exact⟨rfl,rfl,_,_,by rw[Heap.aB,if_neg (by omega)];exact pl,rfl⟩
  · have pn:H1.next≤Hp.next:=by omega
    refine⟨⟨by simp only[Heap.aS];have :=w1.le;omega,fun j hj=>?_⟩,by simp only[Heap.aS];omega,?_,?_,.sl sa sb sc sd se,?_,?_⟩
    · rw[Heap.aB,if_neg (by omega),Heap.aB,if_neg (by omega),p4 j (by omega),Heap.aB,if_neg (by omega)]
      exact w1'.same j hj
    · rw[Heap.aB,if_neg (by omega),Heap.aB,if_neg (by omega),p4 _ (by omega),Heap.aB,if_neg (by omega)]
      exact w3'
    · rw[Heap.aB,if_pos rfl]
    · rw[Heap.aB,if_neg (by omega),Heap.aB,if_pos rfl]
    · rcases p2 with h|⟨rid,q0,q1,q2,q3,q4⟩
      · exact .inl h
      · exact .inr ⟨rid,q0,q1,by rw[Heap.aB,if_neg (by omega),Heap.aB,if_neg (by omega)];exact q2,q3,by simp only[Heap.aS];omega⟩
 obtain⟨He,⟨w1,w2,w3,w4,v,w5,w6⟩,hS⟩:=aDw (tag:=tag) (o:=o) (by omega) I hst hstep (r:=r) (by
  rw[Heap.aH,if_neg (by simp;omega),Heap.aH,if_neg (by simp;omega),Heap.aH,if_neg (by omega)];exact hr) h0
 refine⟨_,He,_,_,_,hS,w4,fun Hf hf=>?_⟩;obtain⟨f1,f2⟩:=hf;show K f [.mark (H.next+1)] Hf;apply hK;clear hK K
 have b0:Hf.get H.next=some (.cells [v] false):=by rw[f2,if_neg (by omega)];exact w5
 have b1:Hf.get (H.next+1)=some .dfd:=by rw[f2,if_neg (by omega)];exact w3
 simp only[↓zP,zG,Nat.reduceLT,zI,hf2,b0];rw[List.take_length] at w6;refine⟨b1,[v],rfl,v,rfl,⟨by rw[Heap.aS,f1];exact w1.le,fun j hj=>by rw[Heap.aB,if_neg (by omega),f2,if_neg (by omega)];exact w1.same j hj⟩,?_⟩
 rcases w6 with h|⟨rid,q0,q1,q2,q3,q4⟩
 · exact .inl h
 · exact .inr ⟨rid,q0,q1,by rw[Heap.aB,if_neg (by omega),f2,if_neg (by omega)];exact q2,by omega,by rw[Heap.aS,f1];exact q4⟩
def vCmp (p q:Geo.V):Int:=orZ [cmpZ p.x q.x,cmpZ p.y q.y,cmpZ p.z q.z]
theorem tD (p q:Geo.V):vCmp p q<0↔VLt p q:=lY (p,0) (q,0)
theorem aIx (p q:Geo.V) (H:Heap):Sound Tryz.prog gv 149 [.agg (ivC p),.agg (ivC q)] H (.ret (.int .i64 (vCmp p q))) H:=by
 refine Sp aYx (by simp only[sf,bA]) (by simp only[sf]) ?_ H;unfold W149;dsimp only;refine aA fun K hK=>?_;simp only[↓zP,zG,Nat.reduceLT,Nat.reduceEqDiff,zI];apply hK;clear hK K;refine aA fun K hK=>?_;refine aQ (by decide) ?_;simp only[↓zP,zG,Nat.reduceLT,Nat.reduceEqDiff,Nat.reduceAdd,zD,reduceCtorEq,zI,Nat.reduceLeDiff,ivC,fS];refine cE (cX p.x q.x _) ?_;simp only[↓zP,zG,Nat.reduceLT,Nat.reduceEqDiff,Nat.reduceAdd,zD,reduceCtorEq,zI,Nat.reduceLeDiff,fS];refine cE (cX p.y q.y _) ?_;simp only[↓zP,zG,Nat.reduceLT,Nat.reduceEqDiff,Nat.reduceAdd,zD,reduceCtorEq,zI,fS];refine cE (cX p.z q.z _) ?_;simp only[↓zP,zG,Nat.reduceLT,Nat.reduceEqDiff,Nat.reduceAdd,zD,reduceCtorEq,zI];have hor:=aNb [cmpZ p.x q.x,cmpZ p.y q.y,cmpZ p.z q.z] (by simp);simp only[intsE,sm] at hor;refine cE (hor _) ?_;simp only[↓zP,zG,Nat.reduceLT,Nat.reduceEqDiff,Nat.reduceAdd,zD,reduceCtorEq,zI];apply hK;clear hK K;simp only[↓zP];exact⟨rfl,_,by simp only[↓zP,zR];rfl,rfl⟩
def vV (q:Geo.V):Vec 3:=⟨[q.x,q.y,q.z],rfl⟩
def unvV (x:Vec 3):Geo.V:=⟨x.1.getD 0 0,x.1.getD 1 0,x.1.getD 2 0⟩
theorem aAv (x:Vec 3):vV (unvV x)=x:=by
 obtain⟨l,hl⟩:=x
 match l,hl with
 |[a,b,c],_=>rfl
theorem aHs (q:Geo.V):encA (vV q)=ivC q:=rfl
theorem aAo:∀S:List Geo.V,(rowV (S.map vV)).map (AV.int .i64)=(ivE S).flatten
 |[]=>rfl
 |q::S=>by
  have :=aAo S;simp only[rowV,List.map_cons,List.flatMap_cons,List.map_append,List.flatten_cons,ivE] at this ⊢;rw[this];rfl
theorem bFs:Go.Sort.SWO (Go.Proofs.ltOf fun x y:Vec 3=>vCmp (unvV x) (unvV y)) where
 irrefl x:=by simp only[Go.Proofs.ltOf,tD,decide_eq_false_iff_not];exact VLt.irr _
 trans x y z h1 h2:=by
  simp only[Go.Proofs.ltOf,tD,decide_eq_true_eq] at *;exact VLt.trans h1 h2
 ntrans x y z h1 h2:=by
  simp only[Go.Proofs.ltOf,tD,decide_eq_false_iff_not] at *;unfold VLt at *;omega
theorem aAf:FnOK Tryz.prog 199:=⟨_,Tryz.func199,by kernel_rfl,by kernel_rfl⟩
theorem aQa (d:List (Vec 3)) (hd:d.length<4611686018427387904):
 ∃d':List (Vec 3),d'.Perm d∧(d'.Pairwise fun a b=>¬vCmp (unvV b) (unvV a)<0)∧∀(H:Heap) (id:Nat) (opn:Bool),H.get id=some (.cells ((rowV d).map (AV.int .i64)) opn)→
  Sound Tryz.prog gv 199 [.sl id 3 0 d.length d.length,.func (.func 149) [] []] H (.ret (.tup [])) (H.set id (.cells ((rowV d').map (AV.int .i64)) opn)):=
 nO (fun _=>rfl) Tryz.aPz (by decide) Tryz.isAgg35 Tryz.sizeOf35 rfl aAf (aIx V0 V0 ⟨0,.nil⟩).1 bFs (fun x y=>by
  have :=aIx (unvV x) (unvV y) ⟨0,.nil⟩
  rwa [←aHs,←aHs,aAv,aAv] at this) d hd
theorem aJn {tag:Nat} (l:List Geo.V) (H:Heap):Sound Tryz.prog gv 148 [.aT tag 3 (ivE l)] H (.ret (.func (.func 200) [] [.ref H.next 0])) (H.alloc (.cells [.aT tag 3 (ivE l)] false)):=by
 refine eI aUf (Nat.le_of_ble_eq_true rfl) ?_;unfold W148;dsimp only;simp only[↓zP,zG,Nat.reduceLT,Nat.reduceEqDiff,zI];refine⟨rfl,_,by simp only[↓zP,zR];rfl,?_⟩;exact⟨rfl,rfl⟩
theorem aEe {tag:Nat} {l:List Geo.V} (hlen:l.length≤64) {r:Nat} {o:Bool} {H:Heap} (hrn:r<H.next) (hr:H.get r=some (.cells [.aT tag 3 (ivE l)] o)):
 ∃H' v,Over H H'∧RowV H' H.next v l∧Sound Tryz.prog gv 198 [.func (.func 200) [] [.ref r 0]] H (.ret v) H':=by
 obtain⟨H',v,h1,h2,hS⟩:=yS hlen hrn hr;refine⟨H',v,h1,h2,?_⟩;refine eI aUh (Nat.le_of_ble_eq_true rfl) ?_;unfold W198;dsimp only;simp only[↓zP,zG,Nat.reduceLT,Nat.reduceEqDiff,zI];refine bF (hS) ?_;simp only[↓zP,zG,Nat.reduceLT];refine⟨rfl,_,by simp only[↓zP,zR];rfl,?_⟩;exact⟨rfl,rfl⟩
theorem wF {tag:Nat} {l:List Geo.V} (hlen:l.length≤64) {r:Nat} {o:Bool} {H:Heap} (hrn:r<H.next) (hr:H.get r=some (.cells [.aT tag 3 (ivE l)] o)):
 ∃H' v S,S.Perm l∧(S.Pairwise fun a b=>¬VLt b a)∧Over H H'∧RowV H' H.next v S∧Sound Tryz.prog gv 147 [.func (.func 200) [] [.ref r 0],.func (.func 149) [] []] H (.ret v) H':=by
 obtain⟨H1,v,h1,h2,hS⟩:=aEe hlen hrn hr
 rcases h2 with ⟨rfl,rfl⟩|⟨rid,hne,rfl,hg,hlo,hn⟩
 · refine⟨H1,.nilsl,[],.refl _,.nil,h1,.inl ⟨rfl,rfl⟩,?_⟩
   refine eI aOc (Nat.le_of_ble_eq_true rfl) ?_;unfold W147;dsimp only;simp only[↓zP,zG,Nat.reduceLT,Nat.reduceEqDiff,zI];refine bF (hS) ?_;simp only[↓zP,zG,Nat.reduceLT,Nat.reduceEqDiff,zI];refine bF (dT Tryz.aPz rfl aAf 149 _) ?_;simp only[↓zP,zG,Nat.reduceEqDiff];refine⟨rfl,_,by simp only[↓zP,zR];rfl,?_⟩;exact⟨rfl,rfl⟩
 · obtain⟨d',q1,q2,q3⟩:=aQa (l.map vV) (by simp only[List.length_map];omega)
   have hgr:H1.get rid=some (.cells ((rowV (l.map vV)).map (AV.int .i64)) true):=by rw[hg,aAo]
   have hc:=q3 H1 rid true hgr;rw[List.length_map] at hc
   have hd':d'=(d'.map unvV).map vV:=by rw[List.map_map];exact(List.map_congr_left (g:=id) (fun x _=>aAv x)).trans (List.map_id d') |>.symm
   rw[hd',aAo] at hc
   have hp:(d'.map unvV).Perm l:=by
    have h1:=q1.map unvV
    rwa [List.map_map,show(unvV∘vV)=id from rfl,List.map_id] at h1
   have hl:=hp.length_eq;refine⟨H1.set rid (.cells (ivE (d'.map unvV)).flatten true),.sl rid 3 0 (d'.map unvV).length (d'.map unvV).length,d'.map unvV,hp,?_,⟨by rw[Heap.aS];exact h1.le,fun j hj=>?_⟩,.inr ⟨rid,fun h=>hne (List.eq_nil_of_length_eq_zero (by rw[←hl,h];rfl)),rfl,?_,hlo,by rw[Heap.aS];exact hn⟩,?_⟩
   · rw[List.pairwise_map]
     exact q2.imp fun h h2=>h ((tD _ _).2 h2)
   · rw[Heap.aB,if_neg (by omega)];exact h1.same j hj
   · rw[Heap.aB,if_pos rfl]
   · rw[hl]
     refine eI aOc (Nat.le_of_ble_eq_true rfl) ?_;unfold W147;dsimp only;simp only[↓zP,zG,Nat.reduceLT,Nat.reduceEqDiff,zI];refine bF (hS) ?_;simp only[↓zP,zG,Nat.reduceLT,Nat.reduceEqDiff,zI];refine bF (hc) ?_;simp only[↓zP,zG,Nat.reduceEqDiff];refine⟨rfl,_,by simp only[↓zP,zR];rfl,?_⟩;exact⟨rfl,rfl⟩
end Go.Proofs.YtjiignefffdelaaGreatDoor
