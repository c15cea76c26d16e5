/-
  Parts of the proof of statement 4: AvDrawD, AvDrawE
-/
import Derived.Test.YtjiignefffdelaaGreatDoorA11
import Derived.Orders
set_option linter.unusedVariables false
set_option linter.unusedSectionVars false
set_option linter.unusedSimpArgs false
namespace Go.Av
open Go
section
theorem iZ {r:ROp} (h:r.reads=true):r.eff=false:=by cases r<;>first|rfl|cases h
theorem kZ {r:ROp} (h:r.reads=true):r.fresh=false:=by cases r<;>first|rfl|cases h
theorem aOb {G:Gh} {w:World} {v:AV} {u:Value} {id:Nat} (h:idOf v=some id) (hv:VR G w v u):∃l,G.loc id=some l:=by
 cases hv<;>simp only[idOf] at h<;>first
  |(cases h;done)
  |(obtain rfl:=Option.some.inj h;exact⟨_,by assumption⟩)
theorem aDc {ev:Arg→AV} {r:ROp} {id:Nat} (h:r.readsId ev=some id):∃y∈r.args,idOf (ev y)=some id:=by
 cases r<;>simp only[ROp.readsId] at h<;>first
  |(cases h;done)
  |exact⟨_,by simp[ROp.args],h⟩
theorem wS {ev ev':Arg→AV} {r:ROp} (h:∀y∈r.args,ev y=ev' y):r.readsId ev=r.readsId ev':=by
 cases r<;>simp only[ROp.readsId]<;>first
  |rfl
  |rw[h _ (by simp[ROp.args])]
theorem aCc {ev:Arg→AV} {r:ROp} {ob:AObj} {val:Nat→AV} (h:fop ev r=some (ob,val)):ob.live=true:=by
 cases r<;>simp only[fop] at h<;>first
  |(cases h;done)
  |(obtain⟨rfl,rfl⟩:=Prod.mk.inj (Option.some.inj h);rfl)
  |(repeat' (split at h)
    all_goals first
     |(cases h;done)
     |(obtain⟨rfl,rfl⟩:=Prod.mk.inj (Option.some.inj h);rfl))
section
variable {P:Program} {g:Genv} {ops:Array Oper} {rl:List ROper} {pairs:List (Nat×Nat)} {anc:Nat→Nat→Bool} {s0:List AV} {H0:Heap} {Hs:Nat→Heap} {ss:Nat→List AV} {vs:Nat→AV}
variable {G0:Gh} {w0:World} {dl:List Deferred} {listed:Array Bool} {p:Nat} {G:Gh} {HS:Heap} {w:World} {a:Act} {sS:List AV}
variable (I:DInv P g ops rl pairs anc s0 H0 Hs ss vs G0 w0 dl listed p G HS w a sS) (D:DrawRun P g rl pairs s0 H0 Hs ss vs) (K:DrawOK ops rl pairs anc)
include I K D
theorem DInv.aIf {j e:Nat} (hj:Rdy ops listed j) (he:doneB listed e=true):anc j e=false:=by
 cases hc:anc j e with
 |false=>rfl
 |true=>
  have :=I.closed j e he hc;rw[hj.not] at this;cases this
theorem DInv.aCs {j e:Nat} (hj:Rdy ops listed j) (he:doneB listed e=false):anc e j=false:=by
 cases hc:anc e j with
 |false=>rfl
 |true=>
  have :=I.pA K hj hc;rw[he] at this;cases this
theorem DInv.aQg {e:Nat} {re:ROper} (hre:rl[e]?=some re) (hee:re.op.eff=true) (h:p≤e):doneB listed e=false:=by
 cases hs:doneB listed e with
 |false=>rfl
 |true=>have :=(I.pos e re hre hee).1 hs;omega
theorem DInv.aLt {j:Nat} {r:ROper} (hj:Rdy ops listed j) (hr:rl[j]?=some r) (hw:wantedA (ss j) r=true) {id:Nat} (hid:r.op.readsId (Arg.eval g (ss j))=some id) {l:Loc} (hl:G.loc id=some l)
 (hsome:(Hs j).get id≠none):HS.get id=(Hs j).get id:=by
 have hrd:=dQ hid;have hlt:=(List.getElem?_eq_some_iff.1 hr).1
 rcases I.cont id l hl with ⟨i,ri,h1,h2,h3,h4,h5,rfl,h7⟩|⟨h1,h2⟩
 · have hne:i≠j:=fun he=>by rw[he,hj.not] at h3;cases h3
   by_cases hij:i<j
   · rw[h7]
     refine(D.gC (p:=i+1) (q:=j) (by omega) (fun e re q1 q2 q3 q4 q5=>?_) (fun k rk q1 q2 q3 q4 q5=>eN h1 q3 h2 q4 (by omega)) j (by omega) (Nat.le_refl _)).symm;have hnd:=I.aQg D K q3 q4 (by omega);exact D.stable j e ((K.cmp e j re r q2 q3 hr (I.aCs D K hj hnd)).2.2.2.2 q4 hrd) r re hr q3 hw q5 _ (.inl hid)
   · exact absurd (D.lS K h1 h2 h4 j (by omega)) hsome
 · rw[h2]
   by_cases hpj:p≤j
   · refine(D.gC (p:=p) (q:=j) (by omega) (fun e re q1 q2 q3 q4 q5=>?_) (fun k rk q1 q2 q3 q4 q5=>h1 k rk q1 q3 q4 q5) j hpj (Nat.le_refl _)).symm
     have hnd:=I.aQg D K q3 q4 q1;exact D.stable j e ((K.cmp e j re r q2 q3 hr (I.aCs D K hj hnd)).2.2.2.2 q4 hrd) r re hr q3 hw q5 _ (.inl hid)
   · refine D.gC (p:=j) (q:=p) I.ple (fun e re q1 q2 q3 q4 q5=>?_) (fun k rk q1 q2 q3 q4 q5 he=>?_) p (by omega) (Nat.le_refl _)
     · have hne:e≠j:=fun he=>by
        subst he;rw[hr] at q3;cases q3;rw[iZ hrd] at q4;cases q4
       have hd:=(I.pos e re q3 q4).2 q2;exact D.stable j e ((K.cmp j e r re (by omega) hr q3 (I.aIf D K hj hd)).2.2.2.1 q4 (.inl hrd)) r re hr q3 hw q5 _ (.inl hid)
     · rw[he] at hsome
       exact hsome (D.lS K q3 q4 q5 j q1)
theorem DInv.jX {i:Nat} {ri:ROper} (hi:rl[i]?=some ri) (hf:ri.op.fresh=true) {k:Nat} (hk:k≤rl.length):kept H0 rl i<(Hs k).next:=by
 have h1:=D.mP (p:=0) k (Nat.zero_le _) hk;have h2:=aHy (rl:=rl) hi hf;rw[D.h0] at h1;unfold kept;simp only at h1;omega
theorem DInv.aNd {j:Nat} {r:ROper} (hj:Rdy ops listed j) (hr:rl[j]?=some r) (he:r.op.eff=true):∀id l,G.loc id=some l→
 (∃i ri,rl[i]?=some ri∧ri.op.fresh=true∧doneB listed i=true∧wantedA (ss i) ri=true∧j<i∧id=kept H0 rl i∧HS.get id=(Hs (i+1)).get id∧(Hs j).get id=none)∨
 ((∀i ri,j≤i→rl[i]?=some ri→ri.op.fresh=true→wantedA (ss i) ri=true→id≠kept H0 rl i)∧HS.get id=(Hs j).get id):=by
 intro id l hl;have hlt:=(List.getElem?_eq_some_iff.1 hr).1;obtain⟨hpj,hno⟩:=I.aAb K hj hr he
 have noE:∀{q:Nat},p≤q→∀e re,q≤e→e<j→rl[e]?=some re→re.op.eff=true→wantedA (ss e) re=true→(Hs e).get id=(Hs (e+1)).get id:=fun hq e re q1 q2 q3 q4 q5=>by
  have :=hno e re (by omega) q2 q3;rw[q4] at this;cases this
 rcases I.cont id l hl with ⟨i,ri,h1,h2,h3,h4,h5,h6,h7⟩|⟨h1,h2⟩
 · have hne:i≠j:=fun hh=>by rw[hh,hj.not] at h3;cases h3
   by_cases hij:i<j
   · refine .inr ⟨fun k rk q1 q2 q3 q4=>?_,?_⟩
     · rw[h6];exact eN h1 q2 h2 q3 (by omega)
     · rw[h7]
       exact(D.gC (p:=i+1) (q:=j) (by omega) (noE (by omega)) (fun k rk q1 q2 q3 q4 q5=>by rw[h6];exact eN h1 q3 h2 q4 (by omega)) j (by omega) (Nat.le_refl _)).symm
   · exact .inl ⟨i,ri,h1,h2,h3,h4,by omega,h6,h7,by rw[h6];exact D.lS K h1 h2 h4 j (by omega)⟩
 · refine .inr ⟨fun k rk q1 q2 q3 q4=>h1 k rk (by omega) q2 q3 q4,?_⟩
   rw[h2];exact(D.gC (p:=p) (q:=j) (by omega) (noE (Nat.le_refl _)) (fun k rk q1 q2 q3 q4 q5=>h1 k rk q1 q3 q4 q5) j hpj (Nat.le_refl _)).symm
theorem DInv.aGj {j:Nat} {r:ROper} (hj:Rdy ops listed j) (hr:rl[j]?=some r) (he:r.op.eff=true):WR g G (Hs j) w:=by
 have hA:=I.aNd D K hj hr he;have hlt:=(List.getElem?_eq_some_iff.1 hr).1;obtain⟨hpj,hno⟩:=I.aAb K hj hr he
 have hget:∀{id l o},G.loc id=some l→(Hs j).get id=some o→HS.get id=some o:=fun hl ho=>by
  rcases hA _ _ hl with ⟨_,_,_,_,_,_,_,_,_,hn⟩|⟨_,h⟩
  · rw[hn] at ho;cases ho
  · rw[h];exact ho
 have hliv:∀{id l},G.loc id=some l→(Hs j).live id→HS.live id:=fun hl ⟨o,ho,hv⟩=>⟨o,hget hl ho,hv⟩
 exact {
  cells:=fun id l cs opn h1 h2=>I.rel.cells id l cs opn h1 (hget h1 h2)
  room:=fun id l h1 h2=>I.rel.room id l h1 (h2.imp (fun⟨cs,opn,h⟩=>⟨cs,opn,hget h1 h⟩) (fun h=>hget h1 h))
  disj:=fun id id' l l' hne h1 h2 h3 h4=>I.rel.disj id id' l l' hne h1 h2 (hliv h1 h3) (hliv h2 h4)
  immd:=fun id l h1 h2=>I.rel.immd id l h1 (hliv h1 h2)
  mapr:=fun id l o h1 h2=>I.rel.mapr id l o h1 (hget h1 h2)
  lt:=fun id l h1=>by
   have :=I.rel.lt id l h1;rw[I.nxt] at this
   rwa [D.yL (p:=p) (q:=j) (by omega) hno j hpj (Nat.le_refl _)]
  imme:=I.rel.imme
  glob:=I.rel.glob
  mo:=I.rel.mo}
theorem DInv.aKw (j:Nat) (H:Heap):∀m,m≤rl.length→∃Hm:Heap,Hm.next=H.next∧
 (∀i ri,i<m→rl[i]?=some ri→ri.op.fresh=true→doneB listed i=true→wantedA (ss i) ri=true→j<i→Hm.get (kept H0 rl i)=(Hs (i+1)).get (kept H0 rl i))∧
 (∀id,(∀i ri,i<m→rl[i]?=some ri→ri.op.fresh=true→doneB listed i=true→wantedA (ss i) ri=true→j<i→id≠kept H0 rl i)→Hm.get id=H.get id):=by
 intro m
 induction m with
 |zero=>exact fun _=>⟨H,rfl,fun i ri h=>absurd h (Nat.not_lt_zero i),fun id _=>rfl⟩
 |succ m ih=>
  intro hm;obtain⟨Hm,h1,h2,h3⟩:=ih (by omega)
  obtain⟨rm,hrm⟩:∃r,rl[m]?=some r:=⟨rl[m]'(by omega),List.getElem?_eq_getElem (by omega)⟩
  by_cases hc:rm.op.fresh=true∧doneB listed m=true∧wantedA (ss m) rm=true∧j<m
  · obtain⟨c1,c2,c3,c4⟩:=hc
    obtain⟨ob,val,_,_,e3⟩:=D.eP hrm c1 c3
    have hob:(Hs (m+1)).get (kept H0 rl m)=some ob:=by rw[e3,Heap.aB,if_pos rfl]
    refine⟨Hm.set (kept H0 rl m) ob,h1,fun i ri q1 q2 q3 q4 q5 q6=>?_,fun id hid=>?_⟩
    · rw[Heap.aB]
      by_cases him:i=m
      · subst him
        rw[if_pos rfl,hob]
      · rw[if_neg (eN q2 hrm q3 c1 him)]
        exact h2 i ri (by omega) q2 q3 q4 q5 q6
    · rw[Heap.aB,if_neg (hid m rm (by omega) hrm c1 c2 c3 c4)]
      exact h3 id (fun i ri q1=>hid i ri (by omega))
  · refine⟨Hm,h1,fun i ri q1 q2 q3 q4 q5 q6=>?_,fun id hid=>h3 id (fun i ri q1=>hid i ri (by omega))⟩
    by_cases him:i=m
    · subst him
      rw[hrm] at q2;cases q2;exact absurd ⟨q3,q4,q5,q6⟩ hc
    · exact h2 i ri (by omega) q2 q3 q4 q5 q6
theorem DInv.rA (hlt0:∀id l,G0.loc id=some l→id<H0.next) {j:Nat} {r:ROper} (hj:Rdy ops listed j) (hr:rl[j]?=some r) (he:r.op.eff=true) {G1:Gh} {w1:World} {u:Value}
 (rel1:WR g G1 (Hs (j+1)) w1) (e1:Ext G (Hs j) w G1 (Hs (j+1)) w1) (hv:VR G1 w1 (vs j) u):
 ∃HS1,DInv P g ops rl pairs anc s0 H0 Hs ss vs G0 w0 dl (listed.setIfInBounds j true) (j+1) G1 HS1 w1 (a.put r.dst u) (putA sS r.dst (vs j)):=by
 have hA:=I.aNd D K hj hr he;have hlt:=(List.getElem?_eq_some_iff.1 hr).1;obtain⟨hpj,hno⟩:=I.aAb K hj hr he;obtain⟨HS1,n1,n2,n3⟩:=I.aKw D K j (Hs (j+1)) rl.length (Nat.le_refl _)
 let Late:Nat→Prop:=fun id=>∃i ri,rl[i]?=some ri∧ri.op.fresh=true∧doneB listed i=true∧wantedA (ss i) ri=true∧j<i∧id=kept H0 rl i
 have hlate:∀id,Late id→∃i ri,rl[i]?=some ri∧ri.op.fresh=true∧doneB listed i=true∧wantedA (ss i) ri=true∧j<i∧id=kept H0 rl i∧HS1.get id=(Hs (i+1)).get id:=fun id ⟨i,ri,q1,q2,q3,q4,q5,q6⟩=>
  ⟨i,ri,q1,q2,q3,q4,q5,q6,by rw[q6];exact n2 i ri (List.getElem?_eq_some_iff.1 q1).1 q1 q2 q3 q4 q5⟩
 have hnlate:∀id,¬Late id→HS1.get id=(Hs (j+1)).get id:=fun id hn=>n3 id (fun i ri q0 q1 q2 q3 q4 q5 he=>hn ⟨i,ri,q1,q2,q3,q4,q5,he⟩)
 have locOld:∀{id l},Late id→G1.loc id=some l→G.loc id=some l:=fun {id l} ⟨i,ri,q1,q2,q3,q4,q5,q6⟩ hl1=>by
  cases hl:G.loc id with
  |none=>
   have :=e1.news id l hl1 hl;have h2:=I.jX D K q1 q2 (k:=j) (by omega);rw[q6] at this;omega
  |some l'=>rw[e1.loc id l' hl] at hl1;exact hl1
 have lateGet:∀{id l},Late id→G.loc id=some l→HS1.get id=HS.get id∧(Hs j).get id=none:=fun {id l} hL hl=>by
  obtain⟨i,ri,q1,q2,q3,q4,q5,q6,q7⟩:=hlate id hL
  rcases hA id l hl with ⟨i',ri',p1,p2,p3,p4,p5,p6,p7,p8⟩|⟨h1,_⟩
  · have :i=i':=by
     refine Decidable.byContradiction fun hne=>?_;exact eN q1 p1 q2 p2 hne (q6.symm.trans p6)
    subst this;exact⟨q7.trans p7.symm,p8⟩
  · exact absurd q6 (h1 i ri (by omega) q1 q2 q4)
 have liveOld:∀{id0 l0},G.loc id0=some l0→(Hs j).live id0→HS.live id0∧¬Late id0:=fun {id0 l0} hl0 ⟨o,ho,hv⟩=>by
  rcases hA id0 l0 hl0 with ⟨_,_,_,_,_,_,_,_,_,hn⟩|⟨h1,h2⟩
  · rw[hn] at ho;cases ho
  · refine⟨⟨o,by rw[h2];exact ho,hv⟩,fun hL=>?_⟩
    have :=(lateGet hL hl0).2;rw[this] at ho;cases ho
 have lateExcl:∀{id l},Late id→G.loc id=some l→∀id' l',id'≠id→G.loc id'=some l'→HS.live id'→l'.blk≠l.blk:=fun {id l} ⟨i,ri,q1,q2,q3,q4,q5,q6⟩ hl id' l' hne hl' hv'=>by
  rw[q6] at hl hne;exact I.excl i ri (by omega) q1 q2 q3 q4 l hl id' l' hne hl' hv'
 have lateLive:∀{id l},Late id→G.loc id=some l→HS.live id:=fun {id l} hL hl=>by
  obtain⟨i,ri,q1,q2,q3,q4,q5,q6,q7⟩:=hlate id hL;obtain⟨ob,val,f1,_,f3⟩:=D.eP q1 q2 q4;refine⟨ob,?_,aCc f1⟩;rw[←(lateGet hL hl).1,q7,q6,f3,Heap.aB,if_pos rfl]
 have blkOther:∀{id l},Late id→G.loc id=some l→∀id0 l0,G.loc id0=some l0→(Hs j).live id0→l0.blk≠l.blk:=fun hL hl id0 l0 hl0 hv0=>by
  obtain⟨h1,h2⟩:=liveOld hl0 hv0;exact lateExcl hL hl id0 l0 (fun he=>h2 (he▸hL)) hl0 h1
 have blkNew:∀{id l},Late id→G.loc id=some l→∀id' l',G1.loc id'=some l'→(Hs (j+1)).live id'→l'.blk≠l.blk:=fun hL hl id' l' hl' hv'=>by
  have hb:=I.rel.eG hl (lateLive hL hl)
  rcases e1.blks id' l' hl' hv' with h|⟨id0,l0,h1,h2,h3⟩
  · omega
  · rw[←h3];exact blkOther hL hl id0 l0 h1 h2
 have heapSame:∀{id l},Late id→G.loc id=some l→w1.heap[l.blk]?=w.heap[l.blk]?:=fun hL hl=>
  e1.frame _ (I.rel.eG hl (lateLive hL hl)) (fun id0 l0 h1 h2=>blkOther hL hl id0 l0 h1 h2)
 have liveNew:∀{id},HS1.live id→Late id∨(¬Late id∧(Hs (j+1)).live id):=fun {id} ⟨o,ho,hv⟩=>by
  by_cases hL:Late id
  · exact .inl hL
  · exact .inr ⟨hL,o,by rw[←hnlate id hL];exact ho,hv⟩
 have otherBlk:∀{id l},Late id→G1.loc id=some l→∀id' l',id'≠id→G1.loc id'=some l'→HS1.live id'→l'.blk≠l.blk:=fun {id l} hL hl1 id' l' hne hl' hv'=>by
  have hl:=locOld hL hl1
  rcases liveNew hv' with hL'|⟨_,hv'⟩
  · exact lateExcl hL hl id' l' hne (locOld hL' hl') (lateLive hL' (locOld hL' hl'))
  · exact blkNew hL hl id' l' hl' hv'
 have hm:∀{x y},VR G w x y→VR G1 w1 x y:=fun hx=>hx.mono e1.loc e1.imm
 have rel':WR g G1 HS1 w1:={
  cells:=fun id l cs opn h1 h2=>by
   by_cases hL:Late id
   · have hl:=locOld hL h1
     obtain⟨a1,a2,a3,a4,a5⟩:=I.rel.cells id l cs opn hl (by rw[←(lateGet hL hl).1];exact h2);refine⟨a1,a2,a3,a4,fun k hk=>?_⟩;obtain⟨x,hx,hvx⟩:=a5 k hk;exact⟨x,by rw[cD (heapSame hL hl)];exact hx,hm hvx⟩
   · exact rel1.cells id l cs opn h1 (by rw[←hnlate id hL];exact h2)
  room:=fun id l h1 h2=>by
   by_cases hL:Late id
   · have hl:=locOld hL h1
     obtain⟨c,el,fz,a1,a2,a3⟩:=I.rel.room id l hl (by rw[←(lateGet hL hl).1];exact h2);exact⟨c,el,fz,by rw[heapSame hL hl];exact a1,a2,fun k hk=>by rw[dP (heapSame hL hl)];exact a3 k hk⟩
   · exact rel1.room id l h1 (by rw[←hnlate id hL];exact h2)
  disj:=fun id id' l l' hne h1 h2 hv1 hv2=>by
   by_cases hL:Late id
   · exact .inl (Ne.symm (otherBlk hL h1 id' l' (Ne.symm hne) h2 hv2))
   · by_cases hL':Late id'
     · exact .inl (otherBlk hL' h2 id l hne h1 hv1)
     · rcases liveNew hv1 with h|⟨_,hv1⟩
       · exact absurd h hL
       · rcases liveNew hv2 with h|⟨_,hv2⟩
         · exact absurd h hL'
         · exact rel1.disj id id' l l' hne h1 h2 hv1 hv2
  immd:=fun id l h1 hv1 k hk hi=>by
   rcases liveNew hv1 with hL|⟨_,hv1⟩
   · have hl:=locOld hL h1
     rcases e1.immn _ _ hi with h|h|⟨id0,l0,q1,q2,q3⟩
     · exact I.rel.immd id l hl (lateLive hL hl) k hk h
     · have :=I.rel.eG hl (lateLive hL hl);omega
     · exact blkOther hL hl id0 l0 q1 q2 q3
   · exact rel1.immd id l h1 hv1 k hk hi
  mapr:=fun id l o h1 h2 hk=>by
   by_cases hL:Late id
   · have hl:=locOld hL h1
     obtain⟨a1,a2,a3⟩:=I.rel.mapr id l o hl (by rw[←(lateGet hL hl).1];exact h2) hk;exact⟨a1,a2,a3.mono (heapSame hL hl) fun _ _=>hm⟩
   · exact rel1.mapr id l o h1 (by rw[←hnlate id hL];exact h2) hk
  lt:=fun id l h1=>by rw[n1];exact rel1.lt id l h1
  imme:=rel1.imme
  glob:=rel1.glob
  mo:=rel1.mo}
 have ext':Ext G0 H0 w0 G1 HS1 w1:={
  loc:=fun id l h=>e1.loc _ _ (I.ext.loc _ _ h)
  imm:=fun b o hi=>⟨(e1.imm _ _ (I.ext.imm _ _ hi).1).1,((e1.imm _ _ (I.ext.imm _ _ hi).1).2).trans (I.ext.imm _ _ hi).2⟩
  size:=Nat.le_trans I.ext.size e1.size
  frame:=fun b hb hn=>by
   rw[e1.frame b (Nat.lt_of_lt_of_le hb I.ext.size) (fun id l h1 h2=>?_),I.ext.frame b hb hn]
   rcases I.ext.blks id l h1 (liveOld h1 h2).1 with h|⟨id0,l0,q1,q2,q3⟩
   · omega
   · rw[←q3];exact hn id0 l0 q1 q2
  blks:=fun id l h1 h2=>by
   have old:∀{id l},G.loc id=some l→HS.live id→w0.heap.size≤l.blk∨∃id0 l0,G0.loc id0=some l0∧H0.live id0∧l0.blk=l.blk:=fun h1 h2=>I.ext.blks _ _ h1 h2
   rcases liveNew h2 with hL|⟨_,h2⟩
   · have hl:=locOld hL h1
     exact old hl (lateLive hL hl)
   · rcases e1.blks id l h1 h2 with h|⟨id0,l0,q1,q2,q3⟩
     · exact .inl (Nat.le_trans I.ext.size h)
     · rw[←q3];exact old q1 (liveOld q1 q2).1
  immn:=fun b o hi=>by
   rcases e1.immn b o hi with h|h|⟨id0,l0,q1,q2,q3⟩
   · exact I.ext.immn b o h
   · exact .inr (.inl (Nat.le_trans I.ext.size h))
   · rcases I.ext.blks id0 l0 q1 (liveOld q1 q2).1 with h|⟨id1,l1,p1,p2,p3⟩
     · exact .inr (.inl (by omega))
     · exact .inr (.inr ⟨id1,l1,p1,p2,p3.trans q3⟩)
  next:=by
   have h1:=I.ext.next;rw[I.nxt] at h1;rw[n1];exact Nat.le_trans h1 (D.mP (p:=p) (j+1) (by omega) (by omega))
  news:=fun id l h1 h2=>by
   cases hl:G.loc id with
   |none=>
    have :=e1.news id l h1 hl;have h3:=I.ext.next;rw[I.nxt] at h3;exact Nat.le_trans (Nat.le_trans h3 (D.mP (p:=p) j hpj (by omega))) this
   |some l'=>exact I.ext.news id l' hl h2
  dead:=fun id l h1 h2=>by
   have hl:=I.ext.loc id l h1
   have hnl:¬Late id:=fun⟨i,ri,q1,q2,q3,q4,q5,q6⟩=>by
    have :=hlt0 id l h1;rw[q6] at this;unfold kept at this;omega
   rcases liveNew h2 with h|⟨_,h2⟩
   · exact absurd h hnl
   · exact I.ext.dead id l h1 (liveOld hl (e1.dead id l hl h2)).1
  mo:=e1.mo.trans I.ext.mo
  same:=I.ext.same.trans (I.ext.mo▸e1.same)}
 refine⟨HS1,I.next K hj hr (p':=j+1) (by rw[if_pos he]) rel' (by rw[n1]) (fun i ri h1 h2 ⟨l,h3⟩=>?_) (fun id l hl1=>?_) (fun i ri h1 h2 h3 h4 h5 l hl1 id' l' hne hl' hv'=>?_) ext' hv (I.temps.ext e1)⟩
 · have hl:∃l,G.loc (kept H0 rl i)=some l:=by
    cases hl:G.loc (kept H0 rl i) with
    |none=>
     have :=e1.news _ l h3 hl;have :=I.jX D K h1 h2 (k:=j) (by omega);omega
    |some l'=>exact⟨l',rfl⟩
   have :=I.domS i ri h1 h2 hl;exact⟨.inr this.1,this.2⟩
 · by_cases hL:Late id
   · obtain⟨i,ri,q1,q2,q3,q4,q5,q6,q7⟩:=hlate id hL
     exact .inl ⟨i,ri,q1,q2,.inr q3,q4,by omega,q6,q7⟩
   · refine .inr ⟨fun i ri q1 q2 q3 q4 q5=>hL ?_,hnlate id hL⟩
     have hl:∃l,G.loc (kept H0 rl i)=some l:=by
      rw[q5] at hl1
      cases hl:G.loc (kept H0 rl i) with
      |none=>
       have :=e1.news _ l hl1 hl;have :=I.jX D K q2 q3 (k:=j) (by omega);omega
      |some l'=>exact⟨l',rfl⟩
     have :=I.domS i ri q2 q3 hl;exact⟨i,ri,q2,q3,this.1,this.2,by omega,q5⟩
 · have hd:doneB listed i=true:=by
    rcases h4 with rfl|h4
    · omega
    · exact h4
   exact otherBlk ⟨i,ri,h2,h3,hd,h5,by omega,rfl⟩ hl1 id' l' hne hl' hv'
end
end
section
theorem jT {P:Program} {g:Genv} {mu:Bool} {ops:Array Oper}:∀(l:List Oper) (rl:List ROper),copers P g mu ops l=some rl→
 rl.length=l.length∧∀(i:Nat) (o:Oper),l[i]?=some o→∃r,rl[i]?=some r∧coper P g mu ops o=some r
 |[],rl,h=>by
  obtain rfl:=Option.some.inj h;exact⟨rfl,fun i o h=>by simp at h⟩
 |o::l,rl,h=>by
  unfold copers at h;split at h
  · rename_i r rs hr hrs
    obtain rfl:=Option.some.inj h;obtain⟨h1,h2⟩:=jT l rs hrs;refine⟨by simp[h1],fun i o' hi=>?_⟩
    cases i with
    |zero=>simp at hi;subst hi;exact⟨r,rfl,hr⟩
    |succ i=>simpa using h2 i o' (by simpa using hi)
  · cases h
theorem WR.eQ {g:Genv} {G:Gh} {H H':Heap} {w:World} (h:WR g G H w) (hg:∀id l,G.loc id=some l→H'.get id=H.get id) (hn:H.next≤H'.next):WR g G H' w:=by
 have hl:∀{id l},G.loc id=some l→H'.live id→H.live id:=fun h1 ⟨o,h2,h3⟩=>⟨o,by rw[←hg _ _ h1];exact h2,h3⟩
 exact {
  cells:=fun id l cs opn h1 h2=>h.cells id l cs opn h1 (by rw[←hg _ _ h1];exact h2)
  room:=fun id l h1 h2=>h.room id l h1 (by rw[←hg _ _ h1];exact h2)
  disj:=fun id id' l l' hne h1 h2 h3 h4=>h.disj id id' l l' hne h1 h2 (hl h1 h3) (hl h2 h4)
  immd:=fun id l h1 h2=>h.immd id l h1 (hl h1 h2)
  mapr:=fun id l o h1 h2=>h.mapr id l o h1 (by rw[←hg _ _ h1];exact h2)
  lt:=fun id l h1=>Nat.lt_of_lt_of_le (h.lt id l h1) hn
  imme:=h.imme
  glob:=h.glob
  mo:=h.mo}
theorem Ext.eQ {G G':Gh} {H H' H'':Heap} {w w':World} (h:Ext G H w G' H' w') (hg:∀id l,G'.loc id=some l→H''.get id=H'.get id) (hn:H'.next≤H''.next):Ext G H w G' H'' w':=by
 have hl:∀{id l},G'.loc id=some l→H''.live id→H'.live id:=fun h1 ⟨o,h2,h3⟩=>⟨o,by rw[←hg _ _ h1];exact h2,h3⟩
 exact {h with
  blks:=fun id l h1 h2=>h.blks id l h1 (hl h1 h2)
  next:=Nat.le_trans h.next hn
  dead:=fun id l h1 h2=>h.dead id l h1 (hl (h.loc _ _ h1) h2)}
theorem WR.drawn {g:Genv} {G:Gh} {H:Heap} {w:World} (h:WR g G H w) (n:Nat):WR g G H {w with drawn:=n}:=by
 have hv:∀{x y},VR G w x y→VR G {w with drawn:=n} x y:=fun hx=>hx.mono (fun _ _ h=>h) (fun _ _ h=>⟨h,rfl⟩)
 exact {
  cells:=fun id l cs opn h1 h2=>let⟨a,b,c,d,e⟩:=h.cells id l cs opn h1 h2;⟨a,b,c,d,fun j hj=>let⟨u,h3,h4⟩:=e j hj;⟨u,h3,hv h4⟩⟩
  room:=fun id l h1 h2=>h.room id l h1 h2
  disj:=h.disj
  immd:=h.immd
  mapr:=fun id l o h1 h2 hk=>let⟨a,b,c⟩:=h.mapr id l o h1 h2 hk;⟨a,b,c.mono rfl fun _ _=>hv⟩
  lt:=h.lt
  imme:=h.imme
  glob:=fun k cs h1=>hv (h.glob k cs h1)
  mo:=h.mo}
theorem Ext.drawn (G:Gh) (H:Heap) (w:World) (n:Nat) (hn:w.drawn≤n):Ext G H w G H {w with drawn:=n} where
 loc:=fun _ _ h=>h
 imm:=fun _ _ h=>⟨h,rfl⟩
 size:=Nat.le_refl _
 frame:=fun _ _ _=>rfl
 blks:=fun id l h hl=>.inr ⟨id,l,h,hl,rfl⟩
 immn:=fun _ _ h=>.inl h
 next:=Nat.le_refl _
 news:=fun _ _ h h'=>by rw[h] at h';cases h'
 dead:=fun _ _ _ h=>h
 mo:=rfl
 same:=Same.toB (.now (h4:=hn)) _
section
variable {P:Program} {g:Genv} {mu:Bool} {ops:Array Oper} {rl:List ROper} {pairs:List (Nat×Nat)} {anc:Nat→Nat→Bool} {s0:List AV} {H0:Heap} {Hs:Nat→Heap} {ss:Nat→List AV} {vs:Nat→AV}
variable {G0:Gh} {w0:World} {dl:List Deferred} {listed:Array Bool} {p:Nat} {G:Gh} {HS:Heap} {w:World} {a:Act} {sS:List AV}
theorem DInv.quiet (I:DInv P g ops rl pairs anc s0 H0 Hs ss vs G0 w0 dl listed p G HS w a sS) (D:DrawRun P g rl pairs s0 H0 Hs ss vs) (K:DrawOK ops rl pairs anc)
 {j:Nat} {r:ROper} (hj:Rdy ops listed j) (hr:rl[j]?=some r) (he:r.op.eff=false) (hf:r.op.fresh=true→wantedA (ss j) r=false) {G':Gh} {w':World} {u:Value}
 (hw:WR g G' HS w') (e:Ext G HS w G' HS w') (hv:VR G' w' (vs j) u):
 DInv P g ops rl pairs anc s0 H0 Hs ss vs G0 w0 dl (listed.setIfInBounds j true) p G' HS w' (a.put r.dst u) (putA sS r.dst (vs j)):=by
 have hback:∀id l,G'.loc id=some l→G.loc id=some l:=fun id l hl=>by
  cases h:G.loc id with
  |none=>
   have h1:=e.news id l hl h;have h2:=hw.lt id l hl;omega
  |some l'=>rw[e.loc id l' h] at hl;exact hl
 refine I.next K hj hr (p':=p) (by simp[he]) hw I.nxt (fun i r' h1 h2 h3=>?_) (fun id l hl=>?_) (fun i r' h1 h2 h3 h4 h5 l hl id' l' hne hl' hv'=>?_) (I.ext.trans e) hv (I.temps.ext e)
 · obtain⟨l,hl⟩:=h3
   have :=I.domS i r' h1 h2 ⟨l,hback _ _ hl⟩;exact⟨.inr this.1,this.2⟩
 · rcases I.cont id l (hback _ _ hl) with ⟨i,ri,q1,q2,q3,q4⟩|h
   · exact .inl ⟨i,ri,q1,q2,.inr q3,q4⟩
   · exact .inr h
 · rcases h4 with rfl|h4
   · rw[hr] at h2
     cases h2;rw[hf h3] at h5;cases h5
   · exact I.excl i r' h1 h2 h3 h4 h5 l (hback _ _ hl) id' l' hne (hback _ _ hl') hv'
theorem DInv.fresh (I:DInv P g ops rl pairs anc s0 H0 Hs ss vs G0 w0 dl listed p G HS w a sS) (D:DrawRun P g rl pairs s0 H0 Hs ss vs) (K:DrawOK ops rl pairs anc)
 {j:Nat} {r:ROper} (hj:Rdy ops listed j) (hr:rl[j]?=some r) (hf:r.op.fresh=true) (hwt:wantedA (ss j) r=true) {o:Oper} (hok:FopOK P g o r.op):
 ∃u w' G' HS',(execOp a.eval o).run P w=.ok (.value u) w'∧
  DInv P g ops rl pairs anc s0 H0 Hs ss vs G0 w0 dl (listed.setIfInBounds j true) p G' HS' w' (a.put r.dst u) (putA sS r.dst (vs j)):=by
 have he:=eJ hf;have hlt:=(List.getElem?_eq_some_iff.1 hr).1;obtain⟨ob,val,f1,f2,f3⟩:=D.eP hr hf hwt
 have f1':fop (Arg.eval g sS) r.op=some (ob,val):=by
  rw[gO (ev':=Arg.eval g (ss j)) (fun y hy=>I.eval_eq K hj hr D y hy)];exact f1
 have hnone:G.loc (kept H0 rl j)=none:=by
  cases h:G.loc (kept H0 rl j) with
  |none=>rfl
  |some l=>
   have :=(I.domS j r hr hf ⟨l,h⟩).1;rw[hj.not] at this;cases this
 have hsmall:kept H0 rl j<HS.next:=by
  rw[I.nxt];exact I.jX D K hr hf I.ple
 obtain⟨u,w',G',hrun,M,hv⟩:=hok sS a G HS (HS.set (kept H0 rl j) ob) w ob val (kept H0 rl j) I.rel I.temps f1' hnone (fun m=>by rw[Heap.aB]) (Nat.le_refl _) hsmall;obtain⟨l0,hblk,hl0,hloc⟩:=M.locs
 have hgo:∀id l,G.loc id=some l→G'.loc id=some l:=fun id l hl=>by
  rw[hloc id (fun hh=>by rw[hh,hnone] at hl;cases hl)];exact hl
 have himm:∀b q,G.imm b q→G'.imm b q∧w'.cell? ⟨b,q,none⟩=w.cell? ⟨b,q,none⟩:=fun b q hi=>by
  refine⟨M.immo b q hi,cD (M.old b ?_)⟩;obtain⟨v,hv⟩:=I.rel.imme b q hi;have :=fY hv;simpa using this
 have hlive:∀{id},id≠kept H0 rl j→(HS.set (kept H0 rl j) ob).live id→HS.live id:=fun {id} hne ⟨x,h1,h2⟩=>⟨x,by rw[Heap.aB,if_neg hne] at h1;exact h1,h2⟩;refine⟨u,w',G',HS.set (kept H0 rl j) ob,hrun,?_⟩;refine I.next K hj hr (p':=p) (by simp[he]) M.rel I.nxt (fun i r' h1 h2 h3=>?_) (fun id l hl=>?_) (fun i r' h1 h2 h3 h4 h5 l hl id' l' hne hl' hv'=>?_) (M.ext I.ext (Nat.le_add_right _ _)) ?_ ?_
 · obtain⟨l,hl⟩:=h3
   by_cases hij:i=j
   · subst hij
     rw[hr] at h1;cases h1;exact⟨.inl rfl,hwt⟩
   · rw[hloc _ (eN h1 hr h2 hf hij)] at hl
     have :=I.domS i r' h1 h2 ⟨l,hl⟩;exact⟨.inr this.1,this.2⟩
 · by_cases hid:id=kept H0 rl j
   · subst hid
     by_cases hpj:p≤j
     · exact .inl ⟨j,r,hr,hf,.inl rfl,hwt,hpj,rfl,by rw[f3,Heap.aB,if_pos rfl,Heap.aB,if_pos rfl]⟩
     · refine .inr ⟨fun i ri q1 q2 q3 q4=>eN hr q2 hf q3 (by omega),?_⟩
       have hjp:(Hs p).get (kept H0 rl j)=(Hs (j+1)).get (kept H0 rl j):=
        D.gC (p:=j+1) (q:=p) I.ple (fun e re q1 q2 q3 q4 q5=>by
         have hd:=(I.pos e re q3 q4).2 q2
         exact D.stable j e ((K.cmp j e r re (by omega) hr q3 (I.aIf D K hj hd)).2.2.2.1 q4 (.inr hf)) r re hr q3 hwt q5 _ (.inr ⟨hf,rfl⟩)) (fun k rk q1 q2 q3 q4 q5=>eN hr q3 hf q4 (by omega)) p (by omega) (Nat.le_refl _)
       rw[hjp,f3,Heap.aB,if_pos rfl,Heap.aB,if_pos rfl]
   · rw[hloc id hid] at hl
     have hsame:(HS.set (kept H0 rl j) ob).get id=HS.get id:=by rw[Heap.aB,if_neg hid]
     rw[hsame]
     rcases I.cont id l hl with ⟨i,ri,q1,q2,q3,q4⟩|h
     · exact .inl ⟨i,ri,q1,q2,.inr q3,q4⟩
     · exact .inr h
 · by_cases hij:i=j
   · subst hij
     rw[hl0] at hl;cases hl;rw[hloc id' hne] at hl';have :=I.rel.eG hl' (hlive hne hv');omega
   · have hki:=eN (H0:=H0) h2 hr h3 hf hij
     have hd:doneB listed i=true:=by
      rcases h4 with h|h
      · exact absurd h hij
      · exact h
     rw[hloc _ hki] at hl;by_cases hid:id'=kept H0 rl j
     · subst hid
       rw[hl0] at hl';cases hl'
       have hli:HS.live (kept H0 rl i):=by
        rcases I.cont _ l hl with ⟨i',ri',q1,q2,q3,q4,q5,q6,q7⟩|⟨q1,_⟩
        · have :i=i':=by
           refine Decidable.byContradiction fun hn=>?_;exact eN h2 q1 h3 q2 hn q6
          subst this;obtain⟨ob',val',g1,_,g3⟩:=D.eP h2 h3 h5;refine⟨ob',?_,aCc g1⟩;rw[q7,g3,Heap.aB,if_pos rfl]
        · exact absurd rfl (q1 i r' h1 h2 h3 h5)
       have :=I.rel.eG hl hli;omega
     · rw[hloc _ hid] at hl'
       exact I.excl i r' h1 h2 h3 hd h5 l hl id' l' hne hl' (hlive hid hv')
 · rw[f2];exact hv
 · exact⟨I.temps.1,fun t ht=>(I.temps.2 t ht).mono hgo himm⟩
theorem DInv.done (I:DInv P g ops rl pairs anc s0 H0 Hs ss vs G0 w0 dl listed p G HS w a sS) (D:DrawRun P g rl pairs s0 H0 Hs ss vs) (K:DrawOK ops rl pairs anc)
 (hall:∀i,i<rl.length→doneB listed i=true) {ds:List Dfr} (hd:DsR G0 w0 ds dl) {Q:AQ} (hQ:Q .normal (ss rl.length) ds (Hs rl.length)):QR g G0 H0 w0 Q .normal a w:=by
 have hno:∀e re,p≤e→e<rl.length→rl[e]?=some re→re.op.eff=false:=fun e re h1 h2 h3=>by
  cases hee:re.op.eff with
  |false=>rfl
  |true=>have :=(I.pos e re h3 hee).1 (hall e h2);omega
 have hget:∀id l,G.loc id=some l→(Hs rl.length).get id=HS.get id:=fun id l hl=>by
  rcases I.cont id l hl with ⟨i,ri,q1,q2,q3,q4,q5,q6,q7⟩|⟨q1,q2⟩
  · have hi:=(List.getElem?_eq_some_iff.1 q1).1
    rw[q7]
    exact D.gC (p:=i+1) (q:=rl.length) (Nat.le_refl _) (fun e re c1 c2 c3 c4 c5=>by rw[hno e re (by omega) c2 c3] at c4;cases c4)
     (fun k rk c1 c2 c3 c4 c5=>by rw[q6];exact eN q1 c3 q2 c4 (by omega)) rl.length (by omega) (Nat.le_refl _)
  · rw[q2]
    exact D.gC (p:=p) (q:=rl.length) (Nat.le_refl _) (fun e re c1 c2 c3 c4 c5=>by rw[hno e re (by omega) c2 c3] at c4;cases c4)
     (fun k rk c1 c2 c3 c4 c5=>q1 k rk c1 c3 c4 c5) rl.length I.ple (Nat.le_refl _)
 have hnx:HS.next≤(Hs rl.length).next:=by
  rw[I.nxt];exact D.mP rl.length I.ple (Nat.le_refl _)
 have hs:sS=ss rl.length:=by
  have hl1:=D.xU rl.length (Nat.le_refl _);refine List.ext_getElem? fun t=>?_;by_cases ht:t<s0.length
  · have h1:=I.last t
    rw[iO (S':=fun _=>true) rl.length (fun i hi=>by rw[hall i hi]),←D.aDs t rl.length (Nat.le_refl _)] at h1
    have e1:t<sS.length:=by rw[I.len];exact ht
    have e2:t<(ss rl.length).length:=by rw[hl1];exact ht
    rw[List.getElem?_eq_getElem e1,List.getElem?_eq_getElem e2];simpa [getD_eq,List.getElem?_eq_getElem e1,List.getElem?_eq_getElem e2] using h1
  · rw[List.getElem?_eq_none (by rw[I.len];omega),List.getElem?_eq_none (by rw[hl1];omega)]
 refine⟨.normal,ss rl.length,ds,Hs rl.length,G,hQ,I.rel.eQ hget hnx,I.ext.eQ hget hnx,?_,?_,trivial⟩
 · rw[←hs];exact I.temps
 · rw[I.dfr];exact hd.ext I.ext
theorem rJ {i:Nat} (hs:listed.size=ops.size):i∈Region.ready .any ops listed↔Rdy ops listed i:=by
 have hget:∀k,k<ops.size→listed.getD k true=doneB listed k:=fun k hk=>by
  unfold doneB;simp[Array.getD_eq_getD_getElem?,hs,hk]
 unfold Region.ready;simp only[List.mem_filter,List.mem_range,Bool.and_eq_true,Bool.not_eq_true'];constructor
 · rintro⟨h1,h2,h3⟩
   refine⟨h1,by rw[←hget i h1];exact h2,fun o ho e he hb=>?_⟩;rw[ho] at h3;simp only[Option.map_some,Option.getD_some] at h3
   have h4:(!Region.binds .any e||listed.getD e.on false)=true:=by
    rw[Array.all_eq_true_iff_forall_mem] at h3;exact h3 e he
   rw[hb] at h4;simpa [doneB] using h4
 · rintro⟨h1,h2,h3⟩
   refine⟨h1,by rw[hget i h1];exact h2,?_⟩
   obtain⟨o,ho⟩:∃o,ops[i]?=some o:=⟨ops[i],by simp[h1]⟩
   rw[ho];simp only[Option.map_some,Option.getD_some];rw[Array.all_eq_true_iff_forall_mem];intro e he
   cases hb:Region.binds .any e with
   |false=>rfl
   |true=>
    have :=h3 o ho e he hb;simpa [doneB] using this
theorem aFq (hs:listed.size=ops.size) (K:DrawOK ops rl pairs anc) (h:Region.ready .any ops listed=[]):∀i,i<ops.size→doneB listed i=true:=by
 intro i
 induction i using Nat.strongRecOn with
 |_ i ih=>
  intro hi
  cases hd:doneB listed i with
  |true=>rfl
  |false=>
   have :i∈Region.ready .any ops listed:=(rJ hs).2 ⟨hi,hd,fun o ho e he hb=>by
    have h1:=K.edges i o ho e he hb
    exact ih e.on h1 (by omega)⟩
   rw[h] at this;cases this
def todo (listed:Array Bool) (n:Nat):Nat:=(List.range n).countP fun i=> !doneB listed i
theorem pE {p q:Nat→Bool}:∀(l:List Nat) (j:Nat),j∈l→(∀i∈l,q i=true→p i=true)→p j=true→q j=false→l.countP q<l.countP p
 |[],j,h,_,_,_=>by cases h
 |x::l,j,h,hpq,hp,hq=>by
  have hle:l.countP q≤l.countP p:=List.countP_mono_left fun i hi=>hpq i (List.mem_cons_of_mem _ hi);rw[List.countP_cons,List.countP_cons]
  rcases List.mem_cons.1 h with rfl|h
  · simp only[hp,hq,if_true]
    simp;omega
  · have :=pE l j h (fun i hi=>hpq i (List.mem_cons_of_mem _ hi)) hp hq
    have h2:(if q x=true then 1 else 0)≤(if p x=true then 1 else 0):=by
     by_cases hqx:q x=true
     · simp[hqx,hpq x List.mem_cons_self hqx]
     · simp[hqx]
    omega
theorem aQe {j n:Nat} (hj:doneB listed j=false) (hlt:j<n) (hs:listed.size=n):todo (listed.setIfInBounds j true) n<todo listed n:=by
 have hset:∀i,doneB (listed.setIfInBounds j true) i=if i=j then true else doneB listed i:=fun i=>by
  unfold doneB;rw[Array.getD_eq_getD_getElem?,Array.getD_eq_getD_getElem?,Array.getElem?_setIfInBounds];by_cases h:j=i
  · subst h
    simp[hs,hlt]
  · rw[if_neg h,if_neg (Ne.symm h)]
 refine pE _ j (List.mem_range.2 hlt) (fun i _ h=>?_) (by simp[hj]) (by simp[hset]);rw[hset] at h;by_cases hij:i=j
 · rw[hij,hj];rfl
 · rw[if_neg hij] at h;exact h
theorem aFd {ro:Option Nat} (hc:copers P g mu ops ops.toList=some rl) (D:DrawRun P g rl pairs s0 H0 Hs ss vs) (K:DrawOK ops rl pairs anc) (hlt0:∀id l,G0.loc id=some l→id<H0.next)
 {ds:List Dfr} (hd:DsR G0 w0 ds dl) {Q:AQ} (hQ:Q .normal (ss rl.length) ds (Hs rl.length)):
 ∀(fuel:Nat) (listed:Array Bool) (p:Nat) (G:Gh) (HS:Heap) (w:World) (a:Act) (sS:List AV),todo listed rl.length≤fuel→
  DInv P g ops rl pairs anc s0 H0 Hs ss vs G0 w0 dl listed p G HS w a sS→wpAnyIn (Fw ro) 0 P .any ops (QR g G0 H0 w0 Q) fuel listed a w:=by
 obtain⟨hlen,hget⟩:=jT _ _ hc
 have hsz:rl.length=ops.size:=by simpa using hlen
 intro fuel
 induction fuel with
 |zero=>
  intro listed p G HS w a sS ht I
  have hall:∀i,i<rl.length→doneB listed i=true:=fun i hi=>by
   have h0:todo listed rl.length=0:=by omega
   unfold todo at h0;rw[List.countP_eq_zero] at h0;have :=h0 i (List.mem_range.2 hi);simpa using this
  refine⟨?_,I.done D K hall hd hQ⟩;refine List.eq_nil_iff_forall_not_mem.2 fun i hi=>?_;have :=(rJ (by rw[I.size,hsz])).1 hi;have h2:=hall i (by rw[hsz];exact this.lt);rw[this.not] at h2;cases h2
 |succ fuel ih=>
  intro listed p G HS w a sS ht I
  have hsize:listed.size=ops.size:=by rw[I.size,hsz]
  refine⟨fun hn=>I.done D K (fun i hi=>aFq hsize K hn i (by omega)) hd hQ,fun j hjr=>?_⟩;have hj:=(rJ hsize).1 hjr
  obtain⟨o,ho⟩:∃o,ops[j]?=some o:=⟨ops[j]'hj.lt,by simp[hj.lt]⟩
  obtain⟨r,hr,hco⟩:=hget j o (by simpa using ho);obtain⟨hdst,hcop,_⟩:=nS hco
  have hjl:j<rl.length:=by rw[hsz];exact hj.lt
  have htodo:todo (listed.setIfInBounds j true) rl.length≤fuel:=by
   have :=aQe (n:=rl.length) hj.not hjl I.size;omega
  have hwant:=vZ hco I.temps;rw[I.aMl K hj hr D] at hwant;have hstep:=(D.step j r hr).1;unfold wpOpIn;simp only[ho];rw[hwant];unfold DStep at hstep;by_cases hwa:wantedA (ss j) r=true
  · rw[if_pos hwa] at hstep ⊢
    by_cases hf:r.op.fresh=true
    · obtain⟨u,w',G',HS',hrun,I'⟩:=I.fresh D K hj hr hf hwa (aRb hcop hf)
      refine⟨fun _ _=>trivial,?_⟩;rw[show o.semAt (Fw ro).round a.eval=execOp a.eval o from Oper.semAt_eq _ _ _ (jS hcop fun f azs e=>by rw[e] at hf;cases hf),hrun];rw[hdst] at I';exact ih _ _ _ _ _ _ _ htodo I'
    · rw[if_neg hf] at hstep
      have hf':r.op.fresh=false:=by simpa using hf
      split at hstep
      · rename_i f azs hop
        obtain⟨q,hq,hS⟩:=hstep
        have he:r.op.eff=true:=by rw[hop];rfl
        have hev:=I.eval_eq K hj hr D;rw[hop] at hcop hev;obtain⟨c,f0,e1,e2,e3,e4⟩:=aBp hcop;have hfe:f.eval g sS=f.eval g (ss j):=hev f (by simp[ROp.args]);have hae:azs.map (Arg.eval g sS)=azs.map (Arg.eval g (ss j)):=List.map_congr_left fun y hy=>hev y (by simp[ROp.args,hy]);refine aJa e1 e2 e3 e4 (I.aGj D K hj hr he) I.temps (by rw[hfe,hae];exact .inl ⟨q,hq,hS⟩) (fun v hv u w' G' hw' hee hvu=>?_) (fun v hv=>by cases hv);cases hv;obtain⟨HS1,I'⟩:=I.rA D K hlt0 hj hr he hw' hee hvu;rw[hdst] at I';exact ih _ _ _ _ _ _ _ htodo I'
      · exact hstep.elim
      · exact hstep.elim
      · rename_i n1 n2 n3
        have hpl:r.op.plain=true:=by
         cases hrop:r.op<;>first|rfl|exact absurd hrop (n1 _ _)|exact absurd hrop (n2 _)|exact absurd hrop (n3 _ _)|(rw[hrop] at hstep;cases hstep)
        have hst':aop (Arg.eval g sS) (Hs j) r.op=some (vs j,Hs (j+1)):=by
         rw[aJt (Hs j) (ev':=Arg.eval g (ss j)) (fun y hy=>I.eval_eq K hj hr D y hy)];exact hstep
        by_cases he:r.op.eff=true
        · refine wA (aEs hcop hpl) (jS hcop n3) (I.aGj D K hj hr he) I.temps hst' (fun u w' G' hw' hee hvu=>?_)
          obtain⟨HS1,I'⟩:=I.rA D K hlt0 hj hr he hw' hee hvu;rw[hdst] at I';exact ih _ _ _ _ _ _ _ htodo I'
        · have he':r.op.eff=false:=by simpa using he
          have hq:=rB (H1:=HS) he' hf' hst' (fun id hid=>by
           have hid':r.op.readsId (Arg.eval g (ss j))=some id:=by
            rw[←wS (ev:=Arg.eval g sS) (fun y hy=>I.eval_eq K hj hr D y hy)];exact hid
           obtain⟨y,hy,hyi⟩:=aDc hid
           have hloc:∃l,G.loc id=some l:=by
            cases y with
            |tmp t=>exact aOb hyi (I.temps.getD t)
            |const v=>
             have :=K.lits j r hr (dQ hid) v hy;rw[Arg.eval,this] at hyi;cases hyi
            |glob n=>
             simp only[Arg.eval] at hyi;split at hyi<;>cases hyi
           obtain⟨l,hl⟩:=hloc
           exact I.aLt D K hj hr hwa hid' hl (tL hstep hid'))
          refine wA (aEs hcop hpl) (jS hcop n3) I.rel I.temps hq.2 (fun u w' G' hw' hee hvu=>?_);have I':=I.quiet D K hj hr he' (fun h=>by rw[hf'] at h;cases h) hw' hee hvu;rw[hdst] at I';exact ih _ _ _ _ _ _ _ htodo I'
  · rw[if_neg hwa] at hstep ⊢
    refine⟨fun _ _=>trivial,?_⟩;obtain⟨hv,hH⟩:=hstep
    have hwa':wantedA (ss j) r=false:=by simpa using hwa
    by_cases he:r.op.eff=true
    · have hrel:=I.aGj D K hj hr he
      obtain⟨HS1,I'⟩:=I.rA D K hlt0 hj hr he (G1:=G) (w1:=w) (u:=undef) (by rw[hH];exact hrel) (by rw[hH];exact Ext.refl G (Hs j) w) (by rw[hv];exact VR.eH G w);rw[hdst] at I';exact ih _ _ _ _ _ _ _ htodo I'
    · have I':=I.quiet D K hj hr (by simpa using he) (fun _=>hwa') (u:=undef) I.rel (Ext.refl G HS w) (by rw[hv];exact VR.eH G w)
      rw[hdst] at I';exact ih _ _ _ _ _ _ _ htodo I'
theorem aFc {ro:Option Nat} {id:Nat} (hm:P.follows .mixedOrders=true) (hc:copers P g mu ops ops.toList=some rl) (D:DrawRun P g rl pairs s0 H0 Hs ss vs) (K:DrawOK ops rl pairs anc)
 (hw:WR g G0 H0 w0) (hs:SR G0 w0 s0 a) {ds:List Dfr} (hd:DsR G0 w0 ds a.defers) {Q:AQ} (hQ:Q .normal (ss rl.length) ds (Hs rl.length)):
 (Code.region id ops true).wpIn (Fw ro) 0 P (QR g G0 H0 w0 Q) a w0:=by
 refine wpIn_region_any hm ?_;obtain⟨hlen,hget⟩:=jT _ _ hc
 have hsz:rl.length=ops.size:=by simpa using hlen
 have hH:∀id,(Hs 0).get id=H0.get id:=fun id=>by rw[D.h0];rfl
 have hN:H0.next≤(Hs 0).next:=by rw[D.h0];exact Nat.le_add_right _ _
 have hdone:∀i,doneB (Array.replicate ops.size false) i=false:=fun i=>by
  unfold doneB;rw[Array.getD_eq_getD_getElem?,Array.getElem?_replicate];split<;>rfl
 have hkept:∀i r,rl[i]?=some r→∀l,G0.loc (kept H0 rl i)=some l→False:=fun i r hr l hl=>by
  have :=hw.lt _ _ hl;unfold kept at this;omega
 have hd':DsR G0 w0 ds a.defers:=hd;refine aFd (pairs:=pairs) (anc:=anc) (G0:=G0) (w0:=w0) (dl:=a.defers) hc D K hw.lt hd hQ ops.size (Array.replicate ops.size false) 0 G0 (Hs 0) {w0 with drawn:=w0.drawn+1} a s0 ?_ ?_
 · unfold todo
   refine Nat.le_trans List.countP_le_length ?_;simp[hsz]
 · exact {
    size:=by simp[hsz]
    closed:=fun i j h=>by rw[hdone] at h;cases h
    ple:=Nat.zero_le _
    pos:=fun i r h1 h2=>by rw[hdone];simp
    rel:=(hw.drawn _).eQ (fun id l _=>hH id) hN
    nxt:=rfl
    domS:=fun i r h1 h2 ⟨l,h3⟩=>(hkept i r h1 l h3).elim
    cont:=fun id l hl=>.inr ⟨fun i r h1 h2 h3 h4 he=>by rw[he] at hl;exact hkept i r h2 l hl,rfl⟩
    excl:=fun i r h1 h2 h3 h4=>by rw[hdone] at h4;cases h4
    ext:=(Ext.drawn G0 H0 w0 _ (Nat.le_add_right _ _)).eQ (fun id l _=>hH id) hN
    temps:=hs.ext (Ext.drawn G0 H0 w0 _ (Nat.le_add_right _ _))
    last:=fun t=>by
     have :∀m,lastv (doneB (Array.replicate ops.size false)) rl s0 vs t m=s0.getD t undefA:=fun m=>by
      induction m with
      |zero=>rfl
      |succ m ih=>simp only[lastv,hdone,Bool.false_and,Bool.false_eq_true,if_false,ih]
     rw[this]
    len:=rfl
    dfr:=rfl}
end
end
end Go.Av
