/-
  Parts of the proof of statement 4: AvWorld, AvMem
-/
import Derived.Test.YtjiignefffdelaaGreatDoorA01
import Derived.Laws.Sem
import Derived.Laws.Cells
set_option linter.unusedVariables false
set_option linter.unusedSimpArgs false
namespace Go.Av
open Go
theorem pM {α:Type} (a:Array α) (x:α) {b:Nat} (h:b<a.size):(a.push x)[b]?=a[b]?:=by
 rw[Array.getElem?_push];rw[if_neg (by omega)]
theorem nA {α:Type} (a:Array α) (x:α):(a.push x)[a.size]?=some x:=by
 simp
theorem fY {w:World} {b o:Nat} {v:Value} (h:w.cell? ⟨b,o,none⟩=some v):b<w.heap.size:=by
 obtain⟨c,el,fz,h1,_⟩:=lF h;exact(Array.getElem?_eq_some_iff.1 h1).1
def Gh.addImm (G:Gh) (b lo n:Nat):Gh:={G with imm:=fun b' o=>G.imm b' o∨(b'=b∧lo≤o∧o<lo+n)}
def Gh.addLoc (G:Gh) (id:Nat) (l:Loc):Gh:={G with loc:=fun i=>if i=id then some l else G.loc i}
theorem WR.eG {g:Genv} {G:Gh} {H:Heap} {w:World} (h:WR g G H w) {id:Nat} {l:Loc} (hl:G.loc id=some l) (hv:H.live id):l.blk<w.heap.size:=by
 obtain⟨o,ho,hlive⟩:=hv
 have :∃x,w.heap[l.blk]?=some x:=by
  cases o with
  |cells cs opn=>obtain⟨c,el,fz,h1,_⟩:=h.room id l hl (.inl ⟨cs,opn,ho⟩);exact⟨_,h1⟩
  |tok=>obtain⟨c,el,fz,h1,_⟩:=h.room id l hl (.inr ho);exact⟨_,h1⟩
  |dead=>cases hlive
  |_=>
   have :=(h.mapr id l _ hl ho rfl).2.2.lt rfl;exact⟨_,Array.getElem?_eq_getElem this⟩
 obtain⟨x,hx⟩:=this;exact(Array.getElem?_eq_some_iff.1 hx).1
theorem WR.grow {g:Genv} {G:Gh} {H:Heap} {w w':World} (h:WR g G H w)
 (hb:∀b,b<w.heap.size→w'.heap[b]?=w.heap[b]?):WR g G H w':=by
 have hc:∀b o,G.imm b o→w'.cell? ⟨b,o,none⟩=w.cell? ⟨b,o,none⟩:=fun b o hi=>by
  obtain⟨v,hv⟩:=h.imme b o hi;exact cD (hb b (fY hv))
 have hm:∀{a u},VR G w a u→VR G w' a u:=fun hv=>hv.mono (fun _ _ h=>h) (fun b o hi=>⟨hi,hc b o hi⟩)
 exact {
  cells:=fun id l cs opn h1 h2=>by
   obtain⟨a1,a2,a3,a4,a5⟩:=h.cells id l cs opn h1 h2;refine⟨a1,a2,a3,a4,fun j hj=>?_⟩;obtain⟨u,hu,hv⟩:=a5 j hj;exact⟨u,by rw[cD (hb _ (h.eG h1 ⟨_,h2,rfl⟩))];exact hu,hm hv⟩
  room:=fun id l h1 h2=>by
   obtain⟨c,el,fz,a1,a2,a3⟩:=h.room id l h1 h2;have hlt:=(Array.getElem?_eq_some_iff.1 a1).1;exact⟨c,el,fz,by rw[hb _ hlt];exact a1,a2,fun j hj=>by rw[dP (hb _ hlt)];exact a3 j hj⟩
  disj:=h.disj
  immd:=h.immd
  mapr:=fun id l o h1 h2 hk=>let⟨a1,a2,a3⟩:=h.mapr id l o h1 h2 hk;⟨a1,a2,a3.mono (hb _ (a3.lt hk)) fun _ _=>hm⟩
  lt:=h.lt
  imme:=fun b o hi=>by rw[hc b o hi];exact h.imme b o hi
  glob:=fun n cs hn=>hm (h.glob n cs hn)
  mo:=h.mo}
theorem Ext.grow {G:Gh} {H:Heap} {w w':World} (himm:∀b o,G.imm b o→∃v,w.cell? ⟨b,o,none⟩=some v)
 (hb:∀b,b<w.heap.size→w'.heap[b]?=w.heap[b]?) (hsz:w.heap.size≤w'.heap.size) (hs:Same w w'):Ext G H w G H w' where
 loc:=fun _ _ h=>h
 imm:=fun b o hi=>⟨hi,by obtain⟨v,hv⟩:=himm b o hi;exact cD (hb b (fY hv))⟩
 size:=hsz
 frame:=fun b hlt _=>hb b hlt
 blks:=fun id l h hl=>.inr ⟨id,l,h,hl,rfl⟩
 immn:=fun _ _ h=>.inl h
 next:=Nat.le_refl _
 news:=fun _ _ h h'=>by rw[h] at h';cases h'
 dead:=fun _ _ _ h=>h
 mo:=rfl
 same:=hs.toB _
theorem WR.addImm {g:Genv} {G:Gh} {H:Heap} {w:World} (h:WR g G H w) (b lo n:Nat)
 (hex:∀j,j<n→∃v,w.cell? ⟨b,lo+j,none⟩=some v)
 (hdis:∀id l,G.loc id=some l→H.live id→l.blk≠b∨l.base+l.ext≤lo∨lo+n≤l.base):WR g (G.addImm b lo n) H w:=by
 have hm:∀{a u},VR G w a u→VR (G.addImm b lo n) w a u:=fun hv=>hv.mono (fun _ _ h=>h) (fun b o hi=>⟨.inl hi,rfl⟩)
 exact {
  cells:=fun id l cs opn h1 h2=>by
   obtain⟨a1,a2,a3,a4,a5⟩:=h.cells id l cs opn h1 h2;refine⟨a1,a2,a3,a4,fun j hj=>?_⟩;obtain⟨u,hu,hv⟩:=a5 j hj;exact⟨u,hu,hm hv⟩
  room:=h.room
  disj:=h.disj
  immd:=fun id l hl hv j hj hi=>by
   rcases hi with hi|⟨h1,h2,h3⟩
   · exact h.immd id l hl hv j hj hi
   · rcases hdis id l hl hv with hd|hd|hd
     · exact hd h1
     · omega
     · omega
  mapr:=fun id l o h1 h2 hk=>let⟨a1,a2,a3⟩:=h.mapr id l o h1 h2 hk;⟨a1,a2,a3.mono rfl fun _ _=>hm⟩
  lt:=h.lt
  imme:=fun b' o hi=>by
   rcases hi with hi|⟨rfl,h2,h3⟩
   · exact h.imme b' o hi
   · have :=hex (o -lo) (by omega)
     rwa [show lo+(o -lo)=o by omega] at this
  glob:=fun n cs hn=>hm (h.glob n cs hn)
  mo:=h.mo}
theorem Ext.addImm {G G':Gh} {H H':Heap} {w w':World} (e:Ext G H w G' H' w') (b lo n:Nat)
 (hb:w.heap.size≤b∨∃id0 l0,G.loc id0=some l0∧H.live id0∧l0.blk=b):Ext G H w (G'.addImm b lo n) H' w' where
 loc:=e.loc
 imm:=fun b' o hi=>⟨.inl (e.imm b' o hi).1,(e.imm b' o hi).2⟩
 size:=e.size
 frame:=e.frame
 blks:=e.blks
 immn:=fun b' o hi=>by
  rcases hi with hi|⟨rfl,_,_⟩
  · exact e.immn b' o hi
  · exact .inr hb
 next:=e.next
 news:=e.news
 dead:=e.dead
 mo:=e.mo
 same:=e.same
theorem WR.oZ {g:Genv} {G:Gh} {H H':Heap} {w:World} (h:WR g G H w) (id0:Nat) (o:AObj) (l:Loc) (hid:G.loc id0=none)
 (hget:∀m,H'.get m=if m=id0 then some o else H.get m) (hnx:H.next≤H'.next) (hlt0:id0<H'.next)
 (hdis:∀id l',G.loc id=some l'→H.live id→l.blk≠l'.blk∨l.base+l.ext≤l'.base∨l'.base+l'.ext≤l.base)
 (himm:∀j,j<l.ext→¬G.imm l.blk (l.base+j))
 (hcells:∀cs opn,o=.cells cs opn→l.siz=cs.length∧l.siz≤l.ext∧(opn=false→l.siz=l.ext)∧(∀c∈cs,c.one=true)∧
   ∀j,j<cs.length→∃u,w.cell? ⟨l.blk,l.base+j,none⟩=some u∧VR G w (cs.getD j undefA) u)
 (hroom:((∃cs opn,o=.cells cs opn)∨o=.tok)→∃c el fz,w.heap[l.blk]?=some (.cells c el fz)∧l.base+l.ext≤c.size∧∀j,j<l.ext→w.frozen? ⟨l.blk,l.base+j,none⟩=false)
 (hmap:o.blk=true→l.base=0∧l.ext=1∧ObOK g G w l o):
 WR g (G.addLoc id0 l) H' w:=by
 have hne:∀{id l'},G.loc id=some l'→id≠id0:=fun hl he=>by rw[he,hid] at hl;cases hl
 have hm:∀{a u},VR G w a u→VR (G.addLoc id0 l) w a u:=fun hv=>hv.mono (fun id l' hl=>by simp only[Gh.addLoc];rw[if_neg (hne hl)];exact hl) (fun b o hi=>⟨hi,rfl⟩)
 have hcase:∀{id l'},(G.addLoc id0 l).loc id=some l'→(id=id0∧l'=l)∨(id≠id0∧G.loc id=some l'):=fun {id l'} hl=>by
  simp only[Gh.addLoc] at hl;split at hl
  · exact .inl ⟨by assumption,by cases hl;rfl⟩
  · exact .inr ⟨by assumption,hl⟩
 have hliv:∀{id},id≠id0→H'.live id→H.live id:=fun hn ⟨x,hx,hxl⟩=>⟨x,by rw[hget,if_neg hn] at hx;exact hx,hxl⟩
 exact {
  cells:=fun id l' cs opn h1 h2=>by
   rw[hget] at h2
   rcases hcase h1 with ⟨rfl,rfl⟩|⟨hn,h1⟩
   · rw[if_pos rfl] at h2
     obtain⟨a1,a2,a3,a4,a5⟩:=hcells cs opn (Option.some.inj h2);refine⟨a1,a2,a3,a4,fun j hj=>?_⟩;obtain⟨u,hu,hv⟩:=a5 j hj;exact⟨u,hu,hm hv⟩
   · rw[if_neg hn] at h2
     obtain⟨a1,a2,a3,a4,a5⟩:=h.cells id l' cs opn h1 h2;refine⟨a1,a2,a3,a4,fun j hj=>?_⟩;obtain⟨u,hu,hv⟩:=a5 j hj;exact⟨u,hu,hm hv⟩
  room:=fun id l' h1 h2=>by
   simp only[hget] at h2
   rcases hcase h1 with ⟨rfl,rfl⟩|⟨hn,h1⟩
   · simp only[if_true] at h2
     refine hroom (h2.imp (fun⟨cs,opn,hh⟩=>⟨cs,opn,Option.some.inj hh⟩) (fun hh=>Option.some.inj hh))
   · simp only[if_neg hn] at h2
     exact h.room id l' h1 h2
  disj:=fun id id' l1 l2 hne' h1 h2 hv1 hv2=>by
   rcases hcase h1 with ⟨e1,e1'⟩|⟨hn,k1⟩
   · rcases hcase h2 with ⟨e2,e2'⟩|⟨hn2,k2⟩
     · exact absurd (e1.trans e2.symm) hne'
     · rw[e1']
       exact hdis id' l2 k2 (hliv hn2 hv2)
   · rcases hcase h2 with ⟨e2,e2'⟩|⟨hn2,k2⟩
     · rw[e2']
       rcases hdis id l1 k1 (hliv hn hv1) with hd|hd|hd
       · exact .inl (Ne.symm hd)
       · exact .inr (.inr hd)
       · exact .inr (.inl hd)
     · exact h.disj id id' l1 l2 hne' k1 k2 (hliv hn hv1) (hliv hn2 hv2)
  immd:=fun id l' h1 hv j hj=>by
   rcases hcase h1 with ⟨rfl,rfl⟩|⟨hn,h1⟩
   · exact himm j hj
   · exact h.immd id l' h1 (hliv hn hv) j hj
  mapr:=fun id l' ob h1 h2 hk=>by
   rw[hget] at h2
   rcases hcase h1 with ⟨rfl,rfl⟩|⟨hn,h1⟩
   · rw[if_pos rfl] at h2
     obtain rfl:=Option.some.inj h2;obtain⟨a1,a2,a3⟩:=hmap hk;exact⟨a1,a2,a3.mono rfl fun _ _=>hm⟩
   · rw[if_neg hn] at h2
     obtain⟨a1,a2,a3⟩:=h.mapr id l' ob h1 h2 hk;exact⟨a1,a2,a3.mono rfl fun _ _=>hm⟩
  lt:=fun id l' h1=>by
   rcases hcase h1 with ⟨rfl,rfl⟩|⟨hn,h1⟩
   · exact hlt0
   · exact Nat.lt_of_lt_of_le (h.lt id l' h1) hnx
  imme:=h.imme
  glob:=fun n cs hn=>hm (h.glob n cs hn)
  mo:=h.mo}
theorem WR.tK {g:Genv} {G:Gh} {H:Heap} {w:World} (h:WR g G H w) (o:AObj) (l:Loc)
 (hdis:∀id l',G.loc id=some l'→H.live id→l.blk≠l'.blk∨l.base+l.ext≤l'.base∨l'.base+l'.ext≤l.base)
 (himm:∀j,j<l.ext→¬G.imm l.blk (l.base+j))
 (hcells:∀cs opn,o=.cells cs opn→l.siz=cs.length∧l.siz≤l.ext∧(opn=false→l.siz=l.ext)∧(∀c∈cs,c.one=true)∧
   ∀j,j<cs.length→∃u,w.cell? ⟨l.blk,l.base+j,none⟩=some u∧VR G w (cs.getD j undefA) u)
 (hroom:((∃cs opn,o=.cells cs opn)∨o=.tok)→∃c el fz,w.heap[l.blk]?=some (.cells c el fz)∧l.base+l.ext≤c.size∧∀j,j<l.ext→w.frozen? ⟨l.blk,l.base+j,none⟩=false)
 (hmap:o.blk=true→l.base=0∧l.ext=1∧ObOK g G w l o):
 WR g (G.addLoc H.next l) (H.alloc o) w:=
 h.oZ H.next o l (by
  cases hl:G.loc H.next with
  |none=>rfl
  |some l'=>exact absurd (h.lt _ _ hl) (Nat.lt_irrefl _)) (Heap.aH H o) (Nat.le_succ _) (Nat.lt_succ_self _) hdis himm hcells hroom hmap
theorem Ext.oZ {G G':Gh} {H H' H'':Heap} {w w':World} (e:Ext G H w G' H' w') (id0:Nat) (o:AObj) (l:Loc) (hid:G'.loc id0=none)
 (hget:∀m,H''.get m=if m=id0 then some o else H'.get m) (hnx:H'.next≤H''.next) (hge:H.next≤id0)
 (hb:w.heap.size≤l.blk∨∃id0 l0,G.loc id0=some l0∧H.live id0∧l0.blk=l.blk):Ext G H w (G'.addLoc id0 l) H'' w' where
 loc:=fun id l' hl=>by
  have h1:=e.loc id l' hl;simp only[Gh.addLoc];rw[if_neg (fun he=>by rw[he,hid] at h1;cases h1)];exact h1
 imm:=e.imm
 size:=e.size
 frame:=e.frame
 blks:=fun id l' hl hv=>by
  simp only[Gh.addLoc] at hl;split at hl
  · cases hl;exact hb
  · rename_i hn
    obtain⟨x,hx,hxl⟩:=hv;rw[hget,if_neg hn] at hx;exact e.blks id l' hl ⟨x,hx,hxl⟩
 immn:=e.immn
 next:=Nat.le_trans e.next hnx
 news:=fun id l' hl hn=>by
  simp only[Gh.addLoc] at hl;split at hl
  · rename_i he;rw[he];exact hge
  · exact e.news id l' hl hn
 dead:=fun id l' hl hv=>by
  have h1:=e.loc id l' hl;obtain⟨x,hx,hxl⟩:=hv;rw[hget,if_neg (fun he=>by rw[he,hid] at h1;cases h1)] at hx;exact e.dead id l' hl ⟨x,hx,hxl⟩
 mo:=e.mo
 same:=e.same
theorem Ext.tK {G G':Gh} {H H':Heap} {w w':World} (e:Ext G H w G' H' w') (o:AObj) (l:Loc) (hlt:∀id l',G'.loc id=some l'→id<H'.next)
 (hb:w.heap.size≤l.blk∨∃id0 l0,G.loc id0=some l0∧H.live id0∧l0.blk=l.blk):Ext G H w (G'.addLoc H'.next l) (H'.alloc o) w':=
 e.oZ H'.next o l (by
  cases hl:G'.loc H'.next with
  |none=>rfl
  |some l'=>exact absurd (hlt _ _ hl) (Nat.lt_irrefl _)) (Heap.aH H' o) (Nat.le_succ _) e.next hb
theorem WR.kill {g:Genv} {G:Gh} {H:Heap} {w:World} (h:WR g G H w) (id:Nat):WR g G (H.set id .dead) w where
 cells:=fun i l cs opn h1 h2=>by
  rw[Heap.aB] at h2;split at h2
  · cases h2
  · exact h.cells i l cs opn h1 h2
 room:=fun i l h1 h2=>by
  simp only[Heap.aB] at h2;split at h2
  · rcases h2 with ⟨_,_,h2⟩|h2<;>cases h2
  · exact h.room i l h1 h2
 disj:=fun i i' l l' hne h1 h2 hv1 hv2=>by
  rcases Heap.dN.1 hv1 with ⟨_,hh⟩|⟨_,hv1⟩
  · cases hh
  · rcases Heap.dN.1 hv2 with ⟨_,hh⟩|⟨_,hv2⟩
    · cases hh
    · exact h.disj i i' l l' hne h1 h2 hv1 hv2
 immd:=fun i l h1 hv=>by
  rcases Heap.dN.1 hv with ⟨_,hh⟩|⟨_,hv⟩
  · cases hh
  · exact h.immd i l h1 hv
 mapr:=fun i l ob h1 h2 hk=>by
  rw[Heap.aB] at h2;split at h2
  · cases h2;cases hk
  · exact h.mapr i l ob h1 h2 hk
 lt:=h.lt
 imme:=h.imme
 glob:=h.glob
 mo:=h.mo
theorem Ext.kill {G G':Gh} {H H':Heap} {w w':World} (e:Ext G H w G' H' w') (id:Nat):Ext G H w G' (H'.set id .dead) w' where
 loc:=e.loc
 imm:=e.imm
 size:=e.size
 frame:=e.frame
 blks:=fun i l hl hv=>by
  rcases Heap.dN.1 hv with ⟨_,hh⟩|⟨_,hv⟩
  · cases hh
  · exact e.blks i l hl hv
 immn:=e.immn
 next:=e.next
 news:=e.news
 dead:=fun i l hl hv=>by
  rcases Heap.dN.1 hv with ⟨_,hh⟩|⟨_,hv⟩
  · cases hh
  · exact e.dead i l hl hv
 mo:=e.mo
 same:=e.same
structure Upd (w w':World) (b lo:Nat) (vs:List Value):Prop where
 size:w'.heap.size=w.heap.size
 other:∀b',b'≠b→w'.heap[b']?=w.heap[b']?
 row:∀c el fz,w.heap[b]?=some (.cells c el fz)→∃c',w'.heap[b]?=some (.cells c' el fz)∧c'.size=c.size∧
  (∀o,(o<lo∨lo+vs.length≤o)→c'[o]?=c[o]?)∧(∀j,j<vs.length→lo+j<c.size→c'[lo+j]?=some (vs.getD j undef))
 same:Same w w'
theorem Upd.cell {w w':World} {b lo:Nat} {vs:List Value} (u:Upd w w' b lo vs) {b' o:Nat} (h:b'≠b∨o<lo∨lo+vs.length≤o) {v:Value}
 (hc:w.cell? ⟨b',o,none⟩=some v):w'.cell? ⟨b',o,none⟩=some v:=by
 by_cases hb:b'=b
 · subst hb
   obtain⟨c,el,fz,h1,h2⟩:=lF hc;obtain⟨c',h3,h4,h5,_⟩:=u.row c el fz h1;rw[dV h3,h5 o (h.resolve_left (fun hne=>hne rfl))];exact h2
 · rw[cD (u.other b' hb)]
   exact hc
theorem Upd.frozen {w w':World} {b lo:Nat} {vs:List Value} (u:Upd w w' b lo vs) {b' o:Nat} {c:Array Value} {el:TypeId} {fz:Nat×Nat}
 (hc:w.heap[b']?=some (.cells c el fz)):w'.frozen? ⟨b',o,none⟩=w.frozen? ⟨b',o,none⟩:=by
 by_cases hb:b'=b
 · subst hb
   obtain⟨c',h3,_⟩:=u.row c el fz hc;rw[fT h3,fT hc]
 · exact dP (u.other b' hb)
theorem WR.write {g:Genv} {G:Gh} {H:Heap} {w w':World} (h:WR g G H w) {b lo:Nat} {vs:List Value} (u:Upd w w' b lo vs)
 (himm:∀j,j<vs.length→¬G.imm b (lo+j))
 (hdis:∀id l,G.loc id=some l→H.live id→l.blk≠b∨l.base+l.ext≤lo∨lo+vs.length≤l.base)
 (hrow:∃c el fz,w.heap[b]?=some (.cells c el fz)):WR g G H w':=by
 have hc:∀b' o,G.imm b' o→w'.cell? ⟨b',o,none⟩=w.cell? ⟨b',o,none⟩:=fun b' o hi=>by
  obtain⟨v,hv⟩:=h.imme b' o hi;rw[hv];refine u.cell ?_ hv;by_cases hb:b'=b
  · subst hb
    by_cases h1:o<lo
    · exact .inr (.inl h1)
    · refine .inr (.inr (Nat.le_of_not_lt fun h2=>himm (o -lo) (by omega) ?_))
      rwa [show lo+(o -lo)=o by omega]
  · exact .inl hb
 have hm:∀{a u},VR G w a u→VR G w' a u:=fun hv=>hv.mono (fun _ _ h=>h) (fun b o hi=>⟨hi,hc b o hi⟩)
 exact {
  cells:=fun id l cs opn h1 h2=>by
   obtain⟨a1,a2,a3,a4,a5⟩:=h.cells id l cs opn h1 h2;refine⟨a1,a2,a3,a4,fun j hj=>?_⟩;obtain⟨x,hx,hv⟩:=a5 j hj;refine⟨x,u.cell ?_ hx,hm hv⟩
   rcases hdis id l h1 ⟨_,h2,rfl⟩ with hd|hd|hd
   · exact .inl hd
   · exact .inr (.inl (by omega))
   · exact .inr (.inr (by omega))
  room:=fun id l h1 h2=>by
   obtain⟨c,el,fz,a1,a2,a3⟩:=h.room id l h1 h2;by_cases hb:l.blk=b
   · subst hb
     obtain⟨c',h3,h4,_⟩:=u.row c el fz a1;exact⟨c',el,fz,h3,by omega,fun j hj=>by rw[u.frozen a1];exact a3 j hj⟩
   · exact⟨c,el,fz,by rw[u.other _ hb];exact a1,a2,fun j hj=>by rw[u.frozen a1];exact a3 j hj⟩
  disj:=h.disj
  immd:=h.immd
  mapr:=fun id l ob h1 h2 hk=>by
   obtain⟨a1,a2,a3⟩:=h.mapr id l ob h1 h2 hk
   have hb:l.blk≠b:=fun hb=>by
    obtain⟨c,el,fz,hr⟩:=hrow;rw[←hb] at hr;exact a3.qC hk hr
   exact⟨a1,a2,a3.mono (u.other _ hb) fun _ _=>hm⟩
  lt:=h.lt
  imme:=fun b o hi=>by rw[hc b o hi];exact h.imme b o hi
  glob:=fun n cs hn=>hm (h.glob n cs hn)
  mo:=h.mo}
theorem Ext.write {G G':Gh} {H H':Heap} {w w1 w':World} (e:Ext G H w G' H' w1) {b lo:Nat} {vs:List Value} (u:Upd w1 w' b lo vs)
 (himm:∀j,j<vs.length→¬G'.imm b (lo+j)) (hex:∀b o,G'.imm b o→∃v,w1.cell? ⟨b,o,none⟩=some v)
 (hb:w.heap.size≤b∨∃id0 l0,G.loc id0=some l0∧H.live id0∧l0.blk=b):Ext G H w G' H' w' where
 loc:=e.loc
 imm:=fun b' o hi=>by
  have h1:=e.imm b' o hi;refine⟨h1.1,?_⟩;rw[←h1.2];obtain⟨v,hv⟩:=hex b' o h1.1;rw[hv];refine u.cell ?_ hv;by_cases hbb:b'=b
  · subst hbb
    by_cases h2:o<lo
    · exact .inr (.inl h2)
    · refine .inr (.inr (Nat.le_of_not_lt fun h3=>himm (o -lo) (by omega) ?_))
      rw[show lo+(o -lo)=o by omega];exact h1.1
  · exact .inl hbb
 size:=by rw[u.size];exact e.size
 frame:=fun b' hlt hn=>by
  have hne:b'≠b:=fun he=>by
   subst he
   rcases hb with hb|⟨id0,l0,h1,h2,h3⟩
   · omega
   · exact hn id0 l0 h1 h2 h3
  rw[u.other b' hne];exact e.frame b' hlt hn
 blks:=e.blks
 immn:=e.immn
 next:=e.next
 news:=e.news
 dead:=e.dead
 mo:=e.mo
 same:=e.same.trans (u.same.toB _)
theorem WR.aXb {g:Genv} {G:Gh} {H:Heap} {w:World} {id:Nat} (h:WR g G (H.set id .dead) w) (o:AObj) (l:Loc) (hl:G.loc id=some l)
 (hdis:∀id' l',id'≠id→G.loc id'=some l'→H.live id'→l.blk≠l'.blk∨l.base+l.ext≤l'.base∨l'.base+l'.ext≤l.base)
 (himm:∀j,j<l.ext→¬G.imm l.blk (l.base+j))
 (hcells:∀cs opn,o=.cells cs opn→l.siz=cs.length∧l.siz≤l.ext∧(opn=false→l.siz=l.ext)∧(∀c∈cs,c.one=true)∧
   ∀j,j<cs.length→∃u,w.cell? ⟨l.blk,l.base+j,none⟩=some u∧VR G w (cs.getD j undefA) u)
 (hroom:((∃cs opn,o=.cells cs opn)∨o=.tok)→∃c el fz,w.heap[l.blk]?=some (.cells c el fz)∧l.base+l.ext≤c.size∧∀j,j<l.ext→w.frozen? ⟨l.blk,l.base+j,none⟩=false)
 (hmap:o.blk=true→l.base=0∧l.ext=1∧ObOK g G w l o):
 WR g G (H.set id o) w:=by
 have hget:∀{m},m≠id→(H.set id o).get m=(H.set id .dead).get m:=fun hm=>by rw[Heap.aB,Heap.aB,if_neg hm,if_neg hm]
 have hloc:∀{l'},G.loc id=some l'→l'=l:=fun h'=>Option.some.inj (h'.symm.trans hl)
 have hliv:∀{m},m≠id→(H.set id o).live m→(H.set id .dead).live m:=fun hm hv=>by
  obtain⟨x,hx,hxl⟩:=hv;exact⟨x,by rw[←hget hm];exact hx,hxl⟩
 have hliv':∀{m},m≠id→(H.set id o).live m→H.live m:=fun hm hv=>by
  rcases Heap.dN.1 hv with ⟨he,_⟩|⟨_,hv⟩
  · exact absurd he hm
  · exact hv
 exact {
  cells:=fun i l' cs opn h1 h2=>by
   by_cases hi:i=id
   · subst hi
     rw[Heap.aB,if_pos rfl] at h2;obtain rfl:=hloc h1;exact hcells cs opn (Option.some.inj h2)
   · rw[hget hi] at h2
     exact h.cells i l' cs opn h1 h2
  room:=fun i l' h1 h2=>by
   by_cases hi:i=id
   · subst hi
     simp only[Heap.aB,if_true] at h2;obtain rfl:=hloc h1;exact hroom (h2.imp (fun⟨cs,opn,hh⟩=>⟨cs,opn,Option.some.inj hh⟩) (fun hh=>Option.some.inj hh))
   · simp only[hget hi] at h2
     exact h.room i l' h1 h2
  disj:=fun i i' l1 l2 hne h1 h2 hv1 hv2=>by
   by_cases hi:i=id
   · subst hi
     obtain rfl:=hloc h1;exact hdis i' l2 (Ne.symm hne) h2 (hliv' (Ne.symm hne) hv2)
   · by_cases hi':i'=id
     · subst hi'
       obtain rfl:=hloc h2
       rcases hdis i l1 hne h1 (hliv' hne hv1) with hd|hd|hd
       · exact .inl (Ne.symm hd)
       · exact .inr (.inr hd)
       · exact .inr (.inl hd)
     · exact h.disj i i' l1 l2 hne h1 h2 (hliv hi hv1) (hliv hi' hv2)
  immd:=fun i l' h1 hv=>by
   by_cases hi:i=id
   · subst hi
     obtain rfl:=hloc h1;exact himm
   · exact h.immd i l' h1 (hliv hi hv)
  mapr:=fun i l' ob h1 h2 hk=>by
   by_cases hi:i=id
   · subst hi
     rw[Heap.aB,if_pos rfl] at h2;obtain rfl:=Option.some.inj h2;obtain rfl:=hloc h1;exact hmap hk
   · rw[hget hi] at h2
     exact h.mapr i l' ob h1 h2 hk
  lt:=h.lt
  imme:=h.imme
  glob:=h.glob
  mo:=h.mo}
theorem Ext.aTe {G G':Gh} {H H':Heap} {w w':World} (e:Ext G H w G' H' w') (id:Nat) (o:AObj) (hv:H'.live id):Ext G H w G' (H'.set id o) w' where
 loc:=e.loc
 imm:=e.imm
 size:=e.size
 frame:=e.frame
 blks:=fun i l hl hv'=>by
  rcases Heap.dN.1 hv' with ⟨he,_⟩|⟨_,hv'⟩
  · subst he;exact e.blks i l hl hv
  · exact e.blks i l hl hv'
 immn:=e.immn
 next:=e.next
 news:=e.news
 dead:=fun i l hl hv'=>by
  rcases Heap.dN.1 hv' with ⟨he,_⟩|⟨_,hv'⟩
  · subst he;exact e.dead i l hl hv
  · exact e.dead i l hl hv'
 mo:=e.mo
 same:=e.same
theorem dD (b o i:Nat):(⟨b,o,none⟩:Addr).add i=⟨b,o+i,none⟩:=by
 unfold Addr.add;split
 · rename_i h;subst h;rfl
 · rfl
theorem fN {α:Type} (l:List α) (d:α) (j:Nat) (h:j<l.length):l[j]?=some (l.getD j d):=by
 simp[List.getD,List.getElem?_eq_getElem h]
theorem iR (P:Program) (w:World) (b o:Nat) (us:List Value) (h:∀j,j<us.length→w.cell? ⟨b,o+j,none⟩=some (us.getD j undef)):
 (loadCells ⟨b,o,none⟩ us.length).run P w=.ok us.toArray w:=
 run_loadCells_list w ⟨b,o,none⟩ us (fun j v hj=>by
  have hlt:=(List.getElem?_eq_some_iff.1 hj).1;rw[dD,h j hlt];rw[fN us undef j hlt] at hj
  exact hj)
theorem aDn {w:World} {b o:Nat} {v:Value}:Upd w (w.setCell ⟨b,o,none⟩ v) b o [v] where
 size:=by simp[World.setCell]
 other:=fun b' hb=>by
  simp only[World.setCell,Array.getElem?_modify];rw[if_neg (Ne.symm hb)]
 row:=fun c el fz h=>by
  refine⟨c.setIfInBounds o v,?_,by simp,fun o' ho=>?_,fun j hj hlt=>?_⟩
  · simp[World.setCell,Array.getElem?_modify,h]
  · rw[Array.getElem?_setIfInBounds_ne]
    simp at ho;omega
  · simp at hj
    subst hj;simp at hlt;simp[hlt]
 same:=.now
theorem Upd.refl (w:World) (b lo:Nat):Upd w w b lo [] where
 size:=rfl
 other:=fun _ _=>rfl
 row:=fun c el fz h=>⟨c,h,rfl,fun _ _=>rfl,fun j hj=>absurd hj (Nat.not_lt_zero j)⟩
 same:=.now
theorem Upd.cons {w w1 w2:World} {b lo:Nat} {v:Value} {vs:List Value} (h1:Upd w w1 b lo [v]) (h2:Upd w1 w2 b (lo+1) vs):Upd w w2 b lo (v::vs) where
 size:=h2.size.trans h1.size
 other:=fun b' hb=>(h2.other b' hb).trans (h1.other b' hb)
 row:=fun c el fz h=>by
  obtain⟨c1,a1,a2,a3,a4⟩:=h1.row c el fz h;obtain⟨c2,b1,b2,b3,b4⟩:=h2.row c1 el fz a1;refine⟨c2,b1,b2.trans a2,fun o ho=>?_,fun j hj hlt=>?_⟩
  · simp only[List.length_cons] at ho
    rw[b3 o (by omega),a3 o (by simp;omega)]
  · cases j with
    |zero=>
     rw[b3 _ (by omega)];have :=a4 0 (by simp) (by omega);simpa using this
    |succ j=>
     have :=b4 j (by simpa using hj) (by omega);rw[show lo+(j+1)=lo+1+j by omega,this];simp
 same:=h1.same.trans h2.same
theorem wU (P:Program) (w:World) (b o:Nat) (v:Value) (u:Value) (hc:w.cell? ⟨b,o,none⟩=some u) (hf:w.frozen? ⟨b,o,none⟩=false) (h1:oneV v=true):
 (store ⟨b,o,none⟩ v).run P w=.ok () (w.setCell ⟨b,o,none⟩ v):=by
 cases v<;>first
  |(simp[oneV] at h1;done)
  |simp[store,Sem.run,hc,hf]
theorem cL (P:Program) (b o:Nat):∀(vs:List Value) (i:Nat) (w:World),(∃c el fz,w.heap[b]?=some (.cells c el fz)∧o+i+vs.length≤c.size)→
 (∀j,j<vs.length→w.frozen? ⟨b,o+i+j,none⟩=false)→(∀v∈vs,oneV v=true)→
 ∃w',(storeCells ⟨b,o,none⟩ vs i).run P w=.ok () w'∧Upd w w' b (o+i) vs
 |[],i,w,_,_,_=>⟨w,rfl,Upd.refl w b _⟩
 |v::r,i,w,⟨c,el,fz,hrow,hsz⟩,hf,h1=>by
  simp only[List.length_cons] at hsz
  have hcell:w.cell? ⟨b,o+i,none⟩=some c[o+i]:=by rw[dV hrow,Array.getElem?_eq_getElem (by omega)]
  have hst:=wU P w b (o+i) v _ hcell (by simpa using hf 0 (by simp)) (h1 v (by simp));have hu:Upd w (w.setCell ⟨b,o+i,none⟩ v) b (o+i) [v]:=aDn;obtain⟨c1,a1,a2,_,_⟩:=hu.row c el fz hrow
  obtain⟨w',hr,hu'⟩:=cL P b o r (i+1) (w.setCell ⟨b,o+i,none⟩ v) ⟨c1,el,fz,a1,by omega⟩
   (fun j hj=>by
     rw[hu.frozen hrow];have :=hf (j+1) (by simpa using hj)
     rwa [show o+(i+1)+j=o+i+(j+1) by omega]) (fun x hx=>h1 x (by simp[hx]))
  refine⟨w',?_,hu.cons (by rwa [show o+i+1=o+(i+1) by omega])⟩;simp only[storeCells,Sem.run_bind,dD,hst,Result.andThen_ok];exact hr
structure Pushed (w w':World) (o:Go.Obj):Prop where
 heap:w'.heap=w.heap.push o
 same:Same w w'
theorem Pushed.old {w w':World} {o:Go.Obj} (p:Pushed w w' o) (b:Nat) (h:b<w.heap.size):w'.heap[b]?=w.heap[b]?:=by
 rw[p.heap];exact pM _ _ h
theorem Pushed.new {w w':World} {o:Go.Obj} (p:Pushed w w' o):w'.heap[w.heap.size]?=some o:=by
 rw[p.heap];simp
theorem Pushed.size {w w':World} {o:Go.Obj} (p:Pushed w w' o):w'.heap.size=w.heap.size+1:=by
 rw[p.heap];simp
theorem WR.oG {g:Genv} {G:Gh} {H:Heap} {w w':World} {o:Go.Obj} (h:WR g G H w) (p:Pushed w w' o):WR g G H w':=
 h.grow p.old
theorem Ext.oG {g:Genv} {G:Gh} {H:Heap} {w w':World} {o:Go.Obj} (h:WR g G H w) (p:Pushed w w' o):Ext G H w G H w':=
 Ext.grow h.imme p.old (by rw[p.size];omega) p.same
theorem VRs.nil (G:Gh) (w:World):VRs G w [] []:=⟨rfl,fun j hj=>absurd hj (Nat.not_lt_zero j)⟩
def Clear (arr:Array Value) (fz:Nat×Nat):Prop:=∀o,o<arr.size→(decide (fz.1≤o)&&decide (o<fz.2))=false
theorem Clear.zero (arr:Array Value):Clear arr (0,0):=fun o _=>by simp
structure Made (g:Genv) (G:Gh) (H:Heap) (w:World) (id0:Nat) (o:AObj) (G':Gh) (H':Heap) (w':World):Prop where
 rel:WR g G' H' w'
 locs:∃l,l.blk=w.heap.size∧G'.loc id0=some l∧∀id,id≠id0→G'.loc id=G.loc id
 ext:∀{G0:Gh} {H0:Heap} {w0:World},Ext G0 H0 w0 G H w→H0.next≤id0→Ext G0 H0 w0 G' H' w'
 immn:∀b o,G'.imm b o→G.imm b o∨b=w.heap.size
 immo:∀b o,G.imm b o→G'.imm b o
 size:w'.heap.size=w.heap.size+1
 old:∀b,b<w.heap.size→w'.heap[b]?=w.heap[b]?
theorem WR.mR {g:Genv} {G:Gh} {H H':Heap} {w w':World} (h:WR g G H w) (id0:Nat) (hid:G.loc id0=none) (cs:List AV) (vs rest:List Value) (hv:VRs G w cs vs) (h1:∀c∈cs,c.one=true)
 (opn:Bool) (ho:opn=false→rest=[]) (hget:∀m,H'.get m=if m=id0 then some (.cells cs opn) else H.get m) (hnx:H.next≤H'.next) (hlt0:id0<H'.next)
 {el:TypeId} {fz:Nat×Nat} (hfz:Clear (vs++rest).toArray fz) (p:Pushed w w' (.cells (vs++rest).toArray el fz)):
 Made g G H w id0 (.cells cs opn) (G.addLoc id0 ⟨w.heap.size,0,cs.length,(vs++rest).length⟩) H' w':=by
 have hp:=h.oG p;have he:=Ext.oG h p;have hnew:=p.new
 refine⟨hp.oZ id0 _ _ hid hget hnx hlt0 (fun id l' hl hv=>.inl (Ne.symm (Nat.ne_of_lt (h.eG hl hv)))) (fun j _ hi=>?_) (fun cs' opn' he'=>?_) (fun _=>?_) (fun he'=>by cases he'),
  ⟨⟨w.heap.size,0,cs.length,(vs++rest).length⟩,rfl,by simp only[Gh.addLoc,if_true],fun id hne=>by simp only[Gh.addLoc];rw[if_neg hne]⟩,fun {G0 H0 w0} e0 hge=>(e0.trans he).oZ id0 _ _ hid hget hnx hge (.inl ?_),fun b o hi=>.inl hi,fun b o hi=>hi,p.size,p.old⟩
 · obtain⟨v,hv⟩:=h.imme _ _ hi
   have :=fY hv;simp at this
 · cases he'
   have hlen:=hv.1;refine⟨rfl,by simp[hlen],fun hop=>by simp[ho hop,hlen],h1,fun j hj=>⟨vs.getD j undef,?_,(hv.2 j hj).mono he.loc he.imm⟩⟩;rw[dV hnew]
   have hj':j<vs.length:=by omega
   rw[List.getElem?_toArray];simp only[Nat.zero_add];rw[List.getElem?_append_left hj',fN vs undef j hj']
 · exact⟨_,el,fz,hnew,by simp,fun j hj=>by rw[fT hnew];exact hfz _ (by simpa using hj)⟩
 · exact e0.size
theorem WR.aSv {g:Genv} {G:Gh} {H:Heap} {w w':World} (h:WR g G H w) (cs:List AV) (vs rest:List Value) (hv:VRs G w cs vs) (h1:∀c∈cs,c.one=true)
 (opn:Bool) (ho:opn=false→rest=[]) {el:TypeId} {fz:Nat×Nat} (hfz:Clear (vs++rest).toArray fz) (p:Pushed w w' (.cells (vs++rest).toArray el fz)):
 WR g (G.addLoc H.next ⟨w.heap.size,0,cs.length,(vs++rest).length⟩) (H.alloc (.cells cs opn)) w'∧
  Ext G H w (G.addLoc H.next ⟨w.heap.size,0,cs.length,(vs++rest).length⟩) (H.alloc (.cells cs opn)) w':=by
 have hid:G.loc H.next=none:=by
  cases hl:G.loc H.next with
  |none=>rfl
  |some l'=>exact absurd (h.lt _ _ hl) (Nat.lt_irrefl _)
 have :=h.mR H.next hid cs vs rest hv h1 opn ho (Heap.aH H _) (Nat.le_succ _) (Nat.lt_succ_self _) hfz p;exact⟨this.rel,this.ext (Ext.refl G H w) (Nat.le_refl _)⟩
theorem WR.aIr {g:Genv} {G:Gh} {H:Heap} {w w':World} (h:WR g G H w) (cs:List AV) (vs rest:List Value) (hv:VRs G w cs vs)
 {el:TypeId} {fz:Nat×Nat} (p:Pushed w w' (.cells (vs++rest).toArray el fz)):
 WR g (G.addImm w.heap.size 0 cs.length) H w'∧Ext G H w (G.addImm w.heap.size 0 cs.length) H w'∧
  ∀j,j<cs.length→(G.addImm w.heap.size 0 cs.length).imm w.heap.size (0+j)∧w'.cell? ⟨w.heap.size,0+j,none⟩=some (vs.getD j undef)∧
   VR (G.addImm w.heap.size 0 cs.length) w' (cs.getD j undefA) (vs.getD j undef):=by
 have hp:=h.oG p;have he:=Ext.oG h p;have hnew:=p.new;have hlen:=hv.1
 have hcell:∀j,j<cs.length→w'.cell? ⟨w.heap.size,0+j,none⟩=some (vs.getD j undef):=fun j hj=>by
  have hj':j<vs.length:=by omega
  rw[dV hnew];rw[List.getElem?_toArray];simp only[Nat.zero_add];rw[List.getElem?_append_left hj',fN vs undef j hj']
 have he':=he.addImm w.heap.size 0 cs.length (.inl (Nat.le_refl _));refine⟨hp.addImm _ _ _ (fun j hj=>⟨_,hcell j hj⟩) (fun id l hl hv=>.inl (Nat.ne_of_lt (h.eG hl hv))),he',fun j hj=>⟨.inr ⟨rfl,by omega,by omega⟩,hcell j hj,(hv.2 j hj).mono he'.loc he'.imm⟩⟩
theorem WR.yG {g:Genv} {G:Gh} {H H':Heap} {w w':World} (h:WR g G H w) (id0:Nat) (hid:G.loc id0=none) (cs:List AV) (vs rest:List Value) (hv:VRs G w cs vs)
 (hget:∀m,H'.get m=if m=id0 then some .tok else H.get m) (hnx:H.next≤H'.next) (hlt0:id0<H'.next)
 {el:TypeId} {fz:Nat×Nat} (hfz:Clear (vs++rest).toArray fz) (p:Pushed w w' (.cells (vs++rest).toArray el fz)):
 ∃G',G'.loc id0=some ⟨w.heap.size,cs.length,0,rest.length⟩∧Made g G H w id0 .tok G' H' w'∧
  ∀j,j<cs.length→G'.imm w.heap.size (0+j)∧w'.cell? ⟨w.heap.size,0+j,none⟩=some (vs.getD j undef)∧VR G' w' (cs.getD j undefA) (vs.getD j undef):=by
 obtain⟨hw,he,hc⟩:=h.aIr cs vs rest hv p;have hnew:=p.new;have hlen:=hv.1;have hid':(G.addImm w.heap.size 0 cs.length).loc id0=none:=hid
 refine⟨(G.addImm w.heap.size 0 cs.length).addLoc id0 ⟨w.heap.size,cs.length,0,rest.length⟩,by simp[Gh.addLoc],⟨?_,⟨_,rfl,by simp[Gh.addLoc];rfl,fun id hne=>by simp only[Gh.addLoc];rw[if_neg hne];rfl⟩,fun {G0 H0 w0} e0 hge=>?_,fun b o hi=>hi.imp id (fun hh=>hh.1),fun b o hi=>.inl hi,p.size,p.old⟩,
  fun j hj=>⟨(hc j hj).1,(hc j hj).2.1,(hc j hj).2.2.mono (fun id l hl=>?_) (fun b o hi=>⟨hi,rfl⟩)⟩⟩
 · refine hw.oZ id0 .tok _ hid' hget hnx hlt0 (fun id l' hl hv=>.inl (Ne.symm (Nat.ne_of_lt (h.eG hl hv)))) (fun j _ hi=>?_) (fun cs' opn' he'=>by cases he') (fun _=>?_) (fun he'=>by cases he')
   · rcases hi with hi|⟨_,_,hi⟩
     · obtain⟨v,hv⟩:=h.imme _ _ hi
       have :=fY hv;simp at this
     · simp at hi
       omega
   · exact⟨_,el,fz,hnew,by simp[hlen],fun j hj=>by rw[fT hnew];exact hfz _ (by simp at hj;simp;omega)⟩
 · exact(e0.trans he).oZ id0 .tok _ hid' hget hnx hge (.inl e0.size)
 · simp only[Gh.addLoc]
   rw[if_neg (fun he=>by rw[he,hid'] at hl;cases hl)];exact hl
theorem WR.aSw {g:Genv} {G:Gh} {H:Heap} {w w':World} (h:WR g G H w) (cs:List AV) (vs rest:List Value) (hv:VRs G w cs vs)
 {el:TypeId} {fz:Nat×Nat} (hfz:Clear (vs++rest).toArray fz) (p:Pushed w w' (.cells (vs++rest).toArray el fz)):
 ∃G',G'.loc H.next=some ⟨w.heap.size,cs.length,0,rest.length⟩∧WR g G' (H.alloc .tok) w'∧Ext G H w G' (H.alloc .tok) w'∧
  ∀j,j<cs.length→G'.imm w.heap.size (0+j)∧w'.cell? ⟨w.heap.size,0+j,none⟩=some (vs.getD j undef)∧VR G' w' (cs.getD j undefA) (vs.getD j undef):=by
 have hid:G.loc H.next=none:=by
  cases hl:G.loc H.next with
  |none=>rfl
  |some l'=>exact absurd (h.lt _ _ hl) (Nat.lt_irrefl _)
 obtain⟨G',h1,h2,h3⟩:=h.yG H.next hid cs vs rest hv (Heap.aH H _) (Nat.le_succ _) (Nat.lt_succ_self _) hfz p;exact⟨G',h1,h2.rel,h2.ext (Ext.refl G H w) (Nat.le_refl _),h3⟩
end Go.Av
