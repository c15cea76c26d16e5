/-
  Parts of the proof of statement 4: AvFrame
-/
import Derived.Test.YtjiignefffdelaaGreatDoorA15
set_option linter.unusedVariables false
set_option linter.unusedSimpArgs false
set_option linter.unusedSectionVars false
namespace Go.Av
open Go
section
mutual
def AV.free:AV→Bool
 |.pl cs=>freeL cs
 |.aT tag _ els=>Nat.blt tag 2&&freeLL els
 |.func _ a b=>freeL a&&freeL b
 |.iface _ v=>v.free
 |.agg cs=>freeL cs
 |.tup vs=>freeL vs
 |.ref _ _|.sl _ _ _ _ _|.map _|.yield _=>false
 |_=>true
def freeL:List AV→Bool
 |[]=>true
 |x::r=>x.free&&freeL r
def freeLL:List (List AV)→Bool
 |[]=>true
 |x::r=>freeL x&&freeLL r
end
theorem xP:∀{l:List AV},freeL l=true→∀x∈l,x.free=true
 |[],_,x,hx=>by cases hx
 |y::l,h,x,hx=>by
  simp only[freeL,Bool.and_eq_true] at h
  rcases List.mem_cons.1 hx with rfl|hx
  · exact h.1
  · exact xP h.2 x hx
theorem eC {a b:List AV}:freeL (a++b)=(freeL a&&freeL b):=by
 induction a with
 |nil=>simp[freeL]
 |cons x r ih=>simp[freeL,ih,Bool.and_assoc]
theorem eA:∀{l:List (List AV)},freeLL l=true→freeL l.flatten=true
 |[],_=>rfl
 |y::l,h=>by
  simp only[freeLL,Bool.and_eq_true] at h;rw[List.flatten_cons,eC,h.1,eA h.2];rfl
theorem dK {l:List AV} (h:freeL l=true) {j:Nat} (hj:j<l.length):(l.getD j undefA).free=true:=by
 refine xP h _ ?_;rw[getD_eq,List.getElem?_eq_getElem hj];exact List.getElem_mem hj
theorem VR.fM {G G':Gh} {w w':World} {a:AV} {u:Value} (h:VR G w a u) (hf:a.free=true)
 (hi:∀b o,G.imm b o→G'.imm b o∧w'.cell? ⟨b,o,none⟩=w.cell? ⟨b,o,none⟩):VR G' w' a u:=by
 induction h with
 |bool b=>exact .bool b
 |int k n=>exact .int k n
 |str s=>exact .str s
 |nilp=>exact .nilp
 |ref id off l h=>cases hf
 |pl cells b o us h hv ih=>
  simp only[AV.free] at hf;exact .pl cells b o us (fun j hj=>⟨(hi _ _ (h j hj).1).1,by rw[(hi _ _ (h j hj).1).2];exact(h j hj).2.1,(h j hj).2.2⟩) (fun j hj=>ih j hj (dK hf hj))
 |nilsl=>exact .nilsl
 |lstE tag sz b o s ht=>exact .lstE tag sz b o s ht
 |aT tag sz els b o cap us hu h hv ht ih=>
  simp only[AV.free,Bool.and_eq_true] at hf;have hfl:=eA hf.2;refine .aT tag sz els b o cap us hu (fun j hj=>⟨(hi _ _ (h j hj).1).1,by rw[(hi _ _ (h j hj).1).2];exact(h j hj).2.1,(h j hj).2.2⟩) (fun j hj=>ih j hj (dK hfl hj)) ?_;refine⟨ht.1,?_⟩;have h2:=ht.2
  have htag:tag<2:=by have :=hf.1;simpa [Nat.blt_eq] using this
  match tag,h2,htag with
  |0,_,_=>trivial
  |1,h2,_=>exact h2
  |k+2,_,hh=>omega
 |sl id sz off len cap cap' l h hlen hin hcap=>cases hf
 |func fn fs cs azs bs ha hb hav hbv iha ihb=>
  simp only[AV.free,Bool.and_eq_true] at hf;exact .func fn fs cs azs bs ha hb (fun j hj=>iha j hj (dK hf.1 hj)) (fun j hj=>ihb j hj (dK hf.2 hj))
 |nilfn=>exact .nilfn
 |iface t a v h ih=>exact .iface t a v (ih hf)
 |nilif=>exact .nilif
 |agg cs vs hl' h1 hv ih=>
  simp only[AV.free] at hf;exact .agg cs vs hl' h1 (fun j hj=>ih j hj (dK hf hj))
 |tup cs vs hl' hv ih=>
  simp only[AV.free] at hf;exact .tup cs vs hl' (fun j hj=>ih j hj (dK hf hj))
 |map id l h=>cases hf
 |yield id l h=>cases hf
 |nilmap=>exact .nilmap
theorem VRs.fM {G G':Gh} {w w':World} {xs:List AV} {vs:List Value} (h:VRs G w xs vs) (hf:freeL xs=true)
 (hi:∀b o,G.imm b o→G'.imm b o∧w'.cell? ⟨b,o,none⟩=w.cell? ⟨b,o,none⟩):VRs G' w' xs vs:=
 ⟨h.1,fun j hj=>(h.2 j hj).fM (dK hf hj) hi⟩
def tagA (tk:Option Nat) (nw tag:Nat):Nat:=
 match tag with
 |0=>0
 |1=>1
 |k+2=>match tk with
  |some k'=>match Nat.beq k k' with
   |true=>nw+2
   |false=>0
  |none=>0
def shut1 (H:Heap) (tk:Option Nat) (nw:Nat):AV→Option AV
 |.aT tag sz els=>match freeLL els with
  |true=>some (.aT (tagA tk nw tag) sz els)
  |false=>none
 |.sl id sz off len cap=>match H.cellsAt id with
  |some cs=>match Nat.ble (off+len*sz) cs.length&&freeL (cs.drop off) with
   |true=>some (.aT 0 sz (chunkF sz len (cs.drop off)))
   |false=>none
  |none=>none
 |.ref id off=>match H.cellsAt id with
  |some cs=>match freeL (cs.drop off) with
   |true=>some (.pl (cs.drop off))
   |false=>none
  |none=>none
 |v=>match v.free with
  |true=>some v
  |false=>none
def mapO (f:AV→Option AV):List AV→Option (List AV)
 |[]=>some []
 |x::r=>match f x,mapO f r with
  |some y,some ys=>some (y::ys)
  |_,_=>none
def shutF (H:Heap) (tk:Option Nat) (nw:Nat):Nat→AV→Option AV
 |0,v=>shut1 H tk nw v
 |n+1,.agg cs=>(mapO (shutF H tk nw n) cs).map .agg
 |n+1,.tup vs=>(mapO (shutF H tk nw n) vs).map .tup
 |_,v=>shut1 H tk nw v
theorem rH {f:AV→Option AV}:∀{l r:List AV},mapO f l=some r→r.length=l.length∧∀j,j<l.length→f (l.getD j undefA)=some (r.getD j undefA)
 |[],r,h=>by
  obtain rfl:=Option.some.inj h;exact⟨rfl,fun j hj=>absurd hj (Nat.not_lt_zero j)⟩
 |x::l,r,h=>by
  simp only[mapO] at h;split at h
  · rename_i y ys hy hys
    obtain rfl:=Option.some.inj h;obtain⟨h1,h2⟩:=rH hys;refine⟨by simp[h1],fun j hj=>?_⟩
    cases j with
    |zero=>simpa using hy
    |succ j=>simpa using h2 j (by simpa using hj)
  · cases h
def addTok (tk:Option Nat) (H:Heap):Heap:=match tk with
 |none=>H
 |some _=>H.alloc .tok
def GFree (g:Genv):Prop:=∀n cs,g n=some cs→freeL cs=true
def Out.av:Out→AV
 |.ret v=>v
 |.pan v=>v
def Out.with:Out→AV→Out
 |.ret _,v=>.ret v
 |.pan _,v=>.pan v
section
variable {P:Program} {g:Genv}
def finG (G G2:Gh) (H:Heap) (H2:Heap) (tk:Option Nat):Gh where
 loc:=fun id=>if id=H.next then tk.bind G2.loc else G.loc id
 imm:=fun b o=>G2.imm b o∨∃id l cs opn,G2.loc id=some l∧H2.get id=some (.cells cs opn)∧l.blk=b∧l.base≤o∧o<l.base+l.siz
 mo:=G.mo
theorem vQ {G G2:Gh} {H H2:Heap} {w2:World} {tk:Option Nat} (hn:∀k,tk=some k→H2.get k=some .tok) (hw2:WR g G2 H2 w2) {v v':AV} {u:Value} (h:VR G2 w2 v u) (hs:shut1 H2 tk H.next v=some v'):
 VR (finG G G2 H H2 tk) w2 v' u:=by
 have hi:∀b o,G2.imm b o→(finG G G2 H H2 tk).imm b o∧w2.cell? ⟨b,o,none⟩=w2.cell? ⟨b,o,none⟩:=fun b o hh=>⟨.inl hh,rfl⟩
 have frozen:∀{id:Nat} {l:Loc} {cs:List AV} {off:Nat},G2.loc id=some l→H2.cellsAt id=some cs→freeL (cs.drop off)=true→∀j,j<(cs.drop off).length→
  ∃x,(finG G G2 H H2 tk).imm l.blk (l.base+off+j)∧w2.cell? ⟨l.blk,l.base+off+j,none⟩=some x∧((cs.drop off).getD j undefA).one=true∧VR (finG G G2 H H2 tk) w2 ((cs.drop off).getD j undefA) x:=by
  intro id l cs off hl hc hf j hj;obtain⟨opn,hg⟩:=Heap.fB hc;obtain⟨a1,a2,a3,a4,a5⟩:=hw2.cells id l cs opn hl hg;simp only[List.length_drop] at hj;obtain⟨x,hx,hvx⟩:=a5 (off+j) (by omega)
  have hgd:(cs.drop off).getD j undefA=cs.getD (off+j) undefA:=by rw[getD_eq,getD_eq,List.getElem?_drop]
  refine⟨x,.inr ⟨id,l,cs,opn,hl,hg,rfl,by omega,by omega⟩,by rw[Nat.add_assoc];exact hx,?_,?_⟩
  · rw[hgd]
    refine a4 _ ?_;rw[getD_eq,List.getElem?_eq_getElem (by omega)];exact List.getElem_mem _
  · have hfr:=dK hf (j:=j) (by simpa using hj)
    rw[hgd] at hfr ⊢;exact hvx.fM hfr hi
 unfold shut1 at hs;split at hs
 · rename_i tag sz els
   split at hs
   · rename_i hf
     obtain rfl:=Option.some.inj hs;have hfl:=eA hf
     cases h with
     |lstE _ _ b o s ht=>
      refine .lstE _ _ _ _ _ ?_
      match tag,ht with
      |0,_=>exact Nat.zero_lt_two
      |1,_=>exact Nat.one_lt_two
     |aT _ _ _ b o cap us hu hh hv ht=>
      refine .aT _ sz els b o cap us hu (fun j hj=>⟨(hi _ _ (hh j hj).1).1,(hh j hj).2⟩) (fun j hj=>(hv j hj).fM (dK hfl hj) hi) ⟨ht.1,?_⟩;have h2:=ht.2
      match tag,h2 with
      |0,_=>trivial
      |1,h2=>exact h2
      |k+2,⟨l,h1,h2⟩=>
       cases tk with
       |none=>trivial
       |some k'=>
        simp only[tagA]
        cases hk:Nat.beq k k' with
        |false=>trivial
        |true=>
         obtain rfl:=Nat.eq_of_beq_eq_true hk;exact⟨l,by simp only[finG,if_true,Option.bind_some];exact h1,h2⟩
   · cases hs
 · rename_i id sz off len cap
   split at hs
   · rename_i cs hc
     split at hs
     · rename_i hcond
       obtain rfl:=Option.some.inj hs;simp only[Bool.and_eq_true] at hcond;have hle:off+len*sz≤cs.length:=Nat.le_of_ble_eq_true hcond.1
       cases h with
       |sl _ _ _ _ _ cap' l hl hlen hin hcap=>
        obtain⟨f1,f2,f3⟩:=dW sz len (cs.drop off) (by simp;omega);have hfz:=frozen hl hc hcond.2;have hmul:len*sz≤cap*sz:=Nat.mul_le_mul_right sz hlen
        have hj':∀j,j<(chunkF sz len (cs.drop off)).flatten.length→j<(cs.drop off).length∧(chunkF sz len (cs.drop off)).flatten.getD j undefA=(cs.drop off).getD j undefA:=fun j hj=>by
         rw[f1] at hj ⊢;simp only[List.length_take,List.length_drop] at hj;refine⟨by simp;omega,?_⟩;rw[getD_take _ _ _ _ (by omega)]
        have key:=VR.aT (G:=finG G G2 H H2 tk) (w:=w2) 0 sz (chunkF sz len (cs.drop off)) l.blk (l.base+off) cap' (fun j=>(w2.cell? ⟨l.blk,l.base+off+j,none⟩).getD undef) f3
         (fun j hj=>by
           obtain⟨h1,h2⟩:=hj' j hj;obtain⟨x,q1,q2,q3,q4⟩:=hfz j h1
           exact⟨q1,by rw[q2];rfl,by rw[h2];exact q3⟩)
         (fun j hj=>by
           obtain⟨h1,h2⟩:=hj' j hj;obtain⟨x,q1,q2,q3,q4⟩:=hfz j h1
           rw[h2,q2];exact q4)
         ⟨by rw[f2];rcases hcap with rfl|⟨_,hc2,_⟩<;>omega,trivial⟩
        rw[f2] at key;exact key
     · cases hs
   · cases hs
 · rename_i id off
   split at hs
   · rename_i cs hc
     split at hs
     · rename_i hf
       obtain rfl:=Option.some.inj hs
       cases h with
       |ref _ _ l hl=>
        have hfz:=frozen hl hc hf
        exact .pl (cs.drop off) l.blk (l.base+off) (fun j=>(w2.cell? ⟨l.blk,l.base+off+j,none⟩).getD undef)
         (fun j hj=>by
           obtain⟨x,q1,q2,q3,q4⟩:=hfz j hj
           exact⟨q1,by rw[q2];rfl,q3⟩)
         (fun j hj=>by
           obtain⟨x,q1,q2,q3,q4⟩:=hfz j hj
           rw[q2];exact q4)
     · cases hs
   · cases hs
 · split at hs
   · rename_i hf
     obtain rfl:=Option.some.inj hs;exact h.fM hf hi
   · cases hs
theorem aPv {G G2:Gh} {H H2:Heap} {w2:World} {tk:Option Nat} {nw n:Nat} {v v':AV} (hs:shutF H2 tk nw n v=some v') (h:v.one=true):v'.one=true:=by
 have h1:shut1 H2 tk nw v=some v'→v'.one=true:=fun hs=>by
  unfold shut1 at hs
  repeat' (split at hs)
  all_goals first
   |(cases hs;done)
   |(obtain rfl:=Option.some.inj hs;first|rfl|exact h)
 cases n with
 |zero=>exact h1 hs
 |succ n=>
  unfold shutF at hs;split at hs
  · exact h1 hs
  · cases h
  · cases h
  · exact h1 hs
theorem qM {G G2:Gh} {H H2:Heap} {w2:World} {tk:Option Nat} (hn:∀k,tk=some k→H2.get k=some .tok) (hw2:WR g G2 H2 w2):∀(n:Nat) {v v':AV} {u:Value},VR G2 w2 v u→shutF H2 tk H.next n v=some v'→
 VR (finG G G2 H H2 tk) w2 v' u
 |0,v,v',u,h,hs=>vQ hn hw2 h hs
 |n+1,v,v',u,h,hs=>by
  unfold shutF at hs;split at hs
  · exact vQ hn hw2 h hs
  · rename_i m cs hm
    obtain rfl:m=n:=by omega
    simp only[Option.map_eq_some_iff] at hs;obtain⟨r,hr,rfl⟩:=hs;obtain⟨r1,r2⟩:=rH hr
    cases h with
    |agg _ vs hl h1 hv=>
     refine .agg r vs (by omega) (fun c hc=>?_) (fun j hj=>qM hn hw2 m (hv j (by omega)) (r2 j (by omega)));obtain⟨j,hj,rfl⟩:=List.mem_iff_getElem.1 hc;have :=r2 j (by omega);rw[getD_eq,getD_eq,List.getElem?_eq_getElem hj,List.getElem?_eq_getElem (by omega)] at this;exact aPv (G:=G) (G2:=G2) (H:=H) (w2:=w2) this (h1 _ (List.getElem_mem _))
  · rename_i m vs0 hm
    obtain rfl:m=n:=by omega
    simp only[Option.map_eq_some_iff] at hs;obtain⟨r,hr,rfl⟩:=hs;obtain⟨r1,r2⟩:=rH hr
    cases h with
    |tup _ vs hl hv=>exact .tup r vs (by omega) (fun j hj=>qM hn hw2 m (hv j (by omega)) (r2 j (by omega)))
  · exact vQ hn hw2 h hs
theorem SoundQ.frame (hg:GFree g) {f:FuncId} {args:List AV} (hf:freeL args=true) {R:Out→Heap→Prop} (h:SoundQ P g f args ⟨0,.nil⟩ R) (H:Heap) {out':Out} {H':Heap}
 (hR:∀out H2,R out H2→∃tk n v',(∀k,tk=some k→H2.get k=some .tok)∧shutF H2 tk H.next n out.av=some v'∧out.with v'=out'∧addTok tk H=H'):Sound P g f args H out' H':=by
 refine⟨h.1,fun G w vs hw hv=>?_⟩;let G0:Gh:=⟨fun _=>none,G.imm,G.mo⟩;have hG0:∀b o,G.imm b o→G0.imm b o∧w.cell? ⟨b,o,none⟩=w.cell? ⟨b,o,none⟩:=fun b o hh=>⟨hh,rfl⟩
 have hw0:WR g G0 ⟨0,.nil⟩ w:={
  cells:=fun id l cs opn h1=>by cases h1
  room:=fun id l h1=>by cases h1
  disj:=fun id id' l l' _ h1=>by cases h1
  immd:=fun id l h1=>by cases h1
  mapr:=fun id l es h1=>by cases h1
  lt:=fun id l h1=>by cases h1
  imme:=hw.imme
  glob:=fun k cs hk=>(hw.glob k cs hk).fM (hg k cs hk) hG0
  mo:=hw.mo}
 refine(h.2 G0 w vs hw0 (hv.fM hf hG0)).mono fun e w2 he=>?_;obtain⟨out,H2,G2,hr,hw2,hext,hout⟩:=he;obtain⟨tk,n,v',htk,hs,rfl,rfl⟩:=hR _ _ hr
 have hnew:∀id l,G2.loc id=some l→H2.live id→w.heap.size≤l.blk:=fun id l h1 h2=>by
  rcases hext.blks id l h1 h2 with hh|⟨id0,l0,hh,_⟩
  · exact hh
  · cases hh
 have hfrm:∀b,b<w.heap.size→w2.heap[b]?=w.heap[b]?:=fun b hb=>hext.frame b hb fun id l hh=>by cases hh
 have himm2:∀b o,(finG G G2 H H2 tk).imm b o→G.imm b o∨w.heap.size≤b:=fun b o hi=>by
  rcases hi with hi|⟨id,l,cs,opn,h1,h2,rfl,_⟩
  · rcases hext.immn b o hi with hh|hh|⟨id0,l0,hh,_⟩
    · exact .inl hh
    · exact .inr hh
    · cases hh
  · exact .inr (hnew id l h1 ⟨_,h2,rfl⟩)
 have hloc:∀id l,G.loc id=some l→(finG G G2 H H2 tk).loc id=some l:=fun id l hl=>by
  have :=hw.lt id l hl;simp only[finG];rw[if_neg (by omega)];exact hl
 have himm:∀b o,G.imm b o→(finG G G2 H H2 tk).imm b o∧w2.cell? ⟨b,o,none⟩=w.cell? ⟨b,o,none⟩:=fun b o hi=>⟨.inl (hext.imm b o hi).1,(hext.imm b o hi).2⟩
 have hnext:H.next≤(addTok tk H).next:=by cases tk<;>simp[addTok]
 have hget:∀id,id≠H.next→(addTok tk H).get id=H.get id:=fun id hne=>by
  cases tk with
  |none=>rfl
  |some k=>simp only[addTok,Heap.aH,if_neg hne]
 have hcase:∀id l,(finG G G2 H H2 tk).loc id=some l→(id≠H.next∧G.loc id=some l)∨(id=H.next∧∃k,tk=some k∧G2.loc k=some l∧(addTok tk H).get id=some .tok):=fun id l hl=>by
  simp only[finG] at hl;by_cases hid:id=H.next
  · rw[if_pos hid] at hl
    cases tk with
    |none=>cases hl
    |some k=>exact .inr ⟨hid,k,rfl,hl,by simp only[addTok,Heap.aH,if_pos hid]⟩
  · rw[if_neg hid] at hl
    exact .inl ⟨hid,hl⟩
 have hliv:∀id,id≠H.next→(addTok tk H).live id→H.live id:=fun id hne ⟨o,h1,h2⟩=>⟨o,by rw[←hget id hne];exact h1,h2⟩;have htokblk:∀k l,tk=some k→G2.loc k=some l→w.heap.size≤l.blk:=fun k l h1 h2=>hnew k l h2 ⟨_,htk k h1,rfl⟩
 have hrel:WR g (finG G G2 H H2 tk) (addTok tk H) w2:={
  cells:=fun id l cs opn h1 h2=>by
   rcases hcase id l h1 with ⟨hne,hl⟩|⟨_,k,_,_,ht⟩
   · rw[hget id hne] at h2
     obtain⟨a1,a2,a3,a4,a5⟩:=hw.cells id l cs opn hl h2;have hb:=hw.eG hl ⟨_,h2,rfl⟩;refine⟨a1,a2,a3,a4,fun j hj=>?_⟩;obtain⟨x,hx,hvx⟩:=a5 j hj;exact⟨x,by rw[cD (hfrm _ hb)];exact hx,hvx.mono hloc himm⟩
   · rw[ht] at h2;cases h2
  room:=fun id l h1 h2=>by
   rcases hcase id l h1 with ⟨hne,hl⟩|⟨_,k,hk,hl2,ht⟩
   · rw[hget id hne] at h2
     have hb:l.blk<w.heap.size:=hw.eG hl (by
      rcases h2 with ⟨cs,opn,hh⟩|hh
      · exact⟨_,hh,rfl⟩
      · exact⟨_,hh,rfl⟩)
     obtain⟨c,el,fz,b1,b2,b3⟩:=hw.room id l hl h2;exact⟨c,el,fz,by rw[hfrm _ hb];exact b1,b2,fun j hj=>by rw[dP (hfrm _ hb)];exact b3 j hj⟩
   · exact hw2.room k l hl2 (.inr (htk k hk))
  disj:=fun id id' l l' hne h1 h2 hv1 hv2=>by
   rcases hcase id l h1 with ⟨hn1,hl1⟩|⟨hn1,k,hk,hk1,_⟩<;>rcases hcase id' l' h2 with ⟨hn2,hl2⟩|⟨hn2,k',hk',hk2,_⟩
   · exact hw.disj id id' l l' hne hl1 hl2 (hliv id hn1 hv1) (hliv id' hn2 hv2)
   · have :=hw.eG hl1 (hliv id hn1 hv1)
     have :=htokblk k' l' hk' hk2;exact .inl (by omega)
   · have :=hw.eG hl2 (hliv id' hn2 hv2)
     have :=htokblk k l hk hk1;exact .inl (by omega)
   · exact absurd (hn1.trans hn2.symm) hne
  immd:=fun id l h1 hv1 j hj hi=>by
   rcases hcase id l h1 with ⟨hn1,hl1⟩|⟨hn1,k,hk,hk1,_⟩
   · have hb:=hw.eG hl1 (hliv id hn1 hv1)
     rcases himm2 _ _ hi with hh|hh
     · exact hw.immd id l hl1 (hliv id hn1 hv1) j hj hh
     · omega
   · rcases hi with hi|⟨id2,l2,cs,opn,q1,q2,q3,q4,q5⟩
     · exact hw2.immd k l hk1 ⟨_,htk k hk,rfl⟩ j hj hi
     · have hne:id2≠k:=fun hh=>by rw[hh,htk k hk] at q2;cases q2
       have hs:=(hw2.cells id2 l2 cs opn q1 q2).2.1
       rcases hw2.disj id2 k l2 l hne q1 hk1 ⟨_,q2,rfl⟩ ⟨_,htk k hk,rfl⟩ with hd|hd|hd
       · exact hd q3
       · omega
       · omega
  mapr:=fun id l o h1 h2 hk=>by
   rcases hcase id l h1 with ⟨hne,hl⟩|⟨_,k,_,_,ht⟩
   · rw[hget id hne] at h2
     have hb:=hw.eG hl ⟨_,h2,uM hk⟩;obtain⟨a1,a2,a3⟩:=hw.mapr id l o hl h2 hk;exact⟨a1,a2,a3.mono (hfrm _ hb) fun _ _ h=>h.mono hloc himm⟩
   · rw[ht] at h2;cases h2;cases hk
  lt:=fun id l h1=>by
   rcases hcase id l h1 with ⟨hne,hl⟩|⟨hn,k,hk,_,_⟩
   · have :=hw.lt id l hl;omega
   · subst hk
     simp[addTok,hn]
  imme:=fun b o hi=>by
   rcases hi with hi|⟨id,l,cs,opn,q1,q2,rfl,q4,q5⟩
   · exact hw2.imme b o hi
   · obtain⟨a1,_,_,_,a5⟩:=hw2.cells id l cs opn q1 q2
     obtain⟨x,hx,_⟩:=a5 (o -l.base) (by omega);exact⟨x,by rw[show o=l.base+(o -l.base) by omega];exact hx⟩
  glob:=fun k cs hk=>(hw.glob k cs hk).mono hloc himm
  mo:=hw.mo}
 have hext':Ext G H w (finG G G2 H H2 tk) (addTok tk H) w2:={
  loc:=hloc
  imm:=himm
  size:=hext.size
  frame:=fun b hb _=>hfrm b hb
  blks:=fun id l h1 hv1=>by
   rcases hcase id l h1 with ⟨hne,hl⟩|⟨_,k,hk,hk1,_⟩
   · exact .inr ⟨id,l,hl,hliv id hne hv1,rfl⟩
   · exact .inl (htokblk k l hk hk1)
  immn:=fun b o hi=>by
   rcases himm2 b o hi with hh|hh
   · exact .inl hh
   · exact .inr (.inl hh)
  next:=hnext
  news:=fun id l h1 h2=>by
   rcases hcase id l h1 with ⟨hne,hl⟩|⟨hn,_⟩
   · rw[h2] at hl;cases hl
   · omega
  dead:=fun id l h1 hv1=>hliv id (by have :=hw.lt id l h1;omega) hv1
  mo:=rfl
  same:=hext.same}
 refine⟨_,hrel,hext',?_⟩
 cases out with
 |ret v=>
  cases e with
  |returned u=>exact qM htk hw2 n hout hs
  |_=>exact hout.elim
 |pan v=>
  cases e with
  |panicked ch=>
   obtain⟨u,rfl,hvu⟩:=hout;exact⟨u,rfl,qM htk hw2 n hvu hs⟩
  |_=>exact hout.elim
theorem Sound.frame (hg:GFree g) {f:FuncId} {args:List AV} (hf:freeL args=true) {out:Out} {H2:Heap} (h:Sound P g f args ⟨0,.nil⟩ out H2) {tk:Option Nat} (htk:∀k,tk=some k→H2.get k=some .tok) {n:Nat}
 (H:Heap) {v':AV} (hs:shutF H2 tk H.next n out.av=some v'):Sound P g f args H (out.with v') (addTok tk H):=
 h.open.frame hg hf H fun o H3 hh=>by
  obtain⟨rfl,rfl⟩:=hh;exact⟨tk,n,v',htk,hs,rfl,rfl⟩
end
end
end Go.Av
