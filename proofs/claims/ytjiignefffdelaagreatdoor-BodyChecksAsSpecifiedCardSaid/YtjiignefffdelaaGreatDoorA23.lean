/-
  Parts of the proof of statement 4: AvUp, AvRan, AvGlue, AvGlueB, AvSh, KG
-/
import Derived.Test.YtjiignefffdelaaGreatDoorA18
import Derived.Test.YtjiignefffdelaaGreatDoorA15
import Derived.Test.YtjiignefffdelaaGreatDoorA22
import Derived.Test.YtjiignefffdelaaGreatDoorA19
import Derived.Test.YtjiignefffdelaaGreatDoorA10
import Derived.Test.YtjiignefffdelaaGreatDoorA21
import Derived.Below
import Derived.Lib.Join
import Derived.ProofKit
import Derived.OpenShut
import Derived.Deep.Slices
import Derived.Test.YtjiignefffdelaaGreatDoorProg
import Derived.KernelRfl
set_option linter.unusedVariables false
set_option linter.unusedSimpArgs false
set_option linter.unusedSectionVars false
set_option linter.defProp false
set_option maxRecDepth 100000
set_option maxHeartbeats 16000000
namespace Go.Av
open Go
section
theorem VR.mo {G:Gh} {w:World} {a:AV} {u:Value} (h:VR G w a u) (b:Bool):VR ⟨G.loc,G.imm,b⟩ w a u:=h.mono (fun _ _ h=>h) (fun _ _ h=>⟨h,rfl⟩)
section
variable {P:Program} {g g':Genv}
theorem Sound.up (hv:∀n cs,g n=some cs→g' n=some cs) (hm:g.mo=true) (hm':g'.mo=false) {f:FuncId} {args:List AV} {out:Out} (h:Sound P g f args ⟨0,.nil⟩ out ⟨0,.nil⟩):Sound P g' f args ⟨0,.nil⟩ out ⟨0,.nil⟩:=by
 refine⟨h.1,fun G w vs hw hvs=>?_⟩
 have hw1:WR g ⟨G.loc,G.imm,true⟩ ⟨0,.nil⟩ w:={
  cells:=fun id l cs opn h1 h2=>by
   obtain⟨a1,a2,a3,a4,a5⟩:=hw.cells id l cs opn h1 h2;exact⟨a1,a2,a3,a4,fun j hj=>let⟨u,hu,hv⟩:=a5 j hj;⟨u,hu,hv.mo true⟩⟩
  room:=hw.room
  disj:=hw.disj
  immd:=hw.immd
  mapr:=fun id l o h1 h2 h3=>by cases h2
  lt:=hw.lt
  imme:=hw.imme
  glob:=fun n cs hn=>(hw.glob n cs (hv n cs hn)).mo true
  mo:=hm.symm}
 refine(h.2 ⟨G.loc,G.imm,true⟩ w vs hw1 ⟨hvs.1,fun j hj=>(hvs.2 j hj).mo true⟩).mono fun e w' ⟨G',h1,h2,h3⟩=>?_;have hG:G.mo=false:=hw.mo.trans hm'
 refine⟨⟨G'.loc,G'.imm,false⟩,{
  cells:=fun id l cs opn q1 q2=>by
   obtain⟨a1,a2,a3,a4,a5⟩:=h1.cells id l cs opn q1 q2;exact⟨a1,a2,a3,a4,fun j hj=>let⟨u,hu,hv⟩:=a5 j hj;⟨u,hu,hv.mo false⟩⟩
  room:=h1.room
  disj:=h1.disj
  immd:=h1.immd
  mapr:=fun id l o q1 q2 q3=>by cases q2
  lt:=h1.lt
  imme:=h1.imme
  glob:=fun n cs hn=>(hw.glob n cs hn).mono h2.loc h2.imm
  mo:=hm'.symm},{
  loc:=h2.loc
  imm:=h2.imm
  size:=h2.size
  frame:=h2.frame
  blks:=h2.blks
  immn:=h2.immn
  next:=h2.next
  news:=h2.news
  dead:=h2.dead
  mo:=hG.symm
  same:=⟨h2.same.os,h2.same.output,h2.same.tape,fun hb=>by rw[hG] at hb;cases hb⟩},?_⟩
 cases out with
 |ret v=>cases e with
  |returned u=>exact h3.mo false
  |_=>exact h3.elim
 |pan v=>cases e with
  |panicked c=>
   obtain⟨u,a,b⟩:=h3;exact⟨u,a,b.mo false⟩
  |_=>exact h3.elim
theorem tH {f:FuncId} (hok:FnOK P f) {s t:List UInt8} {n:Int} (h:∀w,Calls P f #[.string ⟨s.toArray⟩,.string ⟨t.toArray⟩] w fun e w'=>e=.returned (.int .i64 n)∧w'=w) (H:Heap):Sound P g f [.str s,.str t] H (.ret (.int .i64 n)) H:=by
 refine⟨hok,fun G w vs hw hvs=>?_⟩;obtain⟨hl,hv⟩:=hvs
 match vs,hl with
 |[u0,u1],_=>
  have v0:=(hv 0 (by simp)).cS;have v1:=(hv 1 (by simp)).cS;simp only[List.getD_cons_zero,List.getD_cons_succ] at v0 v1;subst v0 v1;refine(h w).mono fun e w' he=>?_;obtain⟨rfl,rfl⟩:=he;exact⟨G,hw,Ext.refl G H _,.int _ _⟩
theorem Ext.growB {G:Gh} {H:Heap} {w w':World} (himm:∀b o,G.imm b o→∃v,w.cell? ⟨b,o,none⟩=some v)
 (hb:∀b,b<w.heap.size→w'.heap[b]?=w.heap[b]?) (hsz:w.heap.size≤w'.heap.size) (hs:SameB G.mo w w'):Ext G H w G H w' where
 loc:=fun _ _ h=>h
 imm:=fun b o hi=>⟨hi,by obtain⟨v,hv⟩:=himm b o hi;exact cC (hb b (fX hv))⟩
 size:=hsz
 frame:=fun b hlt _=>hb b hlt
 blks:=fun id l h hl=>.inr ⟨id,l,h,hl,rfl⟩
 immn:=fun _ _ h=>.inl h
 next:=Nat.le_refl _
 news:=fun _ _ h h'=>by rw[h] at h';cases h'
 dead:=fun _ _ _ h=>h
 mo:=rfl
 same:=hs
def strsE (xs:List (List UInt8)):List (List AV):=xs.map fun x=>[.str x]
theorem aGr (xs:List (List UInt8)):(strsE xs).flatten=xs.map AV.str:=by
 induction xs with
 |nil=>rfl
 |cons x r ih=>simp only[strsE,List.map_cons,List.flatten_cons] at ih ⊢;rw[ih];rfl
theorem aEh {f:FuncId} (hok:FnOK P f) (hm:g.mo=false) {xs:List (List UInt8)} {sep:List UInt8} (hne:xs≠[]) (hN:xs.length≤140737488355328) (hlen:(Lib.join xs sep).length≤140737488355328)
 (h:∀(bk o c:Nat) (ys:List ByteArray) (w:World),(∀(j:Nat) x,ys[j]?=some x→w.cell? ⟨bk,o+j,none⟩=some (.string x))→bk<w.heap.size→ys.length≤140737488355328→ys.length≤c→
   (Lib.join (ys.map (·.data.toList)) sep).length≤140737488355328→
   Calls P f #[.slice (some ⟨bk,o,none⟩) ys.length c,.string ⟨sep.toArray⟩] w fun e w'=>e=.returned (.string ⟨(Lib.join (ys.map (·.data.toList)) sep).toArray⟩)∧Go.RowKit.Below w.heap.size w w') (tag:Nat) (H:Heap):
 Sound P g f [.aS tag 1 (strsE xs),.str sep] H (.ret (.str (Lib.join xs sep))) H:=by
 refine⟨hok,fun G w vs hw hvs=>?_⟩;obtain⟨hl,hv⟩:=hvs
 match vs,hl with
 |[u0,u1],_=>
  have v0:=hv 0 (by simp);have v1:=(hv 1 (by simp)).cS;simp only[List.getD_cons_zero,List.getD_cons_succ] at v0 v1;subst v1;have hpos:0<xs.length:=List.length_pos_iff.2 hne;generalize he:strsE xs=els at v0
  have hel:els.length=xs.length:=by rw[←he];exact List.length_map _
  cases v0 with
  |lstE=>simp at hel;omega
  |aS _ _ _ b o cap us hu hc hvv ht=>
   have hfl:els.flatten=xs.map AV.str:=by rw[←he];exact aGr xs
   have hys:(xs.map fun x=>(⟨x.toArray⟩:ByteArray)).map (·.data.toList)=xs:=by
    rw[List.map_map]
    have :((fun x:ByteArray=>x.data.toList)∘fun x:List UInt8=>(⟨x.toArray⟩:ByteArray))=id:=by funext x;simp
    rw[this,List.map_id]
   have hcell:∀(j:Nat) x,(xs.map fun x=>(⟨x.toArray⟩:ByteArray))[j]?=some x→w.cell? ⟨b,o+j,none⟩=some (.string x):=fun j x hj=>by
    rw[List.getElem?_map] at hj;obtain⟨y,hy,rfl⟩:=Option.map_eq_some_iff.1 hj;have hj':j<xs.length:=(List.getElem?_eq_some_iff.1 hy).1
    have hj2:j<els.flatten.length:=by rw[hfl];simpa using hj'
    have h2:=hvv j hj2
    have e2:els.flatten.getD j undefA=.str y:=by rw[hfl,List.getD,List.getElem?_map,hy];rfl
    rw[e2] at h2;rw[(hc j hj2).2.1,h2.cS]
   have hbk:b<w.heap.size:=by
    obtain⟨y,hy⟩:∃y,xs[0]?=some y:=⟨xs[0],List.getElem?_eq_getElem hpos⟩
    exact fX (hcell 0 ⟨y.toArray⟩ (by rw[List.getElem?_map,hy];rfl))
   have hcap:=ht.1;have :=h b o cap _ w hcell hbk (by rw[List.length_map];exact hN) (by rw[List.length_map];omega) (by rw[hys];exact hlen);rw[hys,List.length_map,←hel] at this;refine this.mono fun e w' hh=>?_;obtain⟨rfl,hB⟩:=hh;have hG:G.mo=false:=hw.mo.trans hm;exact⟨G,hw.grow hB.block,Ext.growB hw.imme hB.block hB.size ⟨hB.os,hB.output,hB.tape,fun hb=>by rw[hG] at hb;cases hb⟩,VR.aAs _ _ _⟩
end
end
section
theorem tagA_nw (nw tag:Nat):tagA none nw tag=tagA none 0 tag:=by
 match tag with
 |0=>rfl
 |1=>rfl
 |k+2=>rfl
theorem aDo (H:Heap) (nw:Nat) (v:AV):shut1 H none nw v=shut1 H none 0 v:=by
 cases v<;>simp only[shut1,tagA_nw nw]
theorem oC {f f':AV→Option AV} (h:∀x,f x=f' x):∀l,mapO f l=mapO f' l
 |[]=>rfl
 |x::r=>by simp only[mapO,h x,oC h r]
theorem vQ (H:Heap) (nw:Nat):∀(n:Nat) (v:AV),shutF H none nw n v=shutF H none 0 n v
 |0,v=>by cases v<;>exact aDo H nw _
 |n+1,v=>by
  cases v with
  |agg cs=>simp only[shutF,oC (vQ H nw n) cs]
  |tup cs=>simp only[shutF,oC (vQ H nw n) cs]
  |_=>exact aDo H nw _
abbrev Fact:=FuncId×List AV×AV
def kn (f:FuncId) (args:List AV):List Fact→Option AV
 |[]=>none
 |e::r=>match Nat.beq f e.1 with
  |true=>match sameL (fgtL args) e.2.1 with
   |true=>some e.2.2
   |false=>kn f args r
  |false=>kn f args r
def KOK (P:Program) (g:Genv) (K:List Fact):Prop:=∀e∈K,∀H,Sound P g e.1 e.2.1 H (.ret e.2.2) H
def orcK (K:List Fact) (o:OrcF):OrcF:=fun f args H=>match kn f args K with
 |some v=>some (.ret v,H)
 |none=>o f args H
def ran (g:Genv) (T:FT) (orc:OrcF) (nop:FuncId→Nat→Bool) (n:Nat) (e:Fact):Bool:=
 match freeL e.2.1 with
 |true=>match exF orc T.get g 100000 nop 40 (.func (.func e.1) [] []) e.2.1 ⟨0,.nil⟩ with
  |some (.ret u,H2)=>match shutF H2 none 0 n u with
   |some v=>v.same e.2.2
   |none=>false
  |_=>false
 |false=>false
section
variable {P:Program} {g:Genv}
theorem kn_ok {f:FuncId} {args:List AV} {v:AV}:∀{K:List Fact},KOK P g K→kn f args K=some v→∀H,Sound P g f args H (.ret v) H
 |[],_,h,_=>by cases h
 |e::r,hK,h,H=>by
  have hr:KOK P g r:=fun x hx=>hK x (List.mem_cons_of_mem _ hx);simp only[kn] at h;split at h
  · rename_i hf
    split at h
    · rename_i hs
      cases h;obtain rfl:=Nat.eq_of_beq_eq_true hf;exact Sound.fgt (by rw[eJ _ _ hs];exact hK e List.mem_cons_self H)
    · exact kn_ok hr h H
  · exact kn_ok hr h H
theorem orcK_ok {K:List Fact} (hK:KOK P g K) {o:OrcF} (ho:OrcOK P g o):OrcOK P g (orcK K o):=by
 intro f args H out H' h;unfold orcK at h;split at h
 · rename_i v hv
   cases h;exact kn_ok hK hv H
 · exact ho _ _ _ _ _ h
theorem ran_ok (hm:Fit P g) (hg:GFree g) {T:FT} (hT:T.All fun f F=>∃mu,FnIs P g mu f F) {orc:OrcF} (ho:OrcOK P g orc) {nop:FuncId→Nat→Bool} (hn:NopOK P g nop) {n:Nat} {e:Fact} (h:ran g T orc nop n e=true) (H:Heap):Sound P g e.1 e.2.1 H (.ret e.2.2) H:=by
 unfold ran at h;split at h
 · rename_i ha
   split at h
   · rename_i u H2 he
     split at h
     · rename_i v hv
       obtain rfl:=AV.aAp _ _ h
       rcases rC hm ho hn (fun f F hF=>hT.get hF) 40 _ _ _ _ _ he with ⟨p,hp,hS⟩|⟨id,hc,_⟩
       · cases hp
         simp only[List.nil_append,List.append_nil] at hS;exact hS.frame hg ha (tk:=none) (fun k hk=>by cases hk) (n:=n) H (by rw[vQ];exact hv)
       · cases hc
     · cases h
   · cases h
 · cases h
def noNop:FuncId→Nat→Bool:=fun _ _=>false
theorem bK:NopOK P g noNop:=fun _ _ h=>by cases h
theorem KOK.nil:KOK P g []:=fun e he=>by cases he
theorem KOK.cons {K:List Fact} (hK:KOK P g K) {f:FuncId} {args:List AV} {v:AV} (h:∀H,Sound P g f args H (.ret v) H):KOK P g ((f,args,v)::K):=fun e he=>by
 rcases List.mem_cons.1 he with rfl|he
 · exact h
 · exact hK e he
theorem KOK.ran {K:List Fact} (hK:KOK P g K) (hm:Fit P g) (hg:GFree g) {T:FT} (hT:T.All fun f F=>∃mu,FnIs P g mu f F) {o:OrcF} (ho:OrcOK P g o) {nop:FuncId→Nat→Bool} (hn:NopOK P g nop) (n:Nat) {e:Fact} (h:Av.ran g T (orcK K o) nop n e=true):KOK P g (e::K):=fun x hx=>by
 rcases List.mem_cons.1 hx with rfl|hx
 · exact ran_ok hm hg hT (orcK_ok hK ho) hn h
 · exact hK x hx
end
end
end Go.Av
namespace Go.Av
open Go Go.RowKit
section
def flatFs (P:Program) (fl:TypeId→Option (List TypeId)):List Field→List TypeId→Option (List TypeId)
 |[],acc=>some acc
 |f::r,acc=>match fl f.type with
  |some ts=>if f.offset=acc.length∧P.cellsOf f.type=ts.length then flatFs P fl r (acc++ts) else none
  |none=>none
def flatT (P:Program):Nat→TypeId→Option (List TypeId)
 |0,_=>none
 |d+1,t=>match P.underlying t with
  |some (.struct fs)=>match flatFs P (flatT P d) fs.toList [] with
   |some ts=>if P.cellsOf t=ts.length then some ts else none
   |none=>none
  |some (.array n e)=>match flatT P d e with
   |some ts=>if P.cellsOf e=ts.length∧P.cellsOf t=n*ts.length∧0<ts.length then some (List.replicate n ts).flatten else none
   |none=>none
  |some (.int _)=>some [t]
  |some (.slice _)=>some [t]
  |some .string=>some [t]
  |_=>none
section
variable {H:Type} {enc:TypeId×Value→H} {P:Program} {w:World} {base:Nat} {spare:Nat→Bool} {held:Bool}
def ReadAs (enc:TypeId×Value→H) (P:Program) (w:World) (base:Nat) (spare:Nat→Bool) (held:Bool) (ts:List TypeId) (cs:List Value):Prop:=
 ∀(i:Nat) (u:TypeId),ts[i]?=some u→∃(v:Value) (m:Nat) (y:DataW H×List MemPlace),cs[i]?=some v∧DataW.trod enc P w base spare held m u [v]=some y
theorem nG {ts us:List TypeId} {cs:List Value} (h1:ReadAs enc P w base spare held ts cs) (h2:ReadAs enc P w base spare held us (cs.drop ts.length)):ReadAs enc P w base spare held (ts++us) cs:=by
 intro i u h;by_cases hi:i<ts.length
 · rw[List.getElem?_append_left hi] at h
   exact h1 i u h
 · rw[List.getElem?_append_right (by omega)] at h
   obtain⟨v,m,y,hv,hy⟩:=h2 _ u h;refine⟨v,m,y,?_,hy⟩;rw[List.getElem?_drop] at hv;rw[←hv];congr 1;omega
theorem sD {ts:List TypeId} {cs:List Value} (n:Nat) (h:ReadAs enc P w base spare held ts (cs.take n)):ReadAs enc P w base spare held ts cs:=by
 intro i u hu;obtain⟨v,m,y,hv,hy⟩:=h i u hu;refine⟨v,m,y,?_,hy⟩;rw[List.getElem?_take] at hv;split at hv
 · exact hv
 · cases hv
theorem nH {fl:TypeId→Option (List TypeId)} {n:Nat} {cs:List Value}
 (hfl:∀(u:TypeId) (ts:List TypeId) (cs:List Value) (x:DataW H×List MemPlace),fl u=some ts→DataW.trod enc P w base spare held n u cs=some x→ReadAs enc P w base spare held ts cs):
 ∀(fs:List Field) (acc ts:List TypeId),flatFs P fl fs acc=some ts→ReadAs enc P w base spare held acc cs→
  (∀f∈fs,∃x,DataW.trod enc P w base spare held n f.type ((cs.drop f.offset).take (P.cellsOf f.type))=some x)→ReadAs enc P w base spare held ts cs
 |[],acc,ts,h,ha,hf=>by
  obtain rfl:=Option.some.inj h;exact ha
 |f::r,acc,ts,h,ha,hf=>by
  unfold flatFs at h;split at h
  · rename_i us hus
    split at h
    · rename_i hc
      obtain⟨x,hx⟩:=hf f (List.mem_cons_self ..);refine nH hfl r _ ts h (nG ha ?_) (fun g hg=>hf g (List.mem_cons_of_mem _ hg));rw[←hc.1];exact sD _ (hfl _ _ _ _ hus hx)
    · cases h
  · cases h
theorem vF {e:TypeId} {n:Nat} {ts:List TypeId}:∀(k:Nat) (cs:List Value),(∀i,i<k→ReadAs enc P w base spare held ts ((cs.drop (i*ts.length)).take ts.length))→ReadAs enc P w base spare held (List.replicate k ts).flatten cs
 |0,cs,h=>by intro i u hu;simp at hu
 |k+1,cs,h=>by
  rw[List.replicate_succ,List.flatten_cons];refine nG ?_ ?_
  · have :=h 0 (by omega)
    rw[Nat.zero_mul,List.drop_zero] at this;exact sD _ this
  · refine vF (e:=e) (n:=n) k _ fun i hi=>?_
    have :=h (i+1) (by omega);rw[List.drop_drop];rw[show ts.length+i*ts.length=(i+1)*ts.length by rw[Nat.add_mul,Nat.one_mul,Nat.add_comm]];exact this
theorem jO:∀(d:Nat) {t:TypeId} {ts:List TypeId} {fuel:Nat} {cs:List Value} {x:DataW H×List MemPlace},flatT P d t=some ts→DataW.trod enc P w base spare held fuel t cs=some x→ReadAs enc P w base spare held ts cs
 |0,t,ts,fuel,cs,x,h,hx=>by cases h
 |d+1,t,ts,fuel,cs,x,h,hx=>by
  unfold flatT at h;split at h
  · rename_i fs ht
    split at h
    · rename_i us hus
      split at h
      · obtain rfl:=Option.some.inj h
        obtain⟨xs,n,_,_,hl,hxl,hf⟩:=DataW.trod_struct ht hx;refine nH (n:=n) (fun u ts cs x h1 h2=>jO d h1 h2) fs.toList [] us hus (fun i u hu=>by simp at hu) fun f hfm=>?_;obtain⟨i,hi,hif⟩:=List.getElem_of_mem hfm;have :=hf i f (by rw[←hif];simp);rw[this]
        have hi':i<xs.length:=by rw[hxl];simpa using hi
        exact⟨_,List.getElem?_eq_getElem hi'⟩
      · cases h
    · cases h
  · rename_i n e ht
    split at h
    · rename_i us hus
      split at h
      · rename_i hc
        obtain rfl:=Option.some.inj h;obtain⟨xs,m,_,_,hl,hxl,hf⟩:=DataW.trod_array ht hx;refine vF (e:=e) (n:=m) n cs fun i hi=>?_;have :=hf i hi;rw[hc.1,List.getElem?_eq_getElem (by omega)] at this;exact jO d hus this
      · cases h
    · cases h
  · rename_i k ht
    obtain rfl:=Option.some.inj h;obtain⟨n,rfl,_⟩:=DataW.trod_int ht hx;intro i u hu
    match i,hu with
    |0,hu=>exact⟨_,fuel,x,rfl,by simpa [←Option.some.inj hu] using hx⟩
  · rename_i e ht
    obtain rfl:=Option.some.inj h
    have hc:∃c,cs=[c]:=by
     rcases DataW.trod_slice ht hx with ⟨h,_⟩|⟨a,len,cap,_,_,_,_,h,_⟩
     · exact⟨_,h⟩
     · exact⟨_,h⟩
    obtain⟨c,rfl⟩:=hc;intro i u hu
    match i,hu with
    |0,hu=>exact⟨_,fuel,x,rfl,by simpa [←Option.some.inj hu] using hx⟩
  · rename_i ht
    obtain rfl:=Option.some.inj h;obtain⟨z,rfl,_⟩:=DataW.trod_string ht hx;intro i u hu
    match i,hu with
    |0,hu=>exact⟨_,fuel,x,rfl,by simpa [←Option.some.inj hu] using hx⟩
  · cases h
theorem aGh {ts:List TypeId} {cs:List Value} (h:ReadAs enc P w base spare held ts cs) {i:Nat} {u:TypeId} (hu:ts[i]?=some u) (hk:P.underlying u=some .string):
 ∃z:ByteArray,cs[i]?=some (.string z)∧z.size≤maxLen:=by
 obtain⟨v,m,y,hv,hy⟩:=h i u hu;obtain⟨z,hz,_,hs⟩:=DataW.trod_string hk hy;refine⟨z,?_,hs⟩;rw[hv];simpa using hz
theorem iE {ts:List TypeId} {cs:List Value} (h:ReadAs enc P w base spare held ts cs) {i:Nat} {u:TypeId} {k:IntKind} (hu:ts[i]?=some u) (hk:P.underlying u=some (.int k)):
 ∃n,cs[i]?=some (.int k n)∧(Lit.int k n).wf=true:=by
 obtain⟨v,m,y,hv,hy⟩:=h i u hu;obtain⟨n,hn,_,hw⟩:=DataW.trod_int hk hy;refine⟨n,?_,hw⟩;rw[hv];simpa using hn
end
end
end Go.Av
namespace Go.Av
open Go Go.RowKit Go.ChangeShapes Go.WideShapes Go.ChangeAt Go.Deep
section
def fullG (mo:Bool) (W:World):Gh:=⟨fun _=>none,fun b o=>∃v,W.cell? ⟨b,o,none⟩=some v,mo⟩
theorem fullWR {g:Genv} {W:World} (hg:∀n cs,g n=some cs→VR (fullG g.mo W) W (.pl cs) (.pointer (some ⟨n,0,none⟩))):WR g (fullG g.mo W) ⟨0,.nil⟩ W where
 cells:=fun id l cs opn h=>by cases h
 room:=fun id l h=>by cases h
 disj:=fun id id' l l' _ h=>by cases h
 immd:=fun id l h=>by cases h
 mapr:=fun id l es h=>by cases h
 lt:=fun id l h=>by cases h
 imme:=fun b o h=>h
 glob:=hg
 mo:=rfl
theorem pJ {mo:Bool} {W W':World} {G':Gh} {H':Heap} (h:Ext (fullG mo W) ⟨0,.nil⟩ W G' H' W') {b:Nat} (hb:b<W.heap.size):W'.heap[b]?=W.heap[b]?:=
 h.frame b hb fun id l hl=>by cases hl
theorem vr_row {mo:Bool} {W:World} {k:IntKind} {sz len cap b o:Nat} {f:Nat→Int} {els:List (List AV)} (hu:∀e∈els,e.length=sz) (hl:els.length=len)
 (hf:els.flatten=(List.range (len*sz)).map fun j=>AV.int k (f j)) (hc:∀j,j<len*sz→W.cell? ⟨b,o+j,none⟩=some (.int k (f j))) (hcap:len≤cap):
 VR (fullG mo W) W (.aS 0 sz els) (.slice (some ⟨b,o,none⟩) len cap):=by
 subst hl
 have hfl:els.flatten.length=els.length*sz:=by rw[hf];simp
 have hg:∀j,j<els.length*sz→els.flatten.getD j undefA=.int k (f j):=fun j hj=>by
  rw[hf,List.getD,List.getElem?_map,List.getElem?_range hj];rfl
 refine .aS 0 sz els b o cap (fun j=>.int k (f j)) hu (fun j hj=>?_) (fun j hj=>?_) ⟨hcap,trivial⟩
 · rw[hfl] at hj
   refine⟨⟨_,hc j hj⟩,hc j hj,?_⟩;rw[hg j hj];rfl
 · rw[hfl] at hj
   rw[hg j hj];exact .int _ _
theorem spot_none {w:World} {a:Addr} {v:Value} (h:w.cell? a=some v):a.spot=none:=World.cell?_spot h
theorem aBi (b o j:Nat):(Addr.mk b o none).add j=⟨b,o+j,none⟩:=by
 unfold Addr.add;split
 · rename_i h;rw[h];rfl
 · rfl
section
variable {H:Type} {enc:TypeId×Value→H} {P:Program} {w:World} {base:Nat} {held:Bool}
theorem aAf {t e:TypeId} {k:IntKind} {d:Nat} {ts:List TypeId} {fuel:Nat} {v:Value} {x:DataW H×List MemPlace} (ht:P.underlying t=some (.slice e)) (hf:flatT P d e=some ts)
 (hk:∀u∈ts,P.underlying u=some (.int k)) (hsz:P.cellsOf e=ts.length) (h0:0<ts.length) (mo:Bool) (h:DataW.trod enc P w base (fun _=>true) held fuel t [v]=some x):
 v=.slice none 0 0∨∃(len:Nat) (f:Nat→Int),len≤maxLen∧(∀j,j<len*ts.length→(Lit.int k (f j)).wf=true)∧
  ∀els:List (List AV),els.length=len→(∀e∈els,e.length=ts.length)→els.flatten=(List.range (len*ts.length)).map (fun j=>AV.int k (f j))→VR (fullG mo w) w (.aS 0 ts.length els) v:=by
 rcases open_slice ht h with ⟨h0,_⟩|⟨a,len,cap,m,n,D,Pl,hv,hb,hl,hm,hmm,rfl,hx⟩
 · exact .inl (by simpa using h0)
 right
 have hv':v=.slice (some a) len cap:=by simpa using hv
 subst hv'
 have hmc:m=cap:=by simpa using hmm
 subst hmc
 have key:∀j,j<m*ts.length→∃r,w.cell? (a.add j)=some (.int k r)∧(Lit.int k r).wf=true:=fun j hj=>by
  have hi:j / ts.length<m:=Nat.div_lt_of_lt_mul (by rwa [Nat.mul_comm]);have hr:j%ts.length<ts.length:=Nat.mod_lt _ h0;obtain⟨cs',h1,h2⟩:=hx (j / ts.length) (by omega);rw[hsz] at h1;obtain⟨_,hlen,hcell⟩:=World.cells?_some h1;have hra:=jO d hf h2;obtain⟨r,hr1,hr2⟩:=iE hra (i:=j%ts.length) (u:=ts[j%ts.length]) (List.getElem?_eq_getElem hr) (hk _ (List.getElem_mem hr));refine⟨r,?_,hr2⟩;rw[←hr1,←hcell _ hr,add_add,Nat.mul_comm,Nat.div_add_mod]
 have hlm:len*ts.length≤m*ts.length:=Nat.mul_le_mul_right _ hl;obtain⟨f,hfn⟩:=choose_lt (α:=Int) (n:=len*ts.length) (p:=fun j r=>w.cell? (a.add j)=some (.int k r)∧(Lit.int k r).wf=true) (fun j hj=>key j (by omega));refine⟨len,f,by omega,fun j hj=>(hfn j hj).2,fun els e1 e2 e3=>?_⟩;obtain⟨b,o,s⟩:=a
 cases s with
 |none=>exact vr_row e2 e1 e3 (fun j hj=>by have :=(hfn j hj).1;rwa [aBi] at this) hl
 |some s=>
  have hm0:m=0:=by
   rcases Nat.eq_zero_or_pos m with h|h
   · exact h
   · obtain⟨r,hr,_⟩:=key 0 (Nat.mul_pos h h0)
     have :=spot_none hr;simp[Addr.add] at this
  subst hm0
  obtain rfl:len=0:=by omega
  obtain rfl:els=[]:=List.eq_nil_of_length_eq_zero e1;exact .lstE 0 ts.length b o s (by decide)
end
theorem vE {α:Type} (f:Nat→α) (sz:Nat):∀len:Nat,((List.range len).map fun i=>(List.range sz).map fun r=>f (i*sz+r)).flatten=(List.range (len*sz)).map f
 |0=>by simp
 |len+1=>by
  rw[List.range_succ,List.map_append,List.flatten_append,vE f sz len,Nat.add_mul,Nat.one_mul,List.range_add,List.map_append,List.map_map];simp
theorem aFh {mo:Bool} {W W':World} {G':Gh} {H':Heap} (h:Ext (fullG mo W) ⟨0,.nil⟩ W G' H' W') (a:Addr) (ha:a.block<W.heap.size):W'.frozen? a=W.frozen? a:=by
 simp only[World.frozen?,pJ h ha]
theorem kept_old {mo:Bool} {W W':World} {G':Gh} {H':Heap} (h:Ext (fullG mo W) ⟨0,.nil⟩ W G' H' W') (may:MemPlace→Prop):W.keptBut W' may:=by
 refine⟨h.same.1,h.same.2,fun i hi=>?_⟩;rw[pJ h hi]
 cases W.heap[i]? with
 |none=>rfl
 |some o=>
  cases o with
  |cells c t fr=>exact⟨rfl,rfl,rfl,fun _ _=>rfl⟩
  |map es clock=>exact .inr ⟨rfl,rfl⟩
  |_=>rfl
section
variable {H:Type} {enc:TypeId×Value→H} {P:Program}
theorem aCw {mo:Bool} {f:Func} {s:ChangeSpec} {apart fresh handsOn again:Bool} {W W':World} {args:Array Value} {v:Value} {ds gs:List (DataW H)} {before pa pv:List MemPlace} {G':Gh} {H':Heap}
 (hE:Ext (fullG mo W) ⟨0,.nil⟩ W G' H' W')
 (hW:DataW.Whole enc P f.params.toList s.vars apart W args.toList ds gs before)
 (hres:∀(b:Nat) (sp:Nat→Bool) (hd:Bool),DataW.TrodAll enc P W' b sp hd f.resultTypes.toList (v.resultList f.resultTypes.size) (s.fn H (ds++gs)).results [])
 (hargs:∀sp:Nat→Bool,(∀p∈before,sp p.block=true)→DataW.TrodAll enc P W' 0 sp true f.params.toList args.toList (s.fn H (ds++gs)).args pa)
 (hvars:∀sp:Nat→Bool,(∀p∈before,sp p.block=true)→DataW.TrodVars enc P W' sp s.vars (s.fn H (ds++gs)).vars pv)
 (hps:before=pa++pv)
 (hok:∀(j:Nat) (t:TypeId) (r:Value),f.resultTypes[j]?=some t→(v.resultList f.resultTypes.size)[j]?=some r→Value.okWide P W' .any 0 t r):
 s.post enc P f apart fresh handsOn again W args v W':=by
 have hold:∀p∈before,(fun b=>decide (b<W.heap.size)) p.block=true:=fun p hp=>by simpa using hW.lt p hp
 refine⟨ds,gs,before,[],pa,pv,hW,hres _ _ _,hargs _ hold,hvars _ hold,kept_old hE _,fun _=>?_⟩;obtain⟨_,_,_,_,_,hz,hn⟩:=id hW;refine⟨hok,_,_,([]++pa)++pv,⟨[]++pa,pv,trodAll_append (hargs _ (fun _ _=>rfl)) (hres _ _ _),hvars _ (fun _ _=>rfl),rfl,?_,?_⟩,?_⟩
 · intro b off hp
   have hp':MemPlace.cell b off∈before:=by rw[hps];simpa using hp
   rw[aFh hE _ (hW.lt _ hp')];exact hz b off hp'
 · intro ha
   have :=hn ha;rw[hps] at this;simpa using this
 · intro p hp _
   rw[hps];simpa using hp
end
end
end Go.Av
namespace Go.Av
section
def zP:=And.intro symA (And.intro aC symC)
def zG:=And.intro symA <| And.intro sy <| And.intro condK_not <| And.intro @AV.cells.eq_1 <| And.intro @AV.cells.eq_2 <| And.intro @AV.isTup.eq_1 <| And.intro @AV.isTup.eq_2 <| And.intro @fop.eq_1 <| And.intro @fop.eq_2 <| And.intro @fop.eq_3 <| And.intro @fop.eq_4 <| And.intro @fop.eq_5 <| And.intro @fop.eq_6 <| And.intro @unA.eq_1 <| And.intro @unA.eq_2 <| And.intro @unA.eq_3 <| And.intro @unA.eq_4 <| And.intro @unA.eq_5 <| And.intro @unA.eq_6 @startF.eq_1
def zI:=And.intro @Heap.cellsAt.eq_1 <| And.intro sh <| And.intro sn <| And.intro sl <| And.intro @splice.eq_1 <| And.intro @fillA.eq_1 <| And.intro @fillA.eq_2 <| And.intro @litA.eq_1 <| And.intro @litA.eq_2 <| And.intro Bool.not_true <| And.intro Bool.not_false <| And.intro @false_implies <| And.intro @implies_true.{0} <| And.intro @implies_true.{1} <| And.intro zs_lit <| And.intro iz <| And.intro cOl <| And.intro @AV.cells.eq_1 <| And.intro @AV.cells.eq_2 <| And.intro @AV.isTup.eq_1 <| And.intro @AV.isTup.eq_2 <| And.intro @fop.eq_1 <| And.intro @fop.eq_2 <| And.intro @fop.eq_3 <| And.intro @fop.eq_4 <| And.intro @fop.eq_5 @fop.eq_6
def zD:=And.intro @ROp.fresh.eq_1 <| And.intro @ROp.fresh.eq_2 <| And.intro @ROp.fresh.eq_3 <| And.intro @ROp.fresh.eq_4 <| And.intro @ROp.fresh.eq_5 <| And.intro @ROp.fresh.eq_6 <| And.intro symF <| And.intro symFp <| And.intro @aHd <| And.intro @ROp.readsId.eq_1 <| And.intro @ROp.readsId.eq_2 <| And.intro @ROp.readsId.eq_3 <| And.intro @ROp.readsId.eq_4 <| And.intro @ROp.readsId.eq_5 <| And.intro @idOf.eq_1 <| And.intro @idOf.eq_2 <| And.intro @idOf.eq_3 <| And.intro @idOf.eq_4 <|
 And.intro @false_implies <| And.intro @implies_true.{0} <| And.intro @implies_true.{1} <| And.intro @forall_const.{0} <| And.intro @forall_const.{1} <| And.intro @true_and <| And.intro @and_true <| And.intro @List.not_mem_nil.{0} <| And.intro @List.mem_cons.{0} <| And.intro @or_false <| And.intro @false_or <| And.intro @Prod.mk.injEq.{0,0} <| And.intro @forall_eq.{1} <| And.intro @forall_eq_or_imp.{1} <| And.intro @forall_eq'.{1} @Option.some.injEq.{0}
def zR:=And.intro @resFs.eq_1 <| And.intro @resFs.eq_2 <| And.intro @resF.eq_1 <| And.intro @resF.eq_2 <| And.intro zG zI
section
variable {P:Program} {g:Genv} {n:Nat} {f:Slt} {H:Heap} {d:Nat} {fid:FuncId} {azs:List Arg} {args:List AV} {v:AV} {H':Heap}
theorem bE {r:List ROper} {ds:List Dfr} {Q:FQ} (hS:Sound P g fid args H (.ret v) H') (h:FOps P g n r (upd f d v) ds H' Q) (hd:d<n:=by decide) (ha:azs.map (evF g f)=args:=by simp only[sm,aC,Nat.reduceEqDiff,startF]):
 FOps P g n (⟨some d,.call (.const (.func (.func fid) [] [])) azs,none⟩::r) f ds H Q:=FOps_call hd ha hS h
theorem cD {pairs:List (Nat×Nat)} {base i k:Nat} {rs:List ROper} {rd:List (Nat×Nat)} {ef:List (Nat×Heap×Heap)} {R:Slt→Heap→Prop} (hS:Sound P g fid args H (.ret v) H')
 (h:FD2 P g n pairs base (i+1) k rs rd ((i,H,H')::ef) (upd f d v) H' R) (hd:d<n:=by decide) (ha:azs.map (evF g f)=args:=by simp only[sm,aC,ne_eq,Nat.reduceEqDiff,not_false_eq_true]) (hn:H.next≤H'.next:=by exact Nat.le_refl _)
 (hr:∀x∈rd,(x.1,i)∈pairs→H.get x.2=H'.get x.2:=by exact fun _ _ _=>rfl):FD2 P g n pairs base i k (⟨some d,.call (.const (.func (.func fid) [] [])) azs,none⟩::rs) rd ef f H R:=oT hd ha hS hn hr h
end
end
end Go.Av
namespace Go.Proofs.YtjiignefffdelaaGreatDoor
open Go Go.Av
def gval:Nat→Option (List AV):=fun _=>none
def gv:Genv:=mkG Tryz.prog gval
theorem fit:Fit Tryz.prog gv:=mkG_fit (by kernel_rfl)
theorem bV:GFree gv:=fun n cs h=>by cases h
abbrev CW (f:Go.Func):={x:AFn // mkF Tryz.prog gv false f=some x}
theorem bM {k:FuncId} {f:Go.Func} (h:Tryz.prog.funcs[k]?=some f) (W:CW f) (h2:(f.name== "runtime.NumGoroutine")=false:=by kernel_rfl):FnIs Tryz.prog gv false k W.1:=bP h h2 W.2
abbrev Fi (k:FuncId) {f:Go.Func} (W:CW f):=FnIs Tryz.prog gv false k W.1
theorem Sp {mu:Bool} {k:FuncId} {F:AFn} (hF:FnIs Tryz.prog gv mu k F) {args:List AV} {v:AV} (ha:freeL args=true) (hv:v.free=true)
 (h:FC Tryz.prog gv F.ntmps F.body (startF args) [] ⟨0,.nil⟩ (retF F.results fun o _=>o=.ret v)) (H:Heap) (hl:args.length≤F.ntmps:=by exact Nat.le_of_ble_eq_true rfl):Sound Tryz.prog gv k args H (.ret v) H:=
 tG fit bV hF hl ha hv h H
theorem eH {f:FuncId} {mu:Bool} {F:AFn} (hF:FnIs Tryz.prog gv mu f F) {args:List AV} (ha:args.length≤F.ntmps) {H H':Heap} {out:Out}
 (h:FC Tryz.prog gv F.ntmps F.body (startF args) [] H (retF F.results fun o h=>o=out∧h=H')) (hdt:F.body.det=true:=by first|rfl|decide):Sound Tryz.prog gv f args H out H':=by
 obtain⟨_,_,⟨rfl,rfl⟩,hS⟩:=cU fit hF ha h hdt;exact hS
end Go.Proofs.YtjiignefffdelaaGreatDoor
