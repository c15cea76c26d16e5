/-
  Parts of the proof of statement 4: AvMapR, AvSort, AvYield, AvForK, AvBits, GeoJ
-/
import Derived.Test.YtjiignefffdelaaGreatDoorA19
import Derived.Test.YtjiignefffdelaaGreatDoorA17
import Derived.Test.YtjiignefffdelaaGreatDoorA18
import Derived.Test.YtjiignefffdelaaGreatDoorA21
import Derived.Shelf.SlSortCmp.NoneTotal
set_option linter.unusedVariables false
set_option linter.unusedSimpArgs false
set_option linter.unusedSectionVars false
namespace Go.Av
open Go
section
section
variable {P:Program} {g:Genv} {n:Nat} {r:List ROper} {f:Slt} {ds:List Dfr} {H:Heap} {Q:FQ}
theorem rQ {d m:Nat} {x:Arg} {es:List (AV×AV)} (hd:d<n) (hx:evF g f x=.map m) (hm:H.get m=some (.map es))
 (h:∀bs c mb,bs.length=es.length→bs.Nodup→FOps P g n r (upd f d (.ref H.next 0)) ds ((H.set m (.mapf es bs c mb)).alloc (.iter m mb c [])) Q):
 FOps P g n (⟨some d,.mrange x,none⟩::r) f ds H Q:=by
 have :∀v,putF n f (some d) v=upd f d v:=fun v=>by simp[putF,hd]
 unfold FOps;simp only[wantedF,if_true,this];exact⟨m,es,hx,hm,h⟩
theorem tF {d it m mb c:Nat} {x:Arg} {es:List (AV×AV)} {seen bs:List Nat} (hd:d<n) (hx:evF g f x=.ref it 0) (hi:H.get it=some (.iter m mb c seen)) (hm:H.get m=some (.mapf es bs c mb))
 (h0:(∀b∈bs,b∈seen)→FOps P g n r (upd f d (.tup [.bool false])) ds H Q)
 (h1:∀j,j<bs.length→bs.getD j 0∉seen→FOps P g n r (upd f d (.tup [.bool true,(es.getD j (undefA,undefA)).1,(es.getD j (undefA,undefA)).2])) ds (H.set it (.iter m mb c (seen++[bs.getD j 0]))) Q):
 FOps P g n (⟨some d,.mnext x,none⟩::r) f ds H Q:=by
 have :∀v,putF n f (some d) v=upd f d v:=fun v=>by simp[putF,hd]
 unfold FOps;simp only[wantedF,if_true,this];exact⟨it,m,mb,c,seen,es,bs,hx,hi,hm,h0,h1⟩
theorem aBf {d it m mb c j:Nat} {x:Arg} {es:List (AV×AV)} {seen bs:List Nat} (hd:d<n) (hx:evF g f x=.ref it 0) (hi:H.get it=some (.iter m mb c (seen++[bs.getD j 0]))) (hm:H.get m=some (.mapf es bs c mb)) (hj:j<bs.length)
 (h:FOps P g n r (upd f d (.tup [(es.getD j (undefA,undefA)).1,(es.getD j (undefA,undefA)).2])) ds H Q):
 FOps P g n (⟨some d,.mentry x,none⟩::r) f ds H Q:=by
 have :∀v,putF n f (some d) v=upd f d v:=fun v=>by simp[putF,hd]
 unfold FOps;simp only[wantedF,if_true,this];exact⟨it,m,mb,c,seen,es,bs,j,hx,hi,hm,hj,h⟩
end
def FreeUp (H:Heap):Prop:=∀j,H.next≤j→H.get j=none
theorem FreeUp.nil (n:Nat):FreeUp ⟨n,.nil⟩:=fun _ _=>rfl
theorem FreeUp.alloc {H:Heap} (h:FreeUp H) (o:AObj):FreeUp (H.alloc o):=fun j hj=>by
 simp only[Heap.aX] at hj;rw[Heap.aH,if_neg (by omega)];exact h j (by omega)
theorem FreeUp.set {H:Heap} (h:FreeUp H) {id:Nat} (hi:id<H.next) (o:AObj):FreeUp (H.set id o):=fun j hj=>by
 simp only[Heap.aS] at hj;rw[Heap.aB,if_neg (by omega)];exact h j hj
theorem FreeUp.at1 {H:Heap} (h:FreeUp H):freeAt H 1=true:=by
 simp only[freeAt,Nat.add_zero,h _ (Nat.le_refl _)];rfl
theorem FreeUp.at2 {H:Heap} (h:FreeUp H):freeAt H 2=true:=by
 simp only[freeAt,Nat.add_zero,h _ (Nat.le_refl _),h (H.next+1) (by omega)];rfl
def rowO (sz:Nat) (els:List (List AV)):AV:=if els=[] then .nilsl else .aT 0 sz els
theorem aLz {sz:Nat} {els:List (List AV)} (h:freeLL els=true):(rowO sz els).free=true:=by
 unfold rowO;split<;>simp[AV.free,h]
theorem tS {sz:Nat}:∀{els:List (List AV)},(∀e∈els,e.length=sz)→chunkF sz els.length els.flatten=els
 |[],_=>rfl
 |e::els,h=>by
  have he:=h e List.mem_cons_self;simp only[List.length_cons,chunkF,List.flatten_cons];rw[List.take_append_of_le_length (by omega),List.take_of_length_le (by omega),List.drop_append_of_le_length (by omega),List.drop_of_length_le (by omega),List.nil_append,tS fun x hx=>h x (List.mem_cons_of_mem _ hx)]
theorem eV {sz:Nat}:∀{els:List (List AV)},(∀e∈els,e.length=sz)→els.flatten.length=els.length*sz
 |[],_=>by simp
 |e::els,h=>by
  have he:=h e List.mem_cons_self;have :=eV fun x hx=>h x (List.mem_cons_of_mem e hx);simp only[List.flatten_cons,List.length_append,List.length_cons,Nat.add_mul,Nat.one_mul];omega
theorem aDq {H2:Heap} {id sz cap:Nat} {els:List (List AV)} {opn:Bool} (hg:H2.get id=some (.cells els.flatten opn)) (hu:∀e∈els,e.length=sz) (hf:freeLL els=true) (nw:Nat):
 shutF H2 none nw 0 (.sl id sz 0 els.length cap)=some (.aT 0 sz els):=by
 have hc:H2.cellsAt id=some els.flatten:=by simp[Heap.cellsAt,hg]
 have hl:Nat.ble (0+els.length*sz) els.flatten.length=true:=by rw[eV hu];simp
 simp only[shutF,shut1,hc,List.drop_zero,hl,eA hf,Bool.and_self,tS hu]
theorem lC {H:Heap} {sz bytes:Nat} {ys:List (List AV)} (hy:ys.isEmpty=false) (hb:ys.length*bytes≤2^40):appendA H sz bytes true .nilsl ys=some (.sl H.next sz 0 ys.length ys.length,H.alloc (.cells ys.flatten true)):=by
 simp[appendA,hy,hb,newRowA]
theorem lD {H:Heap} {id n sz bytes:Nat} {cs:List AV} {ys:List (List AV)} (hg:H.get id=some (.cells cs true)) (hc:cs.length=n*sz) (hy:ys.isEmpty=false) (hb:(n+ys.length)*bytes≤2^40) (hs:1≤sz):
 appendA H sz bytes true (.sl id sz 0 n n) ys=some (.sl H.next sz 0 (n+ys.length) (n+ys.length),(H.set id .dead).alloc (.cells (cs++ys.flatten) true)):=by
 have hl:0<ys.length:=by cases ys with
  |nil=>simp at hy
  |cons _ _=>simp
 simp only[appendA,hy,Bool.false_eq_true,if_false,hg,hb,hs,and_self,if_true];rw[if_neg (by omega),if_neg (by simp[hc]),if_pos ⟨trivial,trivial,trivial,hc⟩]
def Has (H:Heap) (sz:Nat) (v:AV) (els:List (List AV)):Prop:=v=.aT 1 sz els∨Own H sz v els
theorem Has.push {H:Heap} {sz bytes:Nat} {v:AV} {els ys:List (List AV)} (h:Has H sz v els) (hy:ys.isEmpty=false) (hb:(els.length+ys.length)*bytes≤2^40):
 ∃H',appendA H sz bytes false v ys=some (.aT (H.next+2) sz (els++ys),H')∧H'.next=H.next+1∧H'.get H.next=some .tok∧(∀id,id<H.next→H.get id≠some .tok→H'.get id=H.get id)∧(FreeUp H→FreeUp H'):=by
 have fresh:∀els':List (List AV),appendA H sz bytes false v ys=some (newRowA H false sz els')→∃H',appendA H sz bytes false v ys=some (.aT (H.next+2) sz els',H')∧H'.next=H.next+1∧H'.get H.next=some .tok∧(∀id,id<H.next→H.get id≠some .tok→H'.get id=H.get id)∧(FreeUp H→FreeUp H'):=fun els' e=>
  ⟨H.alloc .tok,e,by simp,by rw[Heap.aH,if_pos rfl],fun id h1 _=>by rw[Heap.aH,if_neg (by omega)],fun hf=>hf.alloc _⟩
 rcases h with rfl|⟨rfl,rfl⟩|⟨k,rfl,hkn,hk⟩
 · exact fresh _ (by simp[appendA,hy,hb])
 · simp only[List.length_nil,Nat.zero_add] at hb
   exact fresh _ (by simp[appendA,hy,hb])
 · refine⟨(H.set k .dead).alloc .tok,by simp[appendA,hy,hb,hk],by simp,by rw[Heap.aH,Heap.aS,if_pos rfl],fun id h1 h2=>?_,fun hf=>(hf.set hkn _).alloc _⟩
   rw[Heap.aH,Heap.aS,if_neg (by omega),Heap.aB,if_neg];rintro rfl;exact h2 hk
theorem Has.aOd {H H':Heap} {sz:Nat} {v:AV} {els:List (List AV)} (h:Has H sz v els) (hn:H.next≤H'.next) (hk:∀k,k<H.next→H.get k=some .tok→H'.get k=some .tok):Has H' sz v els:=by
 rcases h with rfl|⟨rfl,rfl⟩|⟨k,rfl,h1,h2⟩
 · exact .inl rfl
 · exact .inr (.inl ⟨rfl,rfl⟩)
 · exact .inr (.inr ⟨k,rfl,by omega,hk k h1 h2⟩)
theorem Has.shut {H2:Heap} {sz:Nat} {v:AV} {els:List (List AV)} (h:Has H2 sz v els) (hne:els≠[]) (hl:v≠ .aT 1 sz els) (hf:freeLL els=true) (nw:Nat):shutF H2 none nw 0 v=some (.aT 0 sz els):=by
 rcases h with rfl|⟨rfl,rfl⟩|⟨k,rfl,h1,h2⟩
 · exact absurd rfl hl
 · exact absurd rfl hne
 · simp[shutF,shut1,hf,tagA]
end
end Go.Av
namespace Go.Av
open Go Go.Proofs Go.Shelf Go.Lib Go.Sort
abbrev Vec (k:Nat):={l:List Int // l.length=k}
instance (k:Nat):Inhabited (Vec k):=⟨⟨List.replicate k 0,by simp⟩⟩
def encV {k:Nat} (x:Vec k):List Value:=x.1.map (Value.int .i64)
def encA {k:Nat} (x:Vec k):List AV:=x.1.map (AV.int .i64)
def rowV {k:Nat} (d:List (Vec k)):List Int:=d.flatMap (·.1)
theorem aNp {k:Nat} (x:Vec k):(encV x).length=k:=by simp[encV,x.2]
def Gno:Gh:=⟨fun _=>none,fun _ _=>False,true⟩
theorem WR.empty {g:Genv} (hg:∀n,g n=none) (w:World):WR g Gno ⟨0,.nil⟩ w where
 cells:=fun id l cs opn h=>by cases h
 room:=fun id l h=>by cases h
 disj:=fun id id' l l' _ h=>by cases h
 immd:=fun id l h=>by cases h
 mapr:=fun id l o h=>by cases h
 lt:=fun id l h=>by cases h
 imme:=fun b o h=>h.elim
 glob:=fun n cs h=>by rw[hg n] at h;cases h
 mo:=by unfold Genv.mo;rw[hg];rfl
theorem VRs.ints {G:Gh} {w:World} (l:List Int):VRs G w (l.map (AV.int .i64)) (l.map (Value.int .i64)):=by
 refine⟨by simp,fun j hj=>?_⟩
 have hj':j<l.length:=by simpa using hj
 have e1:(l.map (AV.int .i64)).getD j undefA=.int .i64 l[j]:=by simp[List.getD,hj']
 have e2:(l.map (Value.int .i64)).getD j undef=.int .i64 l[j]:=by simp[List.getD,hj']
 rw[e1,e2];exact .int ..
theorem aAy {G':Gh} {H':Heap} {w w':World} (e:Ext Gno ⟨0,.nil⟩ w G' H' w'):∃q os',w'=grow (w.drewN q) os':=by
 refine⟨w'.drawn -w.drawn,w'.heap.extract w.heap.size w'.heap.size,?_⟩
 have hh:w'.heap=w.heap++w'.heap.extract w.heap.size w'.heap.size:=by
  apply Array.ext_getElem?;intro b;rw[Array.getElem?_append];have hs:=e.size;split
  · rename_i hb
    exact e.frame b hb (fun id l h=>by cases h)
  · rename_i hb
    rw[Array.getElem?_extract];by_cases h2:b<w'.heap.size
    · rw[if_pos (by omega)];congr 1;omega
    · rw[if_neg (by omega),Array.getElem?_eq_none (by omega)]
 obtain⟨h1,h2,h3,h4⟩:=e.same
 replace h4:=h4 rfl
 cases w';cases w;simp only[grow,World.drewN,World.mk.injEq] at *;exact⟨hh,h3,by omega,h1,h2⟩
theorem zA {P:Program} {f:FuncId} (hok:FnOK P f) (args:Array Value) (w:World):(callFunc f args).run P w=.ok (.enter f args) w:=by
 obtain⟨fn,h1,h2,h3⟩:=hok
 have hb:¬fn.body=none:=fun hh=>by rw[hh] at h2;cases h2
 have h3':¬fn.name= "runtime.NumGoroutine" :=by simpa using h3
 simp[callFunc,program,Sem.run,h1,h3',hb]
theorem aQz {P:Program} {g:Genv} (hg:∀n,g n=none) {k:Nat} {gf:FuncId} {cf:Vec k→Vec k→Int}
 (hcl:∀x y,Sound P g gf [.agg (encA x),.agg (encA y)] ⟨0,.nil⟩ (.ret (.int .i64 (cf x y))) ⟨0,.nil⟩) (blk off size:Nat) (w:World):CmpLays P gf #[] encV k cf blk off size w:=by
 intro m os dk hs x y
 have hv:∀z:Vec k,VR Gno (sortWorldK encV k w blk off m dk os) (.agg (encA z)) (.agg (encV z).toArray):=fun z=>by
  have :=VRs.ints (G:=Gno) (w:=sortWorldK encV k w blk off m dk os) z.1;exact .agg _ _ this.1 (fun c hc=>by obtain⟨n,_,rfl⟩:=List.mem_map.1 hc;rfl) this.2
 refine((hcl x y).2 Gno (sortWorldK encV k w blk off m dk os) [.agg (encV x).toArray,.agg (encV y).toArray] (WR.empty hg _) ⟨rfl,fun j hj=>?_⟩).mono fun e w' he=>?_
 · match j,hj with
   |0,_=>exact hv x
   |1,_=>exact hv y
 · obtain⟨G',h1,h2,h3⟩:=he
   refine⟨?_,aAy h2⟩
   cases e with
   |returned u=>cases h3;rfl
   |_=>exact h3.elim
theorem yI {k:Nat} (hk:1≤k):∀(d:List (Vec k)) (t:Nat),t<d.length*k→(rowV d)[t]?=some ((d[t / k]?.getD default).1[t%k]?.getD 0)
 |[],t,h=>by simp at h
 |x::d,t,h=>by
  have hx:=x.2;simp only[rowV,List.flatMap_cons];rw[List.getElem?_append];split
  · rename_i h1
    rw[Nat.div_eq_of_lt (by omega),Nat.mod_eq_of_lt (by omega)];simp[List.getElem?_eq_getElem h1]
  · rename_i h1
    have h2:k≤t:=by omega
    have h3:t -k<d.length*k:=by simp only[List.length_cons,Nat.add_mul,Nat.one_mul] at h;omega
    have e1:t / k=(t -k) / k+1:=by rw[←Nat.add_div_right _ (by omega)];congr 1;omega
    have e2:t%k=(t -k)%k:=by rw[←Nat.mod_eq_sub_mod h2]
    rw[hx,e1,e2,List.getElem?_cons_succ];exact yI hk d (t -k) h3
theorem dO {k:Nat}:∀d:List (Vec k),(rowV d).length=d.length*k
 |[]=>by simp[rowV]
 |x::d=>by
  have :=dO d;simp only[rowV,List.flatMap_cons,List.length_append,List.length_cons,x.2,Nat.add_mul,Nat.one_mul] at this ⊢;omega
theorem aCb {k:Nat} (hk:1≤k) (d:List (Vec k)):flatK encV k d.toArray=((rowV d).map (Value.int .i64)).toArray:=by
 refine ext_get! (by simp[dO]) fun t ht=>?_
 have ht':t<d.length*k:=by simpa using ht
 rw[get_flatK _ _ _ _ (by simpa using ht')];have h1:=yI hk d t ht';have hm:t%k<k:=Nat.mod_lt _ (by omega)
 have hd:t / k<d.length:=by rwa [Nat.div_lt_iff_lt_mul (by omega)]
 have hl:(d[t / k]).1.length=k:=(d[t / k]).2
 have e2:(((rowV d).map (Value.int .i64)).toArray)[t]! =.int .i64 ((d[t / k]).1[t%k]'(by omega)):=by
  rw[getElem!_pos _ _ (by simpa [dO] using ht')]
  have h3:t<(rowV d).length:=by rw[dO];exact ht'
  rw[List.getElem?_eq_getElem h3] at h1;simp only[List.getElem_toArray,List.getElem_map];rw[Option.some.inj h1];simp[hd,List.getElem?_eq_getElem (show t%k<(d[t / k]).1.length by omega)]
 rw[e2,getElem!_pos d.toArray (t / k) (by simpa using hd)];simp only[encV,List.getElem_toArray];rw[getElem!_pos _ _ (by simp;omega)];simp
theorem aGx {k:Nat} (hk:1≤k) {w:World} {blk off n:Nat} {d':List (Vec k)} {c:Array Value} {el:TypeId} {fz:Nat×Nat} (hrow:w.heap[blk]?=some (.cells c el fz)):
 Upd w (putRowK encV k (Sort.ahead w n) blk off d'.toArray) blk off ((rowV d').map (Value.int .i64)) where
 size:=by simp[putRowK,putRow,mapBlock,Sort.ahead]
 other:=fun b' hb=>by
  simp only[putRowK,putRow,mapBlock,Sort.ahead,Array.getElem?_modify];rw[if_neg (Ne.symm hb)]
 row:=fun c1 el1 fz1 h=>by
  rw[hrow] at h;cases h;refine⟨putCells id off (flatK encV k d'.toArray) c,?_,by simp[putCells],fun o ho=>?_,fun j hj hlt=>?_⟩
  · simp[putRowK,putRow,mapBlock,Sort.ahead,Array.getElem?_modify,hrow,onCells]
  · simp only[putCells,Array.getElem?_mapIdx,size_flatK]
    have :¬(off≤o∧o<off+d'.toArray.size*k):=by
     simp only[List.length_map,dO,List.size_toArray] at ho ⊢;omega
    simp only[if_neg this]
    cases c[o]?<;>rfl
  · simp only[List.length_map,dO] at hj
    simp only[putCells,Array.getElem?_mapIdx,size_flatK];rw[Array.getElem?_eq_getElem hlt,Option.map_some,if_pos (by simp;omega)];rw[show off+j -off=j by omega,aCb hk,getElem!_pos _ _ (by simpa [dO] using hj)];simp[List.getD,dO,hj]
 same:=.now (h4:=Nat.le_add_right _ _)
theorem nO {P:Program} {g:Genv} (hg:∀n,g n=none) {ρ:Ren} (L:SlLaysF0.n6 P ρ) {k:Nat} (hk:1≤k) (aE:∀w,(isAgg (ρ.t 24)).run P w=.ok true w) (zE:∀w,(Go.sizeOf (ρ.t 24)).run P w=.ok k w)
 {gf sf:FuncId} (hsf:sf=ρ.f 6) (hfs:FnOK P sf) (hfg:FnOK P gf) {cf:Vec k→Vec k→Int} (hO:SWO (ltOf cf))
 (hcl:∀x y,Sound P g gf [.agg (encA x),.agg (encA y)] ⟨0,.nil⟩ (.ret (.int .i64 (cf x y))) ⟨0,.nil⟩) (d:List (Vec k)) (hd:d.length<4611686018427387904):
 ∃d':List (Vec k),d'.Perm d∧(d'.Pairwise fun a b=>¬cf b a<0)∧∀(H:Heap) (id:Nat) (opn:Bool),H.get id=some (.cells ((rowV d).map (AV.int .i64)) opn)→
  Sound P g sf [.sl id k 0 d.length d.length,.func (.func gf) [] []] H (.ret (.tup [])) (H.set id (.cells ((rowV d').map (AV.int .i64)) opn)):=by
 subst hsf;have hp:=pdq_sorts (ltOf cf) hO d.toArray 0 d.toArray.size (Lib.bitLen d.toArray.size) true true (Nat.zero_le _) (Nat.le_refl _) (Or.inl rfl);generalize hD:pdq (ltOf cf) d.toArray 0 d.toArray.size (Lib.bitLen d.toArray.size) true true=D at hp;obtain⟨⟨q1,q2,q3⟩,q4⟩:=hp
 have hperm:D.toList.Perm d:=by
  rw[←q1] at q3
  have e1:(D.extract 0 D.size).toList=D.toList:=by simp
  have e2:(d.toArray.extract 0 D.size).toList=d:=by rw[q1];simp
  rwa [e1,e2] at q3
 have hlen:D.toList.length=d.length:=hperm.length_eq;refine⟨D.toList,hperm,?_,fun H id opn hget=>⟨hfs,fun G w vs hw hvs=>?_⟩⟩
 · rw[List.pairwise_iff_getElem]
   intro i j hi hj hij;have :=q4 i j (Nat.zero_le _) hij (by simp at hj hlen ⊢;omega);simp only[ltOf,decide_eq_false_iff_not] at this;simp only[Array.length_toList] at hi hj;rw[getElem!_pos D i hi,getElem!_pos D j hj] at this;simpa using this
 · obtain⟨hl,hv⟩:=hvs
   match vs,hl with
   |[u0,u1],_=>
    have v0:=hv 0 (by simp);have v1:=hv 1 (by simp);simp only[List.getD_cons_zero,List.getD_cons_succ] at v0 v1
    cases v0 with
    |sl _ _ _ _ _ cap' l hloc hle hin hcap=>
     cases v1 with
     |func _ _ _ az bz ha hb _ _=>
      obtain rfl:az=[]:=List.eq_nil_of_length_eq_zero ha;obtain rfl:bz=[]:=List.eq_nil_of_length_eq_zero hb;obtain⟨a1,a2,a3,a4,a5⟩:=hw.cells id l _ opn hloc hget;obtain⟨c,el,fz,b1,b2,b3⟩:=hw.room id l hloc (.inl ⟨_,_,hget⟩)
      have hcl1:((rowV d).map (AV.int .i64)).length=d.length*k:=by simp[dO]
      have hH:HoldsK encV k w l.blk (l.base+0) d.toArray:=by
       intro j hj;rw[size_flatK] at hj
       have hj':j<d.length*k:=by simpa using hj
       obtain⟨u,e1,e2⟩:=a5 j (by rw[hcl1];exact hj')
       have hjf:j<(rowV d).length:=by rw[dO];exact hj'
       have e3:((rowV d).map (AV.int .i64)).getD j undefA=.int .i64 (rowV d)[j]:=by simp[List.getD,hjf]
       rw[e3] at e2;cases e2;refine⟨?_,b3 j (by rw[a1,hcl1] at a2;omega)⟩;rw[Nat.add_zero,e1,aCb hk,getElem!_pos _ _ (by simpa using hjf)];simp
      have hblk:l.blk<w.heap.size:=by
       rcases Nat.lt_or_ge l.blk w.heap.size with h|h
       · exact h
       · rw[Array.getElem?_eq_none h] at b1;cases b1
      have hcon:=AnyQ.slices_SortFunc_eq L k aE zE (encV (k:=k)) aNp (fun x v hv=>by obtain⟨n,_,rfl⟩:=List.mem_map.1 hv;rfl) cf hO gf #[] l.blk (l.base+0) cap' d.toArray w (fun args w=>zA hfg args w) (aQz hg hcl _ _ _ _) hH hblk (by simpa using hd);rw[hD] at hcon;refine hcon.mono fun e w' he=>?_;obtain⟨rfl,n,os,rfl⟩:=he;have hup:=aGx hk (w:=w) (blk:=l.blk) (off:=l.base+0) (n:=n) (d':=D.toList) b1
      have hsp:splice ((rowV d).map (AV.int .i64)) 0 ((rowV D.toList).map (AV.int .i64))=(rowV D.toList).map (AV.int .i64):=by
       simp only[splice,List.take_zero,List.nil_append,Nat.zero_add];rw[List.drop_of_length_le (by simp[dO,hlen]),List.append_nil]
      obtain⟨r1,r2⟩:=hw.store hloc hget (VRs.ints (rowV D.toList)) (fun c hc=>by obtain⟨n,_,rfl⟩:=List.mem_map.1 hc;rfl) (by simp[dO,hlen]) hup;rw[hsp] at r1 r2
      have hgr:∀b,b<(putRowK encV k (Sort.ahead w n) l.blk (l.base+0) D.toList.toArray).heap.size→(grow (putRowK encV k (Sort.ahead w n) l.blk (l.base+0) D.toList.toArray) os).heap[b]?=(putRowK encV k (Sort.ahead w n) l.blk (l.base+0) D.toList.toArray).heap[b]?:=fun b hb=>by
       simp only[grow];rw[Array.getElem?_append_left hb]
      have e0:sortWorldK encV k w l.blk (l.base+0) n D os=grow (putRowK encV k (Sort.ahead w n) l.blk (l.base+0) D.toList.toArray) os:=by simp[sortWorldK]
      rw[e0];refine⟨G,r1.grow hgr,r2.trans (Ext.grow r1.imme hgr (by simp[grow]) .now),?_⟩;exact .tup _ [] rfl fun j hj=>absurd hj (Nat.not_lt_zero _)
theorem dT {P:Program} {g:Genv} {ρ:Ren} (L:SlLaysF0.n6 P ρ) {sf:FuncId} (hsf:sf=ρ.f 6) (hfs:FnOK P sf) (gf:FuncId) (H:Heap):Sound P g sf [.nilsl,.func (.func gf) [] []] H (.ret (.tup [])) H:=by
 subst hsf;refine⟨hfs,fun G w vs hw hvs=>?_⟩;obtain⟨hl,hv⟩:=hvs
 match vs,hl with
 |[u0,u1],_=>
  have v0:=hv 0 (by simp);simp only[List.getD_cons_zero] at v0;cases v0;refine(AnyF.slices_SortFunc_none L none 0 u1 w).mono fun e w' he=>?_;obtain⟨rfl,rfl⟩:=he;exact⟨G,hw,Ext.refl G H _,.tup _ [] rfl fun j hj=>absurd hj (Nat.not_lt_zero _)⟩
end Go.Av
namespace Go.Av
open Go
section
section
variable {P:Program} {g:Genv} {n:Nat}
theorem aJc {k:LKey} {f:Slt} {id:Nat} {args:List AV} {H2 H3:Heap} {out:Out} (hb:FBnd n f) (h:FRound P g n k f id args H2 out H3):ARound P g k (LF n f) id args H2 out H3:=by
 unfold ARound;rw[qX];refine cC (fun e s1 ds1 H1 hq=>?_) (gR k.asg _ [] H2 _ (hb.putAll _) h);obtain⟨f1,rfl,hb1,hq⟩:=hq
 cases e with
 |normal=>
  obtain⟨h1,k1,sn1,h2,h3⟩:=hq;refine⟨h1,k1,sn1,h2,cC (fun e s2 ds2 H4 hq=>?_) (gR k.body _ [] _ _ hb1 h3)⟩;obtain⟨f2,rfl,hb2,hq⟩:=hq
  cases e with
  |panic v=>exact hq.elim
  |_=>exact hq
 |_=>exact hq.elim
theorem aEk (hm:Fit P g) {k:LKey} {f:Slt} {id:Nat} {args:List AV} {H2 H3:Heap} {out:Out} (hb:FBnd n f) (hget:H2.get id=some (.loop k (LF n f) .ready)) (hlen:args.length=k.ps.length) (h:FRound P g n k f id args H2 out H3):
 YSound P g id args H2 out H3:=qZ hm hget hlen (aJc hb h)
def roundEndR (id:Nat) (R:Out→Heap→Prop):FQ
 |.normal,_,ds,H=>ds=[]∧∃k sn,H.get id=some (.loop k sn .busy)∧R (.ret (.bool true)) (H.set id (.loop k sn .ready))
 |.ret,_,ds,H=>ds=[]∧∃k sn,H.get id=some (.loop k sn .busy)∧R (.ret (.bool false)) (H.set id (.loop k sn (.done .ret)))
 |.exit i,_,ds,H=>ds=[]∧∃k sn,H.get id=some (.loop k sn .busy)∧R (.ret (.bool false)) (H.set id (.loop k sn (.done (.exit i))))
 |.panic _,_,_,_=>False
theorem aEl (hm:Fit P g) {k:LKey} {f:Slt} {id:Nat} {args:List AV} {H2:Heap} {R:Out→Heap→Prop} (hb:FBnd n f) (hget:H2.get id=some (.loop k (LF n f) .ready)) (hlen:args.length=k.ps.length) (hd1:k.asg.det=true) (hd2:k.body.det=true)
 (h:FC P g n k.asg (putAllF n f (k.ps.zip args)) [] H2 (thenF (fun f1 ds1 H1=>ds1=[]∧∃k1 sn1,H1.get id=some (.loop k1 sn1 .ready)∧FC P g n k.body f1 [] (H1.set id (.loop k1 sn1 .busy)) (roundEndR id R)) fun _ _ _ _=>False)):
 ∃out H3,R out H3∧YSound P g id args H2 out H3:=by
 obtain⟨ae,s',ds',H',⟨f1,rfl,hb1,hq⟩,hA2⟩:=oP hd1 (gR k.asg _ [] H2 _ (hb.putAll _) h)
 cases ae with
 |normal=>
  obtain⟨rfl,k1,sn1,hg,hF⟩:=hq;obtain⟨be,s2,ds2,H4,⟨f2,rfl,hb2,hq2⟩,hB2⟩:=oP hd2 (gR k.body _ [] _ _ hb1 hF)
  have fin:∀{out:Out} {H3:Heap},(∀s,roundEnd id out H3 be s ds2 H4)→YSound P g id args H2 out H3:=fun {out H3} hr=>by
   refine qZ hm hget hlen ?_;unfold ARound;rw[qX];refine cC (fun e s1 ds1 H1 he=>?_) hA2;obtain⟨rfl,rfl,rfl,rfl⟩:=he;refine⟨rfl,k1,sn1,hg,cC (fun e s1 ds1 H1 he=>?_) hB2⟩;obtain⟨rfl,rfl,rfl,rfl⟩:=he;exact hr _
  cases be with
  |normal=>
   obtain⟨rfl,k2,sn2,hg2,hR⟩:=hq2;exact⟨_,_,hR,fin fun s=>⟨rfl,rfl,k2,sn2,hg2,rfl⟩⟩
  |ret=>
   obtain⟨rfl,k2,sn2,hg2,hR⟩:=hq2;exact⟨_,_,hR,fin fun s=>⟨rfl,rfl,k2,sn2,hg2,rfl⟩⟩
  |exit i=>
   obtain⟨rfl,k2,sn2,hg2,hR⟩:=hq2;exact⟨_,_,hR,fin fun s=>⟨rfl,rfl,k2,sn2,hg2,rfl⟩⟩
  |panic v=>exact hq2.elim
 |_=>exact hq.elim
variable {r:List ROper} {f:Slt} {ds:List Dfr} {H:Heap} {Q:FQ}
theorem nN {d:Nat} {c:Arg} {id:Nat} {azs:List Arg} {args:List AV} {v:AV} {H':Heap} (hd:d<n) (hc:evF g f c=.yield id) (ha:azs.map (evF g f)=args)
 (hS:YSound P g id args H (.ret v) H') (h:FOps P g n r (upd f d v) ds H' Q):FOps P g n (⟨some d,.call c azs,none⟩::r) f ds H Q:=by
 have :∀v,putF n f (some d) v=upd f d v:=fun v=>by simp[putF,hd]
 unfold FOps;simp only[wantedF,if_true,this];exact⟨.ret v,H',.inr ⟨id,hc,by rw[ha];exact hS⟩,h⟩
theorem aJf {c:Arg} {ps:List Nat} {asg body:ACode} {fid:FuncId} {fs cs:List AV} {v:AV} {He:Heap} {k':LKey} {s':List AV} {st:LSt} (hc:evF g f c=.func (.func fid) fs cs)
 (hS:Sound P g fid (fs++[.yield (H.next+1)]++cs) ((H.alloc .dfd).alloc (.loop ⟨ps,asg,body⟩ (LF n f) .ready)) (.ret v) He) (hl:He.get (H.next+1)=some (.loop k' s' st))
 (h:∀Hf,lessLoop He (H.next+1) Hf→loopEndF st f (.mark H.next::ds) Hf Q):FC P g n (.rangeF c ps asg body) f ds H Q:=by
 have hlt:∃Hf,lessLoop He (H.next+1) Hf:=⟨He.set (H.next+1) .dead,rfl,fun m=>by
  rw[Heap.aB]⟩
 obtain⟨Hf,hf⟩:=hlt;exact⟨fid,fs,cs,v,He,k',s',st,Hf,hc,hS,hl,hf,h Hf hf⟩
theorem nM {c:Arg} {ps:List Nat} {asg body:ACode} {fid:FuncId} {fs cs:List AV} (hc:evF g f c=.func (.func fid) fs cs)
 (h:∃v He k' s' st,Sound P g fid (fs++[.yield (H.next+1)]++cs) ((H.alloc .dfd).alloc (.loop ⟨ps,asg,body⟩ (LF n f) .ready)) (.ret v) He∧He.get (H.next+1)=some (.loop k' s' st)∧
   ∀Hf,lessLoop He (H.next+1) Hf→loopEndF st f (.mark H.next::ds) Hf Q):FC P g n (.rangeF c ps asg body) f ds H Q:=by
 obtain⟨v,He,k',s',st,h1,h2,h3⟩:=h;exact aJf hc h1 h2 h3
theorem FBnd.upd {n:Nat} {f:Slt} (h:FBnd n f) {d:Nat} (hd:d<n) (v:AV):FBnd n (upd f d v):=fun t ht=>by
 rw[eT _ _ (by omega)];exact h t ht
theorem aUo {c:ACode} {f0:Slt} {ds:List Dfr} {H0:Heap} {Q:FQ} (hb:FBnd n f0) (h:∀f H,FBnd n f→f=f0→H=H0→FC P g n c f ds H Q):FC P g n c f0 ds H0 Q:=h _ _ hb rfl rfl
theorem gI {c:ACode} {f0:Slt} {ds:List Dfr} {H:Heap} {Q:FQ} (h:∀f,f=f0→FC P g n c f ds H Q):FC P g n c f0 ds H Q:=h _ rfl
structure Over (H H':Heap):Prop where
 le:H.next≤H'.next
 same:∀j,j<H.next→H'.get j=H.get j
theorem Over.refl (H:Heap):Over H H:=⟨Nat.le_refl _,fun _ _=>rfl⟩
theorem Over.alloc {H H':Heap} (h:Over H H') (o:AObj):Over H (H'.alloc o):=⟨by simp only[Heap.aX];have :=h.le;omega,fun j hj=>by
 have :=h.le
 rw[Heap.aH,if_neg (by omega)];exact h.same j hj⟩
theorem Over.set {H H':Heap} (h:Over H H') {id:Nat} (hid:H.next≤id) (o:AObj):Over H (H'.set id o):=⟨by rw[Heap.aS];exact h.le,fun j hj=>by
 rw[Heap.aB,if_neg (by omega)];exact h.same j hj⟩
end
end
attribute [local congr] aN
section
section
variable {P:Program} {g:Genv} {n:Nat}
def fkOK (n c ix a b:Nat) (cs:List Nat) (ts B:ACode):Bool:=
 Nat.blt c n&&Nat.blt ix n&&Nat.blt a n&&Nat.blt b n&& !Nat.beq a ix&& !Nat.beq b ix&& !Nat.beq b a&& !memN ix ts.wr&& !memN ix B.wr&&B.nodef&& !memN a cs&& !memN b cs&& !memN ix cs&&cs.all (fun t=> !memN t ts.wr)
def fkW (ix a b:Nat) (ts B:ACode):List Nat:=a::b::ix::(ts.wr++B.wr)
theorem aHd {id c ix a b:Nat} {op:BinOp} {dz:Int} {ts B:ACode} {f:Slt} {ds:List Dfr} {H:Heap} {Q:FQ} (cs:List Nat) (J:Nat→List AV→Heap→Prop) (val:Nat→Int) (N:Nat)
 (hs:fkOK n c ix a b cs ts B=true) (hop:∀i,i<N→binI op .i64 (val i) .i64 dz=some (.int .i64 (val (i+1))))
 (h1:f ix=.int .i64 (val 0)) (h0:J 0 (cs.map f) H)
 (test:∀(i:Nat) (f':Slt) (H':Heap),i≤N→Keep (fkW ix a b ts B) f f'→f' ix=.int .i64 (val i)→J i (cs.map f') H'→FC P g n ts f' ds H' (thenF (fun f'' ds'' H''=>ds''=ds∧H''=H'∧f'' c=.bool (decide (i<N))) fun _ _ _ _=>False))
 (body:∀(i:Nat) (f':Slt) (H':Heap),i<N→Keep (fkW ix a b ts B) f f'→f' ix=.int .i64 (val i)→J i (cs.map f') H'→FC P g n B f' ds H' (thenF (fun f'' _ H''=>J (i+1) (cs.map f'') H'') (inBlockF id Q)))
 (done:∀(f':Slt) (H':Heap),Keep (fkW ix a b ts B) f f'→J N (cs.map f') H'→Q .normal f' ds H'):
 FC P g n (.block id (.loop (.seq (.seq ts (.cond (.tmp c) .skip (.exit id))) (.seq B
  (.ops [⟨some a,.mov (.tmp ix),none⟩,⟨some b,.bin op (.tmp a) (.const (.int .i64 dz)),none⟩,⟨some ix,.mov (.tmp b),none⟩]))))) f ds H Q:=by
 simp only[fkOK,Bool.and_eq_true,Bool.not_eq_true',Nat.blt_eq,List.all_eq_true] at hs;obtain⟨⟨⟨⟨⟨⟨⟨⟨⟨⟨⟨⟨⟨s1,s2⟩,s3⟩,s4⟩,s5⟩,s6⟩,s7⟩,t1⟩,b1⟩,b2⟩,c1⟩,c2⟩,c3⟩,c4⟩:=hs
 have ne:∀{a b:Nat},Nat.beq a b=false→a≠b:=fun h e=>by subst e;simp at h
 have subT:∀d∈ts.wr,d∈fkW ix a b ts B:=fun d hd=>by simp[fkW,hd]
 have subB:∀d∈B.wr,d∈fkW ix a b ts B:=fun d hd=>by simp[fkW,hd]
 have kpU:∀{f':Slt} {d:Nat} {v:AV},d∈fkW ix a b ts B→Keep (fkW ix a b ts B) f f'→Keep (fkW ix a b ts B) f (upd f' d v):=fun {f' d v} hd hk t ht=>by
  have hne:t≠d:=fun e=>gY.1 ht (by rw[e];exact hd);rw[eT _ _ hne];exact hk t ht
 refine aUp (id:=id) (c:=c) (fun i f' H'=>Keep (fkW ix a b ts B) f f'∧f' ix=.int .i64 (val i)∧J i (cs.map f') H') N ⟨.aPl,h1,h0⟩ ?_ ?_ ?_
 · rintro i f' H' hi ⟨hk,e1,hj⟩ K hK Q'
   refine dG (fun e f2 ds2 H2 hh=>?_) (oT (test i f' H' hi hk e1 hj));obtain⟨k1,k2,k3⟩:=hh
   cases e with
   |normal=>
    obtain⟨rfl,rfl,k4⟩:=k3;refine⟨rfl,rfl,hK _ k4 ⟨hk.trans (k1.sub subT),by rw[k1 _ t1];exact e1,?_⟩⟩;have :cs.map f2=cs.map f':=List.map_congr_left fun t ht=>k1 t (by simpa using c4 t ht);rw[this];exact hj
   |_=>exact k3.elim
 · rintro i f' H' hi ⟨hk,e1,hj⟩
   refine dG (fun e f2 ds2 H2 hh=>?_) (oT (body i f' H' hi hk e1 hj));obtain⟨k1,k2,k3⟩:=hh
   cases e with
   |normal=>
    obtain rfl:=k2 b2;refine⟨rfl,?_⟩
    have e2:f2 ix=.int .i64 (val i):=by rw[k1 _ b1];exact e1
    have hk2:=hk.trans (k1.sub subB);rw[qU,oV _ _ s3];simp only[aop,dA,e2,aZ];rw[lB _ _ _ _ s4];simp only[aop,dA,jG,gD,hop i hi,Option.map_some,aZ];rw[oV _ _ s2];simp only[aop,dA,aZ,jE,cN,gD];refine⟨trivial,kpU (by simp[fkW]) (kpU (by simp[fkW]) (kpU (by simp[fkW]) hk2)),trivial,?_⟩;rw[pZ c3,pZ c2,pZ c1];exact k3
   |_=>exact k3
 · rintro f' H' ⟨hk,e1,hj⟩
   exact done f' H' hk hj
theorem bB {id c ix a b:Nat} {ts B:ACode} {f:Slt} {ds:List Dfr} {H:Heap} {Q:FQ} (cs:List Nat) (J:Nat→List AV→Heap→Prop) (s N:Nat) (hsN:s≤N) (hN:N<2^63)
 (hs:fkOK n c ix a b cs ts B=true) (h1:f ix=.int .i64 s) (h0:J s (cs.map f) H)
 (test:∀(i:Nat) (f':Slt) (H':Heap),s≤i→i≤N→Keep (fkW ix a b ts B) f f'→f' ix=.int .i64 i→J i (cs.map f') H'→FC P g n ts f' ds H' (thenF (fun f'' ds'' H''=>ds''=ds∧H''=H'∧f'' c=.bool (decide (i<N))) fun _ _ _ _=>False))
 (body:∀(i:Nat) (f':Slt) (H':Heap),s≤i→i<N→Keep (fkW ix a b ts B) f f'→f' ix=.int .i64 i→J i (cs.map f') H'→FC P g n B f' ds H' (thenF (fun f'' _ H''=>J (i+1) (cs.map f'') H'') (inBlockF id Q)))
 (done:∀(f':Slt) (H':Heap),Keep (fkW ix a b ts B) f f'→J N (cs.map f') H'→Q .normal f' ds H'):
 FC P g n (.block id (.loop (.seq (.seq ts (.cond (.tmp c) .skip (.exit id))) (.seq B
  (.ops [⟨some a,.mov (.tmp ix),none⟩,⟨some b,.bin .add (.tmp a) (.const (.int .i64 1)),none⟩,⟨some ix,.mov (.tmp b),none⟩]))))) f ds H Q:=by
 refine aHd cs (fun i=>J (s+i)) (fun i=>((s+i:Nat):Int)) (N -s) hs (fun i hi=>?_) (by simpa using h1) (by simpa using h0) (fun i f' H' hi hk e1 hj=>?_) (fun i f' H' hi hk e1 hj=>?_) (fun f' H' hk hj=>?_)
 · simp only[binI,if_true]
   rw[wrap_i64 (by omega) (by omega)];simp only[Option.some.injEq,AV.int.injEq,true_and];omega
 · have h:=test (s+i) f' H' (by omega) (by omega) hk e1 hj
   rwa [show decide (s+i<N)=decide (i<N -s) from by rw[decide_eq_decide];omega] at h
 · have h:=body (s+i) f' H' (by omega) (by omega) hk e1 hj
   rwa [Nat.add_assoc] at h
 · have :s+(N -s)=N:=by omega
   simp only[this] at hj;exact done f' H' hk hj
theorem aQp {id c ix a b:Nat} {ts B:ACode} {f:Slt} {ds:List Dfr} {H:Heap} {Q:FQ} (cs:List Nat) (J:Nat→List AV→Heap→Prop) (N:Nat) (hN:N<2^63)
 (hs:fkOK n c ix a b cs ts B=true) (h1:f ix=.int .i64 ((N:Int) -1)) (h0:J N (cs.map f) H)
 (test:∀(i:Nat) (f':Slt) (H':Heap),i≤N→Keep (fkW ix a b ts B) f f'→f' ix=.int .i64 ((i:Int) -1)→J i (cs.map f') H'→FC P g n ts f' ds H' (thenF (fun f'' ds'' H''=>ds''=ds∧H''=H'∧f'' c=.bool (decide (0<i))) fun _ _ _ _=>False))
 (body:∀(i:Nat) (f':Slt) (H':Heap),i<N→Keep (fkW ix a b ts B) f f'→f' ix=.int .i64 i→J (i+1) (cs.map f') H'→FC P g n B f' ds H' (thenF (fun f'' _ H''=>J i (cs.map f'') H'') (inBlockF id Q)))
 (done:∀(f':Slt) (H':Heap),Keep (fkW ix a b ts B) f f'→J 0 (cs.map f') H'→Q .normal f' ds H'):
 FC P g n (.block id (.loop (.seq (.seq ts (.cond (.tmp c) .skip (.exit id))) (.seq B
  (.ops [⟨some a,.mov (.tmp ix),none⟩,⟨some b,.bin .sub (.tmp a) (.const (.int .i64 1)),none⟩,⟨some ix,.mov (.tmp b),none⟩]))))) f ds H Q:=by
 refine aHd cs (fun i=>J (N -i)) (fun i=>((N -i:Nat):Int) -1) N hs (fun i hi=>?_) (by simpa using h1) (by simpa using h0) (fun i f' H' hi hk e1 hj=>?_) (fun i f' H' hi hk e1 hj=>?_) (fun f' H' hk hj=>?_)
 · simp only[binI,if_true]
   rw[wrap_i64 (by omega) (by omega)];simp only[Option.some.injEq,AV.int.injEq,true_and];omega
 · have h:=test (N -i) f' H' (by omega) hk e1 hj
   rwa [show decide (0<N -i)=decide (i<N) from by rw[decide_eq_decide];omega] at h
 · have e:N -i=(N -(i+1))+1:=by omega
   have e1':f' ix=.int .i64 ((N -(i+1):Nat):Int):=by rw[e1];congr 1;omega
   have hj':J ((N -(i+1))+1) (cs.map f') H':=by rw[←e];exact hj
   exact body (N -(i+1)) f' H' (by omega) hk e1' hj'
 · simp only[Nat.sub_self] at hj
   exact done f' H' hk hj
end
end
theorem wB {k:IntKind} (hs:k.signed=false) (x:Int):k.wrap x=x%2^k.bits:=by
 simp[IntKind.wrap,hs]
theorem aMn {k:IntKind} (hs:k.signed=false) (x:Nat):k.wrap (x:Int)=((x%2^k.bits:Nat):Int):=by
 rw[wB hs];simp
theorem aLd (n x:Nat):BitVec.ofInt n (x:Int)=BitVec.ofNat n x:=by
 apply BitVec.eq_of_toNat_eq;simp[BitVec.toNat_ofInt]
theorem aQt {k:IntKind} (hs:k.signed=false) {a b:Nat} (ha:a<2^k.bits) (hb:b<2^k.bits):bitsI .or k (a:Int) (b:Int)=some (.int k ((a|||b:Nat):Int)):=by
 have h:(BitVec.ofNat k.bits a|||BitVec.ofNat k.bits b).toNat=a|||b:=by
  rw[BitVec.toNat_or,BitVec.toNat_ofNat,BitVec.toNat_ofNat,Nat.mod_eq_of_lt ha,Nat.mod_eq_of_lt hb]
 simp only[bitsI,aLd,h,aMn hs];rw[Nat.mod_eq_of_lt (Nat.or_lt_two_pow ha hb)]
end Go.Av
namespace Go.Geo
section
variable {p:Nat→V} {N:Nat} {n:V} {d:Int}
instance:DecidableEq V:=fun a b=>match a,b with
 |⟨x,y,z⟩,⟨x',y',z'⟩=>if h:x=x'∧y=y'∧z=z' then .isTrue (by obtain⟨rfl,rfl,rfl⟩:=h;rfl) else .isFalse (fun e=>h (by cases e;exact⟨rfl,rfl,rfl⟩))
def plane3 (p:Nat→V) (i j k:Nat):V×Int:=(prim (cross (vec p i j) (vec p i k)),dot (prim (cross (vec p i j) (vec p i k))) (p i))
def cands (p:Nat→V) (i j k:Nat):List (V×Int):=
 if(plane3 p i j k).1=V0 then [] else [plane3 p i j k,(neg (plane3 p i j k).1,-(plane3 p i j k).2)]
theorem yF:prim V0=V0:=by simp[prim,V0]
theorem jW {i j k:Nat} (hi:i<N) (hj:j<N) (hk:k<N) {q:V×Int} (h:q∈cands p i j k) (le:∀k,k<N→dot q.1 (p k)≤q.2) (lt:∃k,k<N∧dot q.1 (p k)<q.2):IsF p N q.1 q.2:=by
 unfold cands at h;split at h
 · cases h
 · rename_i hz
   have hc:cross (vec p i j) (vec p i k)≠V0:=fun e=>hz (by rw[plane3,e,yF]);simp only[List.mem_cons,List.not_mem_nil,or_false] at h
   rcases h with rfl|rfl
   · exact Cand.isF (a:=i) (b:=j) (c:=k) ⟨hc,.inl rfl⟩ hi hj hk le lt rfl
   · refine Cand.isF (a:=i) (b:=j) (c:=k) ⟨hc,.inr rfl⟩ hi hj hk le lt ?_
     simp only[plane3];rw[fE]
theorem cM (F:IsF p N n d):∃i j k,k<j∧j<i∧i<N∧(n,d)∈cands p i j k:=by
 obtain⟨i,j,k,h1,h2,h3,hc,hd⟩:=F.down;refine⟨i,j,k,h1,h2,h3,?_⟩;have hz:¬(plane3 p i j k).1=V0:=aIp hc.1;unfold cands;rw[if_neg hz]
 rcases hc.2 with e|e
 · rw[hd,e];exact List.mem_cons_self
 · refine List.mem_cons_of_mem _ (List.mem_cons.2 (.inl ?_))
   rw[hd,e];simp only[plane3];rw[fE]
def Before (i j k a b c:Nat):Prop:=a<i∨(a=i∧(b<j∨(b=j∧c<k)))
def Tried (p:Nat→V) (N:Nat) (i j k:Nat) (K:List (V×Int)):Prop:=
 ∀a b c,c<b→b<a→a<N→Before i j k a b c→∀q∈cands p a b c,IsF p N q.1 q.2→q∈K
theorem Tried.zero:Tried p N 0 0 0 []:=fun a b c _ _ _ h=>by unfold Before at h;omega
theorem Tried.down {i j:Nat} {K:List (V×Int)} (h:Tried p N i j j K):Tried p N i (j+1) 0 K:=fun a b c h1 h2 h3 hb q hq F=>h a b c h1 h2 h3 (by unfold Before at *;omega) q hq F
theorem Tried.next {i:Nat} {K:List (V×Int)} (h:Tried p N i i 0 K):Tried p N (i+1) 0 0 K:=fun a b c h1 h2 h3 hb q hq F=>h a b c h1 h2 h3 (by unfold Before at *;omega) q hq F
theorem Tried.step {i j k:Nat} {K K':List (V×Int)} (h:Tried p N i j k K) (hs:∀q∈K,q∈K') (hn:∀q∈cands p i j k,IsF p N q.1 q.2→q∈K'):Tried p N i j (k+1) K':=fun a b c h1 h2 h3 hb q hq F=>by
 by_cases e:a=i∧b=j∧c=k
 · obtain⟨rfl,rfl,rfl⟩:=e
   exact hn q hq F
 · exact hs q (h a b c h1 h2 h3 (by unfold Before at *;omega) q hq F)
theorem Tried.all {K:List (V×Int)} (h:Tried p N N 0 0 K) (hK:∀q∈K,IsF p N q.1 q.2) (q:V×Int):q∈K↔IsF p N q.1 q.2:=by
 refine⟨hK q,fun F=>?_⟩;obtain⟨i,j,k,h1,h2,h3,hc⟩:=cM F;exact h i j k h1 h2 h3 (.inl h3) q hc F
theorem vC (P:V×Int→Prop):∀L:List (V×Int),∃K:List (V×Int),K.Nodup∧∀q,q∈K↔q∈L∧P q
 |[]=>⟨[],List.nodup_nil,fun q=>by simp⟩
 |x::L=>by
  obtain⟨K,h1,h2⟩:=vC P L;by_cases hx:P x∧x∉K
  · refine⟨x::K,List.nodup_cons.2 ⟨hx.2,h1⟩,fun q=>?_⟩
    simp only[List.mem_cons,h2];constructor
    · rintro(rfl|⟨h3,h4⟩)
      · exact⟨.inl rfl,hx.1⟩
      · exact⟨.inr h3,h4⟩
    · rintro⟨rfl|h3,h4⟩
      · exact .inl rfl
      · exact .inr ⟨h3,h4⟩
  · refine⟨K,h1,fun q=>?_⟩
    rw[h2];simp only[List.mem_cons];constructor
    · rintro⟨h3,h4⟩;exact⟨.inr h3,h4⟩
    · rintro⟨rfl|h3,h4⟩
      · exact(h2 q).1 (Classical.byContradiction fun hc=>hx ⟨h4,hc⟩)
      · exact⟨h3,h4⟩
theorem iW {α:Type} (R:α→α→Prop) (tr:∀{a b c},R a b→R b c→R a c) (tot:∀a b,R a b∨R b a):∀l:List α,∃s:List α,s.Perm l∧s.Pairwise R
 |[]=>⟨[],List.Perm.refl _,List.Pairwise.nil⟩
 |x::l=>by
  obtain⟨s,h1,h2⟩:=iW R tr tot l
  have ins:∀s:List α,s.Pairwise R→∃t:List α,t.Perm (x::s)∧t.Pairwise R:=by
   intro s
   induction s with
   |nil=>exact fun _=>⟨[x],List.Perm.refl _,by simp⟩
   |cons y s ih=>
    intro hs;rw[List.pairwise_cons] at hs
    rcases tot x y with h|h
    · refine⟨x::y::s,List.Perm.refl _,List.pairwise_cons.2 ⟨fun z hz=>?_,List.pairwise_cons.2 hs⟩⟩
      rcases List.mem_cons.1 hz with rfl|hz
      · exact h
      · exact tr h (hs.1 z hz)
    · obtain⟨t,t1,t2⟩:=ih hs.2
      refine⟨y::t,(List.Perm.cons y t1).trans (List.Perm.swap x y s),List.pairwise_cons.2 ⟨fun z hz=>?_,t2⟩⟩
      rcases List.mem_cons.1 (t1.mem_iff.1 hz) with rfl|hz
      · exact h
      · exact hs.1 z hz
  obtain⟨t,t1,t2⟩:=ins s h2;exact⟨t,t1.trans (List.Perm.cons x h1),t2⟩
theorem FList.exists (p:Nat→V) (N:Nat):∃S,FList p N S:=by
 obtain⟨K,h1,h2⟩:=vC (fun q=>IsF p N q.1 q.2) ((List.range N).flatMap fun i=>(List.range N).flatMap fun j=>(List.range N).flatMap fun k=>cands p i j k)
 have hK:∀q,q∈K↔IsF p N q.1 q.2:=fun q=>by
  rw[h2];refine⟨fun h=>h.2,fun F=>⟨?_,F⟩⟩;obtain⟨i,j,k,a1,a2,a3,hc⟩:=cM F;simp only[List.mem_flatMap,List.mem_range];exact⟨i,a3,j,by omega,k,by omega,hc⟩
 obtain⟨S,s1,s2⟩:=iW (fun a b:V×Int=>¬VLt b.1 a.1) (fun {a b c} h h'=>by unfold VLt at *;omega) (fun a b=>by unfold VLt;omega) K;exact⟨S,FList.aIh h1 hK s1 s2⟩
theorem hU {α:Type}:∀(l on:List α),l.Nodup→(∀x∈l,x∈on)→l.length≤on.length
 |[],_,_,_=>Nat.zero_le _
 |x::l,on,hn,h=>by
  obtain⟨s,t,rfl⟩:=List.append_of_mem (h x List.mem_cons_self);rw[List.nodup_cons] at hn
  have :=hU l (s++t) hn.2 fun y hy=>by
   have h1:=h y (List.mem_cons_of_mem _ hy);simp only[List.mem_append,List.mem_cons] at h1 ⊢
   rcases h1 with h1|rfl|h1
   · exact .inl h1
   · exact absurd hy hn.1
   · exact .inr h1
  simp only[List.length_append,List.length_cons] at this ⊢;omega
theorem dZ {α β:Type} (f:α→List β) (m:Nat) (hf:∀x,(f x).length≤m):∀l:List α,(l.flatMap f).length≤l.length*m
 |[]=>by simp
 |x::l=>by
  have h1:=dZ f m hf l;have h2:=hf x;simp only[List.flatMap_cons,List.length_append,List.length_cons,Nat.add_mul,Nat.one_mul];omega
theorem mL {K:List (V×Int)} (hn:K.Nodup) (hK:∀q∈K,IsF p N q.1 q.2):K.length≤N*(N*(N*2)):=by
 have h1:=hU K ((List.range N).flatMap fun i=>(List.range N).flatMap fun j=>(List.range N).flatMap fun k=>cands p i j k) hn fun q hq=>by
  obtain⟨i,j,k,a1,a2,a3,hc⟩:=cM (hK q hq);simp only[List.mem_flatMap,List.mem_range];exact⟨i,a3,j,by omega,k,by omega,hc⟩
 have c:∀i j k,(cands p i j k).length≤2:=fun i j k=>by unfold cands;split<;>simp
 have h2:=dZ (fun i=>(List.range N).flatMap fun j=>(List.range N).flatMap fun k=>cands p i j k) (N*(N*2)) (fun i=>by
  have :=dZ (fun j=>(List.range N).flatMap fun k=>cands p i j k) (N*2) (fun j=>by
   have :=dZ (fun k=>cands p i j k) 2 (fun k=>c i j k) (List.range N)
   rwa [List.length_range] at this) (List.range N)
  rwa [List.length_range] at this) (List.range N)
 rw[List.length_range] at h2;omega
theorem aFz {js:List Nat} {n:Nat} (hn:js.Nodup) (hl:∀j∈js,j<n) (hall:∀j,j<n→j∈js):js.Perm (List.range n):=
 (List.perm_ext_iff_of_nodup hn List.nodup_range).2 fun a=>by rw[List.mem_range];exact⟨hl a,hall a⟩
theorem uP {α:Type} (l:List α) (d:α):(List.range l.length).map (fun j=>l.getD j d)=l:=by
 refine List.ext_getElem (by simp) fun k h1 h2=>?_;simp[List.getD,h2]
end
end Go.Geo
