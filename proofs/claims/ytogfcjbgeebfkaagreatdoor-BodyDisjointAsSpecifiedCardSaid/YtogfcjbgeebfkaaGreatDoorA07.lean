/-
  Part of the proof of statement 7
-/
import Derived.Test.YtogfcjbgeebfkaaGreatDoorA06
import Derived.Test.YtogfcjbgeebfkaaGreatDoorA05
import Derived.Test.YtogfcjbgeebfkaaGreatDoorA03
import Derived.Shelf.SlSortCmp.NoneTotal
import Derived.Below
import Derived.Lib.Join
import Derived.ProofKit
import Derived.OpenShut
import Derived.Deep.Slices
import Derived.Test.YtogfcjbgeebfkaaGreatDoorProg
import Derived.KernelRfl
set_option linter.unusedVariables false
set_option linter.unusedSimpArgs false
set_option linter.unusedSectionVars false
set_option linter.defProp false
set_option maxRecDepth 100000
set_option maxHeartbeats 16000000
namespace Go.Av
open Go
section
section
variable {P:Program} {g:bF} {n:Nat} {r:List aZ} {f:cW} {ds:List fY} {H:aA} {Q:FQ}
theorem MP{d m:Nat}{x:Arg}{es:List (AV×AV)}(hd:d<n)(hx:nN g f x=.map m)(hm:H.get m=some (.map es))
 (h:∀bs c mb,bs.length=es.length->bs.Nodup->bT P g n r (iZ f d (.ref H.next 0)) ds ((H.set m (.sO es bs c mb)).alloc (.iter m mb c [])) Q):
 bT P g n (⟨some d,.vR x,none⟩::r) f ds H Q:=by
 have :∀v,fM n f (some d) v=iZ f d v:=fun v=>by simp[fM,hd]
 unfold bT;simp only[gQ,if_true,this];exact⟨m,es,hx,hm,h⟩
theorem OC{d it m mb c:Nat}{x:Arg}{es:List (AV×AV)}{seen bs:List Nat}(hd:d<n)(hx:nN g f x=.ref it 0)(hi:H.get it=some (.iter m mb c seen))(hm:H.get m=some (.sO es bs c mb))
 (h0:(∀b∈bs,b∈seen)->bT P g n r (iZ f d (.jZ [.bool false])) ds H Q)
 (h1:∀j,j<bs.length->bs.getD j 0∉seen->bT P g n r (iZ f d (.jZ [.bool true,(es.getD j (aB,aB)).1,(es.getD j (aB,aB)).2])) ds (H.set it (.iter m mb c (seen++[bs.getD j 0]))) Q):
 bT P g n (⟨some d,.EP x,none⟩::r) f ds H Q:=by
 have :∀v,fM n f (some d) v=iZ f d v:=fun v=>by simp[fM,hd]
 unfold bT;simp only[gQ,if_true,this];exact⟨it,m,mb,c,seen,es,bs,hx,hi,hm,h0,h1⟩
theorem VJ{d it m mb c j:Nat}{x:Arg}{es:List (AV×AV)}{seen bs:List Nat}(hd:d<n)(hx:nN g f x=.ref it 0)(hi:H.get it=some (.iter m mb c (seen++[bs.getD j 0])))(hm:H.get m=some (.sO es bs c mb))(hj:j<bs.length)
 (h:bT P g n r (iZ f d (.jZ [(es.getD j (aB,aB)).1,(es.getD j (aB,aB)).2])) ds H Q):
 bT P g n (⟨some d,.yR x,none⟩::r) f ds H Q:=by
 have :∀v,fM n f (some d) v=iZ f d v:=fun v=>by simp[fM,hd]
 unfold bT;simp only[gQ,if_true,this];exact⟨it,m,mb,c,seen,es,bs,j,hx,hi,hm,hj,h⟩
end
def bM(H:aA):Prop:=∀j,H.next<=j->H.get j=none
theorem bM.nil(n:Nat):bM ⟨n,.nil⟩:=fun _ _=>rfl
theorem bM.alloc{H:aA}(h:bM H)(o:eY):bM (H.alloc o):=fun j hj=>by simp only[aA.bH] at hj;rw[aA.aI,if_neg A0];exact h j A0
theorem bM.set{H:aA}(h:bM H){id:Nat}(hi:id<H.next)(o:eY):bM (H.set id o):=fun j hj=>by simp only[aA.bA] at hj;rw[aA.aC,if_neg A0];exact h j hj
theorem bM.at1{H:aA}(h:bM H):pK H 1=true:=by simp only[pK,Dd,h _ (Ag _)];rfl
theorem bM.at2{H:aA}(h:bM H):pK H 2=true:=by simp only[pK,Dd,h _ (Ag _),h (H.next+1) A0];rfl
def jH(sz:Nat)(els:List (List AV)):AV:=if els=[] then .bB else .bC 0 sz els
theorem tq{sz:Nat}{els:List (List AV)}(h:eI els=true):(jH sz els).free=true:=by unfold jH;split<;>simp[AV.free,h]
theorem OT{sz:Nat}:∀{els:List (List AV)},(∀e∈els,e.length=sz)->fK sz els.length els.flatten=els
 |[],_=>rfl
 |e::els,h=>by have he:=h e Bc;simp only[As,fK,Cd];rw[Cx A0,Bb A0,Je A0,Bo A0,Er,OT fun x hx=>h x (Aw _ hx)]
theorem oT{sz:Nat}:∀{els:List (List AV)},(∀e∈els,e.length=sz)->els.flatten.length=els.length*sz
 |[],_=>by simp
 |e::els,h=>by have he:=h e Bc;have :=oT fun x hx=>h x (Aw e hx);simp only[Cd,Ap,As,Bi,Eu];omega
theorem XH{H2:aA}{id sz cap:Nat}{els:List (List AV)}{eB:Bool}(hg:H2.get id=some (.cells els.flatten eB))(hu:∀e∈els,e.length=sz)(hf:eI els=true)(nw:Nat):
 gT H2 none nw 0 (.sl id sz 0 els.length cap)=some (.bC 0 sz els):=by
 have hc:H2.eG id=some els.flatten:=by simp[aA.eG,hg]
 have hl:Nat.ble (0+els.length*sz) els.flatten.length=true:=by rw[oT hu];simp
 simp only[gT,kT,hc,Ej,hl,mK hf,Du,OT hu]
theorem AL{H:aA}{sz bytes:Nat}{ys:List (List AV)}(hy:ys.isEmpty=false)(hb:ys.length*bytes<=2^40):fZ H sz bytes true .bB ys=some (.sl H.next sz 0 ys.length ys.length,H.alloc (.cells ys.flatten true)):=by simp[fZ,hy,hb,lV]
theorem AM{H:aA}{id n sz bytes:Nat}{cs:List AV}{ys:List (List AV)}(hg:H.get id=some (.cells cs true))(hc:cs.length=n*sz)(hy:ys.isEmpty=false)(hb:(n+ys.length)*bytes<=2^40)(hs:1<=sz):
 fZ H sz bytes true (.sl id sz 0 n n) ys=some (.sl H.next sz 0 (n+ys.length) (n+ys.length),(H.set id .dead).alloc (.cells (cs++ys.flatten) true)):=by
 have hl:0<ys.length:=by cases ys with
  |nil=>simp at hy
  |cons _ _=>simp
 simp only[fZ,hy,Au,Ca,hg,hb,hs,and_self,if_true];rw[if_neg A0,if_neg (by simp[hc]),if_pos ⟨trivial,trivial,trivial,hc⟩]
def Has(H:aA)(sz:Nat)(v:AV)(els:List (List AV)):Prop:=v=.bC 1 sz els\/Own H sz v els
theorem Has.push{H:aA}{sz bytes:Nat}{v:AV}{els ys:List (List AV)}(h:Has H sz v els)(hy:ys.isEmpty=false)(hb:(els.length+ys.length)*bytes<=2^40):
 ∃H',fZ H sz bytes false v ys=some (.bC (H.next+2) sz (els++ys),H')/\H'.next=H.next+1/\H'.get H.next=some .tok/\(∀id,id<H.next->H.get id≠some .tok->H'.get id=H.get id)/\(bM H->bM H'):=by
 have fresh:∀BB:List (List AV),fZ H sz bytes false v ys=some (lV H false sz BB)->∃H',fZ H sz bytes false v ys=some (.bC (H.next+2) sz BB,H')/\H'.next=H.next+1/\H'.get H.next=some .tok/\(∀id,id<H.next->H.get id≠some .tok->H'.get id=H.get id)/\(bM H->bM H'):=fun BB e=>⟨H.alloc .tok,e,by simp,by rw[aA.aI,if_pos rfl],fun id h1 _=>by rw[aA.aI,if_neg A0],fun hf=>hf.alloc _⟩
 rcases h with rfl|⟨rfl,rfl⟩|⟨k,rfl,vw,hk⟩
 . exact fresh _ (by simp[fZ,hy,hb])
 . simp only[Bw,Dg] at hb;exact fresh _ (by simp[fZ,hy,hb])
 refine⟨(H.set k .dead).alloc .tok,by simp[fZ,hy,hb,hk],by simp,by rw[aA.aI,aA.bA,if_pos rfl],fun id h1 h2=>?_,fun hf=>(hf.set vw _).alloc _⟩;rw[aA.aI,aA.bA,if_neg A0,aA.aC,if_neg];rintro rfl;exact h2 hk
theorem Has.aCb{H H':aA}{sz:Nat}{v:AV}{els:List (List AV)}(h:Has H sz v els)(hn:H.next<=H'.next)(hk:∀k,k<H.next->H.get k=some .tok->H'.get k=some .tok):Has H' sz v els:=by
 rcases h with rfl|⟨rfl,rfl⟩|⟨k,rfl,h1,h2⟩
 . exact .inl rfl
 . exact .inr (.inl ⟨rfl,rfl⟩)
 exact .inr (.inr ⟨k,rfl,by omega,hk k h1 h2⟩)
theorem Has.shut{H2:aA}{sz:Nat}{v:AV}{els:List (List AV)}(h:Has H2 sz v els)(cG:els≠[])(hl:v≠ .bC 1 sz els)(hf:eI els=true)(nw:Nat):gT H2 none nw 0 v=some (.bC 0 sz els):=by
 rcases h with rfl|⟨rfl,rfl⟩|⟨k,rfl,h1,h2⟩
 . exact absurd rfl hl
 . exact absurd rfl cG
 simp[gT,kT,hf,ED]
end
end Go.Av
namespace Go.Av
open Go Go.Proofs Go.Shelf Go.Lib Go.Sort
abbrev CX(k:Nat):={l:List Int // l.length=k}
instance (k:Nat):Inhabited (CX k):=⟨⟨List.replicate k 0,by simp⟩⟩
def wO{k:Nat}(x:CX k):List Value:=x.1.map (Value.int .i64)
def Vh{k:Nat}(x:CX k):List AV:=x.1.map (AV.int .i64)
def mO{k:Nat}(d:List (CX k)):List Int:=d.flatMap (·.1)
theorem aAp{k:Nat}(x:CX k):(wO x).length=k:=by simp[wO,x.2]
def Gno:Gh:=⟨fun _=>none,fun _ _=>False,true⟩
theorem WR.empty{g:bF}(hg:∀n,g n=none)(w:World):WR g Gno ⟨0,.nil⟩ w where
 cells:=fun id l cs eB h=>by cases h
 room:=fun id l h=>by cases h
 lD:=fun id kS l l' _ h=>by cases h
 jV:=fun id l h=>by cases h
 iG:=fun id l o h=>by cases h
 lt:=fun id l h=>by cases h
 iF:=fun b o h=>h.elim
 iW:=fun n cs h=>by rw[hg n] at h;cases h
 DH:=fun n cs h h0=>by rw[hg n] at h;cases h
 mo:=by unfold bF.mo;rw[hg];rfl
theorem gW.ints{G:Gh}{w:World}(l:List Int):gW G w (l.map (AV.int .i64)) (l.map (Value.int .i64)):=by
 refine⟨by simp,fun j hj=>?_⟩;have HI:j<l.length:=by simpa using hj
 have e1:(l.map (AV.int .i64)).getD j aB=.int .i64 l[j]:=by simp[List.getD,HI]
 have e2:(l.map (Value.int .i64)).getD j undef=.int .i64 l[j]:=by simp[List.getD,HI]
 rw[e1,e2];exact .int ..
theorem Un{G':Gh}{H':aA}{w w':World}(e:Ext Gno ⟨0,.nil⟩ w G' H' w'):∃q os',w'=grow (w.drewN q) os':=by
 refine⟨w'.drawn -w.drawn,w'.heap.extract w.heap.size w'.heap.size,?_⟩
 have hh:w'.heap=w.heap++w'.heap.extract w.heap.size w'.heap.size:=by
  apply Array.ext_getElem?;intro b;rw[Array.getElem?_append];have hs:=e.size;split
  . rename_i hb;exact e.frame b hb (fun id l h=>by cases h)
  rename_i hb;rw[Array.getElem?_extract];by_cases h2:b<w'.heap.size
  . rw[if_pos A0];congr 1;omega
  rw[if_neg A0,Ko A0]
 obtain⟨h1,h2,h3,h4⟩:=e.same
 replace h4:=h4 rfl
 cases w';cases w;simp only[grow,World.drewN,World.mk.injEq] at *;exact⟨hh,h3,by omega,h1,h2⟩
theorem TX{P:Program}{f:FuncId}(NO:AJ P f)(args:Array Value)(w:World):(callFunc f args).run P w=.ok (.enter f args) w:=by
 obtain⟨fn,h1,h2,h3⟩:=NO;have hb:¬fn.body=none:=fun hh=>by rw[hh] at h2;cases h2
 have h3':¬fn.name= "runtime.NumGoroutine" :=by simpa using h3
 simp[callFunc,program,Sem.run,h1,h3',hb]
theorem aHi{P:Program}{g:bF}(hg:∀n,g n=none){k:Nat}{gf:FuncId}{cf:CX k->CX k->Int}
 (SH:∀x y,Sound P g gf [.agg (Vh x),.agg (Vh y)] ⟨0,.nil⟩ (.ret (.int .i64 (cf x y))) ⟨0,.nil⟩) (cV off size:Nat) (w:World):CmpLays P gf #[] wO k cf cV off size w:=by
 intro m os dk hs x y
 have hv:∀z:CX k,VR Gno (sortWorldK wO k w cV off m dk os) (.agg (Vh z)) (.agg (wO z).toArray):=fun z=>by have :=gW.ints (G:=Gno) (w:=sortWorldK wO k w cV off m dk os) z.1;exact .agg _ _ this.1 (fun c hc=>by obtain⟨n,_,rfl⟩:=Bm.1 hc;rfl) this.2
 refine((SH x y).2 Gno (sortWorldK wO k w cV off m dk os) [.agg (wO x).toArray,.agg (wO y).toArray] (WR.empty hg _) ⟨rfl,fun j hj=>?_⟩).mono fun e w' he=>?_
 . match j,hj with
   |0,_=>exact hv x
   |1,_=>exact hv y
 obtain⟨G',h1,h2,h3⟩:=he;refine⟨?_,Un h2⟩
 cases e with
 |returned u=>cases h3;rfl
 |_=>exact h3.elim
theorem Sq{k:Nat}(hk:1<=k):∀(d:List (CX k)) (t:Nat),t<d.length*k->(mO d)[t]?=some ((d[t / k]?.getD default).1[t%k]?.getD 0)
 |[],t,h=>by simp at h
 |x::d,t,h=>by
  have hx:=x.2;simp only[mO,Ee];rw[Dl];split
  . rename_i h1;rw[Dn A0,Bn A0];simp[Ac h1]
  rename_i h1;have h2:k<=t:=by omega
  have h3:t -k<d.length*k:=by simp only[As,Bi,Eu] at h;omega
  have e1:t / k=(t -k) / k+1:=by rw[<-Nat.add_div_right _ A0];congr 1;omega
  have e2:t%k=(t -k)%k:=by rw[<-Nat.mod_eq_sub_mod h2]
  rw[hx,e1,e2,Gb];exact Sq hk d (t -k) h3
theorem lI{k:Nat}:∀d:List (CX k),(mO d).length=d.length*k
 |[]=>by simp[mO]
 |x::d=>by have :=lI d;simp only[mO,Ee,Ap,As,x.2,Bi,Eu] at this ⊢;omega
theorem Vo{k:Nat}(hk:1<=k)(d:List (CX k)):flatK wO k d.toArray=((mO d).map (Value.int .i64)).toArray:=by
 refine ext_get! (by simp[lI]) fun t ht=>?_;have ht':t<d.length*k:=by simpa using ht
 rw[get_flatK _ _ _ _ (by simpa using ht')];have h1:=Sq hk d t ht';have hm:t%k<k:=Bz _ A0;have hd:t / k<d.length:=by rwa [Ch A0]
 have hl:(d[t / k]).1.length=k:=(d[t / k]).2
 have e2:(((mO d).map (Value.int .i64)).toArray)[t]! =.int .i64 ((d[t / k]).1[t%k]'(by omega)):=by
  rw[getElem!_pos _ _ (by simpa [lI] using ht')];have h3:t<(mO d).length:=by rw[lI];exact ht'
  rw[Ac h3] at h1;simp only[List.getElem_toArray,Dv];rw[Aa h1];simp[hd,Ac (show t%k<(d[t / k]).1.length by omega)]
 rw[e2,getElem!_pos d.toArray (t / k) (by simpa using hd)];simp only[wO,List.getElem_toArray];rw[getElem!_pos _ _ Zaf];simp
theorem bh{k:Nat}(hk:1<=k){w:World}{cV off n:Nat}{d':List (CX k)}{c:Array Value}{el:TypeId}{fz:Nat×Nat}(rY:w.heap[cV]?=some (.cells c el fz)):
 Uq w (putRowK wO k (Sort.ahead w n) cV off d'.toArray) cV off ((mO d').map (Value.int .i64)) where
 size:=by simp[putRowK,putRow,mapBlock,Sort.ahead]
 other:=fun b' hb=>by simp only[putRowK,putRow,mapBlock,Sort.ahead,Hu];rw[if_neg (Ne.symm hb)]
 row:=fun c1 el1 fz1 h=>by
  rw[rY] at h;cases h;refine⟨putCells id off (flatK wO k d'.toArray) c,?_,by simp[putCells],fun o ho=>?_,fun j hj dT=>?_⟩
  . simp[putRowK,putRow,mapBlock,Sort.ahead,Hu,rY,onCells]
  . simp only[putCells,Array.getElem?_mapIdx,size_flatK]
    have :¬(off<=o/\o<off+d'.toArray.size*k):=by simp only[Ai,lI,Gq] at ho ⊢;omega
    simp only[if_neg this]
    cases c[o]?<;>rfl
  simp only[Ai,lI] at hj;simp only[putCells,Array.getElem?_mapIdx,size_flatK];rw[Eg dT,Cf,if_pos Zaf];rw[show off+j -off=j by omega,Vo hk,getElem!_pos _ _ (by simpa [lI] using hj)];simp[List.getD,lI,hj]
 same:=.now (h4:=Hz _ _)
theorem FJ{P:Program}{g:bF}(hg:∀n,g n=none){ρ:Ren}(L:SlLaysF0.n6 P ρ){k:Nat}(hk:1<=k)(aE:∀w,(isAgg (ρ.t 24)).run P w=.ok true w)(zE:∀w,(Go.sizeOf (ρ.t 24)).run P w=.ok k w)
 {gf sf:FuncId} (hsf:sf=ρ.f 6) (hfs:AJ P sf) (hfg:AJ P gf) {cf:CX k->CX k->Int} (hO:SWO (ltOf cf))
 (SH:∀x y,Sound P g gf [.agg (Vh x),.agg (Vh y)] ⟨0,.nil⟩ (.ret (.int .i64 (cf x y))) ⟨0,.nil⟩) (d:List (CX k)) (hd:d.length<4611686018427387904):
 ∃d':List (CX k),d'.Perm d/\(d'.Pairwise fun a b=>¬cf b a<0)/\∀(H:aA) (id:Nat) (eB:Bool),H.get id=some (.cells ((mO d).map (AV.int .i64)) eB)->
  Sound P g sf [.sl id k 0 d.length d.length,.func (.func gf) [] []] H (.ret (.jZ [])) (H.set id (.cells ((mO d').map (AV.int .i64)) eB)):=by
 subst hsf;have hp:=pdq_sorts (ltOf cf) hO d.toArray 0 d.toArray.size (Lib.bitLen d.toArray.size) true true (Bp _) (Ag _) (Or.inl rfl);generalize hD:pdq (ltOf cf) d.toArray 0 d.toArray.size (Lib.bitLen d.toArray.size) true true=D at hp;obtain⟨⟨q1,q2,q3⟩,q4⟩:=hp
 have aMv:D.toList.Perm d:=by
  rw[<-q1] at q3;have e1:(D.extract 0 D.size).toList=D.toList:=by simp
  have e2:(d.toArray.extract 0 D.size).toList=d:=by rw[q1];simp
  rwa [e1,e2] at q3
 have hlen:D.toList.length=d.length:=aMv.length_eq;refine⟨D.toList,aMv,?_,fun H id eB cS=>⟨hfs,fun G w vs hw nQ=>?_⟩⟩
 . rw[Gk];intro i j hi hj uU;have :=q4 i j (Bp _) uU (by simp at hj hlen ⊢;omega);simp only[ltOf,Cb] at this;simp only[Cz] at hi hj;rw[getElem!_pos D i hi,getElem!_pos D j hj] at this;simpa using this
 obtain⟨hl,hv⟩:=nQ
 match vs,hl with
 |[u0,u1],_=>
  have v0:=hv 0 A2;have v1:=hv 1 A2;simp only[Dk,Et] at v0 v1
  cases v0 with
  |sl _ _ _ _ _ jS l sN hle iE oY=>
   cases v1 with
   |func _ _ _ az bz ha hb _ _=>
    obtain rfl:az=[]:=Cp ha;obtain rfl:bz=[]:=Cp hb;obtain⟨a1,a2,a3,a4,a5⟩:=hw.cells id l _ eB sN cS;obtain⟨c,el,fz,b1,b2,b3⟩:=hw.room id l sN (.inl ⟨_,_,cS⟩);have aYv:((mO d).map (AV.int .i64)).length=d.length*k:=by simp[lI]
    have hH:HoldsK wO k w l.cV (l.base+0) d.toArray:=by intro j hj;rw[size_flatK] at hj;have HI:j<d.length*k:=Zas;obtain⟨u,e1,e2⟩:=a5 j (by rw[aYv];exact HI);have hjf:j<(mO d).length:=(by rw[lI];exact HI);have e3:((mO d).map (AV.int .i64)).getD j aB=.int .i64 (mO d)[j]:=(by simp[List.getD,hjf]);rw[e3] at e2;cases e2;refine⟨?_,b3 j (by rw[a1,aYv] at a2;omega)⟩;rw[Dd,e1,Vo hk,getElem!_pos _ _ (by simpa using hjf)];simp
    have hblk:l.cV<w.heap.size:=by
     rcases En l.cV w.heap.size with h|h
     . exact h
     rw[Ko h] at b1;cases b1
    have aYw:=AnyQ.slices_SortFunc_eq L k aE zE (wO (k:=k)) aAp (fun x v hv=>by obtain⟨n,_,rfl⟩:=Bm.1 hv;rfl) cf hO gf #[] l.cV (l.base+0) jS d.toArray w (fun args w=>TX hfg args w) (aHi hg SH _ _ _ _) hH hblk (by simpa using hd);rw[hD] at aYw;refine aYw.mono fun e w' he=>?_;obtain⟨rfl,n,os,rfl⟩:=he;have hup:=bh hk (w:=w) (cV:=l.cV) (off:=l.base+0) (n:=n) (d':=D.toList) b1
    have Uu:gK ((mO d).map (AV.int .i64)) 0 ((mO D.toList).map (AV.int .i64))=(mO D.toList).map (AV.int .i64):=by simp only[gK,Fe,Er,Dg];rw[Bo (by simp[lI,hlen]),Cr]
    obtain⟨r1,r2⟩:=hw.store sN cS (gW.ints (mO D.toList)) (fun c hc=>by obtain⟨n,_,rfl⟩:=Bm.1 hc;rfl) (by simp[lI,hlen]) hup;rw[Uu] at r1 r2
    have hgr:∀b,b<(putRowK wO k (Sort.ahead w n) l.cV (l.base+0) D.toList.toArray).heap.size->(grow (putRowK wO k (Sort.ahead w n) l.cV (l.base+0) D.toList.toArray) os).heap[b]?=(putRowK wO k (Sort.ahead w n) l.cV (l.base+0) D.toList.toArray).heap[b]?:=fun b hb=>by simp only[grow];rw[Array.getElem?_append_left hb]
    have e0:sortWorldK wO k w l.cV (l.base+0) n D os=grow (putRowK wO k (Sort.ahead w n) l.cV (l.base+0) D.toList.toArray) os:=(by simp[sortWorldK]);rw[e0];refine⟨G,r1.grow hgr,r2.trans (Ext.grow r1.iF hgr (by simp[grow]) .now),?_⟩;exact .jZ _ [] rfl fun j hj=>absurd hj (Ar _)
theorem mB{P:Program}{g:bF}{ρ:Ren}(L:SlLaysF0.n6 P ρ){sf:FuncId}(hsf:sf=ρ.f 6)(hfs:AJ P sf)(gf:FuncId)(H:aA):Sound P g sf [.bB,.func (.func gf) [] []] H (.ret (.jZ [])) H:=by
 subst hsf;refine⟨hfs,fun G w vs hw nQ=>?_⟩;obtain⟨hl,hv⟩:=nQ
 match vs,hl with
 |[u0,u1],_=>have v0:=hv 0 A2;simp only[Dk] at v0;cases v0;refine(AnyF.slices_SortFunc_none L none 0 u1 w).mono fun e w' he=>?_;obtain⟨rfl,rfl⟩:=he;exact⟨G,hw,Ext.refl G H _,.jZ _ [] rfl fun j hj=>absurd hj (Ar _)⟩
end Go.Av
namespace Go.Av
open Go
section
section
variable {P:Program} {g:bF} {n:Nat}
theorem ke{k:KT}{f:cW}{id:Nat}{args:List AV}{H2 H3:aA}{out:Out}(hb:nD n f)(h:TO P g n k f id args H2 out H3):OA P g k (LF n f) id args H2 out H3:=by
 unfold OA;rw[KS];refine eF (fun e s1 pI H1 hq=>?_) (tG k.MQ _ [] H2 _ (hb.pT _) h);obtain⟨f1,rfl,rP,hq⟩:=hq
 cases e with
 |normal=>
  obtain⟨h1,k1,jl,h2,h3⟩:=hq;refine⟨h1,k1,jl,h2,eF (fun e s2 Qy H4 hq=>?_) (tG k.body _ [] _ _ rP h3)⟩;obtain⟨f2,rfl,wV,hq⟩:=hq
  cases e with
  |panic v=>exact hq.elim
  |_=>exact hq
 |_=>exact hq.elim
theorem YJ(hm:Fit P g){k:KT}{f:cW}{id:Nat}{args:List AV}{H2 H3:aA}{out:Out}(hb:nD n f)(cS:H2.get id=some (.loop k (LF n f) .ready))(hlen:args.length=k.ps.length)(h:TO P g n k f id args H2 out H3):
 rS P g id args H2 out H3:=KZ hm cS hlen (ke hb h)
def tp(id:Nat)(R:Out->aA->Prop):FQ
 |.normal,_,ds,H=>ds=[]/\∃k sn,H.get id=some (.loop k sn .busy)/\R (.ret (.bool true)) (H.set id (.loop k sn .ready))
 |.ret,_,ds,H=>ds=[]/\∃k sn,H.get id=some (.loop k sn .busy)/\R (.ret (.bool false)) (H.set id (.loop k sn (.done .ret)))
 |.exit i,_,ds,H=>ds=[]/\∃k sn,H.get id=some (.loop k sn .busy)/\R (.ret (.bool false)) (H.set id (.loop k sn (.done (.exit i))))
 |.panic _,_,_,_=>False
theorem YK(hm:Fit P g){k:KT}{f:cW}{id:Nat}{args:List AV}{H2:aA}{R:Out->aA->Prop}(hb:nD n f)(cS:H2.get id=some (.loop k (LF n f) .ready))(hlen:args.length=k.ps.length)(ot:k.MQ.cX=true)(hd2:k.body.cX=true)
 (h:FC P g n k.MQ (sU n f (k.ps.zip args)) [] H2 (gI (fun f1 pI H1=>pI=[]/\∃k1 jl,H1.get id=some (.loop k1 jl .ready)/\FC P g n k.body f1 [] (H1.set id (.loop k1 jl .busy)) (tp id R)) fun _ _ _ _=>False)):
 ∃out H3,R out H3/\rS P g id args H2 out H3:=by
 obtain⟨ae,s',fH,H',⟨f1,rfl,rP,hq⟩,hA2⟩:=HJ ot (tG k.MQ _ [] H2 _ (hb.pT _) h)
 cases ae with
 |normal=>
  obtain⟨rfl,k1,jl,hg,hF⟩:=hq;obtain⟨be,s2,Qy,H4,⟨f2,rfl,wV,hq2⟩,hB2⟩:=HJ hd2 (tG k.body _ [] _ _ rP hF)
  have fin:∀{out:Out} {H3:aA},(∀s,Wy id out H3 be s Qy H4)->rS P g id args H2 out H3:=fun {out H3} hr=>by
   refine KZ hm cS hlen ?_;unfold OA;rw[KS];refine eF (fun e s1 pI H1 he=>?_) hA2;obtain⟨rfl,rfl|⟨_,x,hx⟩,rfl,rfl⟩:=he;rotate_left
   . cases hx
   refine⟨rfl,k1,jl,hg,eF (fun e s1 pI H1 he=>?_) hB2⟩;obtain⟨rfl,_,rfl,rfl⟩:=he;exact hr _
  cases be with
  |normal=>obtain⟨rfl,k2,sn2,GD,hR⟩:=hq2;exact⟨_,_,hR,fin fun s=>⟨rfl,rfl,k2,sn2,GD,rfl⟩⟩
  |ret=>obtain⟨rfl,k2,sn2,GD,hR⟩:=hq2;exact⟨_,_,hR,fin fun s=>⟨rfl,rfl,k2,sn2,GD,rfl⟩⟩
  |exit i=>obtain⟨rfl,k2,sn2,GD,hR⟩:=hq2;exact⟨_,_,hR,fin fun s=>⟨rfl,rfl,k2,sn2,GD,rfl⟩⟩
  |panic v=>exact hq2.elim
 |_=>exact hq.elim
variable {r:List aZ} {f:cW} {ds:List fY} {H:aA} {Q:FQ}
theorem FE{d:Nat}{c:Arg}{id:Nat}{azs:List Arg}{args:List AV}{v:AV}{H':aA}(hd:d<n)(hc:nN g f c=.yield id)(ha:azs.map (nN g f)=args)
 (hS:rS P g id args H (.ret v) H') (h:bT P g n r (iZ f d v) ds H' Q):bT P g n (⟨some d,.call c azs,none⟩::r) f ds H Q:=by
 have :∀v,fM n f (some d) v=iZ f d v:=fun v=>by simp[fM,hd]
 unfold bT;simp only[gQ,if_true,this];exact⟨.ret v,H',.inr ⟨id,hc,by rw[ha];exact hS⟩,h⟩
theorem kg{c:Arg}{ps:List Nat}{MQ body:bR}{fid:FuncId}{fs cs:List AV}{v:AV}{He:aA}{k':KT}{s':List AV}{st:LSt}(hc:nN g f c=.func (.func fid) fs cs)
 (hS:Sound P g fid (fs++[.yield (H.next+1)]++cs) ((H.alloc .MV).alloc (.loop ⟨ps,MQ,body⟩ (LF n f) .ready)) (.ret v) He) (hl:He.get (H.next+1)=some (.loop k' s' st))
 (h:∀Hf,xE He (H.next+1) Hf->PT st f (.mark H.next::ds) Hf Q):FC P g n (.oJ c ps MQ body) f ds H Q:=by
 have dT:∃Hf,xE He (H.next+1) Hf:=⟨He.set (H.next+1) .dead,rfl,fun m=>by rw[aA.aC]⟩
 obtain⟨Hf,hf⟩:=dT;exact⟨fid,fs,cs,v,He,k',s',st,Hf,hc,hS,hl,hf,h Hf hf⟩
theorem FD{c:Arg}{ps:List Nat}{MQ body:bR}{fid:FuncId}{fs cs:List AV}(hc:nN g f c=.func (.func fid) fs cs)
 (h:∃v He k' s' st,Sound P g fid (fs++[.yield (H.next+1)]++cs) ((H.alloc .MV).alloc (.loop ⟨ps,MQ,body⟩ (LF n f) .ready)) (.ret v) He/\He.get (H.next+1)=some (.loop k' s' st)/\
   ∀Hf,xE He (H.next+1) Hf->PT st f (.mark H.next::ds) Hf Q):FC P g n (.oJ c ps MQ body) f ds H Q:=by
 obtain⟨v,He,k',s',st,h1,h2,h3⟩:=h;exact kg hc h1 h2 h3
theorem nD.iZ{n:Nat}{f:cW}(h:nD n f){d:Nat}(hd:d<n)(v:AV):nD n (iZ f d v):=fun t ht=>by rw[oO _ _ A0];exact h t ht
theorem aOg{c:bR}{f0:cW}{ds:List fY}{H0:aA}{Q:FQ}(hb:nD n f0)(h:∀f H,nD n f->f=f0->H=H0->FC P g n c f ds H Q):FC P g n c f0 ds H0 Q:=h _ _ hb rfl rfl
theorem cY{c:bR}{f0:cW}{ds:List fY}{H:aA}{Q:FQ}(h:∀f,f=f0->FC P g n c f ds H Q):FC P g n c f0 ds H Q:=h _ rfl
structure Over (H H':aA):Prop where
 le:H.next<=H'.next
 same:∀j,j<H.next->H'.get j=H.get j
theorem Over.refl(H:aA):Over H H:=⟨Ag _,fun _ _=>rfl⟩
theorem Over.alloc{H H':aA}(h:Over H H')(o:eY):Over H (H'.alloc o):=⟨by simp only[aA.bH];have :=h.le;omega,fun j hj=>by
 have :=h.le
 rw[aA.aI,if_neg A0];exact h.same j hj⟩
theorem Over.set{H H':aA}(h:Over H H'){id:Nat}(hid:H.next<=id)(o:eY):Over H (H'.set id o):=⟨by rw[aA.bA];exact h.le,fun j hj=>by rw[aA.aC,if_neg A0];exact h.same j hj⟩
end
end
attribute [local congr] aS
section
section
variable {P:Program} {g:bF} {n:Nat}
def aId(n c ix a b:Nat)(cs:List Nat)(ts B:bR):Bool:=
 Nat.blt c n&&Nat.blt ix n&&Nat.blt a n&&Nat.blt b n&& !Nat.beq a ix&& !Nat.beq b ix&& !Nat.beq b a&& !sP ix ts.wr&& !sP ix B.wr&&B.rJ&& !sP a cs&& !sP b cs&& !sP ix cs&&cs.all (fun t=> !sP t ts.wr)
def Rv(ix a b:Nat)(ts B:bR):List Nat:=a::b::ix::(ts.wr++B.wr)
theorem b7{id c ix a b:Nat}{op:BinOp}{dz:Int}{ts B:bR}{f:cW}{ds:List fY}{H:aA}{Q:FQ}(cs:List Nat)(J:Nat->List AV->aA->Prop)(val:Nat->Int)(N:Nat)
 (hs:aId n c ix a b cs ts B=true) (fP:∀i,i<N->qD op .i64 (val i) .i64 dz=some (.int .i64 (val (i+1))))
 (h1:f ix=.int .i64 (val 0)) (h0:J 0 (cs.map f) H)
 (test:∀(i:Nat) (f':cW) (H':aA),i<=N->jP (Rv ix a b ts B) f f'->f' ix=.int .i64 (val i)->J i (cs.map f') H'->FC P g n ts f' ds H' (gI (fun DC aAn HU=>aAn=ds/\HU=H'/\DC c=.bool (decide (i<N))) fun _ _ _ _=>False))
 (body:∀(i:Nat) (f':cW) (H':aA),i<N->jP (Rv ix a b ts B) f f'->f' ix=.int .i64 (val i)->J i (cs.map f') H'->FC P g n B f' ds H' (gI (fun DC _ HU=>J (i+1) (cs.map DC) HU) (dO id Q)))
 (done:∀(f':cW) (H':aA),jP (Rv ix a b ts B) f f'->J N (cs.map f') H'->Q .normal f' ds H'):
 FC P g n (.block id (.loop (.seq (.seq ts (.cond (.tmp c) .skip (.exit id))) (.seq B
  (.ops [⟨some a,.Lu (.tmp ix),none⟩,⟨some b,.bin op (.tmp a) (.const (.int .i64 dz)),none⟩,⟨some ix,.Lu (.tmp b),none⟩]))))) f ds H Q:=by
 simp only[aId,Ak,Cs,Gx,Bg] at hs;obtain⟨⟨⟨⟨⟨⟨⟨⟨⟨⟨⟨⟨⟨s1,s2⟩,s3⟩,s4⟩,s5⟩,s6⟩,s7⟩,t1⟩,b1⟩,b2⟩,c1⟩,c2⟩,c3⟩,c4⟩:=hs;have ne:∀{a b:Nat},Nat.beq a b=false->a≠b:=fun h e=>by subst e;simp at h
 have bLh:∀d∈ts.wr,d∈Rv ix a b ts B:=fun d hd=>by simp[Rv,hd]
 have bLg:∀d∈B.wr,d∈Rv ix a b ts B:=fun d hd=>by simp[Rv,hd]
 have kpU:∀{f':cW} {d:Nat} {v:AV},d∈Rv ix a b ts B->jP (Rv ix a b ts B) f f'->jP (Rv ix a b ts B) f (iZ f' d v):=fun {f' d v} hd hk t ht=>by have cG:t≠d:=fun e=>pQ.1 ht (by rw[e];exact hd);rw[oO _ _ cG];exact hk t ht
 refine aOh (id:=id) (c:=c) (fun i f' H'=>jP (Rv ix a b ts B) f f'/\f' ix=.int .i64 (val i)/\J i (cs.map f') H') N ⟨.aEd,h1,h0⟩ ?_ ?_ ?_
 . rintro i f' H' hi ⟨hk,e1,hj⟩ K hK Q';refine jI (fun e f2 Qy H2 hh=>?_) (HO (test i f' H' hi hk e1 hj));obtain⟨k1,k2,k3⟩:=hh
   cases e with
   |normal=>obtain⟨rfl,rfl,k4⟩:=k3;refine⟨rfl,rfl,hK _ k4 ⟨hk.trans (k1.sub bLh),by rw[k1 _ t1];exact e1,?_⟩⟩;have :cs.map f2=cs.map f':=El fun t ht=>k1 t (by simpa using c4 t ht);rw[this];exact hj
   |_=>exact k3.elim
 . rintro i f' H' hi ⟨hk,e1,hj⟩;refine jI (fun e f2 Qy H2 hh=>?_) (HO (body i f' H' hi hk e1 hj));obtain⟨k1,k2,k3⟩:=hh
   cases e with
   |normal=>obtain rfl:=k2 b2;refine⟨rfl,?_⟩;have e2:f2 ix=.int .i64 (val i):=(by rw[k1 _ b1];exact e1);have eW:=hk.trans (k1.sub bLg);rw[KR,HQ _ _ s3];simp only[dE,jK,e2,bQ];rw[AI _ _ _ _ s4];simp only[dE,jK,wP,rN,fP i hi,Cf,bQ];rw[HQ _ _ s2];simp only[dE,jK,bQ,wH,gE,rN];refine⟨trivial,kpU (by simp[Rv]) (kpU (by simp[Rv]) (kpU (by simp[Rv]) eW)),trivial,?_⟩;rw[JM c3,JM c2,JM c1];exact k3
   |_=>exact k3
 rintro f' H' ⟨hk,e1,hj⟩;exact done f' H' hk hj
theorem cP{id c ix a b:Nat}{ts B:bR}{f:cW}{ds:List fY}{H:aA}{Q:FQ}(cs:List Nat)(J:Nat->List AV->aA->Prop)(s N:Nat)(hsN:s<=N)(hN:N<2^63)
 (hs:aId n c ix a b cs ts B=true) (h1:f ix=.int .i64 s) (h0:J s (cs.map f) H)
 (test:∀(i:Nat) (f':cW) (H':aA),s<=i->i<=N->jP (Rv ix a b ts B) f f'->f' ix=.int .i64 i->J i (cs.map f') H'->FC P g n ts f' ds H' (gI (fun DC aAn HU=>aAn=ds/\HU=H'/\DC c=.bool (decide (i<N))) fun _ _ _ _=>False))
 (body:∀(i:Nat) (f':cW) (H':aA),s<=i->i<N->jP (Rv ix a b ts B) f f'->f' ix=.int .i64 i->J i (cs.map f') H'->FC P g n B f' ds H' (gI (fun DC _ HU=>J (i+1) (cs.map DC) HU) (dO id Q)))
 (done:∀(f':cW) (H':aA),jP (Rv ix a b ts B) f f'->J N (cs.map f') H'->Q .normal f' ds H'):
 FC P g n (.block id (.loop (.seq (.seq ts (.cond (.tmp c) .skip (.exit id))) (.seq B
  (.ops [⟨some a,.Lu (.tmp ix),none⟩,⟨some b,.bin .add (.tmp a) (.const (.int .i64 1)),none⟩,⟨some ix,.Lu (.tmp b),none⟩]))))) f ds H Q:=by
 refine b7 cs (fun i=>J (s+i)) (fun i=>((s+i:Nat):Int)) (N -s) hs (fun i hi=>?_) (by simpa using h1) (by simpa using h0) (fun i f' H' hi hk e1 hj=>?_) (fun i f' H' hi hk e1 hj=>?_) (fun f' H' hk hj=>?_)
 . simp only[qD,if_true];rw[wrap_i64 A0 A0];simp only[Ab,AV.int.injEq,Kh];omega
 . have h:=test (s+i) f' H' A0 A0 hk e1 hj
   rwa [show decide (s+i<N)=decide (i<N -s) from by rw[Bk];omega] at h
 . have h:=body (s+i) f' H' A0 A0 hk e1 hj
   rwa [Bh] at h
 have :s+(N -s)=N:=by omega
 simp only[this] at hj;exact done f' H' hk hj
theorem TL{id c ix a b:Nat}{ts B:bR}{f:cW}{ds:List fY}{H:aA}{Q:FQ}(cs:List Nat)(J:Nat->List AV->aA->Prop)(N:Nat)(hN:N<2^63)
 (hs:aId n c ix a b cs ts B=true) (h1:f ix=.int .i64 ((N:Int) -1)) (h0:J N (cs.map f) H)
 (test:∀(i:Nat) (f':cW) (H':aA),i<=N->jP (Rv ix a b ts B) f f'->f' ix=.int .i64 ((i:Int) -1)->J i (cs.map f') H'->FC P g n ts f' ds H' (gI (fun DC aAn HU=>aAn=ds/\HU=H'/\DC c=.bool (decide (0<i))) fun _ _ _ _=>False))
 (body:∀(i:Nat) (f':cW) (H':aA),i<N->jP (Rv ix a b ts B) f f'->f' ix=.int .i64 i->J (i+1) (cs.map f') H'->FC P g n B f' ds H' (gI (fun DC _ HU=>J i (cs.map DC) HU) (dO id Q)))
 (done:∀(f':cW) (H':aA),jP (Rv ix a b ts B) f f'->J 0 (cs.map f') H'->Q .normal f' ds H'):
 FC P g n (.block id (.loop (.seq (.seq ts (.cond (.tmp c) .skip (.exit id))) (.seq B
  (.ops [⟨some a,.Lu (.tmp ix),none⟩,⟨some b,.bin .sub (.tmp a) (.const (.int .i64 1)),none⟩,⟨some ix,.Lu (.tmp b),none⟩]))))) f ds H Q:=by
 refine b7 cs (fun i=>J (N -i)) (fun i=>((N -i:Nat):Int) -1) N hs (fun i hi=>?_) (by simpa using h1) (by simpa using h0) (fun i f' H' hi hk e1 hj=>?_) (fun i f' H' hi hk e1 hj=>?_) (fun f' H' hk hj=>?_)
 . simp only[qD,if_true];rw[wrap_i64 A0 A0];simp only[Ab,AV.int.injEq,Kh];omega
 . have h:=test (N -i) f' H' A0 hk e1 hj
   rwa [show decide (0<N -i)=decide (i<N) from by rw[Bk];omega] at h
 . have e:N -i=(N -(i+1))+1:=by omega
   have e1':f' ix=.int .i64 ((N -(i+1):Nat):Int):=(by rw[e1];congr 1;omega);have HI:J ((N -(i+1))+1) (cs.map f') H':=(by rw[<-e];exact hj);exact body (N -(i+1)) f' H' A0 hk e1' HI
 simp only[Nat.sub_self] at hj;exact done f' H' hk hj
end
end
theorem Qc{k:IntKind}(hs:k.signed=false)(x:Int):k.wrap x=x%2^k.bits:=by simp[IntKind.wrap,hs]
theorem vd{k:IntKind}(hs:k.signed=false)(x:Nat):k.wrap (x:Int)=((x%2^k.bits:Nat):Int):=by rw[Qc hs];simp
theorem ql(n x:Nat):BitVec.ofInt n (x:Int)=BitVec.ofNat n x:=by apply BitVec.eq_of_toNat_eq;simp[BitVec.toNat_ofInt]
theorem aHc{k:IntKind}(hs:k.signed=false){a b:Nat}(ha:a<2^k.bits)(hb:b<2^k.bits):tN .or k (a:Int) (b:Int)=some (.int k ((a|||b:Nat):Int)):=by
 have h:(BitVec.ofNat k.bits a|||BitVec.ofNat k.bits b).toNat=a|||b:=by rw[BitVec.toNat_or,Jy,Jy,Bn ha,Bn hb]
 simp only[tN,ql,h,vd hs];rw[Bn (Nat.or_lt_two_pow ha hb)]
end Go.Av
namespace Go.aD
section
variable {p:Nat->V} {N:Nat} {n:V} {d:Int}
instance:DecidableEq V:=fun a b=>match a,b with
 |⟨x,y,z⟩,⟨x',y',z'⟩=>if h:x=x'/\y=y'/\z=z' then .isTrue (by obtain⟨rfl,rfl,rfl⟩:=h;rfl) else .isFalse (fun e=>h (by cases e;exact⟨rfl,rfl,rfl⟩))
def fE(p:Nat->V)(i j k:Nat):V×Int:=(gD (aU (vec p i j) (vec p i k)),dot (gD (aU (vec p i j) (vec p i k))) (p i))
def iO(p:Nat->V)(i j k:Nat):List (V×Int):=
 if(fE p i j k).1=V0 then [] else [fE p i j k,(neg (fE p i j k).1,-(fE p i j k).2)]
theorem Sj:gD V0=V0:=by simp[gD,V0]
theorem yN{i j k:Nat}(hi:i<N)(hj:j<N)(hk:k<N){q:V×Int}(h:q∈iO p i j k)(le:∀k,k<N->dot q.1 (p k)<=q.2)(lt:∃k,k<N/\dot q.1 (p k)<q.2):nA p N q.1 q.2:=by
 unfold iO at h;split at h
 . cases h
 rename_i hz;have hc:aU (vec p i j) (vec p i k)≠V0:=fun e=>hz (by rw[fE,e,Sj]);simp only[Am,Cu,Fu] at h
 rcases h with rfl|rfl
 . exact wF.pq (a:=i) (b:=j) (c:=k) ⟨hc,.inl rfl⟩ hi hj hk le lt rfl
 refine wF.pq (a:=i) (b:=j) (c:=k) ⟨hc,.inr rfl⟩ hi hj hk le lt ?_;simp only[fE];rw[mS]
theorem gA(F:nA p N n d):∃i j k,k<j/\j<i/\i<N/\(n,d)∈iO p i j k:=by
 obtain⟨i,j,k,h1,h2,h3,hc,hd⟩:=F.down;refine⟨i,j,k,h1,h2,h3,?_⟩;have hz:¬(fE p i j k).1=V0:=jg hc.1;unfold iO;rw[if_neg hz]
 rcases hc.2 with e|e
 . rw[hd,e];exact Bc
 refine Aw _ (Am.2 (.inl ?_));rw[hd,e];simp only[fE];rw[mS]
def rQ(i j k a b c:Nat):Prop:=a<i\/(a=i/\(b<j\/(b=j/\c<k)))
def sE(p:Nat->V)(N:Nat)(i j k:Nat)(K:List (V×Int)):Prop:=
 ∀a b c,c<b->b<a->a<N->rQ i j k a b c->∀q∈iO p a b c,nA p N q.1 q.2->q∈K
theorem sE.zero:sE p N 0 0 0 []:=fun a b c _ _ _ h=>by unfold rQ at h;omega
theorem sE.down{i j:Nat}{K:List (V×Int)}(h:sE p N i j j K):sE p N i (j+1) 0 K:=fun a b c h1 h2 h3 hb q hq F=>h a b c h1 h2 h3 ZaL q hq F
theorem sE.next{i:Nat}{K:List (V×Int)}(h:sE p N i i 0 K):sE p N (i+1) 0 0 K:=fun a b c h1 h2 h3 hb q hq F=>h a b c h1 h2 h3 ZaL q hq F
theorem sE.step{i j k:Nat}{K K':List (V×Int)}(h:sE p N i j k K)(hs:∀q∈K,q∈K')(hn:∀q∈iO p i j k,nA p N q.1 q.2->q∈K'):sE p N i j (k+1) K':=fun a b c h1 h2 h3 hb q hq F=>by
 by_cases e:a=i/\b=j/\c=k
 . obtain⟨rfl,rfl,rfl⟩:=e;exact hn q hq F
 exact hs q (h a b c h1 h2 h3 ZaL q hq F)
theorem sE.all{K:List (V×Int)}(h:sE p N N 0 0 K)(hK:∀q∈K,nA p N q.1 q.2)(q:V×Int):q∈K↔nA p N q.1 q.2:=by refine⟨hK q,fun F=>?_⟩;obtain⟨i,j,k,h1,h2,h3,hc⟩:=gA F;exact h i j k h1 h2 h3 (.inl h3) q hc F
theorem Pw(P:V×Int->Prop):∀L:List (V×Int),∃K:List (V×Int),K.Nodup/\∀q,q∈K↔q∈L/\P q
 |[]=>⟨[],Lc,fun q=>by simp⟩
 |x::L=>by
  obtain⟨K,h1,h2⟩:=Pw P L;by_cases hx:P x/\x∉K
  . refine⟨x::K,Kq.2 ⟨hx.2,h1⟩,fun q=>?_⟩;simp only[Am,h2];constructor
    . rintro(rfl|⟨h3,h4⟩)
      . exact⟨.inl rfl,hx.1⟩
      exact⟨.inr h3,h4⟩
    rintro⟨rfl|h3,h4⟩
    . exact .inl rfl
    exact .inr ⟨h3,h4⟩
  refine⟨K,h1,fun q=>?_⟩;rw[h2];simp only[Am];constructor
  . rintro⟨h3,h4⟩;exact⟨.inr h3,h4⟩
  rintro⟨rfl|h3,h4⟩
  . exact(h2 q).1 (Cj fun hc=>hx ⟨h4,hc⟩)
  exact⟨h3,h4⟩
theorem vN{α:Type}(R:α->α->Prop)(tr:∀{a b c},R a b->R b c->R a c)(tot:∀a b,R a b\/R b a):∀l:List α,∃s:List α,s.Perm l/\s.Pairwise R
 |[]=>⟨[],List.Perm.refl _,List.Pairwise.nil⟩
 |x::l=>by
  obtain⟨s,h1,h2⟩:=vN R tr tot l
  have ins:∀s:List α,s.Pairwise R->∃t:List α,t.Perm (x::s)/\t.Pairwise R:=by
   intro s
   induction s with
   |nil=>exact fun _=>⟨[x],List.Perm.refl _,by simp⟩
   |cons y s ih=>
    intro hs;rw[Co] at hs
    rcases tot x y with h|h
    . refine⟨x::y::s,List.Perm.refl _,Co.2 ⟨fun z hz=>?_,Co.2 hs⟩⟩
      rcases Am.1 hz with rfl|hz
      . exact h
      exact tr h (hs.1 z hz)
    obtain⟨t,t1,t2⟩:=ih hs.2;refine⟨y::t,(List.Perm.cons y t1).trans (List.Perm.swap x y s),Co.2 ⟨fun z hz=>?_,t2⟩⟩
    rcases Am.1 (t1.mem_iff.1 hz) with rfl|hz
    . exact h
    exact hs.1 z hz
  obtain⟨t,t1,t2⟩:=ins s h2;exact⟨t,t1.trans (List.Perm.cons x h1),t2⟩
theorem oP.exists(p:Nat->V)(N:Nat):∃S,oP p N S:=by
 obtain⟨K,h1,h2⟩:=Pw (fun q=>nA p N q.1 q.2) ((List.range N).flatMap fun i=>(List.range N).flatMap fun j=>(List.range N).flatMap fun k=>iO p i j k)
 have hK:∀q,q∈K↔nA p N q.1 q.2:=fun q=>by rw[h2];refine⟨fun h=>h.2,fun F=>⟨?_,F⟩⟩;obtain⟨i,j,k,a1,a2,a3,hc⟩:=gA F;simp only[Ek,Az];exact⟨i,a3,j,by omega,k,by omega,hc⟩
 obtain⟨S,s1,s2⟩:=vN (fun a b:V×Int=>¬gV b.1 a.1) (fun {a b c} h h'=>by unfold gV at *;omega) (fun a b=>by unfold gV;omega) K;exact⟨S,oP.iy h1 hK s1 s2⟩
theorem rK{α:Type}:∀(l on:List α),l.Nodup->(∀x∈l,x∈on)->l.length<=on.length
 |[],_,_,_=>Bp _
 |x::l,on,hn,h=>by
  obtain⟨s,t,rfl⟩:=List.append_of_mem (h x Bc);rw[Kq] at hn
  have :=rK l (s++t) hn.2 fun y hy=>by
   have h1:=h y (Aw _ hy);simp only[Aq,Am] at h1 ⊢
   rcases h1 with h1|rfl|h1
   . exact .inl h1
   . exact absurd hy hn.1
   exact .inr h1
  simp only[Ap,As] at this ⊢;omega
theorem mJ{α β:Type}(f:α->List β)(m:Nat)(hf:∀x,(f x).length<=m):∀l:List α,(l.flatMap f).length<=l.length*m
 |[]=>by simp
 |x::l=>by have h1:=mJ f m hf l;have h2:=hf x;simp only[Ee,Ap,As,Bi,Eu];omega
theorem sX{K:List (V×Int)}(hn:K.Nodup)(hK:∀q∈K,nA p N q.1 q.2):K.length<=N*(N*(N*2)):=by
 have h1:=rK K ((List.range N).flatMap fun i=>(List.range N).flatMap fun j=>(List.range N).flatMap fun k=>iO p i j k) hn fun q hq=>by obtain⟨i,j,k,a1,a2,a3,hc⟩:=gA (hK q hq);simp only[Ek,Az];exact⟨i,a3,j,by omega,k,by omega,hc⟩
 have c:∀i j k,(iO p i j k).length<=2:=fun i j k=>by unfold iO;split<;>simp
 have h2:=mJ (fun i=>(List.range N).flatMap fun j=>(List.range N).flatMap fun k=>iO p i j k) (N*(N*2)) (fun i=>by
  have :=mJ (fun j=>(List.range N).flatMap fun k=>iO p i j k) (N*2) (fun j=>by
   have :=mJ (fun k=>iO p i j k) 2 (fun k=>c i j k) (List.range N)
   rwa [Bu] at this) (List.range N)
  rwa [Bu] at this) (List.range N)
 rw[Bu] at h2;omega
theorem Zl{js:List Nat}{n:Nat}(hn:js.Nodup)(hl:∀j∈js,j<n)(fL:∀j,j<n->j∈js):js.Perm (List.range n):=
 (List.perm_ext_iff_of_nodup hn List.nodup_range).2 fun a=>by rw[Az];exact⟨hl a,fL a⟩
theorem PW{α:Type}(l:List α)(d:α):(List.range l.length).map (fun j=>l.getD j d)=l:=by refine Fo A2 fun k h1 h2=>?_;simp[List.getD,h2]
end
end Go.aD
namespace Go.lP
def bZ:List Nat->Nat
 |[]=>0
 |d::l=>d+65536*bZ l
def DD(l:List Nat):Prop:=∀d∈l,d<65536
def nX:List Nat->List Nat
 |[]=>[]
 |d::l=>if nX l=[] then(if d=0 then [] else [d]) else d::nX l
def dg(n:Nat):List Nat:=if n=0 then [] else n%65536::dg (n / 65536)
termination_by n
decreasing_by omega
theorem uQ:dg 0=[]:=by unfold dg;rfl
theorem LJ{n:Nat}(h:n≠0):dg n=n%65536::dg (n / 65536):=by rw[dg,if_neg h]
theorem Tc{n:Nat}:dg n=[]↔n=0:=by
 constructor
 . intro h;refine Cj fun hn=>?_;rw[LJ hn] at h;cases h
 rintro rfl;exact uQ
theorem qY(n:Nat):bZ (dg n)=n:=by
 induction n using dg.induct with
 |case1=>rw[uQ];rfl
 |case2 n h ih=>rw[LJ h,bZ,ih];omega
theorem zL(n:Nat):DD (dg n):=by
 induction n using dg.induct with
 |case1=>rw[uQ];intro d hd;cases hd
 |case2 n h ih=>
  rw[LJ h];intro d hd
  rcases Am.1 hd with rfl|hd
  . omega
  exact ih d hd
theorem DD.tail{d:Nat}{l:List Nat}(h:DD (d::l)):DD l:=fun x hx=>h x (Aw _ hx)
theorem CN:∀{l:List Nat},DD l->nX l=dg (bZ l)
 |[],_=>by simp[nX,bZ,uQ]
 |d::l,h=>by
  have ih:=CN h.tail;have hd:=h d Bc;simp only[nX,ih,Tc,bZ];by_cases hv:bZ l=0
  . rw[if_pos hv,hv];by_cases Ou:d=0
    . subst Ou;simp[uQ]
    rw[if_neg Ou,LJ A0,show(d+65536*0)%65536=d by omega,show(d+65536*0) / 65536=0 by omega,uQ]
  rw[if_neg hv,LJ (n:=d+65536*bZ l) A0,show(d+65536*bZ l)%65536=d by omega,show(d+65536*bZ l) / 65536=bZ l by omega]
theorem qQ:∀{l:List Nat} {n:Nat},n<=l.length->(∀k,n<=k->k<l.length->l.getD k 0=0)->(n=0\/l.getD (n -1) 0≠0)->l.take n=nX l
 |[],n,_,_,_=>by simp[nX]
 |d::l,0,h,h1,_=>by
  have ih:=qQ (l:=l) (n:=0) (Bp _) (fun k _ hk=>by simpa using h1 (k+1) (Bp _) (by simpa using hk)) (.inl rfl);have hd:d=0:=by simpa using h1 0 (Bp _) A2
  rw[Fe] at ih;simp[nX,<-ih,hd]
 |d::l,n+1,h,h1,h2=>by
  have hn:n<=l.length:=by simpa using h
  have h1':∀k,n<=k->k<l.length->l.getD k 0=0:=fun k hk hl=>by simpa using h1 (k+1) A0 (by simpa using hl)
  cases n with
  |zero=>have ih:=qQ (l:=l) (n:=0) hn h1' (.inl rfl);have hd:d≠0:=(by simpa using h2);rw[Fe] at ih;simp[nX,<-ih,hd]
  |succ n=>
   have h2':l.getD n 0≠0:=(by simpa using h2);have ih:=qQ (l:=l) (n:=n+1) hn h1' (.inr (by simpa using h2'));have cG:l≠[]:=by rintro rfl;simp at hn
   have :¬nX l=[]:=by rw[<-ih];intro e;have hl:0<(l.take (n+1)).length:=(by rw[Dp];omega);rw[e] at hl;exact absurd hl (Ew 0)
   rw[nX,if_neg this,Ds,ih]
theorem Uj(l:List Nat):(nX l).length<=l.length:=by
 induction l with
 |nil=>simp[nX]
 |cons d l ih=>
  simp only[nX];split
  . split<;>simp
  simpa using ih
theorem Rl{k:Nat}:∀{n:Nat},n<65536^k->(dg n).length<=k:=by
 induction k with
 |zero=>intro n h;have :n=0:=by simpa using h
        subst this;simp[uQ]
 |succ k ih=>
  intro n h;by_cases hn:n=0
  . subst hn;simp[uQ]
  rw[LJ hn]
  have :n / 65536<65536^k:=by rw[Ch A1,<-Cw];exact h
  have :=ih this;simp only[As];omega
theorem DS:∀{l:List Nat},DD l->bZ l<65536^l.length
 |[],_=>by simp[bZ]
 |d::l,h=>by have ih:=DS h.tail;have hd:=h d Bc;rw[bZ,As,Cw];omega
theorem vE:∀(a b:List Nat),bZ (a++b)=bZ a+65536^a.length*bZ b
 |[],b=>by simp[bZ]
 |d::a,b=>by have ih:=vE a b;rw[Ge,bZ,ih,bZ,As,Cw,Da,Bx (65536^a.length) 65536,<-Bv,Bh]
theorem xZ{l:List Nat}{k:Nat}(h:k<l.length):bZ (l.take (k+1))=bZ (l.take k)+65536^k*l.getD k 0:=by
 rw[Ax,vE];have :(l.take k).length=k:=by simp;omega
 rw[this];simp[h,bZ]
theorem DD.take{l:List Nat}(h:DD l)(k:Nat):DD (l.take k):=fun d hd=>h d (De hd)
theorem DD.getD{l:List Nat}(h:DD l)(k:Nat):l.getD k 0<65536:=by
 by_cases hk:k<l.length
 . rw[Cl,Ac hk];exact h _ (Ah hk)
 rw[Cl,Bt A0];decide
theorem mY{l:List Nat}(h:DD l){k:Nat}(hk:k<=l.length):bZ (l.take k)<65536^k:=by
 have :=DS (h.take k)
 rwa [Dp,Ji hk] at this
theorem bGk:W=65536*65536:=rfl
theorem pow_even(m:Nat):65536^(2*m)=W^m:=by rw[bGk,Nat.pow_mul]
theorem pow_odd(m:Nat):65536^(2*m+1)=65536*W^m:=by rw[Cw,pow_even,Bx]
def nH(l:List Nat):List Nat:=l.flatMap fun w=>[w%65536,w / 65536]
theorem NG:∀l:List Nat,bZ (nH l)=tA l
 |[]=>rfl
 |w::l=>by have ih:=NG l;have e:nH (w::l)=w%65536::w / 65536::nH l:=rfl;rw[e,bZ,bZ,ih,tA,W];omega
theorem Rb:∀{l:List Nat},(∀w∈l,w<W)->DD (nH l)
 |[],_=>fun d hd=>by cases hd
 |w::l,h=>by
  have e:nH (w::l)=w%65536::w / 65536::nH l:=rfl;have hw:=h w Bc
  have lT:w / 65536<65536:=by have :W=65536*65536:=rfl;omega
  rw[e];intro d hd
  rcases Am.1 hd with rfl|hd
  . omega
  rcases Am.1 hd with rfl|hd
  . exact lT
  exact Rb (fun w hw=>h w (Aw _ hw)) d hd
theorem Lq{v X m:Nat}(hm:m<16)(hv:v<W^16)(hx:aJ v m+X<W):(aL 16 v).set m (aJ v m+X)=aL 16 (v+X*W^m):=by have hl:LW 16 (aL 16 v):=⟨bP _ _,BQ⟩;have h1:=(hl.set m hx).eq;have h2:=uY (aL 16 v) m (aJ v m+X) (by rw[bP];exact hm);rw[jD hm,eD hv,Bi] at h2;rw[h1];congr 1;omega
theorem ZP{v m c:Nat}(h:v<c*W^m):aJ v m<c/\v / W^m<c:=by have :v / W^m<c:=(Ch (dR m)).2 h;exact⟨Ce (Nat.mod_le _ _) this,this⟩
theorem XS{a b:List Nat}(ha:DD a)(hb:DD b){k:Nat}(h:bZ (a.drop (k+1))=bZ (b.drop (k+1)))(dT:a.getD k 0<b.getD k 0):bZ a<bZ b:=by
 have split:∀(l:List Nat),DD l->∃r,r<65536^k/\bZ l=r+65536^k*(l.getD k 0+65536*bZ (l.drop (k+1))):=fun l hl=>by
  by_cases hk:k<l.length
  . refine⟨bZ (l.take k),mY hl A0,?_⟩
    have e:l=l.take k++(l.getD k 0::l.drop (k+1)):=by have :l.getD k 0=l[k]:=(by simp[List.getD,hk]);rw[this,<-Ef hk,Ht]
    have nB:(l.take k).length=k:=by simp;omega
    conv=>lhs;rw[e]
    rw[vE,nB,bZ]
  refine⟨bZ l,?_,?_⟩
  . exact Bj (DS hl) (Ck A1 A0)
  rw[Cl,Bt A0,Bo A0];simp[bZ]
 obtain⟨r,h1,e1⟩:=split a ha;obtain⟨s,h2,e2⟩:=split b hb;rw[e1,e2,h];generalize bZ (b.drop (k+1))=t at *;have :a.getD k 0+65536*t+1<=b.getD k 0+65536*t:=by omega
 have :=Dj (65536^k) this;rw[Da,Dc] at this;omega
theorem Um{a b:List Nat}{k:Nat}(h:bZ (a.drop (k+1))=bZ (b.drop (k+1)))(he:a.getD k 0=b.getD k 0):bZ (a.drop k)=bZ (b.drop k):=by
 have split:∀(l:List Nat),bZ (l.drop k)=l.getD k 0+65536*bZ (l.drop (k+1)):=fun l=>by
  by_cases hk:k<l.length
  . rw[Ef hk,bZ];simp[List.getD,hk]
  rw[Bo A0,Bo A0,Cl,Bt A0];simp[bZ]
 rw[split,split,h,he]
theorem ur{a b:List Nat}{k c v:Nat}(h:v+65536^k*c=bZ (a.take k)+bZ (b.take k)):
 v+65536^k*((a.getD k 0+b.getD k 0+c)%65536)+65536^(k+1)*((a.getD k 0+b.getD k 0+c) / 65536)=bZ (a.take (k+1))+bZ (b.take (k+1)):=by
 have tk:∀l:List Nat,bZ (l.take (k+1))=bZ (l.take k)+65536^k*l.getD k 0:=fun l=>by
  by_cases hk:k<l.length
  . exact xZ hk
  rw[Bb A0,Bb A0,Cl,Bt A0];simp
 rw[tk,tk,Cw,Bv];generalize hx:a.getD k 0+b.getD k 0+c=x;have e:65536^k*(x%65536)+65536^k*(65536*(x / 65536))=65536^k*x:=by rw[<-Da,Jg]
 have e2:65536^k*x=65536^k*a.getD k 0+65536^k*b.getD k 0+65536^k*c:=by rw[<-hx,Da,Da]
 omega
end Go.lP
namespace Go.aD
section
variable {p:Nat->V} {N:Nat}
theorem mz(p:Nat->V)(a b c:Nat):aU (vec p c b) (vec p c a)=neg (aU (vec p a b) (vec p a c)):=by simp only[vec,aU,sub,neg];apply V.ext'<;>simp only <;>grind
theorem Vf(u w:V):dot (aU u w) w=0:=by simp only[dot,aU];grind
theorem Qw{u w:V}(h:dot u w=0):dot (gD u) w=0:=by
 by_cases hu:u=V0
 . subst hu;rw[Sj];simp[dot,V0]
 have h1:=AZ u w;rw[h] at h1;exact eJ (c:=(fG u:Int)) (by have :=rO hu;omega) h1
theorem Zm(p:Nat->V)(a b c:Nat):fE p c b a=(neg (fE p a b c).1,-(fE p a b c).2):=by unfold fE;rw[mz p a b c,JW,mS];have h:=Qw (Vf (vec p a b) (vec p a c));rw[iJ] at h;rw[show dot (gD (aU (vec p a b) (vec p a c))) (p c)=dot (gD (aU (vec p a b) (vec p a c))) (p a) by omega]
theorem mc{a b c:Nat}{q:V×Int}(h:q∈iO p c b a):q∈iO p a b c:=by
 unfold iO at h ⊢;rw[Zm] at h;split at h
 . cases h
 rename_i hz;rw[if_neg (fun e=>hz (by rw[e];rfl))];simp only[Am,Cu,Fu,neg_neg,Int.neg_neg] at h ⊢
 rcases h with h|h
 . exact .inr h
 exact .inl h
def iQ(p:Nat->V)(N:Nat)(i j k:Nat)(K:List (V×Int)):Prop:=
 ∀a b c,a<b->b<c->c<N->rQ i j k a b c->∀q∈iO p a b c,nA p N q.1 q.2->q∈K
theorem iQ.zero:iQ p N 0 0 0 []:=fun a b c _ _ _ h=>by unfold rQ at h;omega
theorem iQ.j0{i:Nat}{K:List (V×Int)}(h:iQ p N i 0 0 K):iQ p N i (i+1) 0 K:=fun a b c h1 h2 h3 hb q hq F=>h a b c h1 h2 h3 ZaL q hq F
theorem iQ.k0{i j:Nat}{K:List (V×Int)}(h:iQ p N i j 0 K):iQ p N i j (j+1) K:=fun a b c h1 h2 h3 hb q hq F=>h a b c h1 h2 h3 ZaL q hq F
theorem iQ.kN{i j:Nat}{K:List (V×Int)}(h:iQ p N i j N K):iQ p N i (j+1) 0 K:=fun a b c h1 h2 h3 hb q hq F=>h a b c h1 h2 h3 ZaL q hq F
theorem iQ.jN{i:Nat}{K:List (V×Int)}(h:iQ p N i N 0 K):iQ p N (i+1) 0 0 K:=fun a b c h1 h2 h3 hb q hq F=>h a b c h1 h2 h3 ZaL q hq F
theorem iQ.step{i j k:Nat}{K K':List (V×Int)}(h:iQ p N i j k K)(hs:∀q∈K,q∈K')(hn:∀q∈iO p i j k,nA p N q.1 q.2->q∈K'):iQ p N i j (k+1) K':=fun a b c h1 h2 h3 hb q hq F=>by
 by_cases e:a=i/\b=j/\c=k
 . obtain⟨rfl,rfl,rfl⟩:=e;exact hn q hq F
 exact hs q (h a b c h1 h2 h3 ZaL q hq F)
theorem iQ.all{K:List (V×Int)}(h:iQ p N N 0 0 K)(hK:∀q∈K,nA p N q.1 q.2)(q:V×Int):q∈K↔nA p N q.1 q.2:=by refine⟨hK q,fun F=>?_⟩;obtain⟨i,j,k,h1,h2,h3,hc⟩:=gA F;exact h k j i h1 h2 h3 (.inl A0) q (mc hc) F
end
section
variable {p:Nat->V} {N:Nat}
def okF(p:Nat->V)(N:Nat)(q:V×Int):Bool:=((List.range N).all fun k=>decide (dot q.1 (p k)<=q.2))&&(List.range N).any fun k=>decide (dot q.1 (p k)<q.2)
theorem ja{q:V×Int}:okF p N q=true↔(∀k,k<N->dot q.1 (p k)<=q.2)/\∃k,k<N/\dot q.1 (p k)<q.2:=by simp only[okF,Ak,Bg,Cv,Az,Bf]
def ltV(a b:V):Bool:=decide (a.x<b.x)||(decide (a.x=b.x)&&(decide (a.y<b.y)||(decide (a.y=b.y)&&decide (a.z<b.z))))
theorem gq{a b:V}:ltV a b=true↔gV a b:=by simp only[ltV,gV,Dq,Ak,Bf]
def aLj:List (V×Int)->Bool
 |[]=>true
 |q::r=>(r.all fun x=>ltV q.1 x.1)&&aLj r
theorem jo:∀{S:List (V×Int)},aLj S=true->S.Pairwise fun a b=>gV a.1 b.1
 |[],_=>.nil
 |q::r,h=>by simp only[aLj,Ak,Bg] at h;exact Co.2 ⟨fun x hx=>gq.1 (h.1 x hx),jo h.2⟩
def NL(p:Nat->V)(N:Nat)(S:List (V×Int)):Bool:=
 aLj S&&(S.all fun q=>okF p N q&&(List.range N).any fun i=>(List.range i).any fun j=>(List.range j).any fun k=>(iO p i j k).contains q)&&
 ((List.range N).all fun i=>(List.range i).all fun j=>(List.range j).all fun k=>(iO p i j k).all fun q=> !okF p N q||S.contains q)
theorem yG{S:List (V×Int)}(h:NL p N S=true):oP p N S:=by
 simp only[NL,Ak] at h;obtain⟨⟨h1,h2⟩,h3⟩:=h;refine⟨fun q=>⟨fun hq=>?_,fun hF=>?_⟩,jo h1⟩
 . have :=Bg.1 h2 q hq;simp only[Ak,Cv,Az] at this;obtain⟨ho,i,hi,j,hj,k,hk,hc⟩:=this;obtain⟨le,lt⟩:=ja.1 ho;exact yN (i:=i) (j:=j) (k:=k) hi A0 A0 (by simpa using hc) le lt
 obtain⟨i,j,k,hk,hj,hi,hc⟩:=gA hF;simp only[Bg,Az] at h3;have :=h3 i hi j hj k hk q hc;rw[ja.2 ⟨hF.le,hF.lt⟩] at this;simpa using this
def aDo(on:List Nat)(f:Nat->Nat):List Nat:=match on with
 |[]=>[]
 |s::_=>(List.range (match (List.range on.length).find? (fun i=>iter f (i+1) s==s) with|some i=>i+1|none=>0)).map fun i=>iter f i s
theorem aKn{n:V}{d:Int}{L:List Nat}(h:Poly p N n d L):L=aDo (gC p N n d) (sH n p (gC p N n d)):=by
 obtain⟨s,r,m,e,W,rfl⟩:=h.ex
 have Mh:(List.range (gC p N n d).length).find? (fun i=>iter (sH n p (gC p N n d)) (i+1) s==s)=some (m -1):=by have hp:=W.pos;have hle:=W.le;rw[List.find?_eq_some_iff_getElem];refine⟨by rw[show m -1+1=m by omega,Dh];exact W.back,m -1,by rw[Bu];omega,by rw[Ij],fun j hj=>?_⟩;rw[Ij];have :=W.first (j+1) A0 A0;simpa using this
 unfold aDo;generalize hf:sH n p (gC p N n d)=f at *;generalize gC p N n d=on at *;subst e;simp only;rw[Mh];have hp:=W.pos;rw[show(match some (m -1) with|some i=>i+1|none=>0)=m from by show m -1+1=m;omega]
end
end Go.aD
namespace Go.lP
def jx(w n k:Nat):Nat:=w%W^k*2^n / W^k
theorem aFk(w n:Nat):jx w n 0=0:=by simp[jx,Jc]
theorem aFi(w n k:Nat):jx w n k<2^n:=by unfold jx;rw[Ch (dR k),Bx];exact Nat.mul_lt_mul_of_pos_left (Bz _ (dR k)) (Gp A1)
theorem aLp{w n k:Nat}(h:w<W^k):jx w n k=w*2^n / W^k:=by unfold jx;rw[Bn h]
theorem XP(w n k:Nat):w%W^(k+1)*2^n / W^k=jx w n k+aJ w k*2^n:=by unfold jx;rw[mod_succ,Bi,Bv,Fx _ _ (dR k)]
theorem aFj(w n k:Nat):(jx w n k+aJ w k*2^n) / W=jx w n (k+1):=by rw[<-XP,Dw,<-Cw];rfl
theorem aJd(w n k:Nat):aJ (w*2^n) k=(jx w n k+aJ w k*2^n)%W:=by
 rw[<-XP];unfold aJ
 have e:w*2^n=w%W^(k+1)*2^n+W^k*(W*(w / W^(k+1)*2^n)):=by
  conv=>lhs;rw[<-Jg w (W^(k+1))]
  rw[Bi,Cw];simp only[Bv]
 rw[e,Fx _ _ (dR k),Nat.add_mul_mod_self_left]
theorem aMb(n:Nat)(h:n<=32):W=2^n*2^(32 -n):=by rw[<-Ez,show n+(32 -n)=32 by omega];rfl
theorem pt(w n k:Nat)(h:n<=32):aJ (w / 2^n) k=(aJ w (k+1)*W+aJ w k) / 2^n%W:=by
 have h2:0<2^n:=Gp A1;have e:w / W^k=(w / W^(k+1+1)*W+aJ w (k+1))*W+aJ w k:=by rw[<-mG w (k+1),<-mG w k]
 show w / 2^n / W^k%W=_;rw[Dw,Bx,<-Dw,e,Bi,Bh];generalize w / W^(k+1+1)=x;generalize aJ w (k+1)*W+aJ w k=y
 have e3:x*W*W=2^n*(W*(x*2^(32 -n))):=by
  have e4:x*W*W=W*(x*W):=by rw[Bx W]
  have e5:x*W=x*(2^n*2^(32 -n)):=by rw[<-aMb n h]
  rw[e4,e5];simp only[It]
 rw[e3,Nat.mul_add_div h2,Nat.mul_add_mod]
def gsD(t2 t1 t0 v1 v2:Nat):Nat:=min (W -1) ((t2*W*W+t1*W+t0) / (v1*W+v2))
theorem aBc{t2 t1 t0 v1 v2:Nat}(hv:0<v1)(h0:t0<W):gsD t2 t1 t0 v1 v2<=(t2*W+t1) / v1:=by
 refine By (Nat.min_le_right _ _) ?_;have hW:=oQ;have hV:0<v1*W+v2:=by have :=Il hv hW;omega
 rw[Nat.le_div_iff_mul_le hv];have h1:=Jk (t2*W*W+t1*W+t0) (v1*W+v2);generalize (t2*W*W+t1*W+t0) / (v1*W+v2)=x at *;rw[Da,<-Bv] at h1;have h2:x*v1*W<(t2*W+t1+1)*W:=by rw[Bi,Bi,Eu];omega
 have :=Nat.lt_of_mul_lt_mul_right h2;omega
theorem ee{t2 t1 t0 v1 v2 d r:Nat}(hv:0<v1)(he:d*v1+r=t2*W+t1)(hc:W<=d\/r*W+t0<d*v2):gsD t2 t1 t0 v1 v2<d:=by
 have hW:=oQ
 rcases hc with hc|hc
 . exact Ce (Jh _ _) A0
 refine Ce (Nat.min_le_right _ _) ?_;have hV:0<v1*W+v2:=by have :=Il hv hW;omega
 rw[Ch hV,<-Bi,<-he,Da,<-Bv,Bi];omega
theorem aBb{t2 t1 t0 v1 v2 d r:Nat}(hv:0<v1)(h1:t1<W)(h2:v2<W)(ht:t2<=v1)(he:d*v1+r=t2*W+t1)(hg:gsD t2 t1 t0 v1 v2<=d)(hc:W<=r\/d<W/\d*v2<=r*W+t0):d=gsD t2 t1 t0 v1 v2:=by
 have hW:=oQ;have hV:0<v1*W+v2:=by have :=Il hv hW;omega
 refine Nat.le_antisymm ?_ hg
 have key:d<W/\d*v2<=r*W+t0:=by
  rcases hc with hc|hc
  . have hd:d<W:=by
     have :d*v1<W*v1:=(by have :=Bq W ht;rw[Bx v1] at this;omega);exact Nat.lt_of_mul_lt_mul_right this
    refine⟨hd,?_⟩;have a1:d*v2<=W*W:=Ba (Nat.le_of_lt hd) (Nat.le_of_lt h2);have a2:W*W<=r*W:=Bq W hc;omega
  exact hc
 refine Nat.le_min.2 ⟨by omega,?_⟩;rw[Nat.le_div_iff_mul_le hV,<-Bi,<-he,Da,<-Bv,Bi];omega
theorem xH{u k:Nat}(h:u<W^(k+1)):aJ u k=u / W^k:=by unfold aJ;exact Bn (by rw[Ch (dR k),Bx,<-Cw];exact h)
theorem aTk{u n j:Nat}(hn:2<=n)(hu:u<W^(j+n+1)):aJ u (j+n)*W*W+aJ u (j+n -1)*W+aJ u (j+n -2)=u / W^(j+n -2):=by have e1:=mG u (j+n -2);have e2:=mG u (j+n -1);rw[show j+n -2+1=j+n -1 by omega] at e1;rw[show j+n -1+1=j+n by omega,<-xH hu] at e2;rw[e1,e2,Bi]
theorem aIk{v n:Nat}(hn:2<=n)(hv:v<W^n):aJ v (n -1)*W+aJ v (n -2)=v / W^(n -2):=by
 have e1:=mG v (n -2);have e2:n -2+1=n -1:=by omega
 have lB:v<W^(n -1+1):=by rw[show n -1+1=n by omega];exact hv
 rw[e2,<-xH lB] at e1;exact e1.symm
theorem aYn{u v n j:Nat}(hn:2<=n)(hv:v<W^n)(yL:W^(n -1)<=v)(hu:u<v*W^(j+1)):
 u / (v*W^j)<=gsD (aJ u (j+n)) (aJ u (j+n -1)) (aJ u (j+n -2)) (aJ v (n -1)) (aJ v (n -2))/\
 gsD (aJ u (j+n)) (aJ u (j+n -1)) (aJ u (j+n -2)) (aJ v (n -1)) (aJ v (n -2))<=u / (v*W^j)+1/\aJ u (j+n)<=aJ v (n -1)/\0<aJ v (n -1)/\u<W^(j+n+1):=by
 have hul:u<W^(j+n+1):=by refine Bj hu ?_;rw[show j+n+1=n+(j+1) by omega,Ez W n (j+1)];exact Bq _ (Nat.le_of_lt hv)
 have hvp:0<v:=Bj (dR _) yL;have hvj:0<v*W^j:=Il hvp (dR j);have hl:aJ v (n -1)=v / W^(n -1):=xH (by rw[show n -1+1=n by omega];exact hv)
 have hq:u / (v*W^j)<W:=by rw[Ch hvj,Bx W,Bv,<-Cw];exact hu
 have hqu:=Jk u (v*W^j);have pw:W^(n -2)*W^j=W^(j+n -2):=by rw[<-Ez];congr 1;omega
 unfold gsD;rw[aTk hn hul,aIk hn hv];have hV2:v / W^(n -2)*W^(n -2)<=v:=Jk _ _;have hV3:=Nat.lt_div_mul_add (dR (n -2)) (a:=v);have hVp:0<v / W^(n -2):=Kc (By (Ck oQ A0) yL) (dR _);refine⟨Nat.le_min.2 ⟨by omega,?_⟩,?_,?_,?_,hul⟩
 . rw[Nat.le_div_iff_mul_le hVp,Nat.le_div_iff_mul_le (dR _)];refine By ?_ hqu;rw[<-pw,Bv,<-Bv _ (W^(n -2))];exact Dj _ (Bq _ hV2)
 . generalize hg:min (W -1) (u / W^(j+n -2) / (v / W^(n -2)))=g;have g1:g<=W -1:=by rw[<-hg];exact Jh _ _
   have g2:g*(v / W^(n -2))<=u / W^(j+n -2):=by rw[<-Nat.le_div_iff_mul_le hVp,<-hg];exact Nat.min_le_right _ _
   rw[Nat.le_div_iff_mul_le (dR _),<-pw,Bv,<-Bv _ (W^(n -2))] at g2;generalize v / W^(n -2)*W^(n -2)=V at *
   have a1:g*(v*W^j)<=g*(V*W^j)+g*(W^(n -2)*W^j):=by rw[<-Da,<-Bi];exact Dj _ (Bq _ (Nat.le_of_lt hV3))
   have a2:g*(W^(n -2)*W^j)<=v*W^j:=by rw[<-Bv];refine Bq _ (By ?_ yL);have :W^(n -1)=W*W^(n -2):=(by rw[<-Ke];congr 1;omega);rw[this];exact Bq _ A0
   have a3:(g -1)*(v*W^j)<=u:=(by rw[Nat.sub_mul,Eu];omega);have :=(Nat.le_div_iff_mul_le hvj).2 a3;omega
 . have hlu:aJ u (j+n)=u / W^(j+n):=xH hul;rw[hlu,hl];have h1:=Nat.lt_div_mul_add (dR (n -1)) (a:=v)
   have :u / W^(j+n)<v / W^(n -1)+1:=by rw[Ch (dR _)];refine Bj hu ?_;have e0:W^(j+n)=W^(n -1)*W^(j+1):=(by rw[<-Ez];congr 1;omega);rw[e0,<-Bv,Bi,Eu];exact Bq _ (Nat.le_of_lt h1)
   omega
 rw[hl];exact Kc yL (dR _)
def kr(o:List Nat)(u p:Nat):Prop:=∀k,p<=k->o.getD k 0=aJ u k
theorem kr.set{o:List Nat}{u p d:Nat}(h:kr o u p)(hp:p<o.length):kr (o.set p d) u (p+1):=fun k hk=>by rw[Vt hp,if_neg A0];exact h k A0
theorem kr.lt{m:Nat}{o:List Nat}{u p:Nat}(ho:LW m o)(h:kr o u p)(hu:u<W^p):tA o<W^p:=by refine GL ho.lt fun k h1 h2=>?_;rw[ho.aJ,h k h1];exact xG hu h1
theorem QQ{p x:Nat}:x / W*W^(p+1)+x%W*W^p=x*W^p:=by rw[Cw,Bx (W^p),<-Bv,<-Bi,Bx (x / W),Eh]
def ju(x lo b:Nat):Nat:=if x<lo+b then x+W -lo -b else x -lo -b
def Ug(x lo b:Nat):Nat:=if x<lo+b then 1 else 0
theorem aFd{x lo b:Nat}(hx:x<W)(h:lo+b<=W):ju x lo b+lo+b=x+Ug x lo b*W/\ju x lo b<W/\Ug x lo b<=1:=by unfold ju Ug;split<;>refine⟨?_,?_,?_⟩<;>omega
theorem um{o:List Nat}{u v d i j c b:Nat}(ho:LW 17 o)(hp:j+i<17)(hb:b<=1)(hT:kr o u (j+i))
 (he:tA o+d*(v%W^i)*W^j=u+(c+b)*W^(j+i)):
 let cc:=c+d*aJ v i;let lo:=cc%W;let o':=o.set (j+i) (ju (aJ u (j+i)) lo b)
 LW 17 o'/\kr o' u (j+(i+1))/\tA o'+d*(v%W^(i+1))*W^j=u+(cc / W+Ug (aJ u (j+i)) lo b)*W^(j+(i+1)):=by
 intro cc lo o';have Qj:lo<W:=Bz _ oQ;obtain⟨e1,e2,e3⟩:=aFd (cU u (j+i)) (lo:=lo) (b:=b) A0;refine⟨ho.set _ e2,hT.set ZaW,?_⟩;have h1:=uY o (j+i) (ju (aJ u (j+i)) lo b) ZaW;rw[hT _ (Ag _)] at h1;have h2:cc / W*W^(j+i+1)+lo*W^(j+i)=cc*W^(j+i):=QQ
 have h3:d*(v%W^(i+1))*W^j=d*(v%W^i)*W^j+d*aJ v i*W^(j+i):=by rw[mod_succ,Da,Bi,Ez];simp only[Bx,It,Bv]
 have h4:cc*W^(j+i)=c*W^(j+i)+d*aJ v i*W^(j+i):=Bi ..;have h5:(ju (aJ u (j+i)) lo b+lo+b)*W^(j+i)=(aJ u (j+i)+Ug (aJ u (j+i)) lo b*W)*W^(j+i):=by rw[e1]
 have h6:Ug (aJ u (j+i)) lo b*W*W^(j+i)=Ug (aJ u (j+i)) lo b*W^(j+i+1):=by rw[Bv,<-Ke]
 rw[<-Bh j i 1];simp only[Bi] at h5 he ⊢;show tA (o.set _ _)+_=_;omega
def tkN(u v n j d:Nat):Nat:=if d*v*W^j<=u then u -d*v*W^j else u+W^(j+n+1) -d*v*W^j
theorem aFa{o:List Nat}{u v d n j c b:Nat}(ho:LW 17 o)(hp:j+n<17)(hb:c+b<=W)(hT:kr o u (j+n))(hv:v<W^n)(hu:u<W^(j+n+1))
 (he:tA o+d*(v%W^n)*W^j=u+(c+b)*W^(j+n)):
 o.set (j+n) (ju (aJ u (j+n)) c b)=aL 17 (tkN u v n j d)/\(Ug (aJ u (j+n)) c b=1↔u<d*v*W^j)/\tkN u v n j d<W^(j+n+1):=by
 obtain⟨e1,e2,e3⟩:=aFd (cU u (j+n)) hb;have ZF:=ho.set (j+n) e2;have h1:=uY o (j+n) (ju (aJ u (j+n)) c b) ZaW;rw[hT _ (Ag _)] at h1;rw[Bn hv] at he;have hT':=hT.set (d:=ju (aJ u (j+n)) c b) ZaW;have dT:=hT'.lt ZF hu;have h5:(ju (aJ u (j+n)) c b+c+b)*W^(j+n)=(aJ u (j+n)+Ug (aJ u (j+n)) c b*W)*W^(j+n):=by rw[e1]
 have h6:Ug (aJ u (j+n)) c b*W*W^(j+n)=Ug (aJ u (j+n)) c b*W^(j+n+1):=by rw[Bv,<-Ke]
 simp only[Bi] at h5 he;have key:tA (o.set (j+n) (ju (aJ u (j+n)) c b))+d*v*W^j=u+Ug (aJ u (j+n)) c b*W^(j+n+1):=by omega
 have hN:tA (o.set (j+n) (ju (aJ u (j+n)) c b))=tkN u v n j d/\(Ug (aJ u (j+n)) c b=1↔u<d*v*W^j):=by
  unfold tkN
  rcases En 0 (Ug (aJ u (j+n)) c b) with h|h
  . rw[show Ug (aJ u (j+n)) c b=1 by omega,Eu] at key;rw[if_neg A0];exact⟨by omega,by omega⟩
  rw[show Ug (aJ u (j+n)) c b=0 by omega,Hk] at key;rw[if_pos A0];exact⟨by omega,by omega⟩
 exact⟨by rw[<-hN.1];exact ZF.eq,hN.2,by rw[<-hN.1];exact dT⟩
theorem oe{o:List Nat}{u v i j c:Nat}(ho:LW 17 o)(hp:j+i<17)(hT:kr o u (j+i))
 (he:tA o+c*W^(j+i)=u+v%W^i*W^j):
 let s:=aJ u (j+i)+aJ v i+c;let o':=o.set (j+i) (s%W)
 LW 17 o'/\kr o' u (j+(i+1))/\tA o'+s / W*W^(j+(i+1))=u+v%W^(i+1)*W^j:=by
 intro s o';refine⟨ho.set _ (Bz _ oQ),hT.set ZaW,?_⟩;have h1:=uY o (j+i) (s%W) ZaW;rw[hT _ (Ag _)] at h1;have h2:s / W*W^(j+i+1)+s%W*W^(j+i)=s*W^(j+i):=QQ
 have h3:v%W^(i+1)*W^j=v%W^i*W^j+aJ v i*W^(j+i):=by rw[mod_succ,Bi,Ez];simp only[Bx,It,Bv]
 have h4:s*W^(j+i)=aJ u (j+i)*W^(j+i)+aJ v i*W^(j+i)+c*W^(j+i):=by rw[<-Bi,<-Bi]
 rw[<-Bh j i 1];show tA (o.set _ _)+_=_;omega
theorem aBa{o:List Nat}{u v n j c:Nat}(ho:LW 17 o)(hp:j+n<17)(hT:kr o u (j+n))(hv:v<W^n)(hu:u<W^(j+n+1))
 (he:tA o+c*W^(j+n)=u+v%W^n*W^j):
 o.set (j+n) ((aJ u (j+n)+c)%W)=aL 17 ((u+v*W^j)%W^(j+n+1)):=by
 have ZF:=ho.set (j+n) (d:=(aJ u (j+n)+c)%W) (Bz _ oQ);have h1:=uY o (j+n) ((aJ u (j+n)+c)%W) ZaW;rw[hT _ (Ag _)] at h1;rw[Bn hv] at he;have hT':=hT.set (d:=(aJ u (j+n)+c)%W) ZaW;have dT:=hT'.lt ZF hu;have h2:(aJ u (j+n)+c) / W*W^(j+n+1)+(aJ u (j+n)+c)%W*W^(j+n)=(aJ u (j+n)+c)*W^(j+n):=QQ;rw[Bi] at h2;have key:u+v*W^j=tA (o.set (j+n) ((aJ u (j+n)+c)%W))+(aJ u (j+n)+c) / W*W^(j+n+1):=by omega
 rw[key,Nat.add_mul_mod_self_right,Bn dT];exact ZF.eq
theorem aDu{A v n j:Nat}(hn:2<=n)(hv:v<W^n)(yL:W^(n -1)<=v):
 let u:=A%(v*W^(j+1));let d:=gsD (aJ u (j+n)) (aJ u (j+n -1)) (aJ u (j+n -2)) (aJ v (n -1)) (aJ v (n -2))
 (d*v*W^j<=u->u -d*v*W^j=A%(v*W^j)/\d=aJ (A / v) j)/\
 (u<d*v*W^j->(u+W^(j+n+1) -d*v*W^j+v*W^j)%W^(j+n+1)=A%(v*W^j)/\0<d/\d -1=aJ (A / v) j):=by
 intro u d;have hvp:0<v:=Bj (dR _) yL;have hvj:0<v*W^j:=Il hvp (dR j);have hu:u<v*W^(j+1):=Bz _ (Il hvp (dR _));obtain⟨g1,g2,g3,g4,g5⟩:=aYn hn hv yL hu
 have eq:u / (v*W^j)=aJ (A / v) j:=by show A%(v*W^(j+1)) / (v*W^j)=_;rw[Cw,<-Bv,Nat.mod_mul_right_div_self,<-Dw];rfl
 have er:u%(v*W^j)=A%(v*W^j):=by show A%(v*W^(j+1))%(v*W^j)=_;exact Nat.mod_mod_of_dvd _ ⟨W,by rw[Cw,Bv]⟩
 have hdm:=Eh u (v*W^j);have SM:=Bz u hvj;rw[eq,er] at hdm;rw[er] at SM;rw[eq] at g1 g2;change aJ (A / v) j<=d at g1;change d<=aJ (A / v) j+1 at g2;generalize aJ (A / v) j=q at *;have e1:∀x,x*v*W^j=v*W^j*x:=fun x=>by rw[Bv,Bx]
 refine⟨fun h=>?_,fun h=>?_⟩
 . have :d=q:=by
    refine Nat.le_antisymm ?_ g1
    rcases En q d with h1|h1
    . have :v*W^j*(q+1)<=v*W^j*d:=Dj _ h1;rw[Da,Dc] at this;rw[e1] at h;omega
    exact h1
   rw[this] at h ⊢;rw[e1] at h ⊢;exact⟨by omega,rfl⟩
 have :d=q+1:=by
  refine Nat.le_antisymm g2 ?_
  rcases En q d with h1|h1
  . exact h1
  have :v*W^j*d<=v*W^j*q:=Dj _ h1;rw[e1] at h;omega
 rw[this] at h ⊢;rw[e1,Da,Dc] at h ⊢
 have hl:v*W^j<=W^(j+n+1):=by rw[show j+n+1=n+j+1 by omega,Cw,Ez];refine By (Bq _ (Nat.le_of_lt hv)) ?_;exact Nat.le_mul_of_pos_right _ oQ
 refine⟨?_,by omega,by omega⟩;have e2:u+W^(j+n+1) -(v*W^j*q+v*W^j)+v*W^j=A%(v*W^j)+W^(j+n+1):=by omega
 have hAl:A%(v*W^j)<W^(j+n+1):=Bj SM hl;rw[e2,Nat.add_mod_right,Bn hAl]
theorem ry{a b n m s:Nat}(ha:a<W^m)(hnm:n<=m)(Qg:W^(n -1)<=b)(hn:0<n):a*2^s<b*2^s*W^(m -n+1):=by
 have h1:W^m<=b*W^(m -n+1):=by
  have :W^m=W^(n -1)*W^(m -n+1):=by rw[<-Ez];congr 1;omega
  rw[this];exact Bq _ Qg
 rw[Nat.mul_right_comm];exact Nat.mul_lt_mul_of_pos_right (Bj ha h1) (Gp A1)
end Go.lP
namespace Go.aD
section
variable {p:Nat->V} {N:Nat} {n n':V} {d d':Int}
def dX{α:Type}(f:α->Int):List α->Int
 |[]=>0
 |x::l=>f x+dX f l
theorem CK{α:Type}(f:α->Int):∀l m:List α,dX f (l++m)=dX f l+dX f m
 |[],m=>by simp[dX]
 |x::l,m=>by simp only[Ge,dX,CK f l m];omega
theorem uk{α:Type}(f:α->Int){l m:List α}(h:l.Perm m):dX f l=dX f m:=by
 induction h with
 |nil=>rfl
 |cons x _ ih=>simp only[dX,ih]
 |swap x y l=>simp only[dX];omega
 |trans _ _ h1 h2=>rw[h1,h2]
theorem CL{α β:Type}(g:α->β)(f:β->Int):∀l:List α,dX f (l.map g)=dX (fun x=>f (g x)) l
 |[]=>rfl
 |x::l=>by simp only[Cq,dX,CL g f l]
theorem zF{α β:Type}(g:α->List β)(f:β->Int):∀l:List α,dX f (l.flatMap g)=dX (fun x=>dX f (g x)) l
 |[]=>rfl
 |x::l=>by simp only[Ee,dX,CK,zF g f l]
theorem jF{α:Type}{f g:α->Int}:∀{l:List α},(∀x∈l,f x=g x)->dX f l=dX g l
 |[],_=>rfl
 |x::l,h=>by simp only[dX,h x A2,jF (l:=l) fun y hy=>h y (Aw _ hy)]
theorem tY{α:Type}(f g:α->Int):∀l:List α,dX (fun x=>f x+g x) l=dX f l+dX g l
 |[]=>rfl
 |x::l=>by simp only[dX,tY f g l];omega
theorem nV{α:Type}(c:Int)(f:α->Int):∀l:List α,dX (fun x=>c*f x) l=c*dX f l
 |[]=>by simp[dX]
 |x::l=>by simp only[dX,nV c f l,Int.mul_add]
theorem KG{α:Type}{f g:α->Int}:∀{l:List α},(∀x∈l,f x<=g x)->dX f l<=dX g l
 |[],_=>Ir _
 |x::l,h=>by have h1:=h x A2;have h2:=KG (l:=l) fun y hy=>h y (by simp[hy]);simp only[dX];omega
theorem xX{α:Type}:∀l:List α,dX (fun _=>0) l=0
 |[]=>rfl
 |x::l=>by simp only[dX,xX l];rfl
theorem xW{α:Type}{f:α->Int}:∀{l:List α},(∀x∈l,0<=f x)->(∃x∈l,0<f x)->0<dX f l
 |[],_,⟨_,h,_⟩=>by cases h
 |x::l,h,⟨y,hy,hp⟩=>by
  have h1:=h x A2
  have h2:0<=dX f l:=by have :=KG (f:=fun _=>0) (g:=f) (l:=l) fun y hy=>h y (by simp[hy]);have e:=xX l;omega
  simp only[dX]
  rcases Am.1 hy with rfl|hy
  . omega
  have :=xW (fun y hy=>h y (by simp[hy])) ⟨y,hy,hp⟩;omega
def edg(L:List Nat):List (Nat×Nat):=(List.range L.length).map fun i=>(L.getD i 0,L.getD ((i+1)%L.length) 0)
theorem UG{L:List Nat}{a b:Nat}:(a,b)∈edg L↔Next L a b:=by
 unfold edg Next;simp only[Bm,Az,Af];constructor
 . rintro⟨i,hi,rfl,rfl⟩;have h2:(i+1)%L.length<L.length:=Bz _ A0;exact⟨i,hi,by simp[List.getD,hi],by simp[List.getD,h2]⟩
 rintro⟨i,hi,h1,h2⟩;exact⟨i,hi,by simp[List.getD,h1],by simp[List.getD,h2]⟩
theorem aHy(L:List Nat):(edg L).map Prod.fst=L:=by unfold edg;refine Fo A2 fun i h1 h2=>?_;simp[List.getD,h2]
theorem Way.inj{on:List Nat}{s m:Nat}{f:Nat->Nat}(W:Way n p on s m f):∀i j,i<j->j<m->iter f i s≠iter f j s
 |0,j,h,hj=>fun e=>W.first j h hj e.symm
 |i+1,j+1,h,hj=>fun e=>by have h1:=(W.side i).2;have h2:=(W.side j).2;rw[<-e] at h2;exact W.inj i j A0 A0 (h1.inj W.H (W.side i).1 (W.side j).1 h2)
theorem Poly.nodup{L:List Nat}(h:Poly p N n d L):L.Nodup:=by obtain⟨s,r,m,e,W,rfl⟩:=h.ex;rw[List.nodup_iff_pairwise_ne,Ff];refine Gz ?_ Iu;intro a b ha hb wU;exact W.inj a b wU (Az.1 hb)
theorem nm{L:List Nat}(h:L.Nodup):(edg L).Nodup:=by have e:=aHy L;rw[<-e,List.nodup_iff_pairwise_ne,Ff] at h;rw[List.nodup_iff_pairwise_ne];exact h.imp fun cG e=>cG (Ao Prod.fst e)
theorem ML(c:Nat)(v:V):fG (smul c v)=c*fG v:=by simp only[fG,smul,Int.gcd_mul_left,Cy];rw[show((c*Int.gcd v.y v.z:Nat):Int)=(c:Int)*(Int.gcd v.y v.z:Int) by simp,Int.gcd_mul_left,Cy]
theorem uw{v:V}(h:v≠V0):fG (gD v)=1:=by have e:=Ao fG (DL v);rw[ML] at e;have hp:=rO h;exact Nat.eq_of_mul_eq_mul_left hp A0
theorem nA.one(F:nA p N n d):fG n=1:=by obtain⟨a,b,c,_,_,_,h1,h2,_⟩:=F.Uh;rw[h2];exact uw h1
theorem aEk{u v:V}(hu:fG u=1)(hv:fG v=1){a b:Int}(ha:0<a)(hb:0<b)(h:smul a u=smul b v):u=v:=by obtain⟨x,rfl⟩:∃x:Nat,a=x:=⟨a.toNat,by omega⟩;obtain⟨y,rfl⟩:∃y:Nat,b=y:=⟨b.toNat,by omega⟩;have e:=Ao fG h;rw[ML,ML,hu,hv,Dc,Dc] at e;subst e;exact pY A0 h
theorem nA.aFc(F:nA p N n d)(A:MM p N){a b:Nat}(ha:a∈gC p N n d)(h:Sd n p (gC p N n d) a b):∃z∈gC p N n d,0<cX n (vec p a b) (vec p a z):=by obtain⟨s,r,hsr⟩:=F.DE.head;obtain⟨m,W⟩:=F.DE.way A hsr;obtain⟨i,_,rfl⟩:=W.cover ha h;have hb:=(W.side i).2.uniq W.H (W.side i).1 h;have :=W.VP F.DE i;rw[hb] at this;exact⟨_,(W.side (i+2)).1,this⟩
theorem jn(n e u v:V)(h1:dot n u=0)(h2:dot n e=0)(h3:dot v e=0):dot n n*dot e e*dot v u=cX n e u*cX v n e:=by
 simp only[cX,dot,aU] at *
 grind
theorem bFu(e u v:V)(h1:dot u e=0)(h2:dot v e=0):smul (dot e e) (aU u v)=smul (cX e u v) e:=by simp only[cX,dot,aU,smul,V.mk.injEq] at *;refine⟨?_,?_,?_⟩<;>grind
theorem aOb(u v:V)(h:aU u v=V0)(w:V):dot u u*dot v w=dot u v*dot u w:=by
 simp only[dot,aU,V0,V.mk.injEq] at *
 grind
theorem bFv(u v:V)(h:aU u v=V0):smul (dot u v) u=smul (dot u u) v:=by simp only[dot,aU,smul,V0,V.mk.injEq] at *;refine⟨?_,?_,?_⟩<;>grind
theorem np(F:nA p N n d)(F':nA p N n' d')(A:MM p N){a b:Nat}(ha:a∈gC p N n d)(h:Sd n p (gC p N n d) a b)(ek:a∈gC p N n' d')(h':Sd n' p (gC p N n' d') a b):n=n':=by
 have H:=F.DE.pl A;have H':=F'.DE.pl A;have ae:=(bU.1 ha).2;have ae':=(bU.1 ek).2;obtain⟨z,hz,z1⟩:=F.aFc A ha h;obtain⟨y,hy,y1⟩:=F'.aFc A ek h';have hE:=cD (H.ne ha h.1 h.2.1);have e1:=H.pl a ha b h.1;have e2:=H'.pl a ek b h'.1;have e3:=H.pl a ha z hz;have e4:=H'.pl a ek y hy;have l1:dot n' (vec p a z)<=0:=by rw[iJ];have :=F'.le z (bU.1 hz).1;omega
 have l2:dot n (vec p a y)<=0:=by rw[iJ];have :=F.le y (bU.1 hy).1;omega
 have hn:=cD H.hn;have IZ:=cD H'.hn;obtain⟨k,hk,AB⟩:=F.lt;have hkv:dot n (vec p a k)<0:=by rw[iJ];omega
 have bHx:dot n' (vec p a k)<=0:=by rw[iJ];have :=F'.le k hk;omega
 have o1:=F.one;have o2:=F'.one;generalize vec p a b=e at *;generalize vec p a z=u at *;generalize vec p a y=w at *;have s1:=jn n e u n' e3 e1 e2;have s2:=jn n' e w n e4 e2 e1
 have p1:cX n' n e<=0:=by
  rcases Int.lt_or_le 0 (cX n' n e) with c|c
  . have q1:=Dm z1 c;have q2:dot n n*dot e e*dot n' u<=0:=Int.mul_nonpos_of_nonneg_of_nonpos (Ft (Dm hn hE)) l1;omega
  exact c
 have p2:cX n n' e<=0:=by
  rcases Int.lt_or_le 0 (cX n n' e) with c|c
  . have q1:=Dm y1 c;have q2:dot n' n'*dot e e*dot n w<=0:=Int.mul_nonpos_of_nonneg_of_nonpos (Ft (Dm IZ hE)) l2;omega
  exact c
 have p3:cX n' n e= -cX n n' e:=by simp only[cX,dot,aU];grind
 have p4:cX e n n'=cX n n' e:=by simp only[cX,dot,aU];grind
 have Lo:cX e n n'=0:=by omega
 have pe:=bFu e n n' e1 e2;rw[Lo,smul_zero] at pe;have hc:aU n n'=V0:=pY (c:=dot e e) A0 (by rw[pe];simp[smul,V0]);have k1:=aOb n n' hc (vec p a k)
 have RF:0<dot n n':=by
  rcases Int.lt_or_le 0 (dot n n') with c|c
  . exact c
  exfalso
  have cG:dot n n'≠0:=fun h0=>by have :=aOb n n' hc n';rw[h0,Kl] at this;have :=Dm hn IZ;omega
  have q1:0<dot n n'*dot n (vec p a k):=Gl A0 hkv;have q2:dot n n*dot n' (vec p a k)<=0:=Int.mul_nonpos_of_nonneg_of_nonpos (Ft hn) bHx;omega
 exact aEk o1 o2 RF hn (bFv n n' hc)
structure TP (p:Nat->V) (N:Nat) (K:List ((V×Int)×List Nat)):Prop where
 fl:oP p N (K.map Prod.fst)
 po:∀e∈K,Poly p N e.1.1 e.1.2 e.2
def NJ(K:List ((V×Int)×List Nat)):List (Nat×Nat):=K.flatMap fun e=>edg e.2
theorem TP.pq{K:List ((V×Int)×List Nat)}(h:TP p N K){e:(V×Int)×List Nat}(he:e∈K):nA p N e.1.1 e.1.2:=
 (h.fl.mem e.1).1 (List.mem_map_of_mem he)
theorem TP.nodup{K:List ((V×Int)×List Nat)}(h:TP p N K)(A:MM p N):(NJ K).Nodup:=by
 rw[List.nodup_iff_pairwise_ne];unfold NJ;rw[List.pairwise_flatMap];refine⟨fun e he=>?_,?_⟩
 . have :=nm (h.po e he).nodup
   rwa [List.nodup_iff_pairwise_ne] at this
 have hs:=h.fl.RV;rw[Ff] at hs;refine Gz ?_ hs;rintro e f he hf dT ⟨a,b⟩ hx ⟨a',b'⟩ hy wU;cases wU;rw[UG] at hx hy;obtain⟨x1,x2⟩:=(h.po e he).jX.1 hx;obtain⟨y1,y2⟩:=(h.po f hf).jX.1 hy;have :=np (h.pq he) (h.pq hf) A x1 x2 y1 y2;rw[this] at dT;exact gV.gd _ dT
theorem TP.back{K:List ((V×Int)×List Nat)}(h:TP p N K)(A:MM p N){a b:Nat}(wU:(a,b)∈NJ K):(b,a)∈NJ K:=by unfold NJ at *;rw[Ek] at *;obtain⟨e,he,hx⟩:=wU;obtain⟨n',d',L',F',P',hn⟩:=(h.po e he).back A (h.pq he) (UG.1 hx);obtain⟨f,hf,wX⟩:=Bm.1 ((h.fl.mem (n',d')).2 F');have hpf:=h.po f hf;rw[wX] at hpf;rw[P'.uniq hpf] at hn;exact⟨f,hf,UG.2 hn⟩
theorem TP.closed{K:List ((V×Int)×List Nat)}(h:TP p N K)(A:MM p N)(g:Nat->Nat->Int)(hg:∀a b,g b a= -g a b):dX (fun e=>dX (fun x=>g x.1 x.2) (edg e.2)) K=0:=by
 rw[<-zF (fun e:(V×Int)×List Nat=>edg e.2) (fun x=>g x.1 x.2)];have hd:=h.nodup A
 have hp:(NJ K).Perm ((NJ K).map Prod.swap):=by
  rw[List.perm_ext_iff_of_nodup hd]
  . rintro⟨a,b⟩;rw[Bm];constructor
    . intro hx;exact⟨(b,a),h.back A hx,rfl⟩
    rintro⟨⟨x,y⟩,hx,e⟩;cases e;exact h.back A hx
  rw[List.nodup_iff_pairwise_ne] at *;rw[Ff];exact hd.imp fun cG e=>cG (by have :=Ao Prod.swap e;simpa using this)
 have e1:=uk (fun x:Nat×Nat=>g x.1 x.2) hp;rw[CL] at e1
 have e2:dX (fun x:Nat×Nat=>g x.swap.1 x.swap.2) (NJ K)= -dX (fun x:Nat×Nat=>g x.1 x.2) (NJ K):=by
  have :dX (fun x:Nat×Nat=>g x.swap.1 x.swap.2) (NJ K)=dX (fun x:Nat×Nat=>(-1)*g x.1 x.2) (NJ K):=jF fun x _=>by show g x.2 x.1=_;rw[hg];omega
  rw[this,nV];omega
 show dX _ (NJ K)=0;omega
end
section
variable {p:Nat->V} {N:Nat} {n n':V} {d d':Int}
def mX(L:List Nat):List (Nat×Nat×Nat):=(List.range (L.length -2)).map fun k=>(L.getD 0 0,L.getD (k+1) 0,L.getD (k+2) 0)
theorem GZ{f:Nat->Int}(m:Nat):dX f (List.range (m+1))=dX f (List.range m)+f m:=by rw[Ei,CK];simp[dX]
theorem Vm(v:Nat->Nat)(g:Nat->Nat->Int)(hg:∀a b,g b a= -g a b):∀j,dX (fun k=>g (v 0) (v (k+1))+g (v (k+1)) (v (k+2))+g (v (k+2)) (v 0)) (List.range j)=dX (fun i=>g (v i) (v (i+1))) (List.range (j+1))+g (v (j+1)) (v 0)
 |0=>by have :=hg (v 0) (v 1);simp[dX,List.range,List.range.loop];omega
 |j+1=>by rw[GZ,Vm v g hg j,GZ (j+1)];have :=hg (v 0) (v (j+1));rw[show j+1+1=j+2 from rfl];omega
theorem aIb{L:List Nat}(hL:2<=L.length)(g:Nat->Nat->Int)(hg:∀a b,g b a= -g a b):dX (fun t=>g t.1 t.2.1+g t.2.1 t.2.2+g t.2.2 t.1) (mX L)=dX (fun x=>g x.1 x.2) (edg L):=by obtain⟨j,hj⟩:∃j,L.length=j+2:=⟨L.length -2,by omega⟩;unfold mX edg;rw[CL,CL,hj,show j+2 -2=j by omega,GZ (j+1)];rw[Vm (fun i=>L.getD i 0) g hg j,Nat.mod_self];congr 1;refine jF fun i hi=>?_;have :=Az.1 hi;rw[Bn A0]
theorem TP.Ui{K:List ((V×Int)×List Nat)}(h:TP p N K)(A:MM p N)(hl:∀e∈K,2<=e.2.length)(T T':V->V->V->Int)(g:V->V->Int)(hg:∀a b,g b a= -g a b)(hT:∀a b c,T a b c=T' a b c+(g a b+g b c+g c a)):
 dX (fun e=>dX (fun t=>T (p t.1) (p t.2.1) (p t.2.2)) (mX e.2)) K=dX (fun e=>dX (fun t=>T' (p t.1) (p t.2.1) (p t.2.2)) (mX e.2)) K:=by
 have e1:∀e∈K,dX (fun t=>T (p t.1) (p t.2.1) (p t.2.2)) (mX e.2)=dX (fun t=>T' (p t.1) (p t.2.1) (p t.2.2)) (mX e.2)+dX (fun x=>g (p x.1) (p x.2)) (edg e.2):=fun e he=>by rw[<-aIb (hl e he) (fun a b=>g (p a) (p b)) (fun a b=>hg _ _),<-tY];exact jF fun t _=>hT _ _ _
 rw[jF e1,tY,h.closed A (fun a b=>g (p a) (p b)) (fun a b=>hg _ _),Int.add_zero]
def D3(a b c:V):Int:=dot (aU a b) c
theorem xk(P a b c:V):D3 a b c=D3 (sub a P) (sub b P) (sub c P)+(D3 P a b+D3 P b c+D3 P c a):=by simp only[D3,dot,aU,sub];grind
theorem b6(P a b:V):D3 P b a= -D3 P a b:=by simp only[D3,dot,aU];grind
theorem yd(u P a b c:V):D3 a b c*dot u (add (add a b) c)=D3 (sub a P) (sub b P) (sub c P)*dot u (add (add (add a b) c) P)+(D3 P a b*dot u (add (add P a) b)+D3 P b c*dot u (add (add P b) c)+D3 P c a*dot u (add (add P c) a)):=by simp only[D3,dot,aU,sub,add];grind
theorem xe(u a b c:V):dot (aU (sub b a) (sub c a)) u=0+(D3 a b u+D3 b c u+D3 c a u):=by simp only[D3,dot,aU,sub];grind
theorem aFt(u a b:V):D3 b a u= -D3 a b u:=by simp only[D3,dot,aU];grind
theorem xj{n a b c:V}(hb:dot n (sub b a)=0)(hc:dot n (sub c a)=0)(P:V):dot n n*D3 (sub a P) (sub b P) (sub c P)=cX n (sub b a) (sub c a)*(dot n a -dot n P):=by simp only[D3,cX,dot,aU,sub] at *;grind
theorem Nx{n a b c:V}(hb:dot n (sub b a)=0)(hc:dot n (sub c a)=0)(u:V):dot n n*dot (aU (sub b a) (sub c a)) u=cX n (sub b a) (sub c a)*dot n u:=by simp only[cX,dot,aU,sub] at *;grind
theorem Poly.Uh{L:List Nat}(A:MM p N)(F:nA p N n d)(h:Poly p N n d L):3<=L.length/\∀k,k<L.length -2->
 L.getD 0 0∈gC p N n d/\L.getD (k+1) 0∈gC p N n d/\L.getD (k+2) 0∈gC p N n d/\0<=cX n (vec p (L.getD 0 0) (L.getD (k+1) 0)) (vec p (L.getD 0 0) (L.getD (k+2) 0))/\
 (k=0->0<cX n (vec p (L.getD 0 0) (L.getD (k+1) 0)) (vec p (L.getD 0 0) (L.getD (k+2) 0))):=by
 obtain⟨s,r,m,e,W,rfl⟩:=h.ex
 have hg:∀i,i<m->((List.range m).map fun i=>iter (sH n p (gC p N n d)) i s).getD i 0=iter (sH n p (gC p N n d)) i s:=fun i hi=>by simp[List.getD,hi]
 have hlen:((List.range m).map fun i=>iter (sH n p (gC p N n d)) i s).length=m:=by simp
 generalize sH n p (gC p N n d)=f at *;have hb:=W.VP F.DE
 have hm:3<=m:=by
  have h0:=hb 0;have hp:=W.pos;have hk:=W.back
  rcases En 2 m with c|c
  . omega
  exfalso;have :m=1\/m=2:=by omega
  rcases this with rfl|rfl
  . have e1:iter f (0+1) s=iter f 0 s:=hk;rw[e1] at h0;simp[vec,sub,cX,dot,aU] at h0
  have e1:iter f (0+2) s=iter f 0 s:=hk;rw[e1] at h0;simp[vec,sub,cX,dot,aU] at h0
 rw[hlen];refine⟨hm,fun k hk=>?_⟩;rw[hg 0 A0,hg (k+1) A0,hg (k+2) A0];refine⟨(W.side 0).1,(W.side (k+1)).1,(W.side (k+2)).1,?_,?_⟩
 . have :=((W.side (k+1)).2.2.2 _ (W.side 0).1).1
   have e:cX n (vec p (iter f 0 s) (iter f (k+1) s)) (vec p (iter f 0 s) (iter f (k+2) s))=cX n (vec p (iter f (k+1) s) (iter f (k+2) s)) (vec p (iter f (k+1) s) (iter f 0 s)):=by simp only[vec,cX,dot,aU,sub];grind
   rw[e];exact this
 rintro rfl;exact hb 0
def XU(p:Nat->V)(K:List ((V×Int)×List Nat)):Int:=dX (fun e=>dX (fun t=>D3 (p t.1) (p t.2.1) (p t.2.2)) (mX e.2)) K
def wo(u:V)(p:Nat->V)(K:List ((V×Int)×List Nat)):Int:=dX (fun e=>dX (fun t=>D3 (p t.1) (p t.2.1) (p t.2.2)*dot u (add (add (p t.1) (p t.2.1)) (p t.2.2))) (mX e.2)) K
theorem BS{L:List Nat}{t:Nat×Nat×Nat}:t∈mX L↔∃k,k<L.length -2/\t=(L.getD 0 0,L.getD (k+1) 0,L.getD (k+2) 0):=by unfold mX;simp only[Bm,Az];exact⟨fun⟨k,h,e⟩=>⟨k,h,e.symm⟩,fun⟨k,h,e⟩=>⟨k,h,e.symm⟩⟩
theorem TP.len{K:List ((V×Int)×List Nat)}(h:TP p N K)(A:MM p N):∀e∈K,2<=e.2.length:=fun e he=>by have :=((h.po e he).Uh A (h.pq he)).1;omega
theorem TP.seen{K:List ((V×Int)×List Nat)}(h:TP p N K)(A:MM p N)(P:V){e:(V×Int)×List Nat}(he:e∈K)(hP:dot e.1.1 P<=e.1.2):(∀t∈mX e.2,0<=D3 (sub (p t.1) P) (sub (p t.2.1) P) (sub (p t.2.2) P))/\
 (dot e.1.1 P<e.1.2->∃t∈mX e.2,0<D3 (sub (p t.1) P) (sub (p t.2.1) P) (sub (p t.2.2) P)):=by
 have F:=h.pq he;obtain⟨h3,ht⟩:=(h.po e he).Uh A F;have hn:=cD F.DE.hn
 have key:∀k,k<e.2.length -2->dot e.1.1 e.1.1*D3 (sub (p (e.2.getD 0 0)) P) (sub (p (e.2.getD (k+1) 0)) P) (sub (p (e.2.getD (k+2) 0)) P)=cX e.1.1 (vec p (e.2.getD 0 0) (e.2.getD (k+1) 0)) (vec p (e.2.getD 0 0) (e.2.getD (k+2) 0))*(e.1.2 -dot e.1.1 P):=fun k hk=>by obtain⟨a1,a2,a3,_,_⟩:=ht k hk;have H:=F.DE.pl A;have :=xj (H.pl _ a1 _ a2) (H.pl _ a1 _ a3) P;rw[(bU.1 a1).2] at this;exact this
 constructor
 . intro t hm;obtain⟨k,hk,rfl⟩:=BS.1 hm;have e1:=key k hk;have :=Ec (ht k hk).2.2.2.1 (show 0<=e.1.2 -dot e.1.1 P by omega);exact jE hn (by rw[e1];exact this)
 intro dT;refine⟨_,BS.2 ⟨0,by omega,rfl⟩,?_⟩;have e1:=key 0 A0;have :=Dm ((ht 0 A0).2.2.2.2 rfl) (show 0<e.1.2 -dot e.1.1 P by omega);exact yW hn (by rw[e1];exact this)
theorem TP.aAc{K:List ((V×Int)×List Nat)}(h:TP p N K)(A:MM p N)(hK:K≠[])(u:V)(M:Int)(hM:∀k,k<N->dot u (p k)<=M):0<XU p K/\wo u p K<=4*M*XU p K:=by
 obtain⟨e0,h0⟩:∃e,e∈K:=List.exists_mem_of_ne_nil _ hK;obtain⟨k0,hk0,dT⟩:=(h.pq h0).lt;generalize hP:p k0=P at dT;have hPM:dot u P<=M:=by rw[<-hP];exact hM k0 hk0
 have iE:∀e∈K,dot e.1.1 P<=e.1.2:=fun e he=>by rw[<-hP];exact(h.pq he).le k0 hk0
 have ev:XU p K=dX (fun e=>dX (fun t=>D3 (sub (p t.1) P) (sub (p t.2.1) P) (sub (p t.2.2) P)) (mX e.2)) K:=
  h.Ui A (h.len A) (fun a b c=>D3 a b c) (fun a b c=>D3 (sub a P) (sub b P) (sub c P)) (fun a b=>D3 P a b) (b6 P) (xk P)
 have em:wo u p K=dX (fun e=>dX (fun t=>D3 (sub (p t.1) P) (sub (p t.2.1) P) (sub (p t.2.2) P)*dot u (add (add (add (p t.1) (p t.2.1)) (p t.2.2)) P)) (mX e.2)) K:=
  h.Ui A (h.len A) (fun a b c=>D3 a b c*dot u (add (add a b) c)) (fun a b c=>D3 (sub a P) (sub b P) (sub c P)*dot u (add (add (add a b) c) P)) (fun a b=>D3 P a b*dot u (add (add P a) b)) (fun a b=>by rw[b6];simp only[dot,add];grind) (yd u P)
 rw[em,ev];constructor
 . refine xW (fun e he=>?_) ⟨e0,h0,?_⟩
   . have :=KG (f:=fun _=>0) (l:=mX e.2) (h.seen A P he (iE e he)).1;rw[xX] at this;exact this
   exact xW (h.seen A P h0 (iE e0 h0)).1 ((h.seen A P h0 (iE e0 h0)).2 dT)
 rw[<-nV];refine KG fun e he=>?_;rw[<-nV];refine KG fun t ht=>?_;have h1:=(h.seen A P he (iE e he)).1 t ht;obtain⟨k,hk,rfl⟩:=BS.1 ht;obtain⟨a1,a2,a3,_⟩:=((h.po e he).Uh A (h.pq he)).2 k hk;have b1:=hM _ (bU.1 a1).1;have b2:=hM _ (bU.1 a2).1;have b3:=hM _ (bU.1 a3).1
 have e1:dot u (add (add (add (p (e.2.getD 0 0)) (p (e.2.getD (k+1) 0))) (p (e.2.getD (k+2) 0))) P)=dot u (p (e.2.getD 0 0))+dot u (p (e.2.getD (k+1) 0))+dot u (p (e.2.getD (k+2) 0))+dot u P:=by rw[mR,mR,mR]
 rw[Dy (4*M)];refine Df ?_ h1;simp only at *;omega
end
section
variable {p:Nat->V} {N:Nat} {n n':V} {d d':Int}
theorem WV{α:Type}(r h:α->Int):∀(l:List α),l≠[]->(∀x∈l,0<h x)->∃f∈l,∀g∈l,r g*h f<=r f*h g
 |[],cG,_=>absurd rfl cG
 |[x],_,_=>⟨x,by simp,fun g hg=>by simp at hg;subst hg;exact Ir _⟩
 |x::y::l,_,hp=>by
  obtain⟨f,hf,hm⟩:=WV r h (y::l) A2 fun z hz=>hp z (Aw _ hz)
  have px:=hp x A2;have pf:=hp f (Aw _ hf)
  rcases Int.le_total (r x*h f) (r f*h x) with c|c
  . refine⟨f,Aw _ hf,fun g hg=>?_⟩
    rcases Am.1 hg with rfl|hg
    . exact c
    exact hm g hg
  refine⟨x,by simp,fun g hg=>?_⟩
  rcases Am.1 hg with rfl|hg
  . exact Ir _
  have h1:=hm g hg;have pg:=hp g (Aw _ hg);have a1:r g*h f*h x<=r f*h g*h x:=Int.mul_le_mul_of_nonneg_right h1 A0;have a2:r f*h x*h g<=r x*h f*h g:=Int.mul_le_mul_of_nonneg_right c A0
  have a3:(r g*h x)*h f<=(r x*h g)*h f:=by have e1:r g*h x*h f=r g*h f*h x:=Int.mul_right_comm ..;have e2:r x*h g*h f=r x*h f*h g:=Int.mul_right_comm ..;have e3:r f*h g*h x=r f*h x*h g:=Int.mul_right_comm ..;omega
  exact Int.le_of_mul_le_mul_right a3 pf
theorem ib(f:Nat->Int):∀m,∃i,i<=m/\∀j,j<=m->f i<=f j
 |0=>⟨0,by omega,fun j hj=>by rw[show j=0 by omega];exact Ir _⟩
 |m+1=>by
  obtain⟨i,hi,h⟩:=ib f m
  rcases Int.le_total (f i) (f (m+1)) with c|c
  . refine⟨i,by omega,fun j hj=>?_⟩
    rcases En m j with h2|h2
    . rw[show j=m+1 by omega];exact c
    exact h j h2
  refine⟨m+1,by omega,fun j hj=>?_⟩
  rcases En m j with h2|h2
  . rw[show j=m+1 by omega];exact Ir _
  exact Int.le_trans c (h j h2)
theorem Rj(T x y u:V)(h1:dot T x=0)(h2:dot T y=0):dot (aU x y) (aU x y)*dot T u=dot T (aU x y)*dot (aU x y) u:=by simp only[dot,aU] at *;grind
theorem cj(u v w e f:V):D3 u v w*dot f e=D3 v w e*dot f u+D3 w u e*dot f v+D3 u v e*dot f w:=by simp only[D3,dot,aU];grind
theorem Ra{n X:V}(w:Int)(p:Nat->V)(a b c:Nat)(hb:dot n (vec p a b)=0)(hc:dot n (vec p a c)=0):
 dot n n*D3 (sub (smul w (p a)) X) (sub (smul w (p b)) X) (sub (smul w (p c)) X)=w*w*cX n (vec p a b) (vec p a c)*(w*dot n (p a) -dot n X):=by
 simp only[D3,cX,dot,aU,sub,vec,smul] at *;grind
theorem KD(c u:V):dot c (neg u)= -dot c u:=by simp only[dot,neg];grind
theorem TP.within{K:List ((V×Int)×List Nat)}(h:TP p N K)(A:MM p N)(hK:K≠[])(X:V)(w:Int)(hw:0<w)(hX:∀e∈K,dot e.1.1 X<w*e.1.2)(c:V)(hc:c≠V0):∃k,k<N/\w*dot c (p k)<dot c X:=by
 refine Cj fun BJ=>?_
 have bId:∀k,k<N->dot c X<=w*dot c (p k):=fun k hk=>by
  rcases Int.lt_or_le (w*dot c (p k)) (dot c X) with h1|h1
  . exact absurd ⟨k,hk,h1⟩ BJ
  exact h1
 have ex0:∃e∈K,dot e.1.1 c<=0:=by
  refine Cj fun Qk=>?_
  have rG:∀e∈K,0<dot e.1.1 c:=fun e he=>by
   rcases Int.lt_or_le 0 (dot e.1.1 c) with h1|h1
   . exact h1
   exact absurd ⟨e,he,h1⟩ Qk
  have e0:=h.Ui A (h.len A) (fun a b d=>dot (aU (sub b a) (sub d a)) c) (fun _ _ _=>0) (fun a b=>D3 a b c) (aFt c) (fun a b d=>by rw[xe c a b d])
  have e1:dX (fun e:(V×Int)×List Nat=>dX (fun t:Nat×Nat×Nat=>(0:Int)) (mX e.2)) K=0:=by rw[jF (g:=fun _=>0) fun e _=>xX _,xX]
  rw[e1] at e0
  have key:∀e∈K,(∀t∈mX e.2,0<=dot (aU (sub (p t.2.1) (p t.1)) (sub (p t.2.2) (p t.1))) c)/\∃t∈mX e.2,0<dot (aU (sub (p t.2.1) (p t.1)) (sub (p t.2.2) (p t.1))) c:=fun e he=>by
   have F:=h.pq he;obtain⟨h3,ht⟩:=(h.po e he).Uh A F;have hn:=cD F.DE.hn;have H:=F.DE.pl A;constructor
   . intro t hm;obtain⟨k,hk,rfl⟩:=BS.1 hm;obtain⟨a1,a2,a3,a4,_⟩:=ht k hk;have :=Nx (H.pl _ a1 _ a2) (H.pl _ a1 _ a3) c;exact jE hn (by rw[this];exact Ec a4 (Ft (rG e he)))
   refine⟨_,BS.2 ⟨0,by omega,rfl⟩,?_⟩;obtain⟨a1,a2,a3,_,a5⟩:=ht 0 A0;have :=Nx (H.pl _ a1 _ a2) (H.pl _ a1 _ a3) c;exact yW hn (by rw[this];exact Dm (a5 rfl) (rG e he))
  obtain⟨e2,Qh⟩:∃e,e∈K:=List.exists_mem_of_ne_nil _ hK
  have :0<dX (fun e=>dX (fun t=>dot (aU (sub (p t.2.1) (p t.1)) (sub (p t.2.2) (p t.1))) c) (mX e.2)) K:=by refine xW (fun e he=>?_) ⟨e2,Qh,xW (key e2 Qh).1 (key e2 Qh).2⟩;exact Ft (xW (key e he).1 (key e he).2)
  omega
 obtain⟨e0,h0,c0⟩:=ex0;let e:V:=neg c
 let r:(V×Int)×List Nat->Int:=fun f=>dot f.1.1 e
 let ht:(V×Int)×List Nat->Int:=fun f=>w*f.1.2 -dot f.1.1 X
 have rG:∀f∈K,0<ht f:=fun f hf=>by have :=hX f hf;show 0<w*f.1.2 -dot f.1.1 X;omega
 obtain⟨f,hf,aZf⟩:=WV r ht K hK rG
 have RI:0<=r f:=by
  have h1:=aZf e0 h0;have h2:0<=r e0:=by show 0<=dot e0.1.1 (neg c);rw[KD];omega
  have h3:0<=r e0*ht f:=Ec h2 (Ft (rG f hf));have h4:=rG e0 h0
  rcases Int.lt_or_le (r f) 0 with h5|h5
  . have :=Jz h5 h4;omega
  exact h5
 have F:=h.pq hf;have H:=F.DE.pl A;have hn:=cD F.DE.hn;obtain⟨s,rr,hsr⟩:=F.DE.head;obtain⟨m,W⟩:=F.DE.way A hsr;generalize sH f.1.1 p (gC p N f.1.1 f.1.2)=g at W
 let q:Nat->V:=fun k=>sub (smul w (p k)) X
 have hq:∀k∈gC p N f.1.1 f.1.2,dot f.1.1 (q k)=ht f:=fun k hk=>by have :=(bU.1 hk).2;show dot f.1.1 (sub (smul w (p k)) X)=w*f.1.2 -dot f.1.1 X;rw[BA,wN,this]
 have hcq:∀k,k<N->0<=dot c (q k):=fun k hk=>by have :=bId k hk;show 0<=dot c (sub (smul w (p k)) X);rw[BA,wN];omega
 have aXy:∀x y,x∈gC p N f.1.1 f.1.2->Sd f.1.1 p (gC p N f.1.1 f.1.2) x y->0<=D3 (q x) (q y) e:=fun x y hx hS=>by
  obtain⟨z,hz,hz1⟩:=F.aFc A hx hS;obtain⟨n',d',F',PD,hy',hS',o,ho,ZF⟩:=F.adj A hx hS;obtain⟨g',hg',heq⟩:=Bm.1 ((h.fl.mem (n',d')).2 F');have hm:=aZf g' hg';have hpg:=rG g' hg';have er:r g'=dot n' e:=by show dot g'.1.1 e=_;rw[heq]
  have eh:ht g'=w*d' -dot n' X:=by show w*g'.1.2 -dot g'.1.1 X=_;rw[heq]
  rw[er] at hm;rw[eh] at hm hpg;generalize hG:w*d' -dot n' X=GD at *
  have q1:∀k∈gC p N n' d',dot n' (q k)=GD:=fun k hk=>by have :=(bU.1 hk).2;show dot n' (sub (smul w (p k)) X)=_;rw[BA,wN,this,hG]
  have hzN:=(bU.1 hz).1
  have q2:dot n' (q z)<GD:=by
   have h1:=F'.le z hzN
   have h2:dot n' (p z)≠d':=fun h2=>by refine ZF (yZ F'.DE.hn hx hS.1 hz A0 PD hy' (bU.2 ⟨hzN,h2⟩) ho)
   have h3:w*dot n' (p z)<w*d':=Int.mul_lt_mul_of_pos_left A0 hw;show dot n' (sub (smul w (p z)) X)<_;rw[BA,wN];omega
  let T:V:=sub (smul (ht f) n') (smul GD f.1.1)
  have tv:∀u,dot T u=ht f*dot n' u -GD*dot f.1.1 u:=fun u=>by show dot (sub (smul _ _) (smul _ _)) u=_;simp only[dot,sub,smul];grind
  have t1:dot T (q x)=0:=by rw[tv,q1 x PD,hq x hx,Dy];omega
  have t2:dot T (q y)=0:=by rw[tv,q1 y hy',hq y hS.1,Dy];omega
  have hfp:=rG f hf
  have t3:dot T (q z)<0:=by rw[tv,hq z hz];have :ht f*dot n' (q z)<ht f*GD:=Int.mul_lt_mul_of_pos_left q2 hfp;have e1:GD*ht f=ht f*GD:=Dy ..;omega
  have t4:dot T e<=0:=by rw[tv];have e1:ht f*dot n' e=dot n' e*ht f:=Dy ..;have e2:GD*dot f.1.1 e=r f*GD:=Dy ..;omega
  have hD:0<D3 (q x) (q y) (q z):=by have :=Ra (X:=X) w p x y z (H.pl x hx y hS.1) (H.pl x hx z hz);rw[(bU.1 hx).2] at this;refine yW hn ?_;show 0<dot f.1.1 f.1.1*D3 (sub (smul w (p x)) X) (sub (smul w (p y)) X) (sub (smul w (p z)) X);rw[this];exact Dm (Dm (Dm hw hw) hz1) hfp
  have k1:=Rj T (q x) (q y) (q z) t1 t2;have k2:=Rj T (q x) (q y) e t1 t2;change 0<dot (aU (q x) (q y)) (q z) at hD;show 0<=dot (aU (q x) (q y)) e
  have vu:0<dot (aU (q x) (q y)) (aU (q x) (q y)):=cD fun h0=>by rw[h0] at hD;simp[dot,V0] at hD
  generalize aU (q x) (q y)=k at *
  have hTk:dot T k<0:=by
   have h1:dot k k*dot T (q z)<0:=Gm vu t3;rw[k1] at h1
   rcases Int.lt_or_le (dot T k) 0 with h2|h2
   . exact h2
   have :=Ec h2 (Ft hD);omega
  have h1:dot k k*dot T e<=0:=Int.mul_nonpos_of_nonneg_of_nonpos (Ft vu) t4;rw[k2] at h1
  rcases Int.lt_or_le (dot k e) 0 with h2|h2
  . have :=Gl hTk h2;omega
  exact h2
 obtain⟨i,hi,aIo⟩:=ib (fun i=>dot c (q (iter g i s))) (m+1)
 have mono:∀j,dot c (q (iter g i s))<=dot c (q (iter g j s)):=fun j=>by obtain⟨t,ht,he⟩:=W.cover (W.side j).1 (W.side j).2;rw[<-he];exact aIo t A0
 obtain⟨t,RJ,he⟩:=W.cover (W.side (i+m)).1 (W.side (i+m)).2;have bIt:iter g (i+m) s=iter g i s:=WK W.back i;have hpm:=W.pos;have eP:iter g (i+m -1+1) s=iter g i s:=by rw[show i+m -1+1=i+m by omega];exact bIt
 have hU:=W.side (i+m -1);rw[eP] at hU;have hV:=W.side i;have hW2:=(W.side (i+1)).1;have VP:=W.VP F.DE (i+m -1)
 have eN:iter g (i+m -1+2) s=iter g (i+1) s:=by rw[show i+m -1+2=(i+1)+m by omega];exact WK W.back (i+1)
 rw[eP,eN] at VP;have mu:=mono (i+m -1);have mw:=mono (i+1);generalize iter g (i+m -1) s=u at *;generalize iter g i s=v at *;generalize iter g (i+1) s=x at *;have c1:=aXy u v hU.1 hU.2;have c2:=aXy v x hV.1 hV.2
 have hD:0<D3 (q u) (q v) (q x):=by have :=Ra (X:=X) w p u v x (H.pl u hU.1 v hV.1) (H.pl u hU.1 x hW2);rw[(bU.1 hU.1).2] at this;refine yW hn ?_;show 0<dot f.1.1 f.1.1*D3 (sub (smul w (p u)) X) (sub (smul w (p v)) X) (sub (smul w (p x)) X);rw[this];exact Dm (Dm (Dm hw hw) VP) (rG f hf)
 have k1:=cj (q u) (q v) (q x) e f.1.1;have k2:=cj (q u) (q v) (q x) e c;rw[hq u hU.1,hq v hV.1,hq x hW2] at k1
 have hce:dot c e<0:=by show dot c (neg c)<0;rw[KD];have :=cD hc;omega
 have yL:=hcq v (bU.1 hV.1).1;generalize D3 (q v) (q x) e=α at *;generalize D3 (q x) (q u) e=β at *;generalize D3 (q u) (q v) e=γ at *;generalize D3 (q u) (q v) (q x)=D at *
 have bJd:0<=α+β+γ:=by
  have h1:0<=D*dot f.1.1 e:=Ec (Ft hD) RI;rw[k1] at h1;have h2:α*ht f+β*ht f+γ*ht f=ht f*(α+β+γ):=by rw[Dy,Dy β,Dy γ,<-Int.mul_add,<-Int.mul_add]
  exact jE (rG f hf) A0
 have a1:α*dot c (q v)<=α*dot c (q u):=Df mu c2;have a2:γ*dot c (q v)<=γ*dot c (q x):=Df mw c1;have a3:0<=(α+β+γ)*dot c (q v):=Ec bJd yL;rw[Int.add_mul,Int.add_mul] at a3;have a4:D*dot c e<0:=Gm hD hce;omega
end
end Go.aD
namespace Go.Av
open Go
inductive Wk:AV->AV->Prop
 |refl (a:AV):Wk a a
 |bC (tag sz:Nat) (els BB:List (List AV)) (hl:BB.length=els.length) (hs:(∀e∈els,e.length=sz)->∀e∈BB,e.length=sz) (hf:BB.flatten.length=els.flatten.length)
   (h:∀j,j<els.flatten.length->Wk (els.flatten.getD j aB) (BB.flatten.getD j aB)):Wk (.bC tag sz els) (.bC 0 sz BB)
 |agg (cs DT:List AV) (hl:DT.length=cs.length) (h:∀j,j<cs.length->Wk (cs.getD j aB) (DT.getD j aB)):Wk (.agg cs) (.agg DT)
theorem Wk.one{a b:AV}(h:Wk a b):b.one=a.one:=by cases h<;>rfl
theorem VR.wk{G:Gh}{w:World}{a b:AV}(h:Wk a b):∀{u:Value},VR G w a u->VR G w b u:=by
 induction h with
 |refl a=>exact fun h=>h
 |bC tag sz els BB hl hs hf hj ih=>
  intro u hv
  cases hv with
  |uJ _ _ b o s ht=>obtain rfl:BB=[]:=Cp hl;exact .uJ _ _ b o s A0
  |bC _ _ _ b o cap us hu hc hv ht=>rw[<-hl];refine .bC 0 sz BB b o cap us (hs hu) (fun j HI=>?_) (fun j HI=>ih j A0 (hv j A0)) ⟨by rw[hl];exact ht.1,trivial⟩;have IX:j<els.flatten.length:=A0;exact⟨(hc j IX).1,(hc j IX).2.1,by rw[(hj j IX).one];exact(hc j IX).2.2⟩
 |agg cs DT hl hj ih=>
  intro u hv
  cases hv with
  |agg _ vs hvl h1 hv=>refine .agg DT vs A0 (fun c hc=>?_) fun j HI=>ih j A0 (hv j A0);obtain⟨j,HI,rfl⟩:=Dt hc;have IX:j<cs.length:=A0;have :=(hj j IX).one;simp only[List.getD,Ac HI,Ac IX,Bl] at this;rw[this];exact h1 _ (Ah IX)
theorem Sound.wk{P:Program}{g:bF}{f:FuncId}{args zx:List AV}{H H':aA}{out:Out}(h:Sound P g f zx H out H')(hl:zx.length=args.length)(hw:∀j,j<args.length->Wk (args.getD j aB) (zx.getD j aB)):Sound P g f args H out H':=
 ⟨h.1,fun G w vs hG hv=>h.2 G w vs hG ⟨by rw[hl];exact hv.1,fun j hj=>VR.wk (hw j A0) (hv.2 j A0)⟩⟩
mutual
def vh:AV->AV
 |.bC _ sz els=>.bC 0 sz (wR els)
 |.agg cs=>.agg (rX cs)
 |a=>a
def rX:List AV->List AV
 |[]=>[]
 |x::r=>vh x::rX r
def wR:List (List AV)->List (List AV)
 |[]=>[]
 |x::r=>rX x::wR r
end
theorem BE:∀l:List AV,(rX l).length=l.length
 |[]=>by simp[rX]
 |x::r=>by simp[rX,BE r]
theorem Rs:∀l:List (List AV),(wR l).length=l.length
 |[]=>by simp[wR]
 |x::r=>by simp[wR,Rs r]
theorem FW:∀l:List (List AV),(wR l).flatten=rX l.flatten
 |[]=>by simp[wR,rX]
 |x::r=>by
  have :∀a b:List AV,rX (a++b)=rX a++rX b:=fun a b=>by
   induction a with
   |nil=>simp[rX]
   |cons y a ih=>simp[rX,ih]
  simp[wR,FW r,this]
theorem Rt{sz:Nat}:∀{l:List (List AV)},(∀e∈l,e.length=sz)->∀e∈wR l,e.length=sz
 |[],_,e,he=>by simp[wR] at he
 |x::r,h,e,he=>by
  simp only[wR,Am] at he
  rcases he with rfl|he
  . rw[BE];exact h x Bc
  exact Rt (fun y hy=>h y (Aw _ hy)) e he
theorem DG:∀(l:List AV) (j:Nat),j<l.length->(rX l).getD j aB=vh (l.getD j aB)
 |[],j,hj=>absurd hj (Ar _)
 |x::r,0,_=>by simp[rX]
 |x::r,j+1,hj=>by have :=DG r j Zas;simpa [rX] using this
theorem ER{l:List AV}{j:Nat}(hj:j<l.length):l.getD j aB∈l:=by rw[show l.getD j aB=l[j] by simp[List.getD,hj]];exact Ah hj
theorem bo(a:AV):Wk a (vh a):=by
 match a with
 |.bC tag sz els=>rw[vh];refine .bC tag sz els _ (Rs els) Rt (by rw[FW,BE]) fun j hj=>?_;rw[FW,DG _ _ hj];have hm:=ER hj;generalize els.flatten.getD j aB=x at *;obtain⟨e,he,hx⟩:=List.mem_flatten.1 hm;have h1:=Kw he;have h2:=Kw hx;exact bo _
 |.agg cs=>rw[vh];refine .agg cs _ (BE cs) fun j hj=>?_;rw[DG _ _ hj];have hm:=ER hj;generalize cs.getD j aB=x at *;have h2:=Kw hm;exact bo _
 |.bool _|.int _ _|.str _|.Lw|.ref _ _|.pl _|.bB|.sl _ _ _ _ _|.func _ _ _|.BT|.iface _ _|.pR|.jZ _|.map _|.sB|.yield _=>simp only[vh];exact .refl _
termination_by SizeOf.sizeOf a
decreasing_by
 . simp only[AV.bC.sizeOf_spec];omega
 simp only[AV.agg.sizeOf_spec];omega
theorem Sound.vh{P:Program}{g:bF}{f:FuncId}{args:List AV}{H H':aA}{out:Out}(h:Sound P g f (rX args) H out H'):Sound P g f args H out H':=
 h.wk (BE _) fun j hj=>by rw[DG _ _ hj];exact bo _
section
theorem VR.mo{G:Gh}{w:World}{a:AV}{u:Value}(h:VR G w a u)(b:Bool):VR ⟨G.loc,G.gM,b⟩ w a u:=h.mono (fun _ _ h=>h) (fun _ _ h=>⟨h,rfl⟩)
section
variable {P:Program} {g g':bF}
theorem Sound.up(hv:∀n cs,g n=some cs->g' n=some cs)(hm:g.mo=true)(ZE:g'.mo=false){f:FuncId}{args:List AV}{out:Out}(h:Sound P g f args ⟨0,.nil⟩ out ⟨0,.nil⟩):Sound P g' f args ⟨0,.nil⟩ out ⟨0,.nil⟩:=by
 refine⟨h.1,fun G w vs hw nQ=>?_⟩
 have PC:WR g ⟨G.loc,G.gM,true⟩ ⟨0,.nil⟩ w:={
  cells:=fun id l cs eB h1 h2=>by obtain⟨a1,a2,a3,a4,a5⟩:=hw.cells id l cs eB h1 h2;exact⟨a1,a2,a3,a4,fun j hj=>let⟨u,hu,hv⟩:=a5 j hj;⟨u,hu,hv.mo true⟩⟩
  room:=hw.room
  lD:=hw.lD
  jV:=hw.jV
  iG:=fun id l o h1 h2 h3=>by cases h2
  lt:=hw.lt
  iF:=hw.iF
  iW:=fun n cs hn=>(hw.iW n cs (hv n cs hn)).mo true
  DH:=fun n cs hn h0=>hw.DH n cs (hv n cs hn) h0
  mo:=hm.symm}
 refine(h.2 ⟨G.loc,G.gM,true⟩ w vs PC ⟨nQ.1,fun j hj=>(nQ.2 j hj).mo true⟩).mono fun e w' ⟨G',h1,h2,h3⟩=>?_;have hG:G.mo=false:=hw.mo.trans ZE
 refine⟨⟨G'.loc,G'.gM,false⟩,{
  cells:=fun id l cs eB q1 q2=>by obtain⟨a1,a2,a3,a4,a5⟩:=h1.cells id l cs eB q1 q2;exact⟨a1,a2,a3,a4,fun j hj=>let⟨u,hu,hv⟩:=a5 j hj;⟨u,hu,hv.mo false⟩⟩
  room:=h1.room
  lD:=h1.lD
  jV:=h1.jV
  iG:=fun id l o q1 q2 q3=>by cases q2
  lt:=h1.lt
  iF:=h1.iF
  iW:=fun n cs hn=>(hw.iW n cs hn).mono h2.loc h2.gM
  DH:=fun n cs hn h0=>by obtain⟨c,el,fz,a1,a2⟩:=hw.DH n cs hn h0;refine⟨c,el,fz,?_,a2⟩;rw[h2.frame n (Cg.1 a1).1 (fun id l _ ⟨o,ho,_⟩=>by cases ho)];exact a1
  mo:=ZE.symm},{
  loc:=h2.loc
  gM:=h2.gM
  size:=h2.size
  frame:=h2.frame
  lY:=h2.lY
  oZ:=h2.oZ
  next:=h2.next
  news:=h2.news
  dead:=h2.dead
  mo:=hG.symm
  same:=⟨h2.same.os,h2.same.output,h2.same.tape,fun hb=>by rw[hG] at hb;cases hb⟩},?_⟩
 cases out with
 |ret v=>cases e with
  |returned u=>exact h3.mo false
  |_=>exact h3.elim
 |JU v=>cases e with
  |panicked c=>obtain⟨u,a,b⟩:=h3;exact⟨u,a,b.mo false⟩
  |_=>exact h3.elim
theorem OI{f:FuncId}(NO:AJ P f){s t:List UInt8}{n:Int}(h:∀w,Calls P f #[.string ⟨s.toArray⟩,.string ⟨t.toArray⟩] w fun e w'=>e=.returned (.int .i64 n)/\w'=w)(H:aA):Sound P g f [.str s,.str t] H (.ret (.int .i64 n)) H:=by
 refine⟨NO,fun G w vs hw nQ=>?_⟩;obtain⟨hl,hv⟩:=nQ
 match vs,hl with
 |[u0,u1],_=>have v0:=(hv 0 A2).iM;have v1:=(hv 1 A2).iM;simp only[Dk,Et] at v0 v1;subst v0 v1;refine(h w).mono fun e w' he=>?_;obtain⟨rfl,rfl⟩:=he;exact⟨G,hw,Ext.refl G H _,.int _ _⟩
theorem Ext.aYm{G:Gh}{H:aA}{w w':World}(oI:∀b o,G.gM b o->∃v,w.cell? ⟨b,o,none⟩=some v)
 (hb:∀b,b<w.heap.size->w'.heap[b]?=w.heap[b]?) (lF:w.heap.size<=w'.heap.size) (hs:OG G.mo w w'):Ext G H w G H w' where
 loc:=fun _ _ h=>h
 gM:=fun b o hi=>⟨hi,by obtain⟨v,hv⟩:=oI b o hi;exact fQ (hb b (rB hv))⟩
 size:=lF
 frame:=fun b dT _=>hb b dT
 lY:=fun id l h hl=>.inr ⟨id,l,h,hl,rfl⟩
 oZ:=fun _ _ h=>.inl h
 next:=Ag _
 news:=fun _ _ h h'=>by rw[h] at h';cases h'
 dead:=fun _ _ _ h=>h
 mo:=rfl
 same:=hs
def XK(xs:List (List UInt8)):List (List AV):=xs.map fun x=>[.str x]
theorem au(xs:List (List UInt8)):(XK xs).flatten=xs.map AV.str:=by
 induction xs with
 |nil=>rfl
 |cons x r ih=>simp only[XK,Cq,Cd] at ih ⊢;rw[ih];rfl
theorem YF{f:FuncId}(NO:AJ P f)(hm:g.mo=false){xs:List (List UInt8)}{sep:List UInt8}(cG:xs≠[])(hN:xs.length<=140737488355328)(hlen:(Lib.join xs sep).length<=140737488355328)
 (h:∀(bk o c:Nat) (ys:List ByteArray) (w:World),(∀(j:Nat) x,ys[j]?=some x->w.cell? ⟨bk,o+j,none⟩=some (.string x))->bk<w.heap.size->ys.length<=140737488355328->ys.length<=c->
   (Lib.join (ys.map (·.data.toList)) sep).length<=140737488355328->
   Calls P f #[.slice (some ⟨bk,o,none⟩) ys.length c,.string ⟨sep.toArray⟩] w fun e w'=>e=.returned (.string ⟨(Lib.join (ys.map (·.data.toList)) sep).toArray⟩)/\Go.RowKit.Below w.heap.size w w') (tag:Nat) (H:aA):
 Sound P g f [.bC tag 1 (XK xs),.str sep] H (.ret (.str (Lib.join xs sep))) H:=by
 refine⟨NO,fun G w vs hw nQ=>?_⟩;obtain⟨hl,hv⟩:=nQ
 match vs,hl with
 |[u0,u1],_=>
  have v0:=hv 0 A2;have v1:=(hv 1 A2).iM;simp only[Dk,Et] at v0 v1;subst v1;have rG:0<xs.length:=Lf.2 cG;generalize he:XK xs=els at v0;have Xl:els.length=xs.length:=by rw[<-he];exact Ai _
  cases v0 with
  |uJ=>simp at Xl;omega
  |bC _ _ _ b o cap us hu hc hvv ht=>
   have zQ:els.flatten=xs.map AV.str:=by rw[<-he];exact au xs
   have Ln:(xs.map fun x=>(⟨x.toArray⟩:ByteArray)).map (·.data.toList)=xs:=by rw[Eo];have :((fun x:ByteArray=>x.data.toList)∘fun x:List UInt8=>(⟨x.toArray⟩:ByteArray))=id:=(by funext x;simp);rw[this,Gs]
   have mL:∀(j:Nat) x,(xs.map fun x=>(⟨x.toArray⟩:ByteArray))[j]?=some x->w.cell? ⟨b,o+j,none⟩=some (.string x):=fun j x hj=>by rw[Ci] at hj;obtain⟨y,hy,rfl⟩:=Ae.1 hj;have HI:j<xs.length:=(Be.1 hy).1;have IX:j<els.flatten.length:=(by rw[zQ];simpa using HI);have h2:=hvv j IX;have e2:els.flatten.getD j aB=.str y:=(by rw[zQ,List.getD,Ci,hy];rfl);rw[e2] at h2;rw[(hc j IX).2.1,h2.iM]
   have hbk:b<w.heap.size:=by
    obtain⟨y,hy⟩:∃y,xs[0]?=some y:=⟨xs[0],Ac rG⟩
    exact rB (mL 0 ⟨y.toArray⟩ (by rw[Ci,hy];rfl))
   have oY:=ht.1;have :=h b o cap _ w mL hbk (by rw[Ai];exact hN) (by rw[Ai];omega) (by rw[Ln];exact hlen);rw[Ln,Ai,<-Xl] at this;refine this.mono fun e w' hh=>?_;obtain⟨rfl,hB⟩:=hh;have hG:G.mo=false:=hw.mo.trans hm;exact⟨G,hw.grow hB.block,Ext.aYm hw.iF hB.block hB.size ⟨hB.os,hB.output,hB.tape,fun hb=>by rw[hG] at hb;cases hb⟩,VR.Uf _ _ _⟩
end
end
section
theorem aLl(nw tag:Nat):ED none nw tag=ED none 0 tag:=by
 match tag with
 |0=>rfl
 |1=>rfl
 |k+2=>rfl
theorem XG(H:aA)(nw:Nat)(v:AV):kT H none nw v=kT H none 0 v:=by cases v<;>simp only[kT,aLl nw]
theorem GM{f f':AV->Option AV}(h:∀x,f x=f' x):∀l,PV f l=PV f' l
 |[]=>rfl
 |x::r=>by simp only[PV,h x,GM h r]
theorem QL(H:aA)(nw:Nat):∀(n:Nat) (v:AV),gT H none nw n v=gT H none 0 n v
 |0,v=>by cases v<;>exact XG H nw _
 |n+1,v=>by
  cases v with
  |agg cs=>simp only[gT,GM (QL H nw n) cs]
  |jZ cs=>simp only[gT,GM (QL H nw n) cs]
  |_=>exact XG H nw _
abbrev Fact:=FuncId×List AV×AV
def kn(f:FuncId)(args:List AV):List Fact->Option AV
 |[]=>none
 |e::r=>match Nat.beq f e.1 with
  |true=>match rL (rX args) e.2.1 with
   |true=>some e.2.2
   |false=>kn f args r
  |false=>kn f args r
def tH(P:Program)(g:bF)(K:List Fact):Prop:=∀e∈K,∀H,Sound P g e.1 e.2.1 H (.ret e.2.2) H
def aWv(K:List Fact)(o:TS):TS:=fun f args H=>match kn f args K with
 |some v=>some (.ret v,H)
 |none=>o f args H
def DO(g:bF)(T:FT)(qx:TS)(JQ:FuncId->Nat->Bool)(n:Nat)(e:Fact):Bool:=
 match cM e.2.1 with
 |true=>match exF qx T.get g 100000 JQ 40 (.func (.func e.1) [] []) e.2.1 ⟨0,.nil⟩ with
  |some (.ret u,H2)=>match gT H2 none 0 n u with
   |some v=>v.same e.2.2
   |none=>false
  |_=>false
 |false=>false
section
variable {P:Program} {g:bF}
theorem aCd{f:FuncId}{args:List AV}{v:AV}:∀{K:List Fact},tH P g K->kn f args K=some v->∀H,Sound P g f args H (.ret v) H
 |[],_,h,_=>by cases h
 |e::r,hK,h,H=>by
  have hr:tH P g r:=fun x hx=>hK x (Aw _ hx);simp only[kn] at h;split at h
  . rename_i hf;split at h
    . rename_i hs;cases h;obtain rfl:=Bd hf;exact Sound.vh (by rw[nT _ _ hs];exact hK e Bc H)
    exact aCd hr h H
  exact aCd hr h H
theorem aKg{K:List Fact}(hK:tH P g K){o:TS}(ho:OE P g o):OE P g (aWv K o):=by
 intro f args H out H' h;unfold aWv at h;split at h
 . rename_i v hv;cases h;exact aCd hK hv H
 exact ho _ _ _ _ _ h
theorem aXc(hm:Fit P g)(hg:HT g){T:FT}(hT:T.All fun f F=>∃mu,gH P g mu f F){qx:TS}(ho:OE P g qx){JQ:FuncId->Nat->Bool}(hn:OD P g JQ){n:Nat}{e:Fact}(h:DO g T qx JQ n e=true)(H:aA):Sound P g e.1 e.2.1 H (.ret e.2.2) H:=by
 unfold DO at h;split at h
 . rename_i ha;split at h
   . rename_i u H2 he;split at h
     . rename_i v hv;obtain rfl:=AV.Ub _ _ h
       rcases LN hm ho hn (fun f F hF=>hT.get hF) 40 _ _ _ _ _ he with ⟨p,hp,hS⟩|⟨id,hc,_⟩
       . cases hp;simp only[Er,Cr] at hS;exact hS.frame hg ha (tk:=none) (fun k hk=>by cases hk) (n:=n) H (by rw[QL];exact hv)
       cases hc
     cases h
   cases h
 cases h
def bFi:FuncId->Nat->Bool:=fun _ _=>false
theorem dF:OD P g bFi:=fun _ _ h=>by cases h
theorem tH.nil:tH P g []:=fun e he=>by cases he
theorem tH.cons{K:List Fact}(hK:tH P g K){f:FuncId}{args:List AV}{v:AV}(h:∀H,Sound P g f args H (.ret v) H):tH P g ((f,args,v)::K):=fun e he=>by
 rcases Am.1 he with rfl|he
 . exact h
 exact hK e he
theorem tH.DO{K:List Fact}(hK:tH P g K)(hm:Fit P g)(hg:HT g){T:FT}(hT:T.All fun f F=>∃mu,gH P g mu f F){o:TS}(ho:OE P g o){JQ:FuncId->Nat->Bool}(hn:OD P g JQ)(n:Nat){e:Fact}(h:Av.DO g T (aWv K o) JQ n e=true):tH P g (e::K):=fun x hx=>by
 rcases Am.1 hx with rfl|hx
 . exact aXc hm hg hT (aKg hK ho) hn h
 exact hK x hx
end
end
end Go.Av
namespace Go.Av
open Go Go.RowKit
section
def Tj(P:Program)(fl:TypeId->Option (List TypeId)):List Field->List TypeId->Option (List TypeId)
 |[],acc=>some acc
 |f::r,acc=>match fl f.type with
  |some ts=>if f.offset=acc.length/\P.cellsOf f.type=ts.length then Tj P fl r (acc++ts) else none
  |none=>none
def Oj(P:Program):Nat->TypeId->Option (List TypeId)
 |0,_=>none
 |d+1,t=>match P.underlying t with
  |some (.struct fs)=>match Tj P (Oj P d) fs.toList [] with
   |some ts=>if P.cellsOf t=ts.length then some ts else none
   |none=>none
  |some (.array n e)=>match Oj P d e with
   |some ts=>if P.cellsOf e=ts.length/\P.cellsOf t=n*ts.length/\0<ts.length then some (List.replicate n ts).flatten else none
   |none=>none
  |some (.int _)=>some [t]
  |some (.slice _)=>some [t]
  |some .string=>some [t]
  |_=>none
section
variable {H:Type} {enc:TypeId×Value->H} {P:Program} {w:World} {base:Nat} {spare:Nat->Bool} {held:Bool}
def rR(enc:TypeId×Value->H)(P:Program)(w:World)(base:Nat)(spare:Nat->Bool)(held:Bool)(ts:List TypeId)(cs:List Value):Prop:=
 ∀(i:Nat) (u:TypeId),ts[i]?=some u->∃(v:Value) (m:Nat) (y:DataW H×List MemPlace),cs[i]?=some v/\DataW.trod enc P w base spare held m u [v]=some y
theorem ET{ts us:List TypeId}{cs:List Value}(h1:rR enc P w base spare held ts cs)(h2:rR enc P w base spare held us (cs.drop ts.length)):rR enc P w base spare held (ts++us) cs:=by
 intro i u h;by_cases hi:i<ts.length
 . rw[Es hi] at h;exact h1 i u h
 rw[Gi A0] at h;obtain⟨v,m,y,hv,hy⟩:=h2 _ u h;refine⟨v,m,y,?_,hy⟩;rw[Gg] at hv;rw[<-hv];congr 1;omega
theorem Mx{ts:List TypeId}{cs:List Value}(n:Nat)(h:rR enc P w base spare held ts (cs.take n)):rR enc P w base spare held ts cs:=by
 intro i u hu;obtain⟨v,m,y,hv,hy⟩:=h i u hu;refine⟨v,m,y,?_,hy⟩;rw[Ik] at hv;split at hv
 . exact hv
 cases hv
theorem EU{fl:TypeId->Option (List TypeId)}{n:Nat}{cs:List Value}
 (zQ:∀(u:TypeId) (ts:List TypeId) (cs:List Value) (x:DataW H×List MemPlace),fl u=some ts->DataW.trod enc P w base spare held n u cs=some x->rR enc P w base spare held ts cs):
 ∀(fs:List Field) (acc ts:List TypeId),Tj P fl fs acc=some ts->rR enc P w base spare held acc cs->
  (∀f∈fs,∃x,DataW.trod enc P w base spare held n f.type ((cs.drop f.offset).take (P.cellsOf f.type))=some x)->rR enc P w base spare held ts cs
 |[],acc,ts,h,ha,hf=>by obtain rfl:=Aa h;exact ha
 |f::r,acc,ts,h,ha,hf=>by
  unfold Tj at h;split at h
  . rename_i us hus;split at h
    . rename_i hc;obtain⟨x,hx⟩:=hf f (Bc ..);refine EU zQ r _ ts h (ET ha ?_) (fun g hg=>hf g (Aw _ hg));rw[<-hc.1];exact Mx _ (zQ _ _ _ _ hus hx)
    cases h
  cases h
theorem QB{e:TypeId}{n:Nat}{ts:List TypeId}:∀(k:Nat) (cs:List Value),(∀i,i<k->rR enc P w base spare held ts ((cs.drop (i*ts.length)).take ts.length))->rR enc P w base spare held (List.replicate k ts).flatten cs
 |0,cs,h=>by intro i u hu;simp at hu
 |k+1,cs,h=>by
  rw[Fj,Cd];refine ET ?_ ?_
  . have :=h 0 A0;rw[Hk,Ej] at this;exact Mx _ this
  refine QB (e:=e) (n:=n) k _ fun i hi=>?_;have :=h (i+1) A0;rw[Jt];rw[show ts.length+i*ts.length=(i+1)*ts.length by rw[Bi,Eu,Hq]];exact this
theorem xY:∀(d:Nat) {t:TypeId} {ts:List TypeId} {fuel:Nat} {cs:List Value} {x:DataW H×List MemPlace},Oj P d t=some ts->DataW.trod enc P w base spare held fuel t cs=some x->rR enc P w base spare held ts cs
 |0,t,ts,fuel,cs,x,h,hx=>by cases h
 |d+1,t,ts,fuel,cs,x,h,hx=>by
  unfold Oj at h;split at h
  . rename_i fs ht;split at h
    . rename_i us hus;split at h
      . obtain rfl:=Aa h;obtain⟨xs,n,_,_,hl,pd,hf⟩:=DataW.trod_struct ht hx;refine EU (n:=n) (fun u ts cs x h1 h2=>xY d h1 h2) fs.toList [] us hus (fun i u hu=>by simp at hu) fun f hfm=>?_;obtain⟨i,hi,hif⟩:=Dt hfm;have :=hf i f (by rw[<-hif];simp);rw[this];have pB:i<xs.length:=(by rw[pd];simpa using hi);exact⟨_,Ac pB⟩
      cases h
    cases h
  . rename_i n e ht;split at h
    . rename_i us hus;split at h
      . rename_i hc;obtain rfl:=Aa h;obtain⟨xs,m,_,_,hl,pd,hf⟩:=DataW.trod_array ht hx;refine QB (e:=e) (n:=m) n cs fun i hi=>?_;have :=hf i hi;rw[hc.1,Ac A0] at this;exact xY d hus this
      cases h
    cases h
  . rename_i k ht;obtain rfl:=Aa h;obtain⟨n,rfl,_⟩:=DataW.trod_int ht hx;intro i u hu
    match i,hu with
    |0,hu=>exact⟨_,fuel,x,rfl,by simpa [<-Aa hu] using hx⟩
  . rename_i e ht;obtain rfl:=Aa h
    have hc:∃c,cs=[c]:=by
     rcases DataW.trod_slice ht hx with ⟨h,_⟩|⟨a,len,cap,_,_,_,_,h,_⟩
     . exact⟨_,h⟩
     exact⟨_,h⟩
    obtain⟨c,rfl⟩:=hc;intro i u hu
    match i,hu with
    |0,hu=>exact⟨_,fuel,x,rfl,by simpa [<-Aa hu] using hx⟩
  . rename_i ht;obtain rfl:=Aa h;obtain⟨z,rfl,_⟩:=DataW.trod_string ht hx;intro i u hu
    match i,hu with
    |0,hu=>exact⟨_,fuel,x,rfl,by simpa [<-Aa hu] using hx⟩
  cases h
theorem yX{ts:List TypeId}{cs:List Value}(h:rR enc P w base spare held ts cs){i:Nat}{u:TypeId}{k:IntKind}(hu:ts[i]?=some u)(hk:P.underlying u=some (.int k)):
 ∃n,cs[i]?=some (.int k n)/\(Lit.int k n).wf=true:=by
 obtain⟨v,m,y,hv,hy⟩:=h i u hu;obtain⟨n,hn,_,hw⟩:=DataW.trod_int hk hy;refine⟨n,?_,hw⟩;rw[hv];simpa using hn
end
end
end Go.Av
namespace Go.Av
open Go Go.RowKit Go.ChangeShapes Go.WideShapes Go.ChangeAt Go.Deep
section
def uT(mo:Bool)(W:World):Gh:=⟨fun _=>none,fun b o=>∃v,W.cell? ⟨b,o,none⟩=some v,mo⟩
theorem aTj{g:bF}{W:World}(hg:∀n cs,g n=some cs->VR (uT g.mo W) W (.pl cs) (.pointer (some ⟨n,0,none⟩)))
 (hs:∀n cs,g n=some cs->cs≠[]->∃c el fz,W.heap[n]?=some (.cells c el fz)/\c.size=cs.length):WR g (uT g.mo W) ⟨0,.nil⟩ W where
 cells:=fun id l cs eB h=>by cases h
 room:=fun id l h=>by cases h
 lD:=fun id kS l l' _ h=>by cases h
 jV:=fun id l h=>by cases h
 iG:=fun id l es h=>by cases h
 lt:=fun id l h=>by cases h
 iF:=fun b o h=>h
 iW:=hg
 DH:=hs
 mo:=rfl
theorem IK{mo:Bool}{W W':World}{G':Gh}{H':aA}(h:Ext (uT mo W) ⟨0,.nil⟩ W G' H' W'){b:Nat}(hb:b<W.heap.size):W'.heap[b]?=W.heap[b]?:=
 h.frame b hb fun id l hl=>by cases hl
theorem aXn{mo:Bool}{W:World}{k:IntKind}{sz len cap b o:Nat}{f:Nat->Int}{els:List (List AV)}(hu:∀e∈els,e.length=sz)(hl:els.length=len)
 (hf:els.flatten=(List.range (len*sz)).map fun j=>AV.int k (f j)) (hc:∀j,j<len*sz->W.cell? ⟨b,o+j,none⟩=some (.int k (f j))) (oY:len<=cap):
 VR (uT mo W) W (.bC 0 sz els) (.slice (some ⟨b,o,none⟩) len cap):=by
 subst hl;have zQ:els.flatten.length=els.length*sz:=by rw[hf];simp
 have hg:∀j,j<els.length*sz->els.flatten.getD j aB=.int k (f j):=fun j hj=>by rw[hf,List.getD,Ci,Ie hj];rfl
 refine .bC 0 sz els b o cap (fun j=>.int k (f j)) hu (fun j hj=>?_) (fun j hj=>?_) ⟨oY,trivial⟩
 . rw[zQ] at hj;refine⟨⟨_,hc j hj⟩,hc j hj,?_⟩;rw[hg j hj];rfl
 rw[zQ] at hj;rw[hg j hj];exact .int _ _
theorem uj{w:World}{a:Addr}{v:Value}(h:w.cell? a=some v):a.spot=none:=World.cell?_spot h
theorem zu(b o j:Nat):(Addr.mk b o none).add j=⟨b,o+j,none⟩:=by
 unfold Addr.add;split
 . rename_i h;rw[h];rfl
 rfl
section
variable {H:Type} {enc:TypeId×Value->H} {P:Program} {w:World} {base:Nat} {held:Bool}
theorem UN{t e:TypeId}{k:IntKind}{d:Nat}{ts:List TypeId}{fuel:Nat}{v:Value}{x:DataW H×List MemPlace}(ht:P.underlying t=some (.slice e))(hf:Oj P d e=some ts)
 (hk:∀u∈ts,P.underlying u=some (.int k)) (lF:P.cellsOf e=ts.length) (h0:0<ts.length) (mo:Bool) (h:DataW.trod enc P w base (fun _=>true) held fuel t [v]=some x):
 v=.slice none 0 0\/∃(len:Nat) (f:Nat->Int),len<=maxLen/\(∀j,j<len*ts.length->(Lit.int k (f j)).wf=true)/\
  ∀els:List (List AV),els.length=len->(∀e∈els,e.length=ts.length)->els.flatten=(List.range (len*ts.length)).map (fun j=>AV.int k (f j))->VR (uT mo w) w (.bC 0 ts.length els) v:=by
 rcases open_slice ht h with ⟨h0,_⟩|⟨a,len,cap,m,n,D,Pl,hv,hb,hl,hm,hmm,rfl,hx⟩
 . exact .inl (by simpa using h0)
 right;have lB:v=.slice (some a) len cap:=by simpa using hv
 subst lB;have hmc:m=cap:=by simpa using hmm
 subst hmc
 have key:∀j,j<m*ts.length->∃r,w.cell? (a.add j)=some (.int k r)/\(Lit.int k r).wf=true:=fun j hj=>by have hi:j / ts.length<m:=Nat.div_lt_of_lt_mul (by rwa [Bx]);have hr:j%ts.length<ts.length:=Bz _ h0;obtain⟨DT,h1,h2⟩:=hx (j / ts.length) A0;rw[lF] at h1;obtain⟨_,hlen,mL⟩:=World.cells?_some h1;have hra:=xY d hf h2;obtain⟨r,hr1,ZG⟩:=yX hra (i:=j%ts.length) (u:=ts[j%ts.length]) (Ac hr) (hk _ (Ah hr));refine⟨r,?_,ZG⟩;rw[<-hr1,<-mL _ hr,add_add,Bx,Eh]
 have hlm:len*ts.length<=m*ts.length:=Bq _ hl;obtain⟨f,hfn⟩:=choose_lt (α:=Int) (n:=len*ts.length) (p:=fun j r=>w.cell? (a.add j)=some (.int k r)/\(Lit.int k r).wf=true) (fun j hj=>key j A0);refine⟨len,f,by omega,fun j hj=>(hfn j hj).2,fun els e1 e2 e3=>?_⟩;obtain⟨b,o,s⟩:=a
 cases s with
 |none=>exact aXn e2 e1 e3 (fun j hj=>by have :=(hfn j hj).1;rwa [zu] at this) hl
 |some s=>
  have SL:m=0:=by
   rcases Ho m with h|h
   . exact h
   obtain⟨r,hr,_⟩:=key 0 (Il h h0);have :=uj hr;simp[Addr.add] at this
  subst SL;obtain rfl:len=0:=by omega
  obtain rfl:els=[]:=Cp e1;exact .uJ 0 ts.length b o s A1
end
theorem QA{α:Type}(f:Nat->α)(sz:Nat):∀len:Nat,((List.range len).map fun i=>(List.range sz).map fun r=>f (i*sz+r)).flatten=(List.range (len*sz)).map f
 |0=>by simp
 |len+1=>by rw[Ei,Cn,Gd,QA f sz len,Bi,Eu,List.range_add,Cn,Eo];simp
theorem Ys{mo:Bool}{W W':World}{G':Gh}{H':aA}(h:Ext (uT mo W) ⟨0,.nil⟩ W G' H' W')(a:Addr)(ha:a.block<W.heap.size):W'.frozen? a=W.frozen? a:=by simp only[World.frozen?,IK h ha]
theorem aCc{mo:Bool}{W W':World}{G':Gh}{H':aA}(h:Ext (uT mo W) ⟨0,.nil⟩ W G' H' W')(may:MemPlace->Prop):W.keptBut W' may:=by
 refine⟨h.same.1,h.same.2,fun i hi=>?_⟩;rw[IK h hi]
 cases W.heap[i]? with
 |none=>rfl
 |some o=>
  cases o with
  |cells c t fr=>exact⟨rfl,rfl,rfl,fun _ _=>rfl⟩
  |map es clock=>exact .inr ⟨rfl,rfl⟩
  |_=>rfl
section
variable {H:Type} {enc:TypeId×Value->H} {P:Program}
theorem Wn{mo:Bool}{f:Func}{s:ChangeSpec}{apart fresh handsOn again:Bool}{W W':World}{args:Array Value}{v:Value}{ds gs:List (DataW H)}{before pa pv:List MemPlace}{G':Gh}{H':aA}
 (hE:Ext (uT mo W) ⟨0,.nil⟩ W G' H' W')
 (hW:DataW.Whole enc P f.params.toList s.vars apart W args.toList ds gs before)
 (DZ:∀(b:Nat) (sp:Nat->Bool) (hd:Bool),DataW.TrodAll enc P W' b sp hd f.resultTypes.toList (v.resultList f.resultTypes.size) (s.fn H (ds++gs)).results [])
 (IS:∀sp:Nat->Bool,(∀p∈before,sp p.block=true)->DataW.TrodAll enc P W' 0 sp true f.params.toList args.toList (s.fn H (ds++gs)).args pa)
 (aMy:∀sp:Nat->Bool,(∀p∈before,sp p.block=true)->DataW.TrodVars enc P W' sp s.vars (s.fn H (ds++gs)).vars pv)
 (SO:before=pa++pv)
 (NO:∀(j:Nat) (t:TypeId) (r:Value),f.resultTypes[j]?=some t->(v.resultList f.resultTypes.size)[j]?=some r->Value.okWide P W' .any 0 t r):
 s.post enc P f apart fresh handsOn again W args v W':=by
 have hold:∀p∈before,(fun b=>decide (b<W.heap.size)) p.block=true:=fun p hp=>by simpa using hW.lt p hp
 refine⟨ds,gs,before,[],pa,pv,hW,DZ _ _ _,IS _ hold,aMy _ hold,aCc hE _,fun _=>?_⟩;obtain⟨_,_,_,_,_,hz,hn⟩:=id hW;refine⟨NO,_,_,([]++pa)++pv,⟨[]++pa,pv,trodAll_append (IS _ (fun _ _=>rfl)) (DZ _ _ _),aMy _ (fun _ _=>rfl),rfl,?_,?_⟩,?_⟩
 . intro b off hp;have hp':MemPlace.cell b off∈before:=by rw[SO];simpa using hp
   rw[Ys hE _ (hW.lt _ hp')];exact hz b off hp'
 . intro ha;have :=hn ha;rw[SO] at this;simpa using this
 intro p hp _;rw[SO];simpa using hp
end
end
end Go.Av
namespace Go.Av
section
def zP:=And.intro bGe (And.intro aEx bGf)
def zG:=And.intro bGe <| And.intro sy <| And.intro mh <| And.intro @AV.cells.eq_1 <| And.intro @AV.cells.eq_2 <| And.intro @AV.EO.eq_1 <| And.intro @AV.EO.eq_2 <| And.intro @yH.eq_1 <| And.intro @yH.eq_2 <| And.intro @yH.eq_3 <| And.intro @yH.eq_4 <| And.intro @yH.eq_5 <| And.intro @yH.eq_6 <| And.intro @unA.eq_1 <| And.intro @unA.eq_2 <| And.intro @unA.eq_3 <| And.intro @unA.eq_4 <| And.intro @unA.eq_5 <| And.intro @unA.eq_6 @fO.eq_1
def zI:=And.intro @aA.eG.eq_1 <| And.intro sh <| And.intro sn <| And.intro sl <| And.intro @gK.eq_1 <| And.intro @IG.eq_1 <| And.intro @IG.eq_2 <| And.intro @Lr.eq_1 <| And.intro @Lr.eq_2 <| And.intro Ih <| And.intro Fy <| And.intro @false_implies <| And.intro @implies_true.{0} <| And.intro @implies_true.{1} <| And.intro aXo <| And.intro iz <| And.intro cOl <| And.intro @AV.cells.eq_1 <| And.intro @AV.cells.eq_2 <| And.intro @AV.EO.eq_1 <| And.intro @AV.EO.eq_2 <| And.intro @yH.eq_1 <| And.intro @yH.eq_2 <| And.intro @yH.eq_3 <| And.intro @yH.eq_4 <| And.intro @yH.eq_5 @yH.eq_6
def zD:=And.intro @dY.fresh.eq_1 <| And.intro @dY.fresh.eq_2 <| And.intro @dY.fresh.eq_3 <| And.intro @dY.fresh.eq_4 <| And.intro @dY.fresh.eq_5 <| And.intro @dY.fresh.eq_6 <| And.intro bLk <| And.intro bGg <| And.intro @b9 <| And.intro @dY.cZ.eq_1 <| And.intro @dY.cZ.eq_2 <| And.intro @dY.cZ.eq_3 <| And.intro @dY.cZ.eq_4 <| And.intro @dY.cZ.eq_5 <| And.intro @BN.eq_1 <| And.intro @BN.eq_2 <| And.intro @BN.eq_3 <| And.intro @BN.eq_4 <|
 And.intro @false_implies <| And.intro @implies_true.{0} <| And.intro @implies_true.{1} <| And.intro @forall_const.{0} <| And.intro @forall_const.{1} <| And.intro @Kh <| And.intro @Ki <| And.intro @Cu.{0} <| And.intro @Am.{0} <| And.intro @Fu <| And.intro @false_or <| And.intro @Af.{0,0} <| And.intro @forall_eq.{1} <| And.intro @forall_eq_or_imp.{1} <| And.intro @forall_eq'.{1} @Ab.{0}
def zR:=And.intro @sJ.eq_1 <| And.intro @sJ.eq_2 <| And.intro @RR.eq_1 <| And.intro @RR.eq_2 <| And.intro zG zI
def zB:=And.intro aEx <| And.intro @ne_eq.{1} @Fz
theorem tB{p q:Prop} [Decidable p] [Decidable q] (h:p↔q):True/\True/\AV.bool (decide p)=AV.bool (decide q):=⟨trivial,trivial,Ao AV.bool (Bk.2 h)⟩
theorem Rx{rs:List HL}{R:Out->aA->Prop}{f:cW}{H:aA}{vs:List AV}(hR:R (.ret (pA vs)) H)(hv:sJ f H rs=some vs:=by(simp only[↓zP,zR,seval];rfl)):RS rs R .ret f [] H:=⟨rfl,vs,hv,hR⟩
def zJ:=And.intro zG zI
def zM:=And.intro sm <| And.intro @List.cons.injEq.{0} @Ki
theorem wI{z y:Int}(h: -2^63<=z/\z<2^63/\z=y):IntKind.i64.wrap z=y:=by rw[wrap_i64 h.1 h.2.1];exact h.2.2
theorem eL(h:aA)(s t:Nat)(x:List AV):dI h s (.bC t s [x])=some [x]:=by simp[dI]
theorem Dz{P:Program}{g:bF}{n:Nat}{f:cW}{ds:List fY}{H:aA}{Q:FQ}{pairs:List (Nat×Nat)}{rl:List aZ}(h:eX P g n pairs H.next 0 0 rl [] [] f H fun f' H'=>Q .normal f' ds H')(h0:rl.countP (·.op.fresh)=0:=by decide):FC P g n (.draw rl pairs) f ds H Q:=VH h0 h
structure Kt (P:Program) (g:bF) (n:Nat) (b:bR) (Q:FQ) (f:cW) (ds:List fY) (H:aA):Prop where
 h:FC P g n b f ds H Q
theorem bE{P:Program}{g:bF}{n:Nat}{b:bR}{Q:FQ}{f f':cW}{ds:List fY}{H H':aA}(hf:f=f')(hH:H=H'):Kt P g n b Q f ds H=Kt P g n b Q f' ds H':=by rw[hf,hH]
theorem bY{P:Program}{g:bF}{n:Nat}{b:bR}{Q:FQ}{f:cW}{ds:List fY}{H:aA}(h:FC P g n b f ds H Q):Kt P g n b Q f ds H:=⟨h⟩
theorem bX{P:Program}{g:bF}{n:Nat}{a b:bR}{Q:FQ}{f:cW}{ds:List fY}{H:aA}(h:FC P g n a f ds H (gI (Kt P g n b Q) Q)):FC P g n (.seq a b) f ds H Q:=by
 rw[b8];refine jI (fun e f ds H hq=>?_) h
 cases e with
 |normal=>exact hq.h
 |_=>exact hq
theorem gG{P:Program}{g:bF}{n:Nat}{a b:bR}{Q:FQ}{f:cW}{ds:List fY}{H:aA}(h:FC P g n a f ds H (gI (Kt P g n b Q) Q)):Kt P g n (.seq a b) Q f ds H:=⟨bX h⟩
section
variable {P:Program} {g:bF} {n:Nat} {f:cW} {H:aA} {d:Nat} {fid:FuncId} {azs:List Arg} {args:List AV} {v:AV} {H':aA}
theorem bO{r:List aZ}{ds:List fY}{Q:FQ}(hS:Sound P g fid args H (.ret v) H')(h:bT P g n r (iZ f d v) ds H' Q)(hd:d<n:=by decide)(ha:azs.map (nN g f)=args:=by simp only[sm,aEx,Nat.reduceEqDiff,fO]):
 bT P g n (⟨some d,.call (.const (.func (.func fid) [] [])) azs,none⟩::r) f ds H Q:=kl hd ha hS h
theorem dM{pairs:List (Nat×Nat)}{base i k:Nat}{rs:List aZ}{rd:List (Nat×Nat)}{ef:List (Nat×aA×aA)}{R:cW->aA->Prop}(hS:Sound P g fid args H (.ret v) H')
 (h:eX P g n pairs base (i+1) k rs rd ((i,H,H')::ef) (iZ f d v) H' R) (hd:d<n:=by decide) (ha:azs.map (nN g f)=args:=by simp only[sm,aEx,ne_eq,Nat.reduceEqDiff,Fz]) (hn:H.next<=H'.next:=by exact Ag _)
 (hr:∀x∈rd,(x.1,i)∈pairs->H.get x.2=H'.get x.2:=by exact fun _ _ _=>rfl):eX P g n pairs base i k (⟨some d,.call (.const (.func (.func fid) [] [])) azs,none⟩::rs) rd ef f H R:=HP hd ha hS hn hr h
end
theorem Ks{f g f0:Nat->AV}{n:Nat}{v:AV}(h:f=g)(e:f0 n=v)(k:g n=f0 n:=by simp only[zB,seval]):f n=v:=by rw[h,k,e]
theorem zq{a b:AV}(k:a=b:=by simp only[zB,seval]):a=b:=k
theorem Tz{p q:Prop}(h:q)(k:p=q:=by simp only[↓zP,zG,seval];exact rfl):p:=by rw[k];exact h
theorem Ty{p q:Prop}(h:q)(k:p=q:=by simp only[↓zP,zJ,seval];exact rfl):p:=by rw[k];exact h
theorem Tx{p q:Prop}(h:q)(k:p=q:=by simp only[↓zP,seval];exact rfl):p:=by rw[k];exact h
end
end Go.Av
namespace Go.Av
open Go
section
section
variable {P:Program} {g:bF} {rl:List aZ} {pj:Option Nat} {pairs:List (Nat×Nat)} {s0:List AV} {H0:aA} {Hs:Nat->aA} {ss:Nat->List AV} {vs:Nat->AV}
variable {n:Nat} {f:cW} {ds:List fY} {H:aA} {Q:FQ}
end
end
end Go.Av
namespace Go.Proofs.YtogfcjbgeebfkaaGreatDoor
open Go Go.Av
def bGp:Nat->Option (List AV):=fun _=>none
def gv:bF:=Ql Tryz.prog bGp
theorem fit:Fit Tryz.prog gv:=ie (by kernel_rfl)
theorem eC:HT gv:=fun n cs h=>by cases h
abbrev Sg(f:FuncId)(args:List AV)(H:aA)(out:Out)(H':aA):Prop:=Sound Tryz.prog gv f args H out H'
abbrev CW(f:Go.Func):={x:CR // wE Tryz.prog gv false f=some x}
theorem dC {k:FuncId} {f:Go.Func} (h:Tryz.prog.funcs[k]?=some f) (W:CW f) (h2:(f.name== "runtime.NumGoroutine")=false:=by kernel_rfl):gH Tryz.prog gv false k W.1:=dQ h h2 W.2
abbrev Fi(k:FuncId){f:Go.Func}(W:CW f):=gH Tryz.prog gv false k W.1
theorem Sp{mu:Bool}{k:FuncId}{F:CR}(hF:gH Tryz.prog gv mu k F){args:List AV}{v:AV}(ha:cM args=true)(hv:v.free=true)
 (h:FC Tryz.prog gv F.ntmps F.body (fO args) [] ⟨0,.nil⟩ (RS F.results fun o _=>o=.ret v)) (H:aA) (hl:args.length<=F.ntmps:=by exact Al rfl):Sound Tryz.prog gv k args H (.ret v) H:=
 FI fit eC hF hl ha hv h H
theorem So{mu:Bool}{k:FuncId}{F:CR}(hF:gH Tryz.prog gv mu k F){args:List AV}{v:AV}(ha:cM args=true)
 (h:FC Tryz.prog gv F.ntmps F.body (fO args) [] ⟨0,.nil⟩ (RS F.results fun o _=>o=.ret v)) (H:aA) (hv:v.free=true:=by simp only[sf,sfI,bV]) (hl:args.length<=F.ntmps:=by exact Al rfl):Sound Tryz.prog gv k args H (.ret v) H:=
 FI fit eC hF hl ha hv h H
theorem dB{g:bF}{mu:Bool}{fn:Go.Func}{F:CR}(h:(wE Tryz.prog g mu fn).isSome=true:=by kernel_rfl)(hx:mkX Tryz.prog g mu fn=some F:=by conv=>lhs;cbv):wE Tryz.prog g mu fn=some F:=aCm h hx
def mkY(P:Program)(g:bF)(mu:Bool)(fn:Go.Func)(c:Code):Option CR:=
 match dU P g mu c,uP P fn.results.toList with
  |some b,some r=>some ⟨fn.ntmps,r,b⟩
  |_,_=>none
theorem KO{g:bF}{mu:Bool}{fn:Go.Func}{F:CR}{b:Code}(hb:fn.body=some b:=by exact rfl)(h:(wE Tryz.prog g mu fn).isSome=true:=by kernel_rfl)(hx:mkY Tryz.prog g mu fn b=some F:=by
 conv=>lhs;unfold mkY;simp only[ax]
 (try conv in (occs:= *) lM _ _ _ _ _=>all_goals cbv)
 (try simp only[Cf])
 (try conv in (occs:= *) pS _ _=>all_goals cbv)
 conv=>lhs;cbv):wE Tryz.prog g mu fn=some F:=aCm h (by unfold mkX;rw[hb];exact hx)
theorem mA{f:FuncId}{mu:Bool}{F:CR}(hF:gH Tryz.prog gv mu f F){args:List AV}(ha:args.length<=F.ntmps){H H':aA}{out:Out}
 (h:FC Tryz.prog gv F.ntmps F.body (fO args) [] H (RS F.results fun o h=>o=out/\h=H')) (hdt:F.body.cX=true:=by first|rfl|decide):Sound Tryz.prog gv f args H out H':=by
 obtain⟨_,_,⟨rfl,rfl⟩,hS⟩:=eH fit hF ha h hdt;exact hS
def aRr:CW Tryz.f254:=⟨_,dB⟩
theorem bCx:Fi 254 aRr:=dC Tryz.func254 aRr
def aRv:CW Tryz.f258:=⟨_,dB⟩
theorem bDb:Fi 258 aRv:=dC Tryz.func258 aRv
def aRs:CW Tryz.f255:=⟨_,KO⟩
theorem bCy:Fi 255 aRs:=dC Tryz.func255 aRs
def aRt:CW Tryz.f256:=⟨_,dB⟩
theorem bCz:Fi 256 aRt:=dC Tryz.func256 aRt
def aRu:CW Tryz.f257:=⟨_,dB⟩
theorem bDa:Fi 257 aRu:=dC Tryz.func257 aRu
def aQf:CW Tryz.f198:=⟨_,dB⟩
theorem bBl:Fi 198 aQf:=dC Tryz.func198 aQf
def aQz:CW Tryz.f229:=⟨_,dB⟩
theorem bCf:Fi 229 aQz:=dC Tryz.func229 aQz
def aRq:CW Tryz.f253:=⟨_,dB⟩
theorem bCw:Fi 253 aRq:=dC Tryz.func253 aRq
end Go.Proofs.YtogfcjbgeebfkaaGreatDoor
