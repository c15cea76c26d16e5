/-
  Part of the proof of statement 14
-/
import Derived.Test.YtgggiembljfnhaaGreatDoorC06
import Derived.Test.YtgggiembljfnhaaGreatDoorC05
import Derived.Test.YtgggiembljfnhaaGreatDoorC03
import Derived.Shelf.SlSortCmp.NoneTotal
import Derived.Below
import Derived.Lib.Join
import Derived.ProofKit
import Derived.OpenShut
import Derived.Deep.Slices
import Derived.Test.YtgggiembljfnhaaGreatDoorProg
import Derived.KernelRfl
import Derived.Test.YtgggiembljfnhaaGreatDoorRows
import Derived.LaidMore
import Derived.LaidLaws
import Derived.MakeChecks
import Derived.Lay
import Derived.ChangeMaps5
import Derived.Deep.DeepHandedRow
set_option linter.unusedVariables false
set_option linter.unusedSimpArgs false
set_option linter.unusedSimpArgs false
set_option linter.unusedSectionVars false
set_option linter.defProp false
set_option maxRecDepth 100000
set_option maxHeartbeats 16000000
namespace Go.Av
open Go Go.Proofs Go.Shelf Go.Lib Go.Sort
abbrev DE (k:Nat):={l:List Int // l.length=k}
instance (k:Nat):Inhabited (DE k):=⟨⟨List.replicate k 0,by simp⟩⟩
def rX {k:Nat} (x:DE k):List Value:=x.1.map (Value.int .i64)
def Rm {k:Nat} (x:DE k):List AV:=x.1.map (AV.int .i64)
def nA {k:Nat} (d:List (DE k)):List Int:=d.flatMap (·.1)
theorem Xn {k:Nat} (x:DE k):(rX x).length=k:=by simp[rX,x.2]
def Gno:Gh:=⟨fun _=>none,fun _ _=>False,true⟩
theorem WR.empty {g:aT} (hg:∀n,g n=none) (w:World):WR g Gno ⟨0,.nil⟩ w where
 cells:=fun id l cs dH h=>by cases h
 room:=fun id l h=>by cases h
 iN:=fun id iO l l' _ h=>by cases h
 gW:=fun id l h=>by cases h
 fQ:=fun id l o h=>by cases h
 lt:=fun id l h=>by cases h
 fU:=fun b o h=>h.elim
 fY:=fun n cs h=>by rw[hg n] at h;cases h
 xA:=fun n cs h h0=>by rw[hg n] at h;cases h
 mo:=by unfold aT.mo;rw[hg];rfl
theorem fJ.ints {G:Gh} {w:World} (l:List Int):fJ G w (l.map (AV.int .i64)) (l.map (Value.int .i64)):=by
 refine⟨by simp,fun j hj=>?_⟩;have HQ:j<l.length:=by simpa using hj
 have e1:(l.map (AV.int .i64)).getD j aC=.int .i64 l[j]:=by simp[List.getD,HQ]
 have e2:(l.map (Value.int .i64)).getD j undef=.int .i64 l[j]:=by simp[List.getD,HQ]
 rw[e1,e2];exact .int ..
theorem OO {G':Gh} {H':aA} {w w':World} (e:Ext Gno ⟨0,.nil⟩ w G' H' w'):∃q os',w'=grow (w.drewN q) os':=by
 refine⟨w'.drawn -w.drawn,w'.heap.extract w.heap.size w'.heap.size,?_⟩
 have hh:w'.heap=w.heap++w'.heap.extract w.heap.size w'.heap.size:=by
  apply Array.ext_getElem?;intro b;rw[Array.getElem?_append];have hs:=e.size;split
  . rename_i hb;exact e.frame b hb (fun id l h=>by cases h)
  rename_i hb;rw[Array.getElem?_extract];by_cases h2:b<w'.heap.size
  . rw[if_pos (by omega)];congr 1;omega
  rw[if_neg (by omega),Gv (by omega)]
 obtain⟨h1,h2,h3,h4⟩:=e.same
 replace h4:=h4 rfl
 cases w';cases w;simp only[grow,World.drewN,World.mk.injEq] at *;exact⟨hh,h3,by omega,h1,h2⟩
theorem NK {P:Program} {f:FuncId} (vS:IN P f) (args:Array Value) (w:World):(callFunc f args).run P w=.ok (.enter f args) w:=by
 obtain⟨fn,h1,h2,h3⟩:=vS;have hb:¬fn.body=none:=fun hh=>by rw[hh] at h2;cases h2
 have h3':¬fn.name= "runtime.NumGoroutine" :=by simpa using h3
 simp[callFunc,program,Sem.run,h1,h3',hb]
theorem dw {P:Program} {g:aT} (hg:∀n,g n=none) {k:Nat} {gf:FuncId} {cf:DE k->DE k->Int}
 (Pb:∀x y,Sound P g gf [.agg (Rm x),.agg (Rm y)] ⟨0,.nil⟩ (.ret (.int .i64 (cf x y))) ⟨0,.nil⟩) (cC off size:Nat) (w:World):CmpLays P gf #[] rX k cf cC off size w:=by
 intro m os dk hs x y
 have hv:∀z:DE k,VR Gno (sortWorldK rX k w cC off m dk os) (.agg (Rm z)) (.agg (rX z).toArray):=fun z=>by have :=fJ.ints (G:=Gno) (w:=sortWorldK rX k w cC off m dk os) z.1;exact .agg _ _ this.1 (fun c hc=>by obtain⟨n,_,rfl⟩:=Bq.1 hc;rfl) this.2
 refine((Pb x y).2 Gno (sortWorldK rX k w cC off m dk os) [.agg (rX x).toArray,.agg (rX y).toArray] (WR.empty hg _) ⟨rfl,fun j hj=>?_⟩).mono fun e w' he=>?_
 . match j,hj with
   |0,_=>exact hv x
   |1,_=>exact hv y
 obtain⟨G',h1,h2,h3⟩:=he;refine⟨?_,OO h2⟩
 cases e with
 |returned u=>cases h3;rfl
 |_=>exact h3.elim
theorem Mg {k:Nat} (hk:1<=k):∀(d:List (DE k)) (t:Nat),t<d.length*k->(nA d)[t]?=some ((d[t / k]?.getD default).1[t%k]?.getD 0)
 |[],t,h=>by simp at h
 |x::d,t,h=>by
  have hx:=x.2;simp only[nA,Cq];rw[Cz];split
  . rename_i h1;rw[Dh (by omega),Bz (by omega)];simp[Ac h1]
  rename_i h1;have h2:k<=t:=by omega
  have h3:t -k<d.length*k:=by simp only[Ak,Ce,Fv] at h;omega
  have e1:t / k=(t -k) / k+1:=by rw[<-Nat.add_div_right _ (by omega)];congr 1;omega
  have e2:t%k=(t -k)%k:=by rw[<-Nat.mod_eq_sub_mod h2]
  rw[hx,e1,e2,Df];exact Mg hk d (t -k) h3
theorem iQ {k:Nat}:∀d:List (DE k),(nA d).length=d.length*k
 |[]=>by simp[nA]
 |x::d=>by have :=iQ d;simp only[nA,Cq,Ag,Ak,x.2,Ce,Fv] at this ⊢;omega
theorem PV {k:Nat} (hk:1<=k) (d:List (DE k)):flatK rX k d.toArray=((nA d).map (Value.int .i64)).toArray:=by
 refine ext_get! (by simp[iQ]) fun t ht=>?_;have ht':t<d.length*k:=by simpa using ht
 rw[get_flatK _ _ _ _ (by simpa using ht')];have h1:=Mg hk d t ht';have hm:t%k<k:=Dp _ (by omega);have hd:t / k<d.length:=by rwa [Dz (by omega)]
 have hl:(d[t / k]).1.length=k:=(d[t / k]).2
 have e2:(((nA d).map (Value.int .i64)).toArray)[t]! =.int .i64 ((d[t / k]).1[t%k]'(by omega)):=by
  rw[getElem!_pos _ _ (by simpa [iQ] using ht')];have h3:t<(nA d).length:=by rw[iQ];exact ht'
  rw[Ac h3] at h1;simp only[List.getElem_toArray,Ha];rw[Aa h1];simp[hd,Ac (show t%k<(d[t / k]).1.length by omega)]
 rw[e2,getElem!_pos d.toArray (t / k) (by simpa using hd)];simp only[rX,List.getElem_toArray];rw[getElem!_pos _ _ (by simp;omega)];simp
theorem TH {k:Nat} (hk:1<=k) {w:World} {cC off n:Nat} {d':List (DE k)} {c:Array Value} {el:TypeId} {fz:Nat×Nat} (tQ:w.heap[cC]?=some (.cells c el fz)):
 OR w (putRowK rX k (Sort.ahead w n) cC off d'.toArray) cC off ((nA d').map (Value.int .i64)) where
 size:=by simp[putRowK,putRow,mapBlock,Sort.ahead]
 other:=fun b' hb=>by simp only[putRowK,putRow,mapBlock,Sort.ahead,Ft];rw[if_neg (Ne.symm hb)]
 row:=fun c1 el1 fz1 h=>by
  rw[tQ] at h;cases h;refine⟨putCells id off (flatK rX k d'.toArray) c,?_,by simp[putCells],fun o ho=>?_,fun j hj eW=>?_⟩
  . simp[putRowK,putRow,mapBlock,Sort.ahead,Ft,tQ,onCells]
  . simp only[putCells,Array.getElem?_mapIdx,size_flatK]
    have :¬(off<=o/\o<off+d'.toArray.size*k):=by simp only[Ax,iQ,Fc] at ho ⊢;omega
    simp only[if_neg this]
    cases c[o]?<;>rfl
  simp only[Ax,iQ] at hj;simp only[putCells,Array.getElem?_mapIdx,size_flatK];rw[Db eW,Bi,if_pos (by simp;omega)];rw[show off+j -off=j by omega,PV hk,getElem!_pos _ _ (by simpa [iQ] using hj)];simp[List.getD,iQ,hj]
 same:=.now (h4:=Gb _ _)
theorem IV {P:Program} {g:aT} (hg:∀n,g n=none) {ρ:Ren} (L:SlLaysF0.n6 P ρ) {k:Nat} (hk:1<=k) (aE:∀w,(isAgg (ρ.t 24)).run P w=.ok true w) (zE:∀w,(Go.sizeOf (ρ.t 24)).run P w=.ok k w)
 {gf sf:FuncId} (hsf:sf=ρ.f 6) (hfs:IN P sf) (hfg:IN P gf) {cf:DE k->DE k->Int} (hO:SWO (ltOf cf))
 (Pb:∀x y,Sound P g gf [.agg (Rm x),.agg (Rm y)] ⟨0,.nil⟩ (.ret (.int .i64 (cf x y))) ⟨0,.nil⟩) (d:List (DE k)) (hd:d.length<4611686018427387904):
 ∃d':List (DE k),d'.Perm d/\(d'.Pairwise fun a b=>¬cf b a<0)/\∀(H:aA) (id:Nat) (dH:Bool),H.get id=some (.cells ((nA d).map (AV.int .i64)) dH)->
  Sound P g sf [.sl id k 0 d.length d.length,.func (.func gf) [] []] H (.ret (.eZ [])) (H.set id (.cells ((nA d').map (AV.int .i64)) dH)):=by
 subst hsf;have hp:=pdq_sorts (ltOf cf) hO d.toArray 0 d.toArray.size (Lib.bitLen d.toArray.size) true true (Cs _) (Ai _) (Or.inl rfl);generalize hD:pdq (ltOf cf) d.toArray 0 d.toArray.size (Lib.bitLen d.toArray.size) true true=D at hp;obtain⟨⟨q1,q2,q3⟩,q4⟩:=hp
 have qi:D.toList.Perm d:=by
  rw[<-q1] at q3;have e1:(D.extract 0 D.size).toList=D.toList:=by simp
  have e2:(d.toArray.extract 0 D.size).toList=d:=by rw[q1];simp
  rwa [e1,e2] at q3
 have hlen:D.toList.length=d.length:=qi.length_eq;refine⟨D.toList,qi,?_,fun H id dH cJ=>⟨hfs,fun G w vs hw gV=>?_⟩⟩
 . rw[Ez];intro i j hi hj rP;have :=q4 i j (Cs _) rP (by simp at hj hlen ⊢;omega);simp only[ltOf,Co] at this;simp only[Cm] at hi hj;rw[getElem!_pos D i hi,getElem!_pos D j hj] at this;simpa using this
 obtain⟨hl,hv⟩:=gV
 match vs,hl with
 |[u0,u1],_=>
  have v0:=hv 0 (by simp);have v1:=hv 1 (by simp);simp only[Di,Es] at v0 v1
  cases v0 with
  |sl _ _ _ _ _ gQ l pP hle gU nE=>
   cases v1 with
   |func _ _ _ az bz ha hb _ _=>
    obtain rfl:az=[]:=Da ha;obtain rfl:bz=[]:=Da hb;obtain⟨a1,a2,a3,a4,a5⟩:=hw.cells id l _ dH pP cJ;obtain⟨c,el,fz,b1,b2,b3⟩:=hw.room id l pP (.inl ⟨_,_,cJ⟩);have aDm:((nA d).map (AV.int .i64)).length=d.length*k:=by simp[iQ]
    have hH:HoldsK rX k w l.cC (l.base+0) d.toArray:=by intro j hj;rw[size_flatK] at hj;have HQ:j<d.length*k:=(by simpa using hj);obtain⟨u,e1,e2⟩:=a5 j (by rw[aDm];exact HQ);have hjf:j<(nA d).length:=(by rw[iQ];exact HQ);have e3:((nA d).map (AV.int .i64)).getD j aC=.int .i64 (nA d)[j]:=(by simp[List.getD,hjf]);rw[e3] at e2;cases e2;refine⟨?_,b3 j (by rw[a1,aDm] at a2;omega)⟩;rw[Cp,e1,PV hk,getElem!_pos _ _ (by simpa using hjf)];simp
    have hblk:l.cC<w.heap.size:=by
     rcases Dt l.cC w.heap.size with h|h
     . exact h
     rw[Gv h] at b1;cases b1
    have aDo:=AnyQ.slices_SortFunc_eq L k aE zE (rX (k:=k)) Xn (fun x v hv=>by obtain⟨n,_,rfl⟩:=Bq.1 hv;rfl) cf hO gf #[] l.cC (l.base+0) gQ d.toArray w (fun args w=>NK hfg args w) (dw hg Pb _ _ _ _) hH hblk (by simpa using hd);rw[hD] at aDo;refine aDo.mono fun e w' he=>?_;obtain⟨rfl,n,os,rfl⟩:=he;have hup:=TH hk (w:=w) (cC:=l.cC) (off:=l.base+0) (n:=n) (d':=D.toList) b1
    have iq:eR ((nA d).map (AV.int .i64)) 0 ((nA D.toList).map (AV.int .i64))=(nA D.toList).map (AV.int .i64):=by simp only[eR,Ew,Cg,Cc];rw[Et (by simp[iQ,hlen]),Cf]
    obtain⟨r1,r2⟩:=hw.store pP cJ (fJ.ints (nA D.toList)) (fun c hc=>by obtain⟨n,_,rfl⟩:=Bq.1 hc;rfl) (by simp[iQ,hlen]) hup;rw[iq] at r1 r2
    have pg:∀b,b<(putRowK rX k (Sort.ahead w n) l.cC (l.base+0) D.toList.toArray).heap.size->(grow (putRowK rX k (Sort.ahead w n) l.cC (l.base+0) D.toList.toArray) os).heap[b]?=(putRowK rX k (Sort.ahead w n) l.cC (l.base+0) D.toList.toArray).heap[b]?:=fun b hb=>by simp only[grow];rw[Array.getElem?_append_left hb]
    have e0:sortWorldK rX k w l.cC (l.base+0) n D os=grow (putRowK rX k (Sort.ahead w n) l.cC (l.base+0) D.toList.toArray) os:=(by simp[sortWorldK]);rw[e0];refine⟨G,r1.grow pg,r2.trans (Ext.grow r1.fU pg (by simp[grow]) .now),?_⟩;exact .eZ _ [] rfl fun j hj=>absurd hj (Bh _)
theorem mM {P:Program} {g:aT} {ρ:Ren} (L:SlLaysF0.n6 P ρ) {sf:FuncId} (hsf:sf=ρ.f 6) (hfs:IN P sf) (gf:FuncId) (H:aA):Sound P g sf [.aF,.func (.func gf) [] []] H (.ret (.eZ [])) H:=by
 subst hsf;refine⟨hfs,fun G w vs hw gV=>?_⟩;obtain⟨hl,hv⟩:=gV
 match vs,hl with
 |[u0,u1],_=>have v0:=hv 0 (by simp);simp only[Di] at v0;cases v0;refine(AnyF.slices_SortFunc_none L none 0 u1 w).mono fun e w' he=>?_;obtain⟨rfl,rfl⟩:=he;exact⟨G,hw,Ext.refl G H _,.eZ _ [] rfl fun j hj=>absurd hj (Bh _)⟩
end Go.Av
namespace Go.Av
open Go
section
section
variable {P:Program} {g:aT} {n:Nat}
theorem Ug {k:IP} {f:cQ} {id:Nat} {args:List AV} {H2 H3:aA} {out:Out} (hb:mI n f) (h:NF P g n k f id args H2 out H3):Mu P g k (LF n f) id args H2 out H3:=by
 unfold Mu;rw[Li];refine dP (fun e s1 oR H1 hq=>?_) (uU k.LB _ [] H2 _ (hb.nU _) h);obtain⟨f1,rfl,Ji,hq⟩:=hq
 cases e with
 |normal=>
  obtain⟨h1,k1,l8,h2,h3⟩:=hq;refine⟨h1,k1,l8,h2,dP (fun e s2 NS H4 hq=>?_) (uU k.body _ [] _ _ Ji h3)⟩;obtain⟨f2,rfl,SC,hq⟩:=hq
  cases e with
  |panic v=>exact hq.elim
  |_=>exact hq
 |_=>exact hq.elim
theorem RS (hm:Fit P g) {k:IP} {f:cQ} {id:Nat} {args:List AV} {H2 H3:aA} {out:Out} (hb:mI n f) (cJ:H2.get id=some (.loop k (LF n f) .ready)) (hlen:args.length=k.ps.length) (h:NF P g n k f id args H2 out H3):
 yQ P g id args H2 out H3:=Lm hm cJ hlen (Ug hb h)
variable {r:List aN} {f:cQ} {ds:List eX} {H:aA} {Q:FQ}
theorem RL {d:Nat} {c:Arg} {id:Nat} {azs:List Arg} {args:List AV} {v:AV} {H':aA} (hd:d<n) (hc:jD g f c=.yield id) (ha:azs.map (jD g f)=args)
 (hS:yQ P g id args H (.ret v) H') (h:bM P g n r (iA f d v) ds H' Q):bM P g n (⟨some d,.call c azs,none⟩::r) f ds H Q:=by
 have :∀v,eF n f (some d) v=iA f d v:=fun v=>by simp[eF,hd]
 unfold bM;simp only[eJ,if_true,this];exact⟨.ret v,H',.inr ⟨id,hc,by rw[ha];exact hS⟩,h⟩
theorem Uj {c:Arg} {ps:List Nat} {LB body:bP} {fid:FuncId} {fs cs:List AV} {v:AV} {He:aA} {k':IP} {s':List AV} {st:LSt} (hc:jD g f c=.func (.func fid) fs cs)
 (hS:Sound P g fid (fs++[.yield (H.next+1)]++cs) ((H.alloc .NQ).alloc (.loop ⟨ps,LB,body⟩ (LF n f) .ready)) (.ret v) He) (hl:He.get (H.next+1)=some (.loop k' s' st))
 (h:∀Hf,sN He (H.next+1) Hf->KE st f (.mark H.next::ds) Hf Q):FC P g n (.lK c ps LB body) f ds H Q:=by
 have eW:∃Hf,sN He (H.next+1) Hf:=⟨He.set (H.next+1) .dead,rfl,fun m=>by rw[aA.aI]⟩
 obtain⟨Hf,hf⟩:=eW;exact⟨fid,fs,cs,v,He,k',s',st,Hf,hc,hS,hl,hf,h Hf hf⟩
theorem IK {c:Arg} {ps:List Nat} {LB body:bP} {fid:FuncId} {fs cs:List AV} (hc:jD g f c=.func (.func fid) fs cs)
 (h:∃v He k' s' st,Sound P g fid (fs++[.yield (H.next+1)]++cs) ((H.alloc .NQ).alloc (.loop ⟨ps,LB,body⟩ (LF n f) .ready)) (.ret v) He/\He.get (H.next+1)=some (.loop k' s' st)/\
   ∀Hf,sN He (H.next+1) Hf->KE st f (.mark H.next::ds) Hf Q):FC P g n (.lK c ps LB body) f ds H Q:=by
 obtain⟨v,He,k',s',st,h1,h2,h3⟩:=h;exact Uj hc h1 h2 h3
theorem mI.iA {n:Nat} {f:cQ} (h:mI n f) {d:Nat} (hd:d<n) (v:AV):mI n (iA f d v):=fun t ht=>by rw[lP _ _ (by omega)];exact h t ht
theorem eS {c:bP} {f0:cQ} {ds:List eX} {H:aA} {Q:FQ} (h:∀f,f=f0->FC P g n c f ds H Q):FC P g n c f0 ds H Q:=h _ rfl
structure Over (H H':aA):Prop where
 le:H.next<=H'.next
 same:∀j,j<H.next->H'.get j=H.get j
theorem Over.refl (H:aA):Over H H:=⟨Ai _,fun _ _=>rfl⟩
theorem Over.alloc {H H':aA} (h:Over H H') (o:dU):Over H (H'.alloc o):=⟨by simp only[aA.aR];have :=h.le;omega,fun j hj=>by
 have :=h.le
 rw[aA.aG,if_neg (by omega)];exact h.same j hj⟩
theorem Over.set {H H':aA} (h:Over H H') {id:Nat} (bZ:H.next<=id) (o:dU):Over H (H'.set id o):=⟨by rw[aA.bD];exact h.le,fun j hj=>by rw[aA.aI,if_neg (by omega)];exact h.same j hj⟩
end
end
attribute [local congr] aJ
section
section
variable {P:Program} {g:aT} {n:Nat}
def aAj (n c ix a b:Nat) (cs:List Nat) (ts B:bP):Bool:=
 Nat.blt c n&&Nat.blt ix n&&Nat.blt a n&&Nat.blt b n&& !Nat.beq a ix&& !Nat.beq b ix&& !Nat.beq b a&& !pR ix ts.wr&& !pR ix B.wr&&B.oN&& !pR a cs&& !pR b cs&& !pR ix cs&&cs.all (fun t=> !pR t ts.wr)
def PT (ix a b:Nat) (ts B:bP):List Nat:=a::b::ix::(ts.wr++B.wr)
theorem TP {id c ix a b:Nat} {op:BinOp} {dz:Int} {ts B:bP} {f:cQ} {ds:List eX} {H:aA} {Q:FQ} (cs:List Nat) (J:Nat->List AV->aA->Prop) (val:Nat->Int) (N:Nat)
 (hs:aAj n c ix a b cs ts B=true) (eK:∀i,i<N->jX op .i64 (val i) .i64 dz=some (.int .i64 (val (i+1))))
 (h1:f ix=.int .i64 (val 0)) (h0:J 0 (cs.map f) H)
 (test:∀(i:Nat) (f':cQ) (H':aA),i<=N->iF (PT ix a b ts B) f f'->f' ix=.int .i64 (val i)->J i (cs.map f') H'->FC P g n ts f' ds H' (gI (fun Lz aAe GN=>aAe=ds/\GN=H'/\Lz c=.bool (decide (i<N))) fun _ _ _ _=>False))
 (body:∀(i:Nat) (f':cQ) (H':aA),i<N->iF (PT ix a b ts B) f f'->f' ix=.int .i64 (val i)->J i (cs.map f') H'->FC P g n B f' ds H' (gI (fun Lz _ GN=>J (i+1) (cs.map Lz) GN) (cW id Q)))
 (done:∀(f':cQ) (H':aA),iF (PT ix a b ts B) f f'->J N (cs.map f') H'->Q .normal f' ds H'):
 FC P g n (.block id (.loop (.seq (.seq ts (.cond (.tmp c) .skip (.exit id))) (.seq B
  (.ops [⟨some a,.CI (.tmp ix),none⟩,⟨some b,.bin op (.tmp a) (.const (.int .i64 dz)),none⟩,⟨some ix,.CI (.tmp b),none⟩]))))) f ds H Q:=by
 simp only[aAj,Aj,Cr,Eb,Bc] at hs;obtain⟨⟨⟨⟨⟨⟨⟨⟨⟨⟨⟨⟨⟨s1,s2⟩,s3⟩,s4⟩,s5⟩,s6⟩,s7⟩,t1⟩,b1⟩,b2⟩,c1⟩,c2⟩,c3⟩,c4⟩:=hs;have ne:∀{a b:Nat},Nat.beq a b=false->a≠b:=fun h e=>by subst e;simp at h
 have aOd:∀d∈ts.wr,d∈PT ix a b ts B:=fun d hd=>by simp[PT,hd]
 have aOc:∀d∈B.wr,d∈PT ix a b ts B:=fun d hd=>by simp[PT,hd]
 have kpU:∀{f':cQ} {d:Nat} {v:AV},d∈PT ix a b ts B->iF (PT ix a b ts B) f f'->iF (PT ix a b ts B) f (iA f' d v):=fun {f' d v} hd hk t ht=>by have cF:t≠d:=fun e=>mX.1 ht (by rw[e];exact hd);rw[lP _ _ cF];exact hk t ht
 refine uc (id:=id) (c:=c) (fun i f' H'=>iF (PT ix a b ts B) f f'/\f' ix=.int .i64 (val i)/\J i (cs.map f') H') N ⟨.WM,h1,h0⟩ ?_ ?_ ?_
 . rintro i f' H' hi ⟨hk,e1,hj⟩ K hK Q';refine iX (fun e f2 NS H2 hh=>?_) (AP (test i f' H' hi hk e1 hj));obtain⟨k1,k2,k3⟩:=hh
   cases e with
   |normal=>obtain⟨rfl,rfl,k4⟩:=k3;refine⟨rfl,rfl,hK _ k4 ⟨hk.trans (k1.sub aOd),by rw[k1 _ t1];exact e1,?_⟩⟩;have :cs.map f2=cs.map f':=Er fun t ht=>k1 t (by simpa using c4 t ht);rw[this];exact hj
   |_=>exact k3.elim
 . rintro i f' H' hi ⟨hk,e1,hj⟩;refine iX (fun e f2 NS H2 hh=>?_) (AP (body i f' H' hi hk e1 hj));obtain⟨k1,k2,k3⟩:=hh
   cases e with
   |normal=>obtain rfl:=k2 b2;refine⟨rfl,?_⟩;have e2:f2 ix=.int .i64 (val i):=(by rw[k1 _ b1];exact e1);have kP:=hk.trans (k1.sub aOc);rw[DJ,AR _ _ s3];simp only[cD,fA,e2,dI];rw[uV _ _ _ _ s4];simp only[cD,fA,rY,oQ,eK i hi,Bi,dI];rw[AR _ _ s2];simp only[cD,fA,dI,oG,fE,oQ];refine⟨trivial,kpU (by simp[PT]) (kpU (by simp[PT]) (kpU (by simp[PT]) kP)),trivial,?_⟩;rw[CG c3,CG c2,CG c1];exact k3
   |_=>exact k3
 rintro f' H' ⟨hk,e1,hj⟩;exact done f' H' hk hj
theorem wS {id c ix a b:Nat} {ts B:bP} {f:cQ} {ds:List eX} {H:aA} {Q:FQ} (cs:List Nat) (J:Nat->List AV->aA->Prop) (s N:Nat) (hsN:s<=N) (hN:N<2^63)
 (hs:aAj n c ix a b cs ts B=true) (h1:f ix=.int .i64 s) (h0:J s (cs.map f) H)
 (test:∀(i:Nat) (f':cQ) (H':aA),s<=i->i<=N->iF (PT ix a b ts B) f f'->f' ix=.int .i64 i->J i (cs.map f') H'->FC P g n ts f' ds H' (gI (fun Lz aAe GN=>aAe=ds/\GN=H'/\Lz c=.bool (decide (i<N))) fun _ _ _ _=>False))
 (body:∀(i:Nat) (f':cQ) (H':aA),s<=i->i<N->iF (PT ix a b ts B) f f'->f' ix=.int .i64 i->J i (cs.map f') H'->FC P g n B f' ds H' (gI (fun Lz _ GN=>J (i+1) (cs.map Lz) GN) (cW id Q)))
 (done:∀(f':cQ) (H':aA),iF (PT ix a b ts B) f f'->J N (cs.map f') H'->Q .normal f' ds H'):
 FC P g n (.block id (.loop (.seq (.seq ts (.cond (.tmp c) .skip (.exit id))) (.seq B
  (.ops [⟨some a,.CI (.tmp ix),none⟩,⟨some b,.bin .add (.tmp a) (.const (.int .i64 1)),none⟩,⟨some ix,.CI (.tmp b),none⟩]))))) f ds H Q:=by
 refine TP cs (fun i=>J (s+i)) (fun i=>((s+i:Nat):Int)) (N -s) hs (fun i hi=>?_) (by simpa using h1) (by simpa using h0) (fun i f' H' hi hk e1 hj=>?_) (fun i f' H' hi hk e1 hj=>?_) (fun f' H' hk hj=>?_)
 . simp only[jX,if_true];rw[wrap_i64 (by omega) (by omega)];simp only[Ab,AV.int.injEq,Ii];omega
 . have h:=test (s+i) f' H' (by omega) (by omega) hk e1 hj
   rwa [show decide (s+i<N)=decide (i<N -s) from by rw[Gy];omega] at h
 . have h:=body (s+i) f' H' (by omega) (by omega) hk e1 hj
   rwa [Bd] at h
 have :s+(N -s)=N:=by omega
 simp only[this] at hj;exact done f' H' hk hj
end
end
theorem Qt {k:IntKind} (hs:k.signed=false) (x:Int):k.wrap x=x%2^k.bits:=by simp[IntKind.wrap,hs]
theorem Mr {k:IntKind} (hs:k.signed=false) (x:Nat):k.wrap (x:Int)=((x%2^k.bits:Nat):Int):=by rw[Qt hs];simp
theorem xE (n x:Nat):BitVec.ofInt n (x:Int)=BitVec.ofNat n x:=by apply BitVec.eq_of_toNat_eq;simp[BitVec.toNat_ofInt]
theorem Ou {k:IntKind} (hs:k.signed=false) {a b:Nat} (ha:a<2^k.bits) (hb:b<2^k.bits):nG .and k (a:Int) (b:Int)=some (.int k ((a&&& b:Nat):Int)):=by
 have h:(BitVec.ofNat k.bits a&&& BitVec.ofNat k.bits b).toNat=a&&& b:=by rw[BitVec.toNat_and,Ey,Ey,Bz ha,Bz hb]
 simp only[nG,xE,h,Mr hs];rw[Bz (Nat.and_lt_two_pow _ hb)]
theorem dj {k:IntKind} (hs:k.signed=false) {a b:Nat} (ha:a<2^k.bits) (hb:b<2^k.bits):nG .or k (a:Int) (b:Int)=some (.int k ((a|||b:Nat):Int)):=by
 have h:(BitVec.ofNat k.bits a|||BitVec.ofNat k.bits b).toNat=a|||b:=by rw[BitVec.toNat_or,Ey,Ey,Bz ha,Bz hb]
 simp only[nG,xE,h,Mr hs];rw[Bz (Nat.or_lt_two_pow ha hb)]
theorem fdiv_pow (x:Int) (n:Nat):x.fdiv (2^n)=x / 2^n:=Du _ (Int.le_of_lt (Int.pow_pos (by omega)))
theorem lz {k k':IntKind} (hu:k.signed=false) (a s:Nat) (hs:s<=k.bits):jX .shl k (a:Int) k' (s:Int)=some (.int k ((a*2^s%2^k.bits:Nat):Int)):=by
 simp only[jX];rw[if_neg (by omega)];have :min ((s:Int)).toNat k.bits=s:=by omega
 rw[this,Qt hu];simp
theorem aCh {a b n:Nat} (ha:a<2^n):a|||b*2^n=a+b*2^n:=by rw[Nat.or_comm,Cn,<-Nat.two_pow_add_eq_or_of_lt ha,Gc]
end Go.Av
namespace Go.aY
section
variable {p:Nat->V} {N:Nat} {n:V} {d:Int}
instance:DecidableEq V:=fun a b=>match a,b with
 |⟨x,y,z⟩,⟨x',y',z'⟩=>if h:x=x'/\y=y'/\z=z' then .isTrue (by obtain⟨rfl,rfl,rfl⟩:=h;rfl) else .isFalse (fun e=>h (by cases e;exact⟨rfl,rfl,rfl⟩))
def fD (p:Nat->V) (i j k:Nat):V×Int:=(kX (aV (vec p i j) (vec p i k)),dot (kX (aV (vec p i j) (vec p i k))) (p i))
def gP (p:Nat->V) (i j k:Nat):List (V×Int):=
 if(fD p i j k).1=V0 then [] else [fD p i j k,(neg (fD p i j k).1,-(fD p i j k).2)]
theorem Mc:kX V0=V0:=by simp[kX,V0]
theorem BV {i j k:Nat} (hi:i<N) (hj:j<N) (hk:k<N) {q:V×Int} (h:q∈gP p i j k) (le:∀k,k<N->dot q.1 (p k)<=q.2) (lt:∃k,k<N/\dot q.1 (p k)<q.2):uN p N q.1 q.2:=by
 unfold gP at h;split at h
 . cases h
 rename_i hz;have hc:aV (vec p i j) (vec p i k)≠V0:=fun e=>hz (by rw[fD,e,Mc]);simp only[Ah,Al,Bx] at h
 rcases h with rfl|rfl
 . exact rQ.isF (a:=i) (b:=j) (c:=k) ⟨hc,.inl rfl⟩ hi hj hk le lt rfl
 refine rQ.isF (a:=i) (b:=j) (c:=k) ⟨hc,.inr rfl⟩ hi hj hk le lt ?_;simp only[fD];rw[BB]
theorem fX (F:uN p N n d):∃i j k,k<j/\j<i/\i<N/\(n,d)∈gP p i j k:=by
 obtain⟨i,j,k,h1,h2,h3,hc,hd⟩:=F.down;refine⟨i,j,k,h1,h2,h3,?_⟩;have hz:¬(fD p i j k).1=V0:=UQ hc.1;unfold gP;rw[if_neg hz]
 rcases hc.2 with e|e
 . rw[hd,e];exact Aq
 refine Ao _ (Ah.2 (.inl ?_));rw[hd,e];simp only[fD];rw[BB]
def qX (i j k a b c:Nat):Prop:=a<i\/(a=i/\(b<j\/(b=j/\c<k)))
def pG (p:Nat->V) (N:Nat) (i j k:Nat) (K:List (V×Int)):Prop:=
 ∀a b c,c<b->b<a->a<N->qX i j k a b c->∀q∈gP p a b c,uN p N q.1 q.2->q∈K
theorem pG.zero:pG p N 0 0 0 []:=fun a b c _ _ _ h=>by unfold qX at h;omega
theorem pG.down {i j:Nat} {K:List (V×Int)} (h:pG p N i j j K):pG p N i (j+1) 0 K:=fun a b c h1 h2 h3 hb q hq F=>h a b c h1 h2 h3 (by unfold qX at *;omega) q hq F
theorem pG.next {i:Nat} {K:List (V×Int)} (h:pG p N i i 0 K):pG p N (i+1) 0 0 K:=fun a b c h1 h2 h3 hb q hq F=>h a b c h1 h2 h3 (by unfold qX at *;omega) q hq F
theorem pG.step {i j k:Nat} {K K':List (V×Int)} (h:pG p N i j k K) (hs:∀q∈K,q∈K') (hn:∀q∈gP p i j k,uN p N q.1 q.2->q∈K'):pG p N i j (k+1) K':=fun a b c h1 h2 h3 hb q hq F=>by
 by_cases e:a=i/\b=j/\c=k
 . obtain⟨rfl,rfl,rfl⟩:=e;exact hn q hq F
 exact hs q (h a b c h1 h2 h3 (by unfold qX at *;omega) q hq F)
theorem pG.all {K:List (V×Int)} (h:pG p N N 0 0 K) (hK:∀q∈K,uN p N q.1 q.2) (q:V×Int):q∈K↔uN p N q.1 q.2:=by refine⟨hK q,fun F=>?_⟩;obtain⟨i,j,k,h1,h2,h3,hc⟩:=fX F;exact h i j k h1 h2 h3 (.inl h3) q hc F
theorem Kb (P:V×Int->Prop):∀L:List (V×Int),∃K:List (V×Int),K.Nodup/\∀q,q∈K↔q∈L/\P q
 |[]=>⟨[],List.nodup_nil,fun q=>by simp⟩
 |x::L=>by
  obtain⟨K,h1,h2⟩:=Kb P L;by_cases hx:P x/\x∉K
  . refine⟨x::K,List.nodup_cons.2 ⟨hx.2,h1⟩,fun q=>?_⟩;simp only[Ah,h2];constructor
    . rintro(rfl|⟨h3,h4⟩)
      . exact⟨.inl rfl,hx.1⟩
      exact⟨.inr h3,h4⟩
    rintro⟨rfl|h3,h4⟩
    . exact .inl rfl
    exact .inr ⟨h3,h4⟩
  refine⟨K,h1,fun q=>?_⟩;rw[h2];simp only[Ah];constructor
  . rintro⟨h3,h4⟩;exact⟨.inr h3,h4⟩
  rintro⟨rfl|h3,h4⟩
  . exact(h2 q).1 (Ct fun hc=>hx ⟨h4,hc⟩)
  exact⟨h3,h4⟩
theorem rC {α:Type} (R:α->α->Prop) (tr:∀{a b c},R a b->R b c->R a c) (tot:∀a b,R a b\/R b a):∀l:List α,∃s:List α,s.Perm l/\s.Pairwise R
 |[]=>⟨[],List.Perm.refl _,List.Pairwise.nil⟩
 |x::l=>by
  obtain⟨s,h1,h2⟩:=rC R tr tot l
  have ins:∀s:List α,s.Pairwise R->∃t:List α,t.Perm (x::s)/\t.Pairwise R:=by
   intro s
   induction s with
   |nil=>exact fun _=>⟨[x],List.Perm.refl _,by simp⟩
   |cons y s ih=>
    intro hs;rw[Ec] at hs
    rcases tot x y with h|h
    . refine⟨x::y::s,List.Perm.refl _,Ec.2 ⟨fun z hz=>?_,Ec.2 hs⟩⟩
      rcases Ah.1 hz with rfl|hz
      . exact h
      exact tr h (hs.1 z hz)
    obtain⟨t,t1,t2⟩:=ih hs.2;refine⟨y::t,(List.Perm.cons y t1).trans (List.Perm.swap x y s),Ec.2 ⟨fun z hz=>?_,t2⟩⟩
    rcases Ah.1 (t1.mem_iff.1 hz) with rfl|hz
    . exact h
    exact hs.1 z hz
  obtain⟨t,t1,t2⟩:=ins s h2;exact⟨t,t1.trans (List.Perm.cons x h1),t2⟩
theorem pE.exists (p:Nat->V) (N:Nat):∃S,pE p N S:=by
 obtain⟨K,h1,h2⟩:=Kb (fun q=>uN p N q.1 q.2) ((List.range N).flatMap fun i=>(List.range N).flatMap fun j=>(List.range N).flatMap fun k=>gP p i j k)
 have hK:∀q,q∈K↔uN p N q.1 q.2:=fun q=>by rw[h2];refine⟨fun h=>h.2,fun F=>⟨?_,F⟩⟩;obtain⟨i,j,k,a1,a2,a3,hc⟩:=fX F;simp only[Fh,Bn];exact⟨i,a3,j,by omega,k,by omega,hc⟩
 obtain⟨S,s1,s2⟩:=rC (fun a b:V×Int=>¬kO b.1 a.1) (fun {a b c} h h'=>by unfold kO at *;omega) (fun a b=>by unfold kO;omega) K;exact⟨S,pE.UM h1 hK s1 s2⟩
theorem wD {α:Type}:∀(l on:List α),l.Nodup->(∀x∈l,x∈on)->l.length<=on.length
 |[],_,_,_=>Cs _
 |x::l,on,hn,h=>by
  obtain⟨s,t,rfl⟩:=List.append_of_mem (h x Aq);rw[List.nodup_cons] at hn
  have :=wD l (s++t) hn.2 fun y hy=>by
   have h1:=h y (Ao _ hy);simp only[Az,Ah] at h1 ⊢
   rcases h1 with h1|rfl|h1
   . exact .inl h1
   . exact absurd hy hn.1
   exact .inr h1
  simp only[Ag,Ak] at this ⊢;omega
theorem tK {α β:Type} (f:α->List β) (m:Nat) (hf:∀x,(f x).length<=m):∀l:List α,(l.flatMap f).length<=l.length*m
 |[]=>by simp
 |x::l=>by have h1:=tK f m hf l;have h2:=hf x;simp only[Cq,Ag,Ak,Ce,Fv];omega
theorem DY {K:List (V×Int)} (hn:K.Nodup) (hK:∀q∈K,uN p N q.1 q.2):K.length<=N*(N*(N*2)):=by
 have h1:=wD K ((List.range N).flatMap fun i=>(List.range N).flatMap fun j=>(List.range N).flatMap fun k=>gP p i j k) hn fun q hq=>by obtain⟨i,j,k,a1,a2,a3,hc⟩:=fX (hK q hq);simp only[Fh,Bn];exact⟨i,a3,j,by omega,k,by omega,hc⟩
 have c:∀i j k,(gP p i j k).length<=2:=fun i j k=>by unfold gP;split<;>simp
 have h2:=tK (fun i=>(List.range N).flatMap fun j=>(List.range N).flatMap fun k=>gP p i j k) (N*(N*2)) (fun i=>by
  have :=tK (fun j=>(List.range N).flatMap fun k=>gP p i j k) (N*2) (fun j=>by
   have :=tK (fun k=>gP p i j k) 2 (fun k=>c i j k) (List.range N)
   rwa [Cl] at this) (List.range N)
  rwa [Cl] at this) (List.range N)
 rw[Cl] at h2;omega
theorem Sn {js:List Nat} {n:Nat} (hn:js.Nodup) (hl:∀j∈js,j<n) (nQ:∀j,j<n->j∈js):js.Perm (List.range n):=
 (List.perm_ext_iff_of_nodup hn List.nodup_range).2 fun a=>by rw[Bn];exact⟨hl a,nQ a⟩
theorem KG {α:Type} (l:List α) (d:α):(List.range l.length).map (fun j=>l.getD j d)=l:=by refine Fk (by simp) fun k h1 h2=>?_;simp[List.getD,h2]
end
end Go.aY
namespace Go.DL
def DD (l:List Nat):Prop:=∀d∈l,d<65536
theorem DD.tail {d:Nat} {l:List Nat} (h:DD (d::l)):DD l:=fun x hx=>h x (Ao _ hx)
theorem DD.take {l:List Nat} (h:DD l) (k:Nat):DD (l.take k):=fun d hd=>h d (Bf hd)
theorem DD.getD {l:List Nat} (h:DD l) (k:Nat):l.getD k 0<65536:=by
 by_cases hk:k<l.length
 . rw[Ck,Ac hk];exact h _ (Ap hk)
 rw[Ck,Bp (by omega)];decide
end Go.DL
namespace Go.aY
section
variable {p:Nat->V} {N:Nat}
theorem VP (p:Nat->V) (a b c:Nat):aV (vec p c b) (vec p c a)=neg (aV (vec p a b) (vec p a c)):=by simp only[vec,aV,sub,neg];apply V.ext'<;>simp only <;>grind
theorem PK (u w:V):dot (aV u w) w=0:=by simp only[dot,aV];grind
theorem LO {u w:V} (h:dot u w=0):dot (kX u) w=0:=by
 by_cases hu:u=V0
 . subst hu;rw[Mc];simp[dot,V0]
 have h1:=vL u w;rw[h] at h1;exact dR (c:=(gE u:Int)) (by have :=wO hu;omega) h1
theorem Sq (p:Nat->V) (a b c:Nat):fD p c b a=(neg (fD p a b c).1,-(fD p a b c).2):=by unfold fD;rw[VP p a b c,CO,BB];have h:=LO (PK (vec p a b) (vec p a c));rw[nX] at h;rw[show dot (kX (aV (vec p a b) (vec p a c))) (p c)=dot (kX (aV (vec p a b) (vec p a c))) (p a) by omega]
theorem VE {a b c:Nat} {q:V×Int} (h:q∈gP p c b a):q∈gP p a b c:=by
 unfold gP at h ⊢;rw[Sq] at h;split at h
 . cases h
 rename_i hz;rw[if_neg (fun e=>hz (by rw[e];rfl))];simp only[Ah,Al,Bx,neg_neg,Int.neg_neg] at h ⊢
 rcases h with h|h
 . exact .inr h
 exact .inl h
def nJ (p:Nat->V) (N:Nat) (i j k:Nat) (K:List (V×Int)):Prop:=
 ∀a b c,a<b->b<c->c<N->qX i j k a b c->∀q∈gP p a b c,uN p N q.1 q.2->q∈K
theorem nJ.zero:nJ p N 0 0 0 []:=fun a b c _ _ _ h=>by unfold qX at h;omega
theorem nJ.j0 {i:Nat} {K:List (V×Int)} (h:nJ p N i 0 0 K):nJ p N i (i+1) 0 K:=fun a b c h1 h2 h3 hb q hq F=>h a b c h1 h2 h3 (by unfold qX at *;omega) q hq F
theorem nJ.k0 {i j:Nat} {K:List (V×Int)} (h:nJ p N i j 0 K):nJ p N i j (j+1) K:=fun a b c h1 h2 h3 hb q hq F=>h a b c h1 h2 h3 (by unfold qX at *;omega) q hq F
theorem nJ.step {i j k:Nat} {K K':List (V×Int)} (h:nJ p N i j k K) (hs:∀q∈K,q∈K') (hn:∀q∈gP p i j k,uN p N q.1 q.2->q∈K'):nJ p N i j (k+1) K':=fun a b c h1 h2 h3 hb q hq F=>by
 by_cases e:a=i/\b=j/\c=k
 . obtain⟨rfl,rfl,rfl⟩:=e;exact hn q hq F
 exact hs q (h a b c h1 h2 h3 (by unfold qX at *;omega) q hq F)
theorem nJ.all {K:List (V×Int)} (h:nJ p N N 0 0 K) (hK:∀q∈K,uN p N q.1 q.2) (q:V×Int):q∈K↔uN p N q.1 q.2:=by refine⟨hK q,fun F=>?_⟩;obtain⟨i,j,k,h1,h2,h3,hc⟩:=fX F;exact h k j i h1 h2 h3 (.inl (by omega)) q (VE hc) F
end
section
variable {p:Nat->V} {N:Nat}
def okF (p:Nat->V) (N:Nat) (q:V×Int):Bool:=((List.range N).all fun k=>decide (dot q.1 (p k)<=q.2))&&(List.range N).any fun k=>decide (dot q.1 (p k)<q.2)
theorem UN {q:V×Int}:okF p N q=true↔(∀k,k<N->dot q.1 (p k)<=q.2)/\∃k,k<N/\dot q.1 (p k)<q.2:=by simp only[okF,Aj,Bc,Hc,Bn,Bj]
def ltV (a b:V):Bool:=decide (a.x<b.x)||(decide (a.x=b.x)&&(decide (a.y<b.y)||(decide (a.y=b.y)&&decide (a.z<b.z))))
theorem UH {a b:V}:ltV a b=true↔kO a b:=by simp only[ltV,kO,Dg,Aj,Bj]
def l9:List (V×Int)->Bool
 |[]=>true
 |q::r=>(r.all fun x=>ltV q.1 x.1)&&l9 r
theorem UU:∀{S:List (V×Int)},l9 S=true->S.Pairwise fun a b=>kO a.1 b.1
 |[],_=>.nil
 |q::r,h=>by simp only[l9,Aj,Bc] at h;exact Ec.2 ⟨fun x hx=>UH.1 (h.1 x hx),UU h.2⟩
def VF (p:Nat->V) (N:Nat) (S:List (V×Int)):Bool:=
 l9 S&&(S.all fun q=>okF p N q&&(List.range N).any fun i=>(List.range i).any fun j=>(List.range j).any fun k=>(gP p i j k).contains q)&&
 ((List.range N).all fun i=>(List.range i).all fun j=>(List.range j).all fun k=>(gP p i j k).all fun q=> !okF p N q||S.contains q)
theorem BH {S:List (V×Int)} (h:VF p N S=true):pE p N S:=by
 simp only[VF,Aj] at h;obtain⟨⟨h1,h2⟩,h3⟩:=h;refine⟨fun q=>⟨fun hq=>?_,fun hF=>?_⟩,UU h1⟩
 . have :=Bc.1 h2 q hq;simp only[Aj,Hc,Bn] at this;obtain⟨ho,i,hi,j,hj,k,hk,hc⟩:=this;obtain⟨le,lt⟩:=UN.1 ho;exact BV (i:=i) (j:=j) (k:=k) hi (by omega) (by omega) (by simpa using hc) le lt
 obtain⟨i,j,k,hk,hj,hi,hc⟩:=fX hF;simp only[Bc,Bn] at h3;have :=h3 i hi j hj k hk q hc;rw[UN.2 ⟨hF.le,hF.lt⟩] at this;simpa using this
def ZE (on:List Nat) (f:Nat->Nat):List Nat:=match on with
 |[]=>[]
 |s::_=>(List.range (match (List.range on.length).find? (fun i=>iter f (i+1) s==s) with|some i=>i+1|none=>0)).map fun i=>iter f i s
theorem lf {n:V} {d:Int} {L:List Nat} (h:Poly p N n d L):L=ZE (nT p N n d) (tA n p (nT p N n d)):=by
 obtain⟨s,r,m,e,W,rfl⟩:=h.ex
 have Tq:(List.range (nT p N n d).length).find? (fun i=>iter (tA n p (nT p N n d)) (i+1) s==s)=some (m -1):=by have hp:=W.pos;have hle:=W.le;rw[List.find?_eq_some_iff_getElem];refine⟨by rw[show m -1+1=m by omega,Dr];exact W.back,m -1,by rw[Cl];omega,by rw[Gl],fun j hj=>?_⟩;rw[Gl];have :=W.first (j+1) (by omega) (by omega);simpa using this
 unfold ZE;generalize hf:tA n p (nT p N n d)=f at *;generalize nT p N n d=on at *;subst e;simp only;rw[Tq];have hp:=W.pos;rw[show(match some (m -1) with|some i=>i+1|none=>0)=m from by show m -1+1=m;omega]
end
end Go.aY
namespace Go.Av
open Go
inductive Wk:AV->AV->Prop
 |refl (a:AV):Wk a a
 |bH (tag sz:Nat) (els vM:List (List AV)) (hl:vM.length=els.length) (hs:(∀e∈els,e.length=sz)->∀e∈vM,e.length=sz) (hf:vM.flatten.length=els.flatten.length)
   (h:∀j,j<els.flatten.length->Wk (els.flatten.getD j aC) (vM.flatten.getD j aC)):Wk (.bH tag sz els) (.bH 0 sz vM)
 |agg (cs vI:List AV) (hl:vI.length=cs.length) (h:∀j,j<cs.length->Wk (cs.getD j aC) (vI.getD j aC)):Wk (.agg cs) (.agg vI)
theorem Wk.one {a b:AV} (h:Wk a b):b.one=a.one:=by cases h<;>rfl
theorem VR.wk {G:Gh} {w:World} {a b:AV} (h:Wk a b):∀{u:Value},VR G w a u->VR G w b u:=by
 induction h with
 |refl a=>exact fun h=>h
 |bH tag sz els vM hl hs hf hj ih=>
  intro u hv
  cases hv with
  |rE _ _ b o s ht=>obtain rfl:vM=[]:=Da hl;exact .rE _ _ b o s (by omega)
  |bH _ _ _ b o cap us hu hc hv ht=>rw[<-hl];refine .bH 0 sz vM b o cap us (hs hu) (fun j HQ=>?_) (fun j HQ=>ih j (by omega) (hv j (by omega))) ⟨by rw[hl];exact ht.1,trivial⟩;have Jo:j<els.flatten.length:=(by omega);exact⟨(hc j Jo).1,(hc j Jo).2.1,by rw[(hj j Jo).one];exact(hc j Jo).2.2⟩
 |agg cs vI hl hj ih=>
  intro u hv
  cases hv with
  |agg _ vs iv h1 hv=>refine .agg vI vs (by omega) (fun c hc=>?_) fun j HQ=>ih j (by omega) (hv j (by omega));obtain⟨j,HQ,rfl⟩:=Ff hc;have Jo:j<cs.length:=(by omega);have :=(hj j Jo).one;simp only[List.getD,Ac HQ,Ac Jo,Bb] at this;rw[this];exact h1 _ (Ap Jo)
theorem Sound.wk {P:Program} {g:aT} {f:FuncId} {args XS:List AV} {H H':aA} {out:Out} (h:Sound P g f XS H out H') (hl:XS.length=args.length) (hw:∀j,j<args.length->Wk (args.getD j aC) (XS.getD j aC)):Sound P g f args H out H':=
 ⟨h.1,fun G w vs hG hv=>h.2 G w vs hG ⟨by rw[hl];exact hv.1,fun j hj=>VR.wk (hw j (by omega)) (hv.2 j (by omega))⟩⟩
mutual
def ah:AV->AV
 |.bH _ sz els=>.bH 0 sz (vN els)
 |.agg cs=>.agg (qD cs)
 |a=>a
def qD:List AV->List AV
 |[]=>[]
 |x::r=>ah x::qD r
def vN:List (List AV)->List (List AV)
 |[]=>[]
 |x::r=>qD x::vN r
end
theorem vO:∀l:List AV,(qD l).length=l.length
 |[]=>by simp[qD]
 |x::r=>by simp[qD,vO r]
theorem MA:∀l:List (List AV),(vN l).length=l.length
 |[]=>by simp[vN]
 |x::r=>by simp[vN,MA r]
theorem yZ:∀l:List (List AV),(vN l).flatten=qD l.flatten
 |[]=>by simp[vN,qD]
 |x::r=>by
  have :∀a b:List AV,qD (a++b)=qD a++qD b:=fun a b=>by
   induction a with
   |nil=>simp[qD]
   |cons y a ih=>simp[qD,ih]
  simp[vN,yZ r,this]
theorem MB {sz:Nat}:∀{l:List (List AV)},(∀e∈l,e.length=sz)->∀e∈vN l,e.length=sz
 |[],_,e,he=>by simp[vN] at he
 |x::r,h,e,he=>by
  simp only[vN,Ah] at he
  rcases he with rfl|he
  . rw[vO];exact h x Aq
  exact MB (fun y hy=>h y (Ao _ hy)) e he
theorem wZ:∀(l:List AV) (j:Nat),j<l.length->(qD l).getD j aC=ah (l.getD j aC)
 |[],j,hj=>absurd hj (Bh _)
 |x::r,0,_=>by simp[qD]
 |x::r,j+1,hj=>by have :=wZ r j (by simpa using hj);simpa [qD] using this
theorem yF {l:List AV} {j:Nat} (hj:j<l.length):l.getD j aC∈l:=by rw[show l.getD j aC=l[j] by simp[List.getD,hj]];exact Ap hj
theorem TK (a:AV):Wk a (ah a):=by
 match a with
 |.bH tag sz els=>rw[ah];refine .bH tag sz els _ (MA els) MB (by rw[yZ,vO]) fun j hj=>?_;rw[yZ,wZ _ _ hj];have hm:=yF hj;generalize els.flatten.getD j aC=x at *;obtain⟨e,he,hx⟩:=Fg.1 hm;have h1:=Is he;have h2:=Is hx;exact TK _
 |.agg cs=>rw[ah];refine .agg cs _ (vO cs) fun j hj=>?_;rw[wZ _ _ hj];have hm:=yF hj;generalize cs.getD j aC=x at *;have h2:=Is hm;exact TK _
 |.bool _|.int _ _|.str _|.zX|.ref _ _|.pl _|.aF|.sl _ _ _ _ _|.func _ _ _|.vZ|.iface _ _|.lZ|.eZ _|.map _|.oZ|.yield _=>simp only[ah];exact .refl _
termination_by SizeOf.sizeOf a
decreasing_by
 . simp only[AV.bH.sizeOf_spec];omega
 simp only[AV.agg.sizeOf_spec];omega
theorem Sound.ah {P:Program} {g:aT} {f:FuncId} {args:List AV} {H H':aA} {out:Out} (h:Sound P g f (qD args) H out H'):Sound P g f args H out H':=
 h.wk (vO _) fun j hj=>by rw[wZ _ _ hj];exact TK _
section
theorem VR.mo {G:Gh} {w:World} {a:AV} {u:Value} (h:VR G w a u) (b:Bool):VR ⟨G.loc,G.fB,b⟩ w a u:=h.mono (fun _ _ h=>h) (fun _ _ h=>⟨h,rfl⟩)
section
variable {P:Program} {g g':aT}
theorem Sound.up (hv:∀n cs,g n=some cs->g' n=some cs) (hm:g.mo=true) (hm':g'.mo=false) {f:FuncId} {args:List AV} {out:Out} (h:Sound P g f args ⟨0,.nil⟩ out ⟨0,.nil⟩):Sound P g' f args ⟨0,.nil⟩ out ⟨0,.nil⟩:=by
 refine⟨h.1,fun G w vs hw gV=>?_⟩
 have uS:WR g ⟨G.loc,G.fB,true⟩ ⟨0,.nil⟩ w:={
  cells:=fun id l cs dH h1 h2=>by obtain⟨a1,a2,a3,a4,a5⟩:=hw.cells id l cs dH h1 h2;exact⟨a1,a2,a3,a4,fun j hj=>let⟨u,hu,hv⟩:=a5 j hj;⟨u,hu,hv.mo true⟩⟩
  room:=hw.room
  iN:=hw.iN
  gW:=hw.gW
  fQ:=fun id l o h1 h2 h3=>by cases h2
  lt:=hw.lt
  fU:=hw.fU
  fY:=fun n cs hn=>(hw.fY n cs (hv n cs hn)).mo true
  xA:=fun n cs hn h0=>hw.xA n cs (hv n cs hn) h0
  mo:=hm.symm}
 refine(h.2 ⟨G.loc,G.fB,true⟩ w vs uS ⟨gV.1,fun j hj=>(gV.2 j hj).mo true⟩).mono fun e w' ⟨G',h1,h2,h3⟩=>?_;have hG:G.mo=false:=hw.mo.trans hm'
 refine⟨⟨G'.loc,G'.fB,false⟩,{
  cells:=fun id l cs dH q1 q2=>by obtain⟨a1,a2,a3,a4,a5⟩:=h1.cells id l cs dH q1 q2;exact⟨a1,a2,a3,a4,fun j hj=>let⟨u,hu,hv⟩:=a5 j hj;⟨u,hu,hv.mo false⟩⟩
  room:=h1.room
  iN:=h1.iN
  gW:=h1.gW
  fQ:=fun id l o q1 q2 q3=>by cases q2
  lt:=h1.lt
  fU:=h1.fU
  fY:=fun n cs hn=>(hw.fY n cs hn).mono h2.loc h2.fB
  xA:=fun n cs hn h0=>by obtain⟨c,el,fz,a1,a2⟩:=hw.xA n cs hn h0;refine⟨c,el,fz,?_,a2⟩;rw[h2.frame n (Bw.1 a1).1 (fun id l _ ⟨o,ho,_⟩=>by cases ho)];exact a1
  mo:=hm'.symm},{
  loc:=h2.loc
  fB:=h2.fB
  size:=h2.size
  frame:=h2.frame
  jK:=h2.jK
  mU:=h2.mU
  next:=h2.next
  news:=h2.news
  dead:=h2.dead
  mo:=hG.symm
  same:=⟨h2.same.os,h2.same.output,h2.same.tape,fun hb=>by rw[hG] at hb;cases hb⟩},?_⟩
 cases out with
 |ret v=>cases e with
  |returned u=>exact h3.mo false
  |_=>exact h3.elim
 |pA v=>cases e with
  |panicked c=>obtain⟨u,a,b⟩:=h3;exact⟨u,a,b.mo false⟩
  |_=>exact h3.elim
end
end
section
theorem mc (nw tag:Nat):OI none nw tag=OI none 0 tag:=by
 match tag with
 |0=>rfl
 |1=>rfl
 |k+2=>rfl
theorem Qf (H:aA) (nw:Nat) (v:AV):hY H none nw v=hY H none 0 v:=by cases v<;>simp only[hY,mc nw]
theorem zW {f f':AV->Option AV} (h:∀x,f x=f' x):∀l,uQ f l=uQ f' l
 |[]=>rfl
 |x::r=>by simp only[uQ,h x,zW h r]
theorem Kk (H:aA) (nw:Nat):∀(n:Nat) (v:AV),fG H none nw n v=fG H none 0 n v
 |0,v=>by cases v<;>exact Qf H nw _
 |n+1,v=>by
  cases v with
  |agg cs=>simp only[fG,zW (Kk H nw n) cs]
  |eZ cs=>simp only[fG,zW (Kk H nw n) cs]
  |_=>exact Qf H nw _
abbrev Fact:=FuncId×List AV×AV
def kn (f:FuncId) (args:List AV):List Fact->Option AV
 |[]=>none
 |e::r=>match Nat.beq f e.1 with
  |true=>match oO (qD args) e.2.1 with
   |true=>some e.2.2
   |false=>kn f args r
  |false=>kn f args r
def rN (P:Program) (g:aT) (K:List Fact):Prop:=∀e∈K,∀H,Sound P g e.1 e.2.1 H (.ret e.2.2) H
def kr (K:List Fact) (o:GO):GO:=fun f args H=>match kn f args K with
 |some v=>some (.ret v,H)
 |none=>o f args H
def ran (g:aT) (T:FT) (RD:GO) (CJ:FuncId->Nat->Bool) (n:Nat) (e:Fact):Bool:=
 match bN e.2.1 with
 |true=>match exF RD T.get g 100000 CJ 40 (.func (.func e.1) [] []) e.2.1 ⟨0,.nil⟩ with
  |some (.ret u,H2)=>match fG H2 none 0 n u with
   |some v=>v.same e.2.2
   |none=>false
  |_=>false
 |false=>false
section
variable {P:Program} {g:aT}
theorem Ya {f:FuncId} {args:List AV} {v:AV}:∀{K:List Fact},rN P g K->kn f args K=some v->∀H,Sound P g f args H (.ret v) H
 |[],_,h,_=>by cases h
 |e::r,hK,h,H=>by
  have hr:rN P g r:=fun x hx=>hK x (Ao _ hx);simp only[kn] at h;split at h
  . rename_i hf;split at h
    . rename_i hs;cases h;obtain rfl:=Au hf;exact Sound.ah (by rw[kY _ _ hs];exact hK e Aq H)
    exact Ya hr h H
  exact Ya hr h H
theorem ku {K:List Fact} (hK:rN P g K) {o:GO} (ho:FF P g o):FF P g (kr K o):=by
 intro f args H out H' h;unfold kr at h;split at h
 . rename_i v hv;cases h;exact Ya hK hv H
 exact ho _ _ _ _ _ h
theorem aCk (hm:Fit P g) (hg:uW g) {T:FT} (hT:T.Wn fun f F=>∃mu,iM P g mu f F) {RD:GO} (ho:FF P g RD) {CJ:FuncId->Nat->Bool} (hn:Lk P g CJ) {n:Nat} {e:Fact} (h:ran g T RD CJ n e=true) (H:aA):Sound P g e.1 e.2.1 H (.ret e.2.2) H:=by
 unfold ran at h;split at h
 . rename_i ha;split at h
   . rename_i u H2 he;split at h
     . rename_i v hv;obtain rfl:=AV.OF _ _ h
       rcases DX hm ho hn (fun f F hF=>hT.get hF) 40 _ _ _ _ _ he with ⟨p,hp,hS⟩|⟨id,hc,_⟩
       . cases hp;simp only[Cg,Cf] at hS;exact hS.frame hg ha (tk:=none) (fun k hk=>by cases hk) (n:=n) H (by rw[Kk];exact hv)
       cases hc
     cases h
   cases h
 cases h
def te:FuncId->Nat->Bool:=fun _ _=>false
theorem Yn:Lk P g te:=fun _ _ h=>by cases h
theorem rN.nil:rN P g []:=fun e he=>by cases he
theorem rN.cons {K:List Fact} (hK:rN P g K) {f:FuncId} {args:List AV} {v:AV} (h:∀H,Sound P g f args H (.ret v) H):rN P g ((f,args,v)::K):=fun e he=>by
 rcases Ah.1 he with rfl|he
 . exact h
 exact hK e he
theorem rN.ran {K:List Fact} (hK:rN P g K) (hm:Fit P g) (hg:uW g) {T:FT} (hT:T.Wn fun f F=>∃mu,iM P g mu f F) {o:GO} (ho:FF P g o) {CJ:FuncId->Nat->Bool} (hn:Lk P g CJ) (n:Nat) {e:Fact} (h:Av.ran g T (kr K o) CJ n e=true):rN P g (e::K):=fun x hx=>by
 rcases Ah.1 hx with rfl|hx
 . exact aCk hm hg hT (ku hK ho) hn h
 exact hK x hx
end
end
end Go.Av
namespace Go.Av
open Go Go.RowKit
section
def NU (P:Program) (fl:TypeId->Option (List TypeId)):List Field->List TypeId->Option (List TypeId)
 |[],acc=>some acc
 |f::r,acc=>match fl f.type with
  |some ts=>if f.offset=acc.length/\P.cellsOf f.type=ts.length then NU P fl r (acc++ts) else none
  |none=>none
def PW (P:Program):Nat->TypeId->Option (List TypeId)
 |0,_=>none
 |d+1,t=>match P.underlying t with
  |some (.struct fs)=>match NU P (PW P d) fs.toList [] with
   |some ts=>if P.cellsOf t=ts.length then some ts else none
   |none=>none
  |some (.array n e)=>match PW P d e with
   |some ts=>if P.cellsOf e=ts.length/\P.cellsOf t=n*ts.length/\0<ts.length then some (List.replicate n ts).flatten else none
   |none=>none
  |some (.int _)=>some [t]
  |some (.slice _)=>some [t]
  |some .string=>some [t]
  |_=>none
section
variable {H:Type} {enc:TypeId×Value->H} {P:Program} {w:World} {base:Nat} {spare:Nat->Bool} {held:Bool}
def oS (enc:TypeId×Value->H) (P:Program) (w:World) (base:Nat) (spare:Nat->Bool) (held:Bool) (ts:List TypeId) (cs:List Value):Prop:=
 ∀(i:Nat) (u:TypeId),ts[i]?=some u->∃(v:Value) (m:Nat) (y:DataW H×List MemPlace),cs[i]?=some v/\DataW.trod enc P w base spare held m u [v]=some y
theorem yH {ts us:List TypeId} {cs:List Value} (h1:oS enc P w base spare held ts cs) (h2:oS enc P w base spare held us (cs.drop ts.length)):oS enc P w base spare held (ts++us) cs:=by
 intro i u h;by_cases hi:i<ts.length
 . rw[Dy hi] at h;exact h1 i u h
 rw[Fz (by omega)] at h;obtain⟨v,m,y,hv,hy⟩:=h2 _ u h;refine⟨v,m,y,?_,hy⟩;rw[Ed] at hv;rw[<-hv];congr 1;omega
theorem GG {ts:List TypeId} {cs:List Value} (n:Nat) (h:oS enc P w base spare held ts (cs.take n)):oS enc P w base spare held ts cs:=by
 intro i u hu;obtain⟨v,m,y,hv,hy⟩:=h i u hu;refine⟨v,m,y,?_,hy⟩;rw[Gm] at hv;split at hv
 . exact hv
 cases hv
theorem yI {fl:TypeId->Option (List TypeId)} {n:Nat} {cs:List Value}
 (pI:∀(u:TypeId) (ts:List TypeId) (cs:List Value) (x:DataW H×List MemPlace),fl u=some ts->DataW.trod enc P w base spare held n u cs=some x->oS enc P w base spare held ts cs):
 ∀(fs:List Field) (acc ts:List TypeId),NU P fl fs acc=some ts->oS enc P w base spare held acc cs->
  (∀f∈fs,∃x,DataW.trod enc P w base spare held n f.type ((cs.drop f.offset).take (P.cellsOf f.type))=some x)->oS enc P w base spare held ts cs
 |[],acc,ts,h,ha,hf=>by obtain rfl:=Aa h;exact ha
 |f::r,acc,ts,h,ha,hf=>by
  unfold NU at h;split at h
  . rename_i us hus;split at h
    . rename_i hc;obtain⟨x,hx⟩:=hf f (Aq ..);refine yI pI r _ ts h (yH ha ?_) (fun g hg=>hf g (Ao _ hg));rw[<-hc.1];exact GG _ (pI _ _ _ _ hus hx)
    cases h
  cases h
theorem Kg {e:TypeId} {n:Nat} {ts:List TypeId}:∀(k:Nat) (cs:List Value),(∀i,i<k->oS enc P w base spare held ts ((cs.drop (i*ts.length)).take ts.length))->oS enc P w base spare held (List.replicate k ts).flatten cs
 |0,cs,h=>by intro i u hu;simp at hu
 |k+1,cs,h=>by
  rw[Ep,Bo];refine yH ?_ ?_
  . have :=h 0 (by omega);rw[Hr,Ex] at this;exact GG _ this
  refine Kg (e:=e) (n:=n) k _ fun i hi=>?_;have :=h (i+1) (by omega);rw[Gt];rw[show ts.length+i*ts.length=(i+1)*ts.length by rw[Ce,Fv,Gc]];exact this
theorem xO:∀(d:Nat) {t:TypeId} {ts:List TypeId} {fuel:Nat} {cs:List Value} {x:DataW H×List MemPlace},PW P d t=some ts->DataW.trod enc P w base spare held fuel t cs=some x->oS enc P w base spare held ts cs
 |0,t,ts,fuel,cs,x,h,hx=>by cases h
 |d+1,t,ts,fuel,cs,x,h,hx=>by
  unfold PW at h;split at h
  . rename_i fs ht;split at h
    . rename_i us hus;split at h
      . obtain rfl:=Aa h;obtain⟨xs,n,_,_,hl,EI,hf⟩:=DataW.trod_struct ht hx;refine yI (n:=n) (fun u ts cs x h1 h2=>xO d h1 h2) fs.toList [] us hus (fun i u hu=>by simp at hu) fun f hfm=>?_;obtain⟨i,hi,hif⟩:=Ff hfm;have :=hf i f (by rw[<-hif];simp);rw[this];have zL:i<xs.length:=(by rw[EI];simpa using hi);exact⟨_,Ac zL⟩
      cases h
    cases h
  . rename_i n e ht;split at h
    . rename_i us hus;split at h
      . rename_i hc;obtain rfl:=Aa h;obtain⟨xs,m,_,_,hl,EI,hf⟩:=DataW.trod_array ht hx;refine Kg (e:=e) (n:=m) n cs fun i hi=>?_;have :=hf i hi;rw[hc.1,Ac (by omega)] at this;exact xO d hus this
      cases h
    cases h
  . rename_i k ht;obtain rfl:=Aa h;obtain⟨n,rfl,_⟩:=DataW.trod_int ht hx;intro i u hu
    match i,hu with
    |0,hu=>exact⟨_,fuel,x,rfl,by simpa [<-Aa hu] using hx⟩
  . rename_i e ht;obtain rfl:=Aa h
    have hc:∃c,cs=[c]:=by
     rcases DataW.trod_slice ht hx with ⟨h,_⟩|⟨a,len,cap,_,_,_,_,h,_⟩
     . exact⟨_,h⟩
     exact⟨_,h⟩
    obtain⟨c,rfl⟩:=hc;intro i u hu
    match i,hu with
    |0,hu=>exact⟨_,fuel,x,rfl,by simpa [<-Aa hu] using hx⟩
  . rename_i ht;obtain rfl:=Aa h;obtain⟨z,rfl,_⟩:=DataW.trod_string ht hx;intro i u hu
    match i,hu with
    |0,hu=>exact⟨_,fuel,x,rfl,by simpa [<-Aa hu] using hx⟩
  cases h
theorem AE {ts:List TypeId} {cs:List Value} (h:oS enc P w base spare held ts cs) {i:Nat} {u:TypeId} {k:IntKind} (hu:ts[i]?=some u) (hk:P.underlying u=some (.int k)):
 ∃n,cs[i]?=some (.int k n)/\(Lit.int k n).wf=true:=by
 obtain⟨v,m,y,hv,hy⟩:=h i u hu;obtain⟨n,hn,_,hw⟩:=DataW.trod_int hk hy;refine⟨n,?_,hw⟩;rw[hv];simpa using hn
end
end
end Go.Av
namespace Go.Av
open Go Go.RowKit Go.ChangeShapes Go.WideShapes Go.ChangeAt Go.Deep
section
def nH (mo:Bool) (W:World):Gh:=⟨fun _=>none,fun b o=>∃v,W.cell? ⟨b,o,none⟩=some v,mo⟩
theorem aAk {g:aT} {W:World} (hg:∀n cs,g n=some cs->VR (nH g.mo W) W (.pl cs) (.pointer (some ⟨n,0,none⟩)))
 (hs:∀n cs,g n=some cs->cs≠[]->∃c el fz,W.heap[n]?=some (.cells c el fz)/\c.size=cs.length):WR g (nH g.mo W) ⟨0,.nil⟩ W where
 cells:=fun id l cs dH h=>by cases h
 room:=fun id l h=>by cases h
 iN:=fun id iO l l' _ h=>by cases h
 gW:=fun id l h=>by cases h
 fQ:=fun id l es h=>by cases h
 lt:=fun id l h=>by cases h
 fU:=fun b o h=>h
 fY:=hg
 xA:=hs
 mo:=rfl
theorem BI {mo:Bool} {W W':World} {G':Gh} {H':aA} (h:Ext (nH mo W) ⟨0,.nil⟩ W G' H' W') {b:Nat} (hb:b<W.heap.size):W'.heap[b]?=W.heap[b]?:=
 h.frame b hb fun id l hl=>by cases hl
theorem WY {w:World} {a:Addr} {v:Value} (h:w.cell? a=some v):a.spot=none:=World.cell?_spot h
theorem XQ (b o j:Nat):(Addr.mk b o none).add j=⟨b,o+j,none⟩:=by
 unfold Addr.add;split
 . rename_i h;rw[h];rfl
 rfl
section
variable {H:Type} {enc:TypeId×Value->H} {P:Program} {w:World} {base:Nat} {held:Bool}
end
theorem Ry {mo:Bool} {W W':World} {G':Gh} {H':aA} (h:Ext (nH mo W) ⟨0,.nil⟩ W G' H' W') (a:Addr) (ha:a.block<W.heap.size):W'.frozen? a=W.frozen? a:=by simp only[World.frozen?,BI h ha]
theorem YZ {mo:Bool} {W W':World} {G':Gh} {H':aA} (h:Ext (nH mo W) ⟨0,.nil⟩ W G' H' W') (may:MemPlace->Prop):W.keptBut W' may:=by
 refine⟨h.same.1,h.same.2,fun i hi=>?_⟩;rw[BI h hi]
 cases W.heap[i]? with
 |none=>rfl
 |some o=>
  cases o with
  |cells c t fr=>exact⟨rfl,rfl,rfl,fun _ _=>rfl⟩
  |map es clock=>exact .inr ⟨rfl,rfl⟩
  |_=>rfl
section
variable {H:Type} {enc:TypeId×Value->H} {P:Program}
theorem QQ {mo:Bool} {f:Func} {s:ChangeSpec} {apart fresh handsOn again:Bool} {W W':World} {args:Array Value} {v:Value} {ds gs:List (DataW H)} {before pa pv:List MemPlace} {G':Gh} {H':aA}
 (hE:Ext (nH mo W) ⟨0,.nil⟩ W G' H' W')
 (hW:DataW.Whole enc P f.params.toList s.vars apart W args.toList ds gs before)
 (oW:∀(b:Nat) (sp:Nat->Bool) (hd:Bool),DataW.TrodAll enc P W' b sp hd f.resultTypes.toList (v.resultList f.resultTypes.size) (s.fn H (ds++gs)).results [])
 (BP:∀sp:Nat->Bool,(∀p∈before,sp p.block=true)->DataW.TrodAll enc P W' 0 sp true f.params.toList args.toList (s.fn H (ds++gs)).args pa)
 (qm:∀sp:Nat->Bool,(∀p∈before,sp p.block=true)->DataW.TrodVars enc P W' sp s.vars (s.fn H (ds++gs)).vars pv)
 (il:before=pa++pv)
 (vS:∀(j:Nat) (t:TypeId) (r:Value),f.resultTypes[j]?=some t->(v.resultList f.resultTypes.size)[j]?=some r->Value.okWide P W' .any 0 t r):
 s.post enc P f apart fresh handsOn again W args v W':=by
 have hold:∀p∈before,(fun b=>decide (b<W.heap.size)) p.block=true:=fun p hp=>by simpa using hW.lt p hp
 refine⟨ds,gs,before,[],pa,pv,hW,oW _ _ _,BP _ hold,qm _ hold,YZ hE _,fun _=>?_⟩;obtain⟨_,_,_,_,_,hz,hn⟩:=id hW;refine⟨vS,_,_,([]++pa)++pv,⟨[]++pa,pv,trodAll_append (BP _ (fun _ _=>rfl)) (oW _ _ _),qm _ (fun _ _=>rfl),rfl,?_,?_⟩,?_⟩
 . intro b off hp;have au:MemPlace.cell b off∈before:=by rw[il];simpa using hp
   rw[Ry hE _ (hW.lt _ au)];exact hz b off au
 . intro ha;have :=hn ha;rw[il] at this;simpa using this
 intro p hp _;rw[il];simpa using hp
end
end
end Go.Av
namespace Go.Av
section
def zP:=And.intro aJk (And.intro Qi Zf)
def zG:=And.intro aJk <| And.intro sy <| And.intro VG <| And.intro @AV.cells.eq_1 <| And.intro @AV.cells.eq_2 <| And.intro @AV.oK.eq_1 <| And.intro @AV.oK.eq_2 <| And.intro @tL.eq_1 <| And.intro @tL.eq_2 <| And.intro @tL.eq_3 <| And.intro @tL.eq_4 <| And.intro @tL.eq_5 <| And.intro @tL.eq_6 <| And.intro @tp.eq_1 <| And.intro @tp.eq_2 <| And.intro @tp.eq_3 <| And.intro @tp.eq_4 <| And.intro @tp.eq_5 <| And.intro @tp.eq_6 @dW.eq_1
def zI:=And.intro @aA.eB.eq_1 <| And.intro sh <| And.intro sn <| And.intro sl <| And.intro @eR.eq_1 <| And.intro @BE.eq_1 <| And.intro @BE.eq_2 <| And.intro @CC.eq_1 <| And.intro @CC.eq_2 <| And.intro Fq <| And.intro Ga <| And.intro @false_implies <| And.intro @implies_true.{0} <| And.intro @implies_true.{1} <| And.intro aCt <| And.intro iz <| And.intro cOl <| And.intro @AV.cells.eq_1 <| And.intro @AV.cells.eq_2 <| And.intro @AV.oK.eq_1 <| And.intro @AV.oK.eq_2 <| And.intro @tL.eq_1 <| And.intro @tL.eq_2 <| And.intro @tL.eq_3 <| And.intro @tL.eq_4 <| And.intro @tL.eq_5 @tL.eq_6
def zD:=And.intro @cZ.fresh.eq_1 <| And.intro @cZ.fresh.eq_2 <| And.intro @cZ.fresh.eq_3 <| And.intro @cZ.fresh.eq_4 <| And.intro @cZ.fresh.eq_5 <| And.intro @cZ.fresh.eq_6 <| And.intro aOg <| And.intro aJl <| And.intro @TQ <| And.intro @cZ.cG.eq_1 <| And.intro @cZ.cG.eq_2 <| And.intro @cZ.cG.eq_3 <| And.intro @cZ.cG.eq_4 <| And.intro @cZ.cG.eq_5 <| And.intro @vT.eq_1 <| And.intro @vT.eq_2 <| And.intro @vT.eq_3 <| And.intro @vT.eq_4 <|
 And.intro @false_implies <| And.intro @implies_true.{0} <| And.intro @implies_true.{1} <| And.intro @forall_const.{0} <| And.intro @forall_const.{1} <| And.intro @Ii <| And.intro @Bs <| And.intro @Al.{0} <| And.intro @Ah.{0} <| And.intro @Bx <| And.intro @false_or <| And.intro @Ad.{0,0} <| And.intro @forall_eq.{1} <| And.intro @forall_eq_or_imp.{1} <| And.intro @forall_eq'.{1} @Ab.{0}
def zR:=And.intro @mZ.eq_1 <| And.intro @mZ.eq_2 <| And.intro @EU.eq_1 <| And.intro @EU.eq_2 <| And.intro zG zI
def zB:=And.intro Qi <| And.intro @ne_eq.{1} @Ia
theorem tB {p q:Prop} [Decidable p] [Decidable q] (h:p↔q):True/\True/\AV.bool (decide p)=AV.bool (decide q):=⟨trivial,trivial,Bt AV.bool (Gy.2 h)⟩
theorem Rx {rs:List AO} {R:Out->aA->Prop} {f:cQ} {H:aA} {vs:List AV} (hR:R (.ret (iW vs)) H) (hv:mZ f H rs=some vs:=by(simp only[↓zP,zR,seval];rfl)):GX rs R .ret f [] H:=⟨rfl,vs,hv,hR⟩
structure Kt (P:Program) (g:aT) (n:Nat) (b:bP) (Q:FQ) (f:cQ) (ds:List eX) (H:aA):Prop where
 h:FC P g n b f ds H Q
section
variable {P:Program} {g:aT} {n:Nat} {f:cQ} {H:aA} {d:Nat} {fid:FuncId} {azs:List Arg} {args:List AV} {v:AV} {H':aA}
theorem cT {r:List aN} {ds:List eX} {Q:FQ} (hS:Sound P g fid args H (.ret v) H') (h:bM P g n r (iA f d v) ds H' Q) (hd:d<n:=by decide) (ha:azs.map (jD g f)=args:=by simp only[sm,Qi,Nat.reduceEqDiff,dW]):
 bM P g n (⟨some d,.call (.const (.func (.func fid) [] [])) azs,none⟩::r) f ds H Q:=Un hd ha hS h
theorem rM {pairs:List (Nat×Nat)} {base i k:Nat} {rs:List aN} {rd:List (Nat×Nat)} {ef:List (Nat×aA×aA)} {R:cQ->aA->Prop} (hS:Sound P g fid args H (.ret v) H')
 (h:dX P g n pairs base (i+1) k rs rd ((i,H,H')::ef) (iA f d v) H' R) (hd:d<n:=by decide) (ha:azs.map (jD g f)=args:=by simp only[sm,Qi,ne_eq,Nat.reduceEqDiff,Ia]) (hn:H.next<=H'.next:=by exact Ai _)
 (hr:∀x∈rd,(x.1,i)∈pairs->H.get x.2=H'.get x.2:=by exact fun _ _ _=>rfl):dX P g n pairs base i k (⟨some d,.call (.const (.func (.func fid) [] [])) azs,none⟩::rs) rd ef f H R:=cL hd ha hS hn hr h
end
end
end Go.Av
namespace Go.Av
open Go
section
section
variable {P:Program} {g:aT} {rl:List aN} {pj:Option Nat} {pairs:List (Nat×Nat)} {s0:List AV} {H0:aA} {Hs:Nat->aA} {ss:Nat->List AV} {vs:Nat->AV}
variable {n:Nat} {f:cQ} {ds:List eX} {H:aA} {Q:FQ}
def sO (pairs:List (Nat×Nat)) (j n:Nat):Nat->List aN->List aN
 |_,[]=>[]
 |i,r::rs=>(if(Nat.blt i j||pairs.contains (j,n+2+i))=true then r else⟨r.dst,.CI (.const aC),none⟩)::sO pairs j n (i+1) rs
theorem Px {j m:Nat}:∀{l:List aN} {i k:Nat},(sO pairs j m i l)[k]?=(l[k]?).map fun r=>if(Nat.blt (i+k) j||pairs.contains (j,m+2+(i+k)))=true then r else⟨r.dst,.CI (.const aC),none⟩
 |[],i,k=>by simp[sO]
 |r::l,i,0=>by simp[sO]
 |r::l,i,k+1=>by rw[sO,Df,Df,Px,show i+1+k=i+(k+1) by omega]
theorem Py {j m:Nat}:∀{l:List aN} {i:Nat},(sO pairs j m i l).length=l.length
 |[],i=>rfl
 |r::l,i=>by simp only[sO,Ak,Py]
theorem FI {p:aN->Bool} {l l':List aN} (h:l.map p=l'.map p):l.countP p=l'.countP p:=by
 have :∀l:List aN,l.countP p=(l.map p).countP id:=fun l=>by rw[List.countP_map];rfl
 rw[this,this,h]
theorem ZU {α:Type} {l:List α} {j:Nat} {x:α} (h:l[j]?=some x):l.set j x=l:=by
 apply Ej fun i=>?_;rw[Eh];split
 . rename_i e;subst e;rw[h,if_pos (An.1 h).1]
 rfl
theorem Xz {s:List AV} {d:Option Nat} {v:AV} {t:Nat} (h:d≠some t):(jF s d v).getD t aC=s.getD t aC:=by
 cases d with
 |none=>rfl
 |some d=>have :d≠t:=fun e=>h (by rw[e]);simp only[jF,Ck];rw[Iy this]
theorem kQ (j k:Nat) {d:Option Nat} {c:Arg} {azs:List Arg} (hj:rl[j]?=some ⟨d,.call c azs,none⟩) (hm:(j,rl.length+1)∈pairs)
 (hp:(pairs.all fun x=>match rl[x.2]? with|some r=> !Nat.blt x.2 j||r.op.mE|none=>true)=true)
 (hq:((List.range rl.length).all fun i=>Nat.ble i j|| !pairs.contains (j,rl.length+2+i)||match rl[i]? with|some r=>Sr r|none=>true)=true)
 (hu:((c::azs).all fun a=>match a with|.tmp t=>(rl.drop j).all (fun r=>match r.dst with|some d=> !Nat.beq d t|none=>true)|_=>true)=true)
 (hn:pairs.contains (j,rl.length+2+j)=false)
 (h0:(sO pairs j rl.length 0 rl).countP (·.op.fresh)=k) (hf:mQ H k=true)
 (h:∀H1:aA,H1.next=H.next+k->(∀id,H1.get id=H.get id)->dX P g n (pairs.filter fun x=>Nat.blt x.2 j) H.next 0 0 (sO pairs j rl.length 0 rl) [] [] f H1 fun f' H'=>∃p x H2,iG (jD g f' c)=some p/\
   Sound P g p.1 (p.2.1++azs.map (jD g f')++p.2.2) H' (.pA x) H2/\∀Lz,Q (.panic x) Lz ds H2):FC P g n (.draw rl pairs) f ds H Q:=by
 obtain⟨L,hL⟩:∃L,sO pairs j rl.length 0 rl=L:=⟨_,rfl⟩;have hLl:L.length=rl.length:=by rw[<-hL,Py]
 have hLg:∀i,L[i]?=(rl[i]?).map fun r=>if(Nat.blt i j||pairs.contains (j,rl.length+2+i))=true then r else⟨r.dst,.CI (.const aC),none⟩:=fun i=>by rw[<-hL,Px,Cc]
 rw[hL] at h0 h;have RA:=(An.1 hj).1
 have hbj:Nat.blt j j=false:=by
  cases hb:Nat.blt j j with
  |false=>rfl
  |true=>exact absurd ((Iff.of_eq Eb).1 hb) (Ee _)
 have hLj:L[j]?=some ⟨d,.CI (.const aC),none⟩:=by rw[hLg,hj,hn,hbj];rfl
 refine .inr (.inr fun hb=>?_);have hA:=pT L 0 0 [] [] f _ hb (Oi (W:=L.filterMap (·.dst)) (f0:=f) (fun o ho d hd=>List.mem_filterMap.2 ⟨o,ho,hd⟩) iF.WM (lR _ _ _ _ _ _ _ _ (h {H with next:=H.next+k} rfl fun _=>rfl)))
 obtain⟨Hs,ss,vs,D,f',hs,vR,hk,p,x,H2,hc,hS,hQ⟩:=Od.run (rl:=L) (s:=LF n f) (H:=H) ⟨by rw[h0];exact hf,by rw[h0];exact hA⟩ (fun i e hie re OW=>by
  obtain⟨h1,h2⟩:=Dn.1 hie;rw[hLg] at OW;obtain⟨r,hr,rfl⟩:=Af.1 OW;have h2':Nat.blt e j=true:=h2;have :=Bc.1 hp (i,e) h1;simp only[hr,h2',Fq,Jh] at this;rw[h2',Bool.true_or,if_pos rfl]
  exact this)
 have sx:∀i r,j<=i->L[i]?=some r->r.op.fresh=false/\r.op.mE=false:=fun i r hi hr=>by
  rw[hLg] at hr;obtain⟨q,Wu,rfl⟩:=Af.1 hr;have YM:=(An.1 Wu).1
  have hbi:Nat.blt i j=false:=by
   cases hb:Nat.blt i j with
   |false=>rfl
   |true=>exact absurd ((Iff.of_eq Eb).1 hb) (by omega)
  rw[hbi,Jh];by_cases hcn:pairs.contains (j,rl.length+2+i)=true
  . rw[if_pos hcn];have :=Bc.1 hq i (Bn.2 YM)
    rcases Nat.eq_or_lt_of_le hi with rfl|eW
    . rw[hn] at hcn;cases hcn
    have To:Nat.ble i j=false:=by
     cases hb:Nat.ble i j with
     |false=>rfl
     |true=>exact absurd ((Iff.of_eq Nat.ble_eq).1 hb) (by omega)
    rw[To,hcn,Wu] at this;simp only[Fq,Jh] at this;unfold Sr at this;split at this
    . exact⟨rfl,rfl⟩
    cases this
  rw[if_neg hcn];exact⟨rfl,rfl⟩
 have flat:∀i r,j<=i->L[i]?=some r->Hs (i+1)=Hs i:=fun i r hi hr=>D.tZ hr (sx i r hi hr).1 (sx i r hi hr).2
 have toEnd:∀m,j+m<=L.length->Hs (j+m)=Hs j/\∀t,(∀r∈rl.drop j,r.dst≠some t)->(ss (j+m)).getD t aC=(ss j).getD t aC:=by
  intro m
  induction m with
  |zero=>intro _;exact⟨rfl,fun _ _=>rfl⟩
  |succ m ih=>
   intro hmL;obtain⟨i1,i2⟩:=ih (by omega)
   have cJ:L[j+m]?=some L[j+m]:=Ac (by omega)
   refine⟨(flat (j+m) _ (by omega) cJ).trans i1,fun t ht=>?_⟩;rw[show j+(m+1)=j+m+1 by omega,(D.step _ _ cJ).2,Xz,i2 t ht];rw[hLg] at cJ;obtain⟨q,Wu,hqe⟩:=Af.1 cJ
   have uO:(L[j+m]).dst=q.dst:=by rw[<-hqe];split<;>rfl
   rw[uO];refine ht q ?_;rw[<-Ed] at Wu;exact List.mem_of_getElem? Wu
 obtain⟨t1,t2⟩:=toEnd (L.length -j) (by omega);rw[show j+(L.length -j)=L.length by omega] at t1 t2
 have evE:∀a∈c::azs,jD g f' a=a.eval g (ss j):=fun a ha=>by
  rw[tJ vR,<-hs]
  cases a with
  |tmp t=>
   have :=Bc.1 hu _ ha;simp only at this
   exact t2 t fun r hr he=>by have :=Bc.1 this r hr;rw[he] at this;simp at this
  |_=>rfl
 have sK:∀i,i≠j->(L.set j ⟨d,.call c azs,none⟩)[i]?=L[i]?:=fun i hi=>Iy (Ne.symm hi)
 have Tz:(L.set j ⟨d,.call c azs,none⟩)[j]?=some ⟨d,.call c azs,none⟩:=by rw[Eh,if_pos rfl,if_pos (by omega)]
 have Pd:(L.set j ⟨d,.call c azs,none⟩).map (·.op.fresh)=L.map (·.op.fresh):=by rw[List.map_set];exact ZU (by rw[Cj,hLj];rfl)
 have gd:∀i,eH (L.set j ⟨d,.call c azs,none⟩) i=eH L i:=fun i=>by unfold eH;refine FI ?_;rw[Jf,Jf,Pd]
 have aDn:(L.set j ⟨d,.call c azs,none⟩).countP (·.op.fresh)=L.countP (·.op.fresh):=FI Pd;have tj:=D.step j _ hLj
 have vj:vs j=aC/\Hs (j+1)=Hs j:=by have h1:=tj.1;unfold DStep at h1;rw[if_pos (by rfl),if_neg (by simp[cZ.fresh])] at h1;simp only[cD,Arg.eval,Ab,Ad] at h1;exact⟨h1.1.symm,h1.2.symm⟩
 have D':cM P g (L.set j ⟨d,.call c azs,none⟩) (some j) pairs (LF n f) H Hs ss vs:=by
  refine⟨D.s0,by rw[aDn];exact D.h0,fun m hm'=>D.free m (by rwa [aDn] at hm'),fun i r hi=>?_,fun i r hi he=>?_,fun i e hie ri re Pk OW hwi hwe id bZ=>?_⟩
  . by_cases e:i=j
    . subst e;rw[Tz] at hi;cases hi;refine⟨?_,tj.2⟩;unfold DStep;rw[if_pos (by rfl),if_neg (by simp[cZ.fresh])];simp only[Eu,if_true];exact vj
    rw[sK i e] at hi
    have cF:((some j:Option Nat)==some i)=false:=by have :j≠i:=fun h=>e h.symm;simpa using this
    rw[cF,gd];exact D.step i r hi
  . by_cases e:i=j
    . subst e;rw[vj.2];exact Ai _
    rw[sK i e] at hi;exact D.mono i r hi he
  rcases Dt e j with hej|hej
  . rw[sK e (by omega)] at OW;by_cases e2:i=j
    . subst e2;rw[Tz] at Pk;cases Pk
      rcases bZ with h1|⟨h1,_⟩<;>cases h1
    rw[sK i e2] at Pk;rw[gd] at bZ;exact D.EY i e (Dn.2 ⟨hie,(Iff.of_eq Eb).2 hej⟩) ri re Pk OW hwi hwe id bZ
  by_cases e2:e=j
  . subst e2;rw[vj.2]
  rw[sK e e2] at OW;rw[flat e re hej OW]
 refine⟨x,H2,⟨j,L.set j ⟨d,.call c azs,none⟩,Hs,ss,vs,hm,by rw[Ho,hLl],fun i r' hi=>?_,fun i r hi Pg=>?_,D',⟨d,.call c azs,none⟩,c,azs,p,x,H2,hj,rfl,rfl,?_,?_,rfl,rfl⟩,fun Lz _ _=>hQ Lz⟩
 . by_cases e:i=j
   . subst e;rw[Tz] at hi;cases hi;exact⟨_,hj,.inl rfl⟩
   rw[sK i e,hLg] at hi;obtain⟨q,Wu,rfl⟩:=Af.1 hi;refine⟨q,Wu,?_⟩;split
   . exact .inl rfl
   exact .inr rfl
 . by_cases e:i=j
   . subst e;rw[hj] at hi;cases hi;exact Tz
   rw[sK i e,hLg,hi]
   rcases Pg with h1|h1
   . have hbi:Nat.blt i j=true:=(Iff.of_eq Eb).2 (by omega);simp only[Bi,hbi,Bool.true_or,if_true]
   have hct:pairs.contains (j,rl.length+2+i)=true:=List.contains_iff_mem.2 h1;simp only[Bi,hct,Hu,if_true]
 . rw[<-evE c Aq];exact hc
 rw[<-t1,<-Er (f:=jD g f') fun a ha=>evE a (Ao _ ha)];exact hS
theorem kR {base i k:Nat} {rs:List aN} {rd:List (Nat×Nat)} {ef:List (Nat×aA×aA)} {R:cQ->aA->Prop} (x:Arg):
 dX P g n pairs base i k (⟨none,.CI x,none⟩::rs) rd ef f H R=dX P g n pairs base (i+1) k rs rd ef f H R:=by
 conv=>lhs;unfold dX
 rw[if_pos (by rfl)];simp only[cZ.fresh,cZ.mE,Ay,Bu,eF,cD,cZ.cG];exact propext ⟨fun h=>h.2.2,fun h=>⟨rfl,(fun _ h=>by cases h),h⟩⟩
end
end
end Go.Av
namespace Go.Proofs.YtgggiembljfnhaaGreatDoor
open Go Go.Av
def aJz:Nat->Option (List AV):=fun _=>none
def gv:aT:=mkG Tryz.prog aJz
theorem fit:Fit Tryz.prog gv:=UI (by kernel_rfl)
theorem dZ:uW gv:=fun n cs h=>by cases h
abbrev CW (f:Go.Func):={x:wR // GB Tryz.prog gv false f=some x}
theorem cN {k:FuncId} {f:Go.Func} (h:Tryz.prog.funcs[k]?=some f) (W:CW f) (h2:(f.name== "runtime.NumGoroutine")=false:=by kernel_rfl):iM Tryz.prog gv false k W.1:=gJ h h2 W.2
abbrev Fi (k:FuncId) {f:Go.Func} (W:CW f):=iM Tryz.prog gv false k W.1
theorem Sp {mu:Bool} {k:FuncId} {F:wR} (hF:iM Tryz.prog gv mu k F) {args:List AV} {v:AV} (ha:bN args=true) (hv:v.free=true)
 (h:FC Tryz.prog gv F.ntmps F.body (dW args) [] ⟨0,.nil⟩ (GX F.results fun o _=>o=.ret v)) (H:aA) (hl:args.length<=F.ntmps:=by exact Ae rfl):Sound Tryz.prog gv k args H (.ret v) H:=
 yP fit dZ hF hl ha hv h H
theorem So {mu:Bool} {k:FuncId} {F:wR} (hF:iM Tryz.prog gv mu k F) {args:List AV} {v:AV} (ha:bN args=true)
 (h:FC Tryz.prog gv F.ntmps F.body (dW args) [] ⟨0,.nil⟩ (GX F.results fun o _=>o=.ret v)) (H:aA) (hv:v.free=true:=by simp only[sf,sfI,gZ]) (hl:args.length<=F.ntmps:=by exact Ae rfl):Sound Tryz.prog gv k args H (.ret v) H:=
 yP fit dZ hF hl ha hv h H
theorem cX {g:aT} {mu:Bool} {fn:Go.Func} {F:wR} (h:(GB Tryz.prog g mu fn).isSome=true:=by kernel_rfl) (hx:mkX Tryz.prog g mu fn=some F:=by conv=>lhs;cbv):GB Tryz.prog g mu fn=some F:=Yj h hx
def mkY (P:Program) (g:aT) (mu:Bool) (fn:Go.Func) (c:Code):Option wR:=
 match cY P g mu c,qQ P fn.results.toList with
  |some b,some r=>some ⟨fn.ntmps,r,b⟩
  |_,_=>none
theorem xV {g:aT} {mu:Bool} {fn:Go.Func} {F:wR} {b:Code} (hb:fn.body=some b:=by exact rfl) (h:(GB Tryz.prog g mu fn).isSome=true:=by kernel_rfl) (hx:mkY Tryz.prog g mu fn b=some F:=by
 conv=>lhs;unfold mkY;simp only[ax]
 (try conv in (occs:= *) iU _ _ _ _ _=>all_goals cbv)
 (try simp only[Bi])
 (try conv in (occs:= *) mY _ _=>all_goals cbv)
 conv=>lhs;cbv):GB Tryz.prog g mu fn=some F:=Yj h (by unfold mkX;rw[hb];exact hx)
theorem dY {f:FuncId} {mu:Bool} {F:wR} (hF:iM Tryz.prog gv mu f F) {args:List AV} (ha:args.length<=F.ntmps) {H H':aA} {out:Out}
 (h:FC Tryz.prog gv F.ntmps F.body (dW args) [] H (GX F.results fun o h=>o=out/\h=H')) (hdt:F.body.dE=true:=by first|rfl|decide):Sound Tryz.prog gv f args H out H':=by
 obtain⟨_,_,⟨rfl,rfl⟩,hS⟩:=bL fit hF ha h hdt;exact hS
def Zn:List AV:=[.int .i64 0,.int .i64 0,.int .i64 1]
def JZ (n:Nat):Option (List AV):=match Nat.beq n 0 with
 |true=>some Zn
 |false=>match Nat.beq n 999999999 with
  |true=>some []
  |false=>none
def uH:aT:=mkG Tryz.prog JZ
theorem aDg:Fit Tryz.prog uH:=UI (by kernel_rfl)
theorem Rz:uW uH:=fun n cs h=>by
 have h:JZ n=some cs:=h;unfold JZ at h;split at h
 . cases h;rfl
 split at h
 . cases h;rfl
 cases h
theorem moT:uH.mo=false:=rfl
theorem bj {f:FuncId} {args:List AV} {v:AV} (ha:bN args=true) (hv:v.free=true) (h:∀H,Sound Tryz.prog gv f args H (.ret v) H) (H:aA):Sound Tryz.prog uH f args H (.ret v) H:=
 (Sound.up (g:=gv) (g':=uH) (fun n cs h=>by cases h) rfl moT (h ⟨0,.nil⟩)).frame Rz ha (tk:=none) (fun k hk=>by cases hk) (n:=0) H (Mk hv)
theorem aCx {K:List Fact} (h:rN Tryz.prog gv K) (hf:(K.all fun e=>bN e.2.1&&e.2.2.free)=true):rN Tryz.prog uH K:=fun e he H=>by have :=Bc.1 hf e he;rw[Aj] at this;exact bj this.1 this.2 (h e he) H
end Go.Proofs.YtgggiembljfnhaaGreatDoor
namespace Go.Proofs.YtgggiembljfnhaaGreatDoor
open Go Go.Av Go.aY
open Go.ChangeShapes Go.WideShapes Go.ChangeAt Go.RowKit
theorem own:ownKnob Tryz.prog.godebug=none:=by kernel_rfl
theorem laidOut:laidOutB Tryz.prog=true:=by kernel_rfl
def UG:List (String×DataW Unit):=Rows.yardAppliesAsSpecifiedRow.laid
theorem gUp:Tryz.prog.globalNamed "skewback/contact.up" =some 0:=by kernel_rfl
theorem tUp:(Tryz.prog.globals[0]?).map (·.type)=some 60:=by kernel_rfl
def TS:AV->DataW Unit
 |.int k n=>.lit (.int k n)
 |_=>.nil
theorem aJn:Rows.laid_skewback_contact_up=DataW.agg (Zn.map TS):=by kernel_rfl
theorem ft {W:World} {mo:Bool} {enc:TypeId×Value->Unit} {name:String} {g:Nat} {cs:Array Value} {base fuel:Nat} {sp:Nat->Bool} {hd:Bool} {p:List MemPlace} (hg:Tryz.prog.globalNamed name=some g) (hv:W.var? Tryz.prog name=some cs)
 (h:DataW.trod enc Tryz.prog W base sp hd fuel 60 cs.toList=some (DataW.agg (Zn.map TS),p)):VR (nH mo W) W (.pl Zn) (.pointer (some ⟨g,0,none⟩))/\∃c el fz,W.heap[g]?=some (.cells c el fz)/\c.size=Zn.length:=by
 obtain⟨xs,m,_,hx,hl,EI,Nb⟩:=DataW.trod_array Tryz.underlying60 h;have c1:Tryz.prog.cellsOf 3=1:=by kernel_rfl
 have c3:Tryz.prog.cellsOf 60=3:=by kernel_rfl
 simp only[Ad,DataW.agg.injEq] at hx;have hr:Zn.length=3:=rfl
 have key:∀j,j<3->∃n,cs[j]?=some (.int .i64 n)/\Zn.getD j aC=.int .i64 n:=by
  intro j hj;have h1:=Nb j hj;rw[c1,Dk,Ac (by omega)] at h1;obtain⟨n,e1,e2,_⟩:=DataW.trod_int Tryz.underlying3 h1;refine⟨n,?_,?_⟩
  . have h3:(((cs.toList.drop j).take 1))[0]?=some (.int .i64 n):=by rw[e1];rfl
    rw[Gm,if_pos (by decide),Ed] at h3;simpa using h3
  have h2:(Zn.map TS)[j]?=some (.lit (.int .i64 n)):=by rw[hx.1,Cj,Ac (by omega),e2];rfl
  rw[Cj] at h2;rw[List.getD]
  cases hq:Zn[j]? with
  |none=>rw[hq] at h2;cases h2
  |some a=>rw[hq] at h2;simp only[Bi,Ab] at h2;cases a<;>simp[TS] at h2;obtain⟨rfl,rfl⟩:=h2;rfl
 have cell:∀j,W.cell? ⟨g,0+j,none⟩=cs[j]?:=fun j=>by rw[Cc];exact World.var?_cell hg hv j
 obtain⟨f,hf⟩:=Go.Deep.choose_lt (α:=Int) (n:=3) (p:=fun j n=>cs[j]?=some (.int .i64 n)/\Zn.getD j aC=.int .i64 n) key;refine⟨.pl Zn g 0 (fun j=>.int .i64 (f j)) (fun j hj=>?_) (fun j hj=>?_),?_⟩
 . rw[hr] at hj;have :=hf j hj;refine⟨⟨_,(cell j).trans this.1⟩,(cell j).trans this.1,?_⟩;rw[this.2];rfl
 . rw[hr] at hj;rw[(hf j hj).2];exact .int _ _
 unfold World.var? at hv;rw[hg] at hv;simp only[Option.bind_some] at hv;split at hv
 . rename_i c el fz hh;cases hv;exact⟨_,_,_,hh,by rw[hr];rw[c3] at hl;simpa using hl⟩
 cases hv
theorem jm {W:World} (h:laidMetH Tryz.prog UG W):WR uH (nH false W) ⟨0,.nil⟩ W:=by
 rw[MakeChecks.laidMetH_plain _ _ _ (by kernel_rfl)] at h;obtain⟨ps,⟨g0,t0,cs0,f0,p0,q0,xS,ht0,SH,hd0,⟨g1,t1,cs1,f1,p1,q1,rO,ht1,qN,Vh,_,_⟩,_⟩,_,_⟩:=h;obtain rfl:=Aa (gUp.symm.trans rO);obtain rfl:=Aa (tUp.symm.trans ht1);rw[aJn] at Vh;have G:=fun mo=>ft (mo:=mo) rO qN Vh;refine aAk (fun n cs hn=>?_) fun n cs hn h0=>?_;rotate_left
 . have hn:JZ n=some cs:=hn;unfold JZ at hn;split at hn
   . rename_i hb;obtain rfl:=Au hb;cases hn;exact(G false).2
   split at hn
   . cases hn;exact absurd rfl h0
   cases hn
 have hn:JZ n=some cs:=hn;unfold JZ at hn;split at hn
 . rename_i hb;obtain rfl:=Au hb;cases hn;exact(G _).1
 split at hn
 . cases hn;exact .pl [] n 0 (fun _=>undef) (fun j hj=>absurd hj (Bh _)) (fun j hj=>absurd hj (Bh _))
 cases hn
end Go.Proofs.YtgggiembljfnhaaGreatDoor
namespace Go.Proofs.YtgggiembljfnhaaGreatDoor
open Go Go.Av
def vu:CW Tryz.f142:=⟨_,cX⟩
theorem aFj:Fi 142 vu:=cN Tryz.func142 vu
def ux:CW Tryz.f113:=⟨_,cX⟩
theorem aEu:Fi 113 ux:=cN Tryz.func113 ux
def uw:CW Tryz.f112:=⟨_,cX⟩
theorem aEt:Fi 112 uw:=cN Tryz.func112 uw
def W86:CW Tryz.f86:=⟨_,cX⟩
theorem aNm:Fi 86 W86:=cN Tryz.func86 W86
def W39:CW Tryz.f39:=⟨_,cX⟩
theorem aMg:Fi 39 W39:=cN Tryz.func39 W39
def W40:CW Tryz.f40:=⟨_,cX⟩
theorem aMh:Fi 40 W40:=cN Tryz.func40 W40
def W65:CW Tryz.f65:=⟨_,cX⟩
theorem aMz:Fi 65 W65:=cN Tryz.func65 W65
attribute [local congr] aP aJ aK aH aU aM aL aD
attribute [local irreducible] FC bM dX
def iC (l:List Int):List AV:=l.map (AV.int .i64)
theorem tR (l:List Int):(iC l).length=l.length:=Ax _
theorem BT {l:List Int} {i:Nat} (h:i<l.length):(iC l).getD i aC=.int .i64 (l.getD i 0):=by simp[iC,h]
theorem UC (l:List Int):bN (iC l)=true:=by
 induction l with
 |nil=>rfl
 |cons x l ih=>simp only[iC,Be,bN,AV.free,Cu];exact ih
def fp (l:List Int):Nat:=l.foldl (fun o x=>Nat.gcd o x.natAbs) 0
def nI (l:List Int):Prop:=∀x∈l,-2^63<=x/\x<2^63
def aNx (l:List Int):Bool:=l.all fun x=>decide (-64<=x/\x<=64)
def sgQ (l:List Int):Int:=match l.find? (fun x=>x != 0) with
 |some x=>if x<0 then -(fp l:Int) else fp l
 |none=>fp l
def aJy (l:List Int):Option (List Int):=if fp l=0 then none else some (l.map fun x=>x.tdiv (sgQ l))
theorem Kl {H:aA} {id n sz off:Nat} {cs:List AV} {o:Bool} (hg:H.get id=some (.cells cs o)) (hn:0<n) (hl:off+n*sz<=cs.length):kC H n sz (.ref id off) none none none=some (.sl id sz off n n):=by unfold kC;simp[aA.eB,hg,hl];omega
def aCp (l:List Int):Bool:=aNx l&&(aJy l==some l)
def aJg (p:List Int):Int:=if(p.take 3).all (fun x=>decide (x<140737488355328/\x> -140737488355328))&&aCp (p.drop 3) then 0 else 1

end Go.Proofs.YtgggiembljfnhaaGreatDoor
