/-
  Part of the proof of statement 5
-/
import Derived.Test.YtbndcmnnbiiobaaGreatDoorA06
import Derived.Test.YtbndcmnnbiiobaaGreatDoorA05
import Derived.Test.YtbndcmnnbiiobaaGreatDoorA03
import Derived.Shelf.SlSortCmp.NoneTotal
import Derived.Below
import Derived.Lib.Join
import Derived.ProofKit
import Derived.OpenShut
import Derived.Deep.Slices
import Derived.Lib.LaidTab
import Derived.Test.YtbndcmnnbiiobaaGreatDoorProg
import Derived.KernelRfl
set_option linter.unusedVariables false
set_option linter.unusedSimpArgs false
set_option linter.unusedSectionVars false
set_option linter.defProp false
set_option maxRecDepth 100000
set_option maxHeartbeats 16000000
namespace Go.Av
open Go
section
section
variable {P:Program} {g:bB} {n:Nat} {r:List bC} {f:cU} {ds:List fY} {H:aA} {Q:FQ}
theorem MI {d m:Nat} {x:Arg} {es:List (AV×AV)} (hd:d<n) (hx:mT g f x=.map m) (hm:H.get m=some (.map es))
 (h:∀bs c mb,bs.length=es.length->bs.Nodup->bL P g n r (jG f d (.ref H.next 0)) ds ((H.set m (.tK es bs c mb)).alloc (.iter m mb c [])) Q):
 bL P g n (⟨some d,.wG x,none⟩::r) f ds H Q:=by
 have :∀v,fD n f (some d) v=jG f d v:=fun v=>by simp[fD,hd]
 unfold bL;simp only[fJ,if_true,this];exact⟨m,es,hx,hm,h⟩
theorem Nz {d it m mb c:Nat} {x:Arg} {es:List (AV×AV)} {seen bs:List Nat} (hd:d<n) (hx:mT g f x=.ref it 0) (hi:H.get it=some (.iter m mb c seen)) (hm:H.get m=some (.tK es bs c mb))
 (h0:(∀b∈bs,b∈seen)->bL P g n r (jG f d (.gP [.bool false])) ds H Q)
 (h1:∀j,j<bs.length->bs.getD j 0∉seen->bL P g n r (jG f d (.gP [.bool true,(es.getD j (aD,aD)).1,(es.getD j (aD,aD)).2])) ds (H.set it (.iter m mb c (seen++[bs.getD j 0]))) Q):
 bL P g n (⟨some d,.EW x,none⟩::r) f ds H Q:=by
 have :∀v,fD n f (some d) v=jG f d v:=fun v=>by simp[fD,hd]
 unfold bL;simp only[fJ,if_true,this];exact⟨it,m,mb,c,seen,es,bs,hx,hi,hm,h0,h1⟩
theorem Ve {d it m mb c j:Nat} {x:Arg} {es:List (AV×AV)} {seen bs:List Nat} (hd:d<n) (hx:mT g f x=.ref it 0) (hi:H.get it=some (.iter m mb c (seen++[bs.getD j 0]))) (hm:H.get m=some (.tK es bs c mb)) (hj:j<bs.length)
 (h:bL P g n r (jG f d (.gP [(es.getD j (aD,aD)).1,(es.getD j (aD,aD)).2])) ds H Q):
 bL P g n (⟨some d,.zC x,none⟩::r) f ds H Q:=by
 have :∀v,fD n f (some d) v=jG f d v:=fun v=>by simp[fD,hd]
 unfold bL;simp only[fJ,if_true,this];exact⟨it,m,mb,c,seen,es,bs,j,hx,hi,hm,hj,h⟩
end
def cN (H:aA):Prop:=∀j,H.next<=j->H.get j=none
theorem cN.nil (n:Nat):cN ⟨n,.nil⟩:=fun _ _=>rfl
theorem cN.alloc {H:aA} (h:cN H) (o:dY):cN (H.alloc o):=fun j hj=>by simp only[aA.bJ] at hj;rw[aA.aF,if_neg (by omega)];exact h j (by omega)
theorem cN.set {H:aA} (h:cN H) {id:Nat} (hi:id<H.next) (o:dY):cN (H.set id o):=fun j hj=>by simp only[aA.aX] at hj;rw[aA.aC,if_neg (by omega)];exact h j hj
theorem cN.at1 {H:aA} (h:cN H):nZ H 1=true:=by simp only[nZ,Di,h _ (Ak _)];rfl
theorem cN.at2 {H:aA} (h:cN H):nZ H 2=true:=by simp only[nZ,Di,h _ (Ak _),h (H.next+1) (by omega)];rfl
def jQ (sz:Nat) (els:List (List AV)):AV:=if els=[] then .aS else .aV 0 sz els
theorem uk {sz:Nat} {els:List (List AV)} (h:dJ els=true):(jQ sz els).free=true:=by unfold jQ;split<;>simp[AV.free,h]
theorem OU {sz:Nat}:∀{els:List (List AV)},(∀e∈els,e.length=sz)->eR sz els.length els.flatten=els
 |[],_=>rfl
 |e::els,h=>by have he:=h e Au;simp only[Ah,eR,Bp];rw[Db (by omega),Bk (by omega),Jh (by omega),Bl (by omega),Dk,OU fun x hx=>h x (Aw _ hx)]
theorem oR {sz:Nat}:∀{els:List (List AV)},(∀e∈els,e.length=sz)->els.flatten.length=els.length*sz
 |[],_=>by simp
 |e::els,h=>by have he:=h e Au;have :=oR fun x hx=>h x (Aw e hx);simp only[Bp,An,Ah,Ce,Gq];omega
theorem KI {H2:aA} {id sz cap:Nat} {els:List (List AV)} {opn:Bool} (hg:H2.get id=some (.cells els.flatten opn)) (hu:∀e∈els,e.length=sz) (hf:dJ els=true) (nw:Nat):
 fT H2 none nw 0 (.sl id sz 0 els.length cap)=some (.aV 0 sz els):=by
 have hc:H2.eP id=some els.flatten:=by simp[aA.eP,hg]
 have hl:Nat.ble (0+els.length*sz) els.flatten.length=true:=by rw[oR hu];simp
 simp only[fT,jR,hc,Cy,hl,mB hf,Ds,OU hu]
theorem vE {H:aA} {sz bytes:Nat} {ys:List (List AV)} (hy:ys.isEmpty=false) (hb:ys.length*bytes<=2^40):dU H sz bytes true .aS ys=some (.sl H.next sz 0 ys.length ys.length,H.alloc (.cells ys.flatten true)):=by simp[dU,hy,hb,iO]
theorem rL {H:aA} {id n sz bytes:Nat} {cs:List AV} {ys:List (List AV)} (hg:H.get id=some (.cells cs true)) (hc:cs.length=n*sz) (hy:ys.isEmpty=false) (hb:(n+ys.length)*bytes<=2^40) (hs:1<=sz):
 dU H sz bytes true (.sl id sz 0 n n) ys=some (.sl H.next sz 0 (n+ys.length) (n+ys.length),(H.set id .dead).alloc (.cells (cs++ys.flatten) true)):=by
 have hl:0<ys.length:=by cases ys with
  |nil=>simp at hy
  |cons _ _=>simp
 simp only[dU,hy,Bj,Cm,hg,hb,hs,and_self,if_true];rw[if_neg (by omega),if_neg (by simp[hc]),if_pos ⟨trivial,trivial,trivial,hc⟩]
def Has (H:aA) (sz:Nat) (v:AV) (els:List (List AV)):Prop:=v=.aV 1 sz els\/Own H sz v els
theorem Has.push {H:aA} {sz bytes:Nat} {v:AV} {els ys:List (List AV)} (h:Has H sz v els) (hy:ys.isEmpty=false) (hb:(els.length+ys.length)*bytes<=2^40):
 ∃H',dU H sz bytes false v ys=some (.aV (H.next+2) sz (els++ys),H')/\H'.next=H.next+1/\H'.get H.next=some .tok/\(∀id,id<H.next->H.get id≠some .tok->H'.get id=H.get id)/\(cN H->cN H'):=by
 have fresh:∀BG:List (List AV),dU H sz bytes false v ys=some (iO H false sz BG)->∃H',dU H sz bytes false v ys=some (.aV (H.next+2) sz BG,H')/\H'.next=H.next+1/\H'.get H.next=some .tok/\(∀id,id<H.next->H.get id≠some .tok->H'.get id=H.get id)/\(cN H->cN H'):=fun BG e=>⟨H.alloc .tok,e,by simp,by rw[aA.aF,if_pos rfl],fun id h1 _=>by rw[aA.aF,if_neg (by omega)],fun hf=>hf.alloc _⟩
 rcases h with rfl|⟨rfl,rfl⟩|⟨k,rfl,hkn,hk⟩
 · exact fresh _ (by simp[dU,hy,hb])
 · simp only[Ay,Df] at hb;exact fresh _ (by simp[dU,hy,hb])
 refine⟨(H.set k .dead).alloc .tok,by simp[dU,hy,hb,hk],by simp,by rw[aA.aF,aA.aX,if_pos rfl],fun id h1 h2=>?_,fun hf=>(hf.set hkn _).alloc _⟩;rw[aA.aF,aA.aX,if_neg (by omega),aA.aC,if_neg];rintro rfl;exact h2 hk
theorem Has.aBz {H H':aA} {sz:Nat} {v:AV} {els:List (List AV)} (h:Has H sz v els) (hn:H.next<=H'.next) (hk:∀k,k<H.next->H.get k=some .tok->H'.get k=some .tok):Has H' sz v els:=by
 rcases h with rfl|⟨rfl,rfl⟩|⟨k,rfl,h1,h2⟩
 · exact .inl rfl
 · exact .inr (.inl ⟨rfl,rfl⟩)
 exact .inr (.inr ⟨k,rfl,by omega,hk k h1 h2⟩)
theorem Has.shut {H2:aA} {sz:Nat} {v:AV} {els:List (List AV)} (h:Has H2 sz v els) (bN:els≠[]) (hl:v≠ .aV 1 sz els) (hf:dJ els=true) (nw:Nat):fT H2 none nw 0 v=some (.aV 0 sz els):=by
 rcases h with rfl|⟨rfl,rfl⟩|⟨k,rfl,h1,h2⟩
 · exact absurd rfl hl
 · exact absurd rfl bN
 simp[fT,jR,hf,HE]
end
end Go.Av
namespace Go.Av
open Go Go.Proofs Go.Shelf Go.Lib Go.Sort
abbrev CX (k:Nat):={l:List Int // l.length=k}
instance (k:Nat):Inhabited (CX k):=⟨⟨List.replicate k 0,by simp⟩⟩
def wY {k:Nat} (x:CX k):List Value:=x.1.map (Value.int .i64)
def WG {k:Nat} (x:CX k):List AV:=x.1.map (AV.int .i64)
def mG {k:Nat} (d:List (CX k)):List Int:=d.flatMap (·.1)
theorem aAj {k:Nat} (x:CX k):(wY x).length=k:=by simp[wY,x.2]
def Gno:Gh:=⟨fun _=>none,fun _ _=>False,true⟩
theorem WR.empty {g:bB} (hg:∀n,g n=none) (w:World):WR g Gno ⟨0,.nil⟩ w where
 cells:=fun id l cs opn h=>by cases h
 room:=fun id l h=>by cases h
 kT:=fun id jU l l' _ h=>by cases h
 jM:=fun id l h=>by cases h
 gZ:=fun id l o h=>by cases h
 lt:=fun id l h=>by cases h
 gN:=fun b o h=>h.elim
 iF:=fun n cs h=>by rw[hg n] at h;cases h
 BL:=fun n cs h h0=>by rw[hg n] at h;cases h
 mo:=by unfold bB.mo;rw[hg];rfl
theorem gI.ints {G:Gh} {w:World} (l:List Int):gI G w (l.map (AV.int .i64)) (l.map (Value.int .i64)):=by
 refine⟨by simp,fun j hj=>?_⟩;have HH:j<l.length:=by simpa using hj
 have e1:(l.map (AV.int .i64)).getD j aD=.int .i64 l[j]:=by simp[List.getD,HH]
 have e2:(l.map (Value.int .i64)).getD j undef=.int .i64 l[j]:=by simp[List.getD,HH]
 rw[e1,e2];exact .int ..
theorem Ux {G':Gh} {H':aA} {w w':World} (e:Ext Gno ⟨0,.nil⟩ w G' H' w'):∃q os',w'=grow (w.drewN q) os':=by
 refine⟨w'.drawn -w.drawn,w'.heap.extract w.heap.size w'.heap.size,?_⟩
 have hh:w'.heap=w.heap++w'.heap.extract w.heap.size w'.heap.size:=by
  apply Array.ext_getElem?;intro b;rw[Array.getElem?_append];have hs:=e.size;split
  · rename_i hb;exact e.frame b hb (fun id l h=>by cases h)
  rename_i hb;rw[Array.getElem?_extract];by_cases h2:b<w'.heap.size
  · rw[if_pos (by omega)];congr 1;omega
  rw[if_neg (by omega),Ki (by omega)]
 obtain⟨h1,h2,h3,h4⟩:=e.same
 replace h4:=h4 rfl
 cases w';cases w;simp only[grow,World.drewN,World.mk.injEq] at *;exact⟨hh,h3,by omega,h1,h2⟩
theorem Ta {P:Program} {f:FuncId} (HI:tZ P f) (args:Array Value) (w:World):(callFunc f args).run P w=.ok (.enter f args) w:=by
 obtain⟨fn,h1,h2,h3⟩:=HI;have hb:¬fn.body=none:=fun hh=>by rw[hh] at h2;cases h2
 have h3':¬fn.name= "runtime.NumGoroutine" :=by simpa using h3
 simp[callFunc,program,Sem.run,h1,h3',hb]
theorem aGk {P:Program} {g:bB} (hg:∀n,g n=none) {k:Nat} {gf:FuncId} {cf:CX k->CX k->Int}
 (IW:∀x y,Sound P g gf [.agg (WG x),.agg (WG y)] ⟨0,.nil⟩ (.ret (.int .i64 (cf x y))) ⟨0,.nil⟩) (cS off size:Nat) (w:World):CmpLays P gf #[] wY k cf cS off size w:=by
 intro m os dk hs x y
 have hv:∀z:CX k,VR Gno (sortWorldK wY k w cS off m dk os) (.agg (WG z)) (.agg (wY z).toArray):=fun z=>by have :=gI.ints (G:=Gno) (w:=sortWorldK wY k w cS off m dk os) z.1;exact .agg _ _ this.1 (fun c hc=>by obtain⟨n,_,rfl⟩:=Bf.1 hc;rfl) this.2
 refine((IW x y).2 Gno (sortWorldK wY k w cS off m dk os) [.agg (wY x).toArray,.agg (wY y).toArray] (WR.empty hg _) ⟨rfl,fun j hj=>?_⟩).mono fun e w' he=>?_
 · match j,hj with
   |0,_=>exact hv x
   |1,_=>exact hv y
 obtain⟨G',h1,h2,h3⟩:=he;refine⟨?_,Ux h2⟩
 cases e with
 |returned u=>cases h3;rfl
 |_=>exact h3.elim
theorem Sy {k:Nat} (hk:1<=k):∀(d:List (CX k)) (t:Nat),t<d.length*k->(mG d)[t]?=some ((d[t / k]?.getD default).1[t%k]?.getD 0)
 |[],t,h=>by simp at h
 |x::d,t,h=>by
  have hx:=x.2;simp only[mG,Cl];rw[Dr];split
  · rename_i h1;rw[Eh (by omega),Cn (by omega)];simp[Ab h1]
  rename_i h1;have h2:k<=t:=by omega
  have h3:t -k<d.length*k:=by simp only[Ah,Ce,Gq] at h;omega
  have e1:t / k=(t -k) / k+1:=by rw[<-Nat.add_div_right _ (by omega)];congr 1;omega
  have e2:t%k=(t -k)%k:=by rw[<-Nat.mod_eq_sub_mod h2]
  rw[hx,e1,e2,Gy];exact Sy hk d (t -k) h3
theorem lB {k:Nat}:∀d:List (CX k),(mG d).length=d.length*k
 |[]=>by simp[mG]
 |x::d=>by have :=lB d;simp only[mG,Cl,An,Ah,x.2,Ce,Gq] at this ⊢;omega
theorem WL {k:Nat} (hk:1<=k) (d:List (CX k)):flatK wY k d.toArray=((mG d).map (Value.int .i64)).toArray:=by
 refine ext_get! (by simp[lB]) fun t ht=>?_;have ht':t<d.length*k:=by simpa using ht
 rw[get_flatK _ _ _ _ (by simpa using ht')];have h1:=Sy hk d t ht';have hm:t%k<k:=De _ (by omega);have hd:t / k<d.length:=by rwa [Ed (by omega)]
 have hl:(d[t / k]).1.length=k:=(d[t / k]).2
 have e2:(((mG d).map (Value.int .i64)).toArray)[t]! =.int .i64 ((d[t / k]).1[t%k]'(by omega)):=by
  rw[getElem!_pos _ _ (by simpa [lB] using ht')];have h3:t<(mG d).length:=by rw[lB];exact ht'
  rw[Ab h3] at h1;simp only[List.getElem_toArray,Co];rw[Aa h1];simp[hd,Ab (show t%k<(d[t / k]).1.length by omega)]
 rw[e2,getElem!_pos d.toArray (t / k) (by simpa using hd)];simp only[wY,List.getElem_toArray];rw[getElem!_pos _ _ (by simp;omega)];simp
theorem c6 {k:Nat} (hk:1<=k) {w:World} {cS off n:Nat} {d':List (CX k)} {c:Array Value} {el:TypeId} {fz:Nat×Nat} (kY:w.heap[cS]?=some (.cells c el fz)):
 VB w (putRowK wY k (Sort.ahead w n) cS off d'.toArray) cS off ((mG d').map (Value.int .i64)) where
 size:=by simp[putRowK,putRow,mapBlock,Sort.ahead]
 other:=fun b' hb=>by simp only[putRowK,putRow,mapBlock,Sort.ahead,Hr];rw[if_neg (Ne.symm hb)]
 row:=fun c1 el1 fz1 h=>by
  rw[kY] at h;cases h;refine⟨putCells id off (flatK wY k d'.toArray) c,?_,by simp[putCells],fun o ho=>?_,fun j hj eQ=>?_⟩
  · simp[putRowK,putRow,mapBlock,Sort.ahead,Hr,kY,onCells]
  · simp only[putCells,Array.getElem?_mapIdx,size_flatK]
    have :¬(off<=o/\o<off+d'.toArray.size*k):=by simp only[Ad,lB,Gr] at ho ⊢;omega
    simp only[if_neg this]
    cases c[o]?<;>rfl
  simp only[Ad,lB] at hj;simp only[putCells,Array.getElem?_mapIdx,size_flatK];rw[Dx eQ,Bt,if_pos (by simp;omega)];rw[show off+j -off=j by omega,WL hk,getElem!_pos _ _ (by simpa [lB] using hj)];simp[List.getD,lB,hj]
 same:=.now (h4:=Ig _ _)
theorem FM {P:Program} {g:bB} (hg:∀n,g n=none) {ρ:Ren} (L:SlLaysF0.n6 P ρ) {k:Nat} (hk:1<=k) (aE:∀w,(isAgg (ρ.t 24)).run P w=.ok true w) (zE:∀w,(Go.sizeOf (ρ.t 24)).run P w=.ok k w)
 {gf sf:FuncId} (hsf:sf=ρ.f 6) (hfs:tZ P sf) (hfg:tZ P gf) {cf:CX k->CX k->Int} (hO:SWO (ltOf cf))
 (IW:∀x y,Sound P g gf [.agg (WG x),.agg (WG y)] ⟨0,.nil⟩ (.ret (.int .i64 (cf x y))) ⟨0,.nil⟩) (d:List (CX k)) (hd:d.length<4611686018427387904):
 ∃d':List (CX k),d'.Perm d/\(d'.Pairwise fun a b=>¬cf b a<0)/\∀(H:aA) (id:Nat) (opn:Bool),H.get id=some (.cells ((mG d).map (AV.int .i64)) opn)->
  Sound P g sf [.sl id k 0 d.length d.length,.func (.func gf) [] []] H (.ret (.gP [])) (H.set id (.cells ((mG d').map (AV.int .i64)) opn)):=by
 subst hsf;have hp:=pdq_sorts (ltOf cf) hO d.toArray 0 d.toArray.size (Lib.bitLen d.toArray.size) true true (Bb _) (Ak _) (Or.inl rfl);generalize hD:pdq (ltOf cf) d.toArray 0 d.toArray.size (Lib.bitLen d.toArray.size) true true=D at hp;obtain⟨⟨q1,q2,q3⟩,q4⟩:=hp
 have aLj:D.toList.Perm d:=by
  rw[<-q1] at q3;have e1:(D.extract 0 D.size).toList=D.toList:=by simp
  have e2:(d.toArray.extract 0 D.size).toList=d:=by rw[q1];simp
  rwa [e1,e2] at q3
 have hlen:D.toList.length=d.length:=aLj.length_eq;refine⟨D.toList,aLj,?_,fun H id opn cG=>⟨hfs,fun G w vs hw fP=>?_⟩⟩
 · rw[Gn];intro i j hi hj AE;have :=q4 i j (Bb _) AE (by simp at hj hlen ⊢;omega);simp only[ltOf,Cc] at this;simp only[Dh] at hi hj;rw[getElem!_pos D i hi,getElem!_pos D j hj] at this;simpa using this
 obtain⟨hl,hv⟩:=fP
 match vs,hl with
 |[u0,u1],_=>
  have v0:=hv 0 (by simp);have v1:=hv 1 (by simp);simp only[Ci,Dw] at v0 v1
  cases v0 with
  |sl _ _ _ _ _ iT l rT hle gD mY=>
   cases v1 with
   |func _ _ _ az bz ha hb _ _=>
    obtain rfl:az=[]:=Cs ha;obtain rfl:bz=[]:=Cs hb;obtain⟨a1,a2,a3,a4,a5⟩:=hw.cells id l _ opn rT cG;obtain⟨c,el,fz,b1,b2,b3⟩:=hw.room id l rT (.inl ⟨_,_,cG⟩);have aWi:((mG d).map (AV.int .i64)).length=d.length*k:=by simp[lB]
    have hH:HoldsK wY k w l.cS (l.base+0) d.toArray:=by intro j hj;rw[size_flatK] at hj;have HH:j<d.length*k:=(by simpa using hj);obtain⟨u,e1,e2⟩:=a5 j (by rw[aWi];exact HH);have hjf:j<(mG d).length:=(by rw[lB];exact HH);have e3:((mG d).map (AV.int .i64)).getD j aD=.int .i64 (mG d)[j]:=(by simp[List.getD,hjf]);rw[e3] at e2;cases e2;refine⟨?_,b3 j (by rw[a1,aWi] at a2;omega)⟩;rw[Di,e1,WL hk,getElem!_pos _ _ (by simpa using hjf)];simp
    have hblk:l.cS<w.heap.size:=by
     rcases Hg l.cS w.heap.size with h|h
     · exact h
     rw[Ki h] at b1;cases b1
    have aWj:=AnyQ.slices_SortFunc_eq L k aE zE (wY (k:=k)) aAj (fun x v hv=>by obtain⟨n,_,rfl⟩:=Bf.1 hv;rfl) cf hO gf #[] l.cS (l.base+0) iT d.toArray w (fun args w=>Ta hfg args w) (aGk hg IW _ _ _ _) hH hblk (by simpa using hd);rw[hD] at aWj;refine aWj.mono fun e w' he=>?_;obtain⟨rfl,n,os,rfl⟩:=he;have hup:=c6 hk (w:=w) (cS:=l.cS) (off:=l.base+0) (n:=n) (d':=D.toList) b1
    have NP:gO ((mG d).map (AV.int .i64)) 0 ((mG D.toList).map (AV.int .i64))=(mG D.toList).map (AV.int .i64):=by simp only[gO,Eb,Dk,Df];rw[Bl (by simp[lB,hlen]),Bz]
    obtain⟨r1,r2⟩:=hw.store rT cG (gI.ints (mG D.toList)) (fun c hc=>by obtain⟨n,_,rfl⟩:=Bf.1 hc;rfl) (by simp[lB,hlen]) hup;rw[NP] at r1 r2
    have hgr:∀b,b<(putRowK wY k (Sort.ahead w n) l.cS (l.base+0) D.toList.toArray).heap.size->(grow (putRowK wY k (Sort.ahead w n) l.cS (l.base+0) D.toList.toArray) os).heap[b]?=(putRowK wY k (Sort.ahead w n) l.cS (l.base+0) D.toList.toArray).heap[b]?:=fun b hb=>by simp only[grow];rw[Array.getElem?_append_left hb]
    have e0:sortWorldK wY k w l.cS (l.base+0) n D os=grow (putRowK wY k (Sort.ahead w n) l.cS (l.base+0) D.toList.toArray) os:=(by simp[sortWorldK]);rw[e0];refine⟨G,r1.grow hgr,r2.trans (Ext.grow r1.gN hgr (by simp[grow]) .now),?_⟩;exact .gP _ [] rfl fun j hj=>absurd hj (Ax _)
theorem lR {P:Program} {g:bB} {ρ:Ren} (L:SlLaysF0.n6 P ρ) {sf:FuncId} (hsf:sf=ρ.f 6) (hfs:tZ P sf) (gf:FuncId) (H:aA):Sound P g sf [.aS,.func (.func gf) [] []] H (.ret (.gP [])) H:=by
 subst hsf;refine⟨hfs,fun G w vs hw fP=>?_⟩;obtain⟨hl,hv⟩:=fP
 match vs,hl with
 |[u0,u1],_=>have v0:=hv 0 (by simp);simp only[Ci] at v0;cases v0;refine(AnyF.slices_SortFunc_none L none 0 u1 w).mono fun e w' he=>?_;obtain⟨rfl,rfl⟩:=he;exact⟨G,hw,Ext.refl G H _,.gP _ [] rfl fun j hj=>absurd hj (Ax _)⟩
end Go.Av
namespace Go.Av
open Go
section
section
variable {P:Program} {g:bB} {n:Nat}
theorem kh {k:LD} {f:cU} {id:Nat} {args:List AV} {H2 H3:aA} {out:Out} (hb:nT n f) (h:TS P g n k f id args H2 out H3):Nx P g k (LF n f) id args H2 out H3:=by
 unfold Nx;rw[LB];refine eW (fun e s1 pQ H1 hq=>?_) (tY k.MK _ [] H2 _ (hb.pX _) h);obtain⟨f1,rfl,tR,hq⟩:=hq
 cases e with
 |normal=>
  obtain⟨h1,k1,jz,h2,h3⟩:=hq;refine⟨h1,k1,jz,h2,eW (fun e s2 RD H4 hq=>?_) (tY k.body _ [] _ _ tR h3)⟩;obtain⟨f2,rfl,AL,hq⟩:=hq
  cases e with
  |panic v=>exact hq.elim
  |_=>exact hq
 |_=>exact hq.elim
theorem YZ (hm:Fit P g) {k:LD} {f:cU} {id:Nat} {args:List AV} {H2 H3:aA} {out:Out} (hb:nT n f) (cG:H2.get id=some (.loop k (LF n f) .ready)) (hlen:args.length=k.ps.length) (h:TS P g n k f id args H2 out H3):
 sK P g id args H2 out H3:=LL hm cG hlen (kh hb h)
def uj (id:Nat) (R:Out->aA->Prop):FQ
 |.normal,_,ds,H=>ds=[]/\∃k sn,H.get id=some (.loop k sn .busy)/\R (.ret (.bool true)) (H.set id (.loop k sn .ready))
 |.ret,_,ds,H=>ds=[]/\∃k sn,H.get id=some (.loop k sn .busy)/\R (.ret (.bool false)) (H.set id (.loop k sn (.done .ret)))
 |.exit i,_,ds,H=>ds=[]/\∃k sn,H.get id=some (.loop k sn .busy)/\R (.ret (.bool false)) (H.set id (.loop k sn (.done (.exit i))))
 |.panic _,_,_,_=>False
theorem Ya (hm:Fit P g) {k:LD} {f:cU} {id:Nat} {args:List AV} {H2:aA} {R:Out->aA->Prop} (hb:nT n f) (cG:H2.get id=some (.loop k (LF n f) .ready)) (hlen:args.length=k.ps.length) (ow:k.MK.dL=true) (hd2:k.body.dL=true)
 (h:FC P g n k.MK (tM n f (k.ps.zip args)) [] H2 (gC (fun f1 pQ H1=>pQ=[]/\∃k1 jz,H1.get id=some (.loop k1 jz .ready)/\FC P g n k.body f1 [] (H1.set id (.loop k1 jz .busy)) (uj id R)) fun _ _ _ _=>False)):
 ∃out H3,R out H3/\sK P g id args H2 out H3:=by
 obtain⟨ae,s',fC,H',⟨f1,rfl,tR,hq⟩,hA2⟩:=HK ow (tY k.MK _ [] H2 _ (hb.pX _) h)
 cases ae with
 |normal=>
  obtain⟨rfl,k1,jz,hg,hF⟩:=hq;obtain⟨be,s2,RD,H4,⟨f2,rfl,AL,hq2⟩,hB2⟩:=HK hd2 (tY k.body _ [] _ _ tR hF)
  have fin:∀{out:Out} {H3:aA},(∀s,Xa id out H3 be s RD H4)->sK P g id args H2 out H3:=fun {out H3} hr=>by refine LL hm cG hlen ?_;unfold Nx;rw[LB];refine eW (fun e s1 pQ H1 he=>?_) hA2;obtain⟨rfl,rfl,rfl,rfl⟩:=he;refine⟨rfl,k1,jz,hg,eW (fun e s1 pQ H1 he=>?_) hB2⟩;obtain⟨rfl,rfl,rfl,rfl⟩:=he;exact hr _
  cases be with
  |normal=>obtain⟨rfl,k2,sn2,Oz,hR⟩:=hq2;exact⟨_,_,hR,fin fun s=>⟨rfl,rfl,k2,sn2,Oz,rfl⟩⟩
  |ret=>obtain⟨rfl,k2,sn2,Oz,hR⟩:=hq2;exact⟨_,_,hR,fin fun s=>⟨rfl,rfl,k2,sn2,Oz,rfl⟩⟩
  |exit i=>obtain⟨rfl,k2,sn2,Oz,hR⟩:=hq2;exact⟨_,_,hR,fin fun s=>⟨rfl,rfl,k2,sn2,Oz,rfl⟩⟩
  |panic v=>exact hq2.elim
 |_=>exact hq.elim
variable {r:List bC} {f:cU} {ds:List fY} {H:aA} {Q:FQ}
theorem FI {d:Nat} {c:Arg} {id:Nat} {azs:List Arg} {args:List AV} {v:AV} {H':aA} (hd:d<n) (hc:mT g f c=.yield id) (ha:azs.map (mT g f)=args)
 (hS:sK P g id args H (.ret v) H') (h:bL P g n r (jG f d v) ds H' Q):bL P g n (⟨some d,.call c azs,none⟩::r) f ds H Q:=by
 have :∀v,fD n f (some d) v=jG f d v:=fun v=>by simp[fD,hd]
 unfold bL;simp only[fJ,if_true,this];exact⟨.ret v,H',.inr ⟨id,hc,by rw[ha];exact hS⟩,h⟩
theorem km {c:Arg} {ps:List Nat} {MK body:bV} {fid:FuncId} {fs cs:List AV} {v:AV} {He:aA} {k':LD} {s':List AV} {st:LSt} (hc:mT g f c=.func (.func fid) fs cs)
 (hS:Sound P g fid (fs++[.yield (H.next+1)]++cs) ((H.alloc .MO).alloc (.loop ⟨ps,MK,body⟩ (LF n f) .ready)) (.ret v) He) (hl:He.get (H.next+1)=some (.loop k' s' st))
 (h:∀Hf,xN He (H.next+1) Hf->PY st f (.mark H.next::ds) Hf Q):FC P g n (.oE c ps MK body) f ds H Q:=by
 have eQ:∃Hf,xN He (H.next+1) Hf:=⟨He.set (H.next+1) .dead,rfl,fun m=>by rw[aA.aC]⟩
 obtain⟨Hf,hf⟩:=eQ;exact⟨fid,fs,cs,v,He,k',s',st,Hf,hc,hS,hl,hf,h Hf hf⟩
theorem FH {c:Arg} {ps:List Nat} {MK body:bV} {fid:FuncId} {fs cs:List AV} (hc:mT g f c=.func (.func fid) fs cs)
 (h:∃v He k' s' st,Sound P g fid (fs++[.yield (H.next+1)]++cs) ((H.alloc .MO).alloc (.loop ⟨ps,MK,body⟩ (LF n f) .ready)) (.ret v) He/\He.get (H.next+1)=some (.loop k' s' st)/\
   ∀Hf,xN He (H.next+1) Hf->PY st f (.mark H.next::ds) Hf Q):FC P g n (.oE c ps MK body) f ds H Q:=by
 obtain⟨v,He,k',s',st,h1,h2,h3⟩:=h;exact km hc h1 h2 h3
theorem nT.jG {n:Nat} {f:cU} (h:nT n f) {d:Nat} (hd:d<n) (v:AV):nT n (jG f d v):=fun t ht=>by rw[oM _ _ (by omega)];exact h t ht
theorem aMn {c:bV} {f0:cU} {ds:List fY} {H0:aA} {Q:FQ} (hb:nT n f0) (h:∀f H,nT n f->f=f0->H=H0->FC P g n c f ds H Q):FC P g n c f0 ds H0 Q:=h _ _ hb rfl rfl
theorem tC {c:bV} {f0:cU} {ds:List fY} {H:aA} {Q:FQ} (h:∀f,f=f0->FC P g n c f ds H Q):FC P g n c f0 ds H Q:=h _ rfl
structure Over (H H':aA):Prop where
 le:H.next<=H'.next
 same:∀j,j<H.next->H'.get j=H.get j
theorem Over.refl (H:aA):Over H H:=⟨Ak _,fun _ _=>rfl⟩
theorem Over.alloc {H H':aA} (h:Over H H') (o:dY):Over H (H'.alloc o):=⟨by simp only[aA.bJ];have :=h.le;omega,fun j hj=>by
 have :=h.le
 rw[aA.aF,if_neg (by omega)];exact h.same j hj⟩
theorem Over.set {H H':aA} (h:Over H H') {id:Nat} (hid:H.next<=id) (o:dY):Over H (H'.set id o):=⟨by rw[aA.aX];exact h.le,fun j hj=>by rw[aA.aC,if_neg (by omega)];exact h.same j hj⟩
end
end
attribute [local congr] aO
section
section
variable {P:Program} {g:bB} {n:Nat}
def aGz (n c ix a b:Nat) (cs:List Nat) (ts B:bV):Bool:=
 Nat.blt c n&&Nat.blt ix n&&Nat.blt a n&&Nat.blt b n&& !Nat.beq a ix&& !Nat.beq b ix&& !Nat.beq b a&& !tL ix ts.wr&& !tL ix B.wr&&B.rY&& !tL a cs&& !tL b cs&& !tL ix cs&&cs.all (fun t=> !tL t ts.wr)
def SA (ix a b:Nat) (ts B:bV):List Nat:=a::b::ix::(ts.wr++B.wr)
theorem TP {id c ix a b:Nat} {op:BinOp} {dz:Int} {ts B:bV} {f:cU} {ds:List fY} {H:aA} {Q:FQ} (cs:List Nat) (J:Nat->List AV->aA->Prop) (val:Nat->Int) (N:Nat)
 (hs:aGz n c ix a b cs ts B=true) (fF:∀i,i<N->qF op .i64 (val i) .i64 dz=some (.int .i64 (val (i+1))))
 (h1:f ix=.int .i64 (val 0)) (h0:J 0 (cs.map f) H)
 (test:∀(i:Nat) (f':cU) (H':aA),i<=N->iZ (SA ix a b ts B) f f'->f' ix=.int .i64 (val i)->J i (cs.map f') H'->FC P g n ts f' ds H' (gC (fun Ru aAh HU=>aAh=ds/\HU=H'/\Ru c=.bool (decide (i<N))) fun _ _ _ _=>False))
 (body:∀(i:Nat) (f':cU) (H':aA),i<N->iZ (SA ix a b ts B) f f'->f' ix=.int .i64 (val i)->J i (cs.map f') H'->FC P g n B f' ds H' (gC (fun Ru _ HU=>J (i+1) (cs.map Ru) HU) (dO id Q)))
 (done:∀(f':cU) (H':aA),iZ (SA ix a b ts B) f f'->J N (cs.map f') H'->Q .normal f' ds H'):
 FC P g n (.block id (.loop (.seq (.seq ts (.cond (.tmp c) .skip (.exit id))) (.seq B
  (.ops [⟨some a,.Ni (.tmp ix),none⟩,⟨some b,.bin op (.tmp a) (.const (.int .i64 dz)),none⟩,⟨some ix,.Ni (.tmp b),none⟩]))))) f ds H Q:=by
 simp only[aGz,Am,Ct,Gv,Ba] at hs;obtain⟨⟨⟨⟨⟨⟨⟨⟨⟨⟨⟨⟨⟨s1,s2⟩,s3⟩,s4⟩,s5⟩,s6⟩,s7⟩,t1⟩,b1⟩,b2⟩,c1⟩,c2⟩,c3⟩,c4⟩:=hs;have ne:∀{a b:Nat},Nat.beq a b=false->a≠b:=fun h e=>by subst e;simp at h
 have bJe:∀d∈ts.wr,d∈SA ix a b ts B:=fun d hd=>by simp[SA,hd]
 have bJd:∀d∈B.wr,d∈SA ix a b ts B:=fun d hd=>by simp[SA,hd]
 have kpU:∀{f':cU} {d:Nat} {v:AV},d∈SA ix a b ts B->iZ (SA ix a b ts B) f f'->iZ (SA ix a b ts B) f (jG f' d v):=fun {f' d v} hd hk t ht=>by have bN:t≠d:=fun e=>pU.1 ht (by rw[e];exact hd);rw[oM _ _ bN];exact hk t ht
 refine aMo (id:=id) (c:=c) (fun i f' H'=>iZ (SA ix a b ts B) f f'/\f' ix=.int .i64 (val i)/\J i (cs.map f') H') N ⟨.ud,h1,h0⟩ ?_ ?_ ?_
 · rintro i f' H' hi ⟨hk,e1,hj⟩ K hK Q';refine jB (fun e f2 RD H2 hh=>?_) (HO (test i f' H' hi hk e1 hj));obtain⟨k1,k2,k3⟩:=hh
   cases e with
   |normal=>obtain⟨rfl,rfl,k4⟩:=k3;refine⟨rfl,rfl,hK _ k4 ⟨hk.trans (k1.sub bJe),by rw[k1 _ t1];exact e1,?_⟩⟩;have :cs.map f2=cs.map f':=Ef fun t ht=>k1 t (by simpa using c4 t ht);rw[this];exact hj
   |_=>exact k3.elim
 · rintro i f' H' hi ⟨hk,e1,hj⟩;refine jB (fun e f2 RD H2 hh=>?_) (HO (body i f' H' hi hk e1 hj));obtain⟨k1,k2,k3⟩:=hh
   cases e with
   |normal=>obtain rfl:=k2 b2;refine⟨rfl,?_⟩;have e2:f2 ix=.int .i64 (val i):=(by rw[k1 _ b1];exact e1);have dA:=hk.trans (k1.sub bJd);rw[KY,HQ _ _ s3];simp only[dK,jD,e2,bP];rw[AO _ _ _ _ s4];simp only[dK,jD,wZ,sG,fF i hi,Bt,bP];rw[HQ _ _ s2];simp only[dK,jD,bP,wR,fW,sG];refine⟨trivial,kpU (by simp[SA]) (kpU (by simp[SA]) (kpU (by simp[SA]) dA)),trivial,?_⟩;rw[JN c3,JN c2,JN c1];exact k3
   |_=>exact k3
 rintro f' H' ⟨hk,e1,hj⟩;exact done f' H' hk hj
theorem bG {id c ix a b:Nat} {ts B:bV} {f:cU} {ds:List fY} {H:aA} {Q:FQ} (cs:List Nat) (J:Nat->List AV->aA->Prop) (s N:Nat) (hsN:s<=N) (hN:N<2^63)
 (hs:aGz n c ix a b cs ts B=true) (h1:f ix=.int .i64 s) (h0:J s (cs.map f) H)
 (test:∀(i:Nat) (f':cU) (H':aA),s<=i->i<=N->iZ (SA ix a b ts B) f f'->f' ix=.int .i64 i->J i (cs.map f') H'->FC P g n ts f' ds H' (gC (fun Ru aAh HU=>aAh=ds/\HU=H'/\Ru c=.bool (decide (i<N))) fun _ _ _ _=>False))
 (body:∀(i:Nat) (f':cU) (H':aA),s<=i->i<N->iZ (SA ix a b ts B) f f'->f' ix=.int .i64 i->J i (cs.map f') H'->FC P g n B f' ds H' (gC (fun Ru _ HU=>J (i+1) (cs.map Ru) HU) (dO id Q)))
 (done:∀(f':cU) (H':aA),iZ (SA ix a b ts B) f f'->J N (cs.map f') H'->Q .normal f' ds H'):
 FC P g n (.block id (.loop (.seq (.seq ts (.cond (.tmp c) .skip (.exit id))) (.seq B
  (.ops [⟨some a,.Ni (.tmp ix),none⟩,⟨some b,.bin .add (.tmp a) (.const (.int .i64 1)),none⟩,⟨some ix,.Ni (.tmp b),none⟩]))))) f ds H Q:=by
 refine TP cs (fun i=>J (s+i)) (fun i=>((s+i:Nat):Int)) (N -s) hs (fun i hi=>?_) (by simpa using h1) (by simpa using h0) (fun i f' H' hi hk e1 hj=>?_) (fun i f' H' hi hk e1 hj=>?_) (fun f' H' hk hj=>?_)
 · simp only[qF,if_true];rw[wrap_i64 (by omega) (by omega)];simp only[Ac,AV.int.injEq,Jx];omega
 · have h:=test (s+i) f' H' (by omega) (by omega) hk e1 hj
   rwa [show decide (s+i<N)=decide (i<N -s) from by rw[Az];omega] at h
 · have h:=body (s+i) f' H' (by omega) (by omega) hk e1 hj
   rwa [Bm] at h
 have :s+(N -s)=N:=by omega
 simp only[this] at hj;exact done f' H' hk hj
theorem NX {id c ix a b:Nat} {ts B:bV} {f:cU} {ds:List fY} {H:aA} {Q:FQ} (cs:List Nat) (J:Nat->List AV->aA->Prop) (N:Nat) (hN:N<2^63)
 (hs:aGz n c ix a b cs ts B=true) (h1:f ix=.int .i64 ((N:Int) -1)) (h0:J N (cs.map f) H)
 (test:∀(i:Nat) (f':cU) (H':aA),i<=N->iZ (SA ix a b ts B) f f'->f' ix=.int .i64 ((i:Int) -1)->J i (cs.map f') H'->FC P g n ts f' ds H' (gC (fun Ru aAh HU=>aAh=ds/\HU=H'/\Ru c=.bool (decide (0<i))) fun _ _ _ _=>False))
 (body:∀(i:Nat) (f':cU) (H':aA),i<N->iZ (SA ix a b ts B) f f'->f' ix=.int .i64 i->J (i+1) (cs.map f') H'->FC P g n B f' ds H' (gC (fun Ru _ HU=>J i (cs.map Ru) HU) (dO id Q)))
 (done:∀(f':cU) (H':aA),iZ (SA ix a b ts B) f f'->J 0 (cs.map f') H'->Q .normal f' ds H'):
 FC P g n (.block id (.loop (.seq (.seq ts (.cond (.tmp c) .skip (.exit id))) (.seq B
  (.ops [⟨some a,.Ni (.tmp ix),none⟩,⟨some b,.bin .sub (.tmp a) (.const (.int .i64 1)),none⟩,⟨some ix,.Ni (.tmp b),none⟩]))))) f ds H Q:=by
 refine TP cs (fun i=>J (N -i)) (fun i=>((N -i:Nat):Int) -1) N hs (fun i hi=>?_) (by simpa using h1) (by simpa using h0) (fun i f' H' hi hk e1 hj=>?_) (fun i f' H' hi hk e1 hj=>?_) (fun f' H' hk hj=>?_)
 · simp only[qF,if_true];rw[wrap_i64 (by omega) (by omega)];simp only[Ac,AV.int.injEq,Jx];omega
 · have h:=test (N -i) f' H' (by omega) hk e1 hj
   rwa [show decide (0<N -i)=decide (i<N) from by rw[Az];omega] at h
 · have e:N -i=(N -(i+1))+1:=by omega
   have vu:f' ix=.int .i64 ((N -(i+1):Nat):Int):=(by rw[e1];congr 1;omega);have HH:J ((N -(i+1))+1) (cs.map f') H':=(by rw[<-e];exact hj);exact body (N -(i+1)) f' H' (by omega) hk vu HH
 simp only[Kc] at hj;exact done f' H' hk hj
end
end
theorem KR {k:IntKind} (hs:k.signed=false) (x:Int):k.wrap x=x%2^k.bits:=by simp[IntKind.wrap,hs]
theorem vq {k:IntKind} (hs:k.signed=false) (x:Nat):k.wrap (x:Int)=((x%2^k.bits:Nat):Int):=by rw[KR hs];simp
theorem qz (n x:Nat):BitVec.ofInt n (x:Int)=BitVec.ofNat n x:=by apply BitVec.eq_of_toNat_eq;simp[BitVec.toNat_ofInt]
theorem aGe {k:IntKind} (hs:k.signed=false) {a b:Nat} (ha:a<2^k.bits) (hb:b<2^k.bits):IC .or k (a:Int) (b:Int)=some (.int k ((a|||b:Nat):Int)):=by
 have h:(BitVec.ofNat k.bits a|||BitVec.ofNat k.bits b).toNat=a|||b:=by rw[BitVec.toNat_or,BitVec.toNat_ofNat,BitVec.toNat_ofNat,Cn ha,Cn hb]
 simp only[IC,qz,h,vq hs];rw[Cn (Nat.or_lt_two_pow ha hb)]
end Go.Av
namespace Go.aG
section
variable {p:Nat->V} {N:Nat} {n:V} {d:Int}
instance:DecidableEq V:=fun a b=>match a,b with
 |⟨x,y,z⟩,⟨x',y',z'⟩=>if h:x=x'/\y=y'/\z=z' then .isTrue (by obtain⟨rfl,rfl,rfl⟩:=h;rfl) else .isFalse (fun e=>h (by cases e;exact⟨rfl,rfl,rfl⟩))
def eS (p:Nat->V) (i j k:Nat):V×Int:=(gB (aT (vec p i j) (vec p i k)),dot (gB (aT (vec p i j) (vec p i k))) (p i))
def iA (p:Nat->V) (i j k:Nat):List (V×Int):=
 if(eS p i j k).1=V0 then [] else [eS p i j k,(neg (eS p i j k).1,-(eS p i j k).2)]
theorem Su:gB V0=V0:=by simp[gB,V0]
theorem yW {i j k:Nat} (hi:i<N) (hj:j<N) (hk:k<N) {q:V×Int} (h:q∈iA p i j k) (le:∀k,k<N->dot q.1 (p k)<=q.2) (lt:∃k,k<N/\dot q.1 (p k)<q.2):qD p N q.1 q.2:=by
 unfold iA at h;split at h
 · cases h
 rename_i hz;have hc:aT (vec p i j) (vec p i k)≠V0:=fun e=>hz (by rw[eS,e,Su]);simp only[Aq,Bx,Em] at h
 rcases h with rfl|rfl
 · exact wQ.isF (a:=i) (b:=j) (c:=k) ⟨hc,.inl rfl⟩ hi hj hk le lt rfl
 refine wQ.isF (a:=i) (b:=j) (c:=k) ⟨hc,.inr rfl⟩ hi hj hk le lt ?_;simp only[eS];rw[pP]
theorem fU (F:qD p N n d):∃i j k,k<j/\j<i/\i<N/\(n,d)∈iA p i j k:=by
 obtain⟨i,j,k,h1,h2,h3,hc,hd⟩:=F.down;refine⟨i,j,k,h1,h2,h3,?_⟩;have hz:¬(eS p i j k).1=V0:=jr hc.1;unfold iA;rw[if_neg hz]
 rcases hc.2 with e|e
 · rw[hd,e];exact Au
 refine Aw _ (Aq.2 (.inl ?_));rw[hd,e];simp only[eS];rw[pP]
def sJ (i j k a b c:Nat):Prop:=a<i\/(a=i/\(b<j\/(b=j/\c<k)))
def sY (p:Nat->V) (N:Nat) (i j k:Nat) (K:List (V×Int)):Prop:=
 ∀a b c,c<b->b<a->a<N->sJ i j k a b c->∀q∈iA p a b c,qD p N q.1 q.2->q∈K
theorem sY.zero:sY p N 0 0 0 []:=fun a b c _ _ _ h=>by unfold sJ at h;omega
theorem sY.down {i j:Nat} {K:List (V×Int)} (h:sY p N i j j K):sY p N i (j+1) 0 K:=fun a b c h1 h2 h3 hb q hq F=>h a b c h1 h2 h3 (by unfold sJ at *;omega) q hq F
theorem sY.next {i:Nat} {K:List (V×Int)} (h:sY p N i i 0 K):sY p N (i+1) 0 0 K:=fun a b c h1 h2 h3 hb q hq F=>h a b c h1 h2 h3 (by unfold sJ at *;omega) q hq F
theorem sY.step {i j k:Nat} {K K':List (V×Int)} (h:sY p N i j k K) (hs:∀q∈K,q∈K') (hn:∀q∈iA p i j k,qD p N q.1 q.2->q∈K'):sY p N i j (k+1) K':=fun a b c h1 h2 h3 hb q hq F=>by
 by_cases e:a=i/\b=j/\c=k
 · obtain⟨rfl,rfl,rfl⟩:=e;exact hn q hq F
 exact hs q (h a b c h1 h2 h3 (by unfold sJ at *;omega) q hq F)
theorem sY.all {K:List (V×Int)} (h:sY p N N 0 0 K) (hK:∀q∈K,qD p N q.1 q.2) (q:V×Int):q∈K↔qD p N q.1 q.2:=by refine⟨hK q,fun F=>?_⟩;obtain⟨i,j,k,h1,h2,h3,hc⟩:=fU F;exact h i j k h1 h2 h3 (.inl h3) q hc F
theorem Pz (P:V×Int->Prop):∀L:List (V×Int),∃K:List (V×Int),K.Nodup/\∀q,q∈K↔q∈L/\P q
 |[]=>⟨[],Kw,fun q=>by simp⟩
 |x::L=>by
  obtain⟨K,h1,h2⟩:=Pz P L;by_cases hx:P x/\x∉K
  · refine⟨x::K,Kj.2 ⟨hx.2,h1⟩,fun q=>?_⟩;simp only[Aq,h2];constructor
    · rintro(rfl|⟨h3,h4⟩)
      · exact⟨.inl rfl,hx.1⟩
      exact⟨.inr h3,h4⟩
    rintro⟨rfl|h3,h4⟩
    · exact .inl rfl
    exact .inr ⟨h3,h4⟩
  refine⟨K,h1,fun q=>?_⟩;rw[h2];simp only[Aq];constructor
  · rintro⟨h3,h4⟩;exact⟨.inr h3,h4⟩
  rintro⟨rfl|h3,h4⟩
  · exact(h2 q).1 (Cp fun hc=>hx ⟨h4,hc⟩)
  exact⟨h3,h4⟩
theorem vZ {α:Type} (R:α->α->Prop) (tr:∀{a b c},R a b->R b c->R a c) (tot:∀a b,R a b\/R b a):∀l:List α,∃s:List α,s.Perm l/\s.Pairwise R
 |[]=>⟨[],List.Perm.refl _,List.Pairwise.nil⟩
 |x::l=>by
  obtain⟨s,h1,h2⟩:=vZ R tr tot l
  have ins:∀s:List α,s.Pairwise R->∃t:List α,t.Perm (x::s)/\t.Pairwise R:=by
   intro s
   induction s with
   |nil=>exact fun _=>⟨[x],List.Perm.refl _,by simp⟩
   |cons y s ih=>
    intro hs;rw[Cr] at hs
    rcases tot x y with h|h
    · refine⟨x::y::s,List.Perm.refl _,Cr.2 ⟨fun z hz=>?_,Cr.2 hs⟩⟩
      rcases Aq.1 hz with rfl|hz
      · exact h
      exact tr h (hs.1 z hz)
    obtain⟨t,t1,t2⟩:=ih hs.2;refine⟨y::t,(List.Perm.cons y t1).trans (List.Perm.swap x y s),Cr.2 ⟨fun z hz=>?_,t2⟩⟩
    rcases Aq.1 (t1.mem_iff.1 hz) with rfl|hz
    · exact h
    exact hs.1 z hz
  obtain⟨t,t1,t2⟩:=ins s h2;exact⟨t,t1.trans (List.Perm.cons x h1),t2⟩
theorem pD.exists (p:Nat->V) (N:Nat):∃S,pD p N S:=by
 obtain⟨K,h1,h2⟩:=Pz (fun q=>qD p N q.1 q.2) ((List.range N).flatMap fun i=>(List.range N).flatMap fun j=>(List.range N).flatMap fun k=>iA p i j k)
 have hK:∀q,q∈K↔qD p N q.1 q.2:=fun q=>by rw[h2];refine⟨fun h=>h.2,fun F=>⟨?_,F⟩⟩;obtain⟨i,j,k,a1,a2,a3,hc⟩:=fU F;simp only[En,Bi];exact⟨i,a3,j,by omega,k,by omega,hc⟩
 obtain⟨S,s1,s2⟩:=vZ (fun a b:V×Int=>¬gW b.1 a.1) (fun {a b c} h h'=>by unfold gW at *;omega) (fun a b=>by unfold gW;omega) K;exact⟨S,pD.jg h1 hK s1 s2⟩
theorem uK {α:Type}:∀(l on:List α),l.Nodup->(∀x∈l,x∈on)->l.length<=on.length
 |[],_,_,_=>Bb _
 |x::l,on,hn,h=>by
  obtain⟨s,t,rfl⟩:=List.append_of_mem (h x Au);rw[Kj] at hn
  have :=uK l (s++t) hn.2 fun y hy=>by
   have h1:=h y (Aw _ hy);simp only[As,Aq] at h1 ⊢
   rcases h1 with h1|rfl|h1
   · exact .inl h1
   · exact absurd hy hn.1
   exact .inr h1
  simp only[An,Ah] at this ⊢;omega
theorem mA {α β:Type} (f:α->List β) (m:Nat) (hf:∀x,(f x).length<=m):∀l:List α,(l.flatMap f).length<=l.length*m
 |[]=>by simp
 |x::l=>by have h1:=mA f m hf l;have h2:=hf x;simp only[Cl,An,Ah,Ce,Gq];omega
theorem DF {K:List (V×Int)} (hn:K.Nodup) (hK:∀q∈K,qD p N q.1 q.2):K.length<=N*(N*(N*2)):=by
 have h1:=uK K ((List.range N).flatMap fun i=>(List.range N).flatMap fun j=>(List.range N).flatMap fun k=>iA p i j k) hn fun q hq=>by obtain⟨i,j,k,a1,a2,a3,hc⟩:=fU (hK q hq);simp only[En,Bi];exact⟨i,a3,j,by omega,k,by omega,hc⟩
 have c:∀i j k,(iA p i j k).length<=2:=fun i j k=>by unfold iA;split<;>simp
 have h2:=mA (fun i=>(List.range N).flatMap fun j=>(List.range N).flatMap fun k=>iA p i j k) (N*(N*2)) (fun i=>by
  have :=mA (fun j=>(List.range N).flatMap fun k=>iA p i j k) (N*2) (fun j=>by
   have :=mA (fun k=>iA p i j k) 2 (fun k=>c i j k) (List.range N)
   rwa [Bs] at this) (List.range N)
  rwa [Bs] at this) (List.range N)
 rw[Bs] at h2;omega
theorem ai {js:List Nat} {n:Nat} (hn:js.Nodup) (hl:∀j∈js,j<n) (dB:∀j,j<n->j∈js):js.Perm (List.range n):=
 (List.perm_ext_iff_of_nodup hn List.nodup_range).2 fun a=>by rw[Bi];exact⟨hl a,dB a⟩
theorem Pc {α:Type} (l:List α) (d:α):(List.range l.length).map (fun j=>l.getD j d)=l:=by refine Ge (by simp) fun k h1 h2=>?_;simp[List.getD,h2]
end
end Go.aG
namespace Go.mO
def bR:List Nat->Nat
 |[]=>0
 |d::l=>d+65536*bR l
def DD (l:List Nat):Prop:=∀d∈l,d<65536
def mQ:List Nat->List Nat
 |[]=>[]
 |d::l=>if mQ l=[] then(if d=0 then [] else [d]) else d::mQ l
def dg (n:Nat):List Nat:=if n=0 then [] else n%65536::dg (n / 65536)
termination_by n
decreasing_by omega
theorem pL:dg 0=[]:=by unfold dg;rfl
theorem LU {n:Nat} (h:n≠0):dg n=n%65536::dg (n / 65536):=by rw[dg,if_neg h]
theorem LS {n:Nat}:dg n=[]↔n=0:=by
 constructor
 · intro h;refine Cp fun hn=>?_;rw[LU hn] at h;cases h
 rintro rfl;exact pL
theorem nS (n:Nat):bR (dg n)=n:=by
 induction n using dg.induct with
 |case1=>rw[pL];rfl
 |case2 n h ih=>rw[LU h,bR,ih];omega
theorem vC (n:Nat):DD (dg n):=by
 induction n using dg.induct with
 |case1=>rw[pL];intro d hd;cases hd
 |case2 n h ih=>
  rw[LU h];intro d hd
  rcases Aq.1 hd with rfl|hd
  · omega
  exact ih d hd
theorem DD.tail {d:Nat} {l:List Nat} (h:DD (d::l)):DD l:=fun x hx=>h x (Aw _ hx)
theorem sF:∀{l:List Nat},DD l->mQ l=dg (bR l)
 |[],_=>by simp[mQ,bR,pL]
 |d::l,h=>by
  have ih:=sF h.tail;have hd:=h d Au;simp only[mQ,ih,LS,bR];by_cases hv:bR l=0
  · rw[if_pos hv,hv];by_cases Ow:d=0
    · subst Ow;simp[pL]
    rw[if_neg Ow,LU (by omega),show(d+65536*0)%65536=d by omega,show(d+65536*0) / 65536=0 by omega,pL]
  rw[if_neg hv,LU (n:=d+65536*bR l) (by omega),show(d+65536*bR l)%65536=d by omega,show(d+65536*bR l) / 65536=bR l by omega]
theorem rD:∀{l:List Nat} {n:Nat},n<=l.length->(∀k,n<=k->k<l.length->l.getD k 0=0)->(n=0\/l.getD (n -1) 0≠0)->l.take n=mQ l
 |[],n,_,_,_=>by simp[mQ]
 |d::l,0,h,h1,_=>by
  have ih:=rD (l:=l) (n:=0) (Bb _) (fun k _ hk=>by simpa using h1 (k+1) (Bb _) (by simpa using hk)) (.inl rfl);have hd:d=0:=by simpa using h1 0 (Bb _) (by simp)
  rw[Eb] at ih;simp[mQ,<-ih,hd]
 |d::l,n+1,h,h1,h2=>by
  have hn:n<=l.length:=by simpa using h
  have h1':∀k,n<=k->k<l.length->l.getD k 0=0:=fun k hk hl=>by simpa using h1 (k+1) (by omega) (by simpa using hl)
  cases n with
  |zero=>have ih:=rD (l:=l) (n:=0) hn h1' (.inl rfl);have hd:d≠0:=(by simpa using h2);rw[Eb] at ih;simp[mQ,<-ih,hd]
  |succ n=>
   have h2':l.getD n 0≠0:=(by simpa using h2);have ih:=rD (l:=l) (n:=n+1) hn h1' (.inr (by simpa using h2'));have bN:l≠[]:=by rintro rfl;simp at hn
   have :¬mQ l=[]:=by rw[<-ih];intro e;have hl:0<(l.take (n+1)).length:=(by rw[Cb];omega);rw[e] at hl;exact absurd hl (Fe 0)
   rw[mQ,if_neg this,Dn,ih]
theorem KM (l:List Nat):(mQ l).length<=l.length:=by
 induction l with
 |nil=>simp[mQ]
 |cons d l ih=>
  simp only[mQ];split
  · split<;>simp
  simpa using ih
theorem DC {k:Nat}:∀{n:Nat},n<65536^k->(dg n).length<=k:=by
 induction k with
 |zero=>intro n h;have :n=0:=by simpa using h
        subst this;simp[pL]
 |succ k ih=>
  intro n h;by_cases hn:n=0
  · subst hn;simp[pL]
  rw[LU hn]
  have :n / 65536<65536^k:=by rw[Ed (by decide),<-Dd];exact h
  have :=ih this;simp only[Ah];omega
theorem DW:∀{l:List Nat},DD l->bR l<65536^l.length
 |[],_=>by simp[bR]
 |d::l,h=>by have ih:=DW h.tail;have hd:=h d Au;rw[bR,Ah,Dd];omega
theorem vR:∀(a b:List Nat),bR (a++b)=bR a+65536^a.length*bR b
 |[],b=>by simp[bR]
 |d::a,b=>by have ih:=vR a b;rw[Ei,bR,ih,bR,Ah,Dd,Ej,Da (65536^a.length) 65536,<-Ev,Bm]
theorem DX {l:List Nat} {k:Nat} (h:k<l.length):bR (l.take (k+1))=bR (l.take k)+65536^k*l.getD k 0:=by
 rw[Ap,vR];have :(l.take k).length=k:=by simp;omega
 rw[this];simp[h,bR]
theorem DD.take {l:List Nat} (h:DD l) (k:Nat):DD (l.take k):=fun d hd=>h d (Cx hd)
theorem DD.getD {l:List Nat} (h:DD l) (k:Nat):l.getD k 0<65536:=by
 by_cases hk:k<l.length
 · rw[Ck,Ab hk];exact h _ (Ai hk)
 rw[Ck,Bw (by omega)];decide
theorem qB {l:List Nat} (h:DD l) {k:Nat} (hk:k<=l.length):bR (l.take k)<65536^k:=by
 have :=DW (h.take k)
 rwa [Cb,Jk hk] at this
theorem bDw:W=65536*65536:=rfl
theorem pow_even (m:Nat):65536^(2*m)=W^m:=by rw[bDw,Nat.pow_mul]
theorem pow_odd (m:Nat):65536^(2*m+1)=65536*W^m:=by rw[Dd,pow_even,Da]
def mX (l:List Nat):List Nat:=l.flatMap fun w=>[w%65536,w / 65536]
theorem NI:∀l:List Nat,bR (mX l)=DO l
 |[]=>rfl
 |w::l=>by have ih:=NI l;have e:mX (w::l)=w%65536::w / 65536::mX l:=rfl;rw[e,bR,bR,ih,DO,W];omega
theorem Rc:∀{l:List Nat},(∀w∈l,w<W)->DD (mX l)
 |[],_=>fun d hd=>by cases hd
 |w::l,h=>by
  have e:mX (w::l)=w%65536::w / 65536::mX l:=rfl;have hw:=h w Au
  have jS:w / 65536<65536:=by have :W=65536*65536:=rfl;omega
  rw[e];intro d hd
  rcases Aq.1 hd with rfl|hd
  · omega
  rcases Aq.1 hd with rfl|hd
  · exact jS
  exact Rc (fun w hw=>h w (Aw _ hw)) d hd
theorem Ls {v X m:Nat} (hm:m<16) (hv:v<W^16) (hx:bA v m+X<W):(aW 16 v).set m (bA v m+X)=aW 16 (v+X*W^m):=by have hl:LW 16 (aW 16 v):=⟨bW _ _,JJ⟩;have h1:=(hl.set m hx).eq;have h2:=Nl (aW 16 v) m (bA v m+X) (by rw[bW];exact hm);rw[kI hm,gU hv,Ce] at h2;rw[h1];congr 1;omega
theorem Zj {v m c:Nat} (h:v<c*W^m):bA v m<c/\v / W^m<c:=by have :v / W^m<c:=(Ed (lJ m)).2 h;exact⟨Er (Nat.mod_le _ _) this,this⟩
theorem Xq {a b:List Nat} (ha:DD a) (hb:DD b) {k:Nat} (h:bR (a.drop (k+1))=bR (b.drop (k+1))) (eQ:a.getD k 0<b.getD k 0):bR a<bR b:=by
 have split:∀(l:List Nat),DD l->∃r,r<65536^k/\bR l=r+65536^k*(l.getD k 0+65536*bR (l.drop (k+1))):=fun l hl=>by
  by_cases hk:k<l.length
  · refine⟨bR (l.take k),qB hl (by omega),?_⟩
    have e:l=l.take k++(l.getD k 0::l.drop (k+1)):=by have :l.getD k 0=l[k]:=(by simp[List.getD,hk]);rw[this,<-Dm hk,Gk]
    have oS:(l.take k).length=k:=by simp;omega
    conv=>lhs;rw[e]
    rw[vR,oS,bR]
  refine⟨bR l,?_,?_⟩
  · exact Cf (DW hl) (Dq (by decide) (by omega))
  rw[Ck,Bw (by omega),Bl (by omega)];simp[bR]
 obtain⟨r,h1,e1⟩:=split a ha;obtain⟨s,h2,e2⟩:=split b hb;rw[e1,e2,h];generalize bR (b.drop (k+1))=t at *;have :a.getD k 0+65536*t+1<=b.getD k 0+65536*t:=by omega
 have :=Ey (65536^k) this;rw[Ej,Dl] at this;omega
theorem Uv {a b:List Nat} {k:Nat} (h:bR (a.drop (k+1))=bR (b.drop (k+1))) (he:a.getD k 0=b.getD k 0):bR (a.drop k)=bR (b.drop k):=by
 have split:∀(l:List Nat),bR (l.drop k)=l.getD k 0+65536*bR (l.drop (k+1)):=fun l=>by
  by_cases hk:k<l.length
  · rw[Dm hk,bR];simp[List.getD,hk]
  rw[Bl (by omega),Bl (by omega),Ck,Bw (by omega)];simp[bR]
 rw[split,split,h,he]
theorem vg {a b:List Nat} {k c v:Nat} (h:v+65536^k*c=bR (a.take k)+bR (b.take k)):
 v+65536^k*((a.getD k 0+b.getD k 0+c)%65536)+65536^(k+1)*((a.getD k 0+b.getD k 0+c) / 65536)=bR (a.take (k+1))+bR (b.take (k+1)):=by
 have tk:∀l:List Nat,bR (l.take (k+1))=bR (l.take k)+65536^k*l.getD k 0:=fun l=>by
  by_cases hk:k<l.length
  · exact DX hk
  rw[Bk (by omega),Bk (by omega),Ck,Bw (by omega)];simp
 rw[tk,tk,Dd,Ev];generalize hx:a.getD k 0+b.getD k 0+c=x;have e:65536^k*(x%65536)+65536^k*(65536*(x / 65536))=65536^k*x:=by rw[<-Ej,Nat.mod_add_div]
 have e2:65536^k*x=65536^k*a.getD k 0+65536^k*b.getD k 0+65536^k*c:=by rw[<-hx,Ej,Ej]
 omega
end Go.mO
namespace Go.aG
section
variable {p:Nat->V} {N:Nat}
theorem my (p:Nat->V) (a b c:Nat):aT (vec p c b) (vec p c a)=neg (aT (vec p a b) (vec p a c)):=by simp only[vec,aT,sub,neg];apply V.ext'<;>simp only <;>grind
theorem WC (u w:V):dot (aT u w) w=0:=by simp only[dot,aT];grind
theorem RB {u w:V} (h:dot u w=0):dot (gB u) w=0:=by
 by_cases hu:u=V0
 · subst hu;rw[Su];simp[dot,V0]
 have h1:=BF u w;rw[h] at h1;exact eC (c:=(fX u:Int)) (by have :=uU hu;omega) h1
theorem al (p:Nat->V) (a b c:Nat):eS p c b a=(neg (eS p a b c).1,-(eS p a b c).2):=by unfold eS;rw[my p a b c,KA,pP];have h:=RB (WC (vec p a b) (vec p a c));rw[nN] at h;rw[show dot (gB (aT (vec p a b) (vec p a c))) (p c)=dot (gB (aT (vec p a b) (vec p a c))) (p a) by omega]
theorem ma {a b c:Nat} {q:V×Int} (h:q∈iA p c b a):q∈iA p a b c:=by
 unfold iA at h ⊢;rw[al] at h;split at h
 · cases h
 rename_i hz;rw[if_neg (fun e=>hz (by rw[e];rfl))];simp only[Aq,Bx,Em,neg_neg,Int.neg_neg] at h ⊢
 rcases h with h|h
 · exact .inr h
 exact .inl h
def iE (p:Nat->V) (N:Nat) (i j k:Nat) (K:List (V×Int)):Prop:=
 ∀a b c,a<b->b<c->c<N->sJ i j k a b c->∀q∈iA p a b c,qD p N q.1 q.2->q∈K
theorem iE.zero:iE p N 0 0 0 []:=fun a b c _ _ _ h=>by unfold sJ at h;omega
theorem iE.j0 {i:Nat} {K:List (V×Int)} (h:iE p N i 0 0 K):iE p N i (i+1) 0 K:=fun a b c h1 h2 h3 hb q hq F=>h a b c h1 h2 h3 (by unfold sJ at *;omega) q hq F
theorem iE.k0 {i j:Nat} {K:List (V×Int)} (h:iE p N i j 0 K):iE p N i j (j+1) K:=fun a b c h1 h2 h3 hb q hq F=>h a b c h1 h2 h3 (by unfold sJ at *;omega) q hq F
theorem iE.kN {i j:Nat} {K:List (V×Int)} (h:iE p N i j N K):iE p N i (j+1) 0 K:=fun a b c h1 h2 h3 hb q hq F=>h a b c h1 h2 h3 (by unfold sJ at *;omega) q hq F
theorem iE.jN {i:Nat} {K:List (V×Int)} (h:iE p N i N 0 K):iE p N (i+1) 0 0 K:=fun a b c h1 h2 h3 hb q hq F=>h a b c h1 h2 h3 (by unfold sJ at *;omega) q hq F
theorem iE.step {i j k:Nat} {K K':List (V×Int)} (h:iE p N i j k K) (hs:∀q∈K,q∈K') (hn:∀q∈iA p i j k,qD p N q.1 q.2->q∈K'):iE p N i j (k+1) K':=fun a b c h1 h2 h3 hb q hq F=>by
 by_cases e:a=i/\b=j/\c=k
 · obtain⟨rfl,rfl,rfl⟩:=e;exact hn q hq F
 exact hs q (h a b c h1 h2 h3 (by unfold sJ at *;omega) q hq F)
theorem iE.all {K:List (V×Int)} (h:iE p N N 0 0 K) (hK:∀q∈K,qD p N q.1 q.2) (q:V×Int):q∈K↔qD p N q.1 q.2:=by refine⟨hK q,fun F=>?_⟩;obtain⟨i,j,k,h1,h2,h3,hc⟩:=fU F;exact h k j i h1 h2 h3 (.inl (by omega)) q (ma hc) F
end
section
variable {p:Nat->V} {N:Nat}
def okF (p:Nat->V) (N:Nat) (q:V×Int):Bool:=((List.range N).all fun k=>decide (dot q.1 (p k)<=q.2))&&(List.range N).any fun k=>decide (dot q.1 (p k)<q.2)
theorem jh {q:V×Int}:okF p N q=true↔(∀k,k<N->dot q.1 (p k)<=q.2)/\∃k,k<N/\dot q.1 (p k)<q.2:=by simp only[okF,Am,Ba,Cz,Bi,Bh]
def ltV (a b:V):Bool:=decide (a.x<b.x)||(decide (a.x=b.x)&&(decide (a.y<b.y)||(decide (a.y=b.y)&&decide (a.z<b.z))))
theorem iu {a b:V}:ltV a b=true↔gW a b:=by simp only[ltV,gW,Dt,Am,Bh]
def aJs:List (V×Int)->Bool
 |[]=>true
 |q::r=>(r.all fun x=>ltV q.1 x.1)&&aJs r
theorem j5:∀{S:List (V×Int)},aJs S=true->S.Pairwise fun a b=>gW a.1 b.1
 |[],_=>.nil
 |q::r,h=>by simp only[aJs,Am,Ba] at h;exact Cr.2 ⟨fun x hx=>iu.1 (h.1 x hx),j5 h.2⟩
def NK (p:Nat->V) (N:Nat) (S:List (V×Int)):Bool:=
 aJs S&&(S.all fun q=>okF p N q&&(List.range N).any fun i=>(List.range i).any fun j=>(List.range j).any fun k=>(iA p i j k).contains q)&&
 ((List.range N).all fun i=>(List.range i).all fun j=>(List.range j).all fun k=>(iA p i j k).all fun q=> !okF p N q||S.contains q)
theorem yP {S:List (V×Int)} (h:NK p N S=true):pD p N S:=by
 simp only[NK,Am] at h;obtain⟨⟨h1,h2⟩,h3⟩:=h;refine⟨fun q=>⟨fun hq=>?_,fun hF=>?_⟩,j5 h1⟩
 · have :=Ba.1 h2 q hq;simp only[Am,Cz,Bi] at this;obtain⟨ho,i,hi,j,hj,k,hk,hc⟩:=this;obtain⟨le,lt⟩:=jh.1 ho;exact yW (i:=i) (j:=j) (k:=k) hi (by omega) (by omega) (by simpa using hc) le lt
 obtain⟨i,j,k,hk,hj,hi,hc⟩:=fU hF;simp only[Ba,Bi] at h3;have :=h3 i hi j hj k hk q hc;rw[jh.2 ⟨hF.le,hF.lt⟩] at this;simpa using this
def aDi (on:List Nat) (f:Nat->Nat):List Nat:=match on with
 |[]=>[]
 |s::_=>(List.range (match (List.range on.length).find? (fun i=>iter f (i+1) s==s) with|some i=>i+1|none=>0)).map fun i=>iter f i s
theorem aIz {n:V} {d:Int} {L:List Nat} (h:Poly p N n d L):L=aDi (jP p N n d) (vB n p (jP p N n d)):=by
 obtain⟨s,r,m,e,W,rfl⟩:=h.ex
 have Me:(List.range (jP p N n d).length).find? (fun i=>iter (vB n p (jP p N n d)) (i+1) s==s)=some (m -1):=by have hp:=W.pos;have hle:=W.le;rw[List.find?_eq_some_iff_getElem];refine⟨by rw[show m -1+1=m by omega,Dc];exact W.back,m -1,by rw[Bs];omega,by rw[Im],fun j hj=>?_⟩;rw[Im];have :=W.first (j+1) (by omega) (by omega);simpa using this
 unfold aDi;generalize hf:vB n p (jP p N n d)=f at *;generalize jP p N n d=on at *;subst e;simp only;rw[Me];have hp:=W.pos;rw[show(match some (m -1) with|some i=>i+1|none=>0)=m from by show m -1+1=m;omega]
end
end Go.aG
namespace Go.Av
open Go
inductive Wk:AV->AV->Prop
 |refl (a:AV):Wk a a
 |aV (tag sz:Nat) (els BG:List (List AV)) (hl:BG.length=els.length) (hs:(∀e∈els,e.length=sz)->∀e∈BG,e.length=sz) (hf:BG.flatten.length=els.flatten.length)
   (h:∀j,j<els.flatten.length->Wk (els.flatten.getD j aD) (BG.flatten.getD j aD)):Wk (.aV tag sz els) (.aV 0 sz BG)
 |agg (cs CY:List AV) (hl:CY.length=cs.length) (h:∀j,j<cs.length->Wk (cs.getD j aD) (CY.getD j aD)):Wk (.agg cs) (.agg CY)
theorem Wk.one {a b:AV} (h:Wk a b):b.one=a.one:=by cases h<;>rfl
theorem VR.wk {G:Gh} {w:World} {a b:AV} (h:Wk a b):∀{u:Value},VR G w a u->VR G w b u:=by
 induction h with
 |refl a=>exact fun h=>h
 |aV tag sz els BG hl hs hf hj ih=>
  intro u hv
  cases hv with
  |vA _ _ b o s ht=>obtain rfl:BG=[]:=Cs hl;exact .vA _ _ b o s (by omega)
  |aV _ _ _ b o cap us hu hc hv ht=>rw[<-hl];refine .aV 0 sz BG b o cap us (hs hu) (fun j HH=>?_) (fun j HH=>ih j (by omega) (hv j (by omega))) ⟨by rw[hl];exact ht.1,trivial⟩;have EF:j<els.flatten.length:=(by omega);exact⟨(hc j EF).1,(hc j EF).2.1,by rw[(hj j EF).one];exact(hc j EF).2.2⟩
 |agg cs CY hl hj ih=>
  intro u hv
  cases hv with
  |agg _ vs p9 h1 hv=>refine .agg CY vs (by omega) (fun c hc=>?_) fun j HH=>ih j (by omega) (hv j (by omega));obtain⟨j,HH,rfl⟩:=Cv hc;have EF:j<cs.length:=(by omega);have :=(hj j EF).one;simp only[List.getD,Ab HH,Ab EF,Bc] at this;rw[this];exact h1 _ (Ai EF)
theorem Sound.wk {P:Program} {g:bB} {f:FuncId} {args zh:List AV} {H H':aA} {out:Out} (h:Sound P g f zh H out H') (hl:zh.length=args.length) (hw:∀j,j<args.length->Wk (args.getD j aD) (zh.getD j aD)):Sound P g f args H out H':=
 ⟨h.1,fun G w vs hG hv=>h.2 G w vs hG ⟨by rw[hl];exact hv.1,fun j hj=>VR.wk (hw j (by omega)) (hv.2 j (by omega))⟩⟩
mutual
def wB:AV->AV
 |.aV _ sz els=>.aV 0 sz (rO els)
 |.agg cs=>.agg (nY cs)
 |a=>a
def nY:List AV->List AV
 |[]=>[]
 |x::r=>wB x::nY r
def rO:List (List AV)->List (List AV)
 |[]=>[]
 |x::r=>nY x::rO r
end
theorem BH:∀l:List AV,(nY l).length=l.length
 |[]=>by simp[nY]
 |x::r=>by simp[nY,BH r]
theorem Rv:∀l:List (List AV),(rO l).length=l.length
 |[]=>by simp[rO]
 |x::r=>by simp[rO,Rv r]
theorem FX:∀l:List (List AV),(rO l).flatten=nY l.flatten
 |[]=>by simp[rO,nY]
 |x::r=>by
  have :∀a b:List AV,nY (a++b)=nY a++nY b:=fun a b=>by
   induction a with
   |nil=>simp[nY]
   |cons y a ih=>simp[nY,ih]
  simp[rO,FX r,this]
theorem Rw {sz:Nat}:∀{l:List (List AV)},(∀e∈l,e.length=sz)->∀e∈rO l,e.length=sz
 |[],_,e,he=>by simp[rO] at he
 |x::r,h,e,he=>by
  simp only[rO,Aq] at he
  rcases he with rfl|he
  · rw[BH];exact h x Au
  exact Rw (fun y hy=>h y (Aw _ hy)) e he
theorem DH:∀(l:List AV) (j:Nat),j<l.length->(nY l).getD j aD=wB (l.getD j aD)
 |[],j,hj=>absurd hj (Ax _)
 |x::r,0,_=>by simp[nY]
 |x::r,j+1,hj=>by have :=DH r j (by simpa using hj);simpa [nY] using this
theorem EX {l:List AV} {j:Nat} (hj:j<l.length):l.getD j aD∈l:=by rw[show l.getD j aD=l[j] by simp[List.getD,hj]];exact Ai hj
theorem Qh (a:AV):Wk a (wB a):=by
 match a with
 |.aV tag sz els=>rw[wB];refine .aV tag sz els _ (Rv els) Rw (by rw[FX,BH]) fun j hj=>?_;rw[FX,DH _ _ hj];have hm:=EX hj;generalize els.flatten.getD j aD=x at *;obtain⟨e,he,hx⟩:=List.mem_flatten.1 hm;have h1:=Km he;have h2:=Km hx;exact Qh _
 |.agg cs=>rw[wB];refine .agg cs _ (BH cs) fun j hj=>?_;rw[DH _ _ hj];have hm:=EX hj;generalize cs.getD j aD=x at *;have h2:=Km hm;exact Qh _
 |.bool _|.int _ _|.str _|.Lv|.ref _ _|.pl _|.aS|.sl _ _ _ _ _|.func _ _ _|.BX|.iface _ _|.pW|.gP _|.map _|.sU|.yield _=>simp only[wB];exact .refl _
termination_by SizeOf.sizeOf a
decreasing_by
 · simp only[AV.aV.sizeOf_spec];omega
 simp only[AV.agg.sizeOf_spec];omega
theorem Sound.wB {P:Program} {g:bB} {f:FuncId} {args:List AV} {H H':aA} {out:Out} (h:Sound P g f (nY args) H out H'):Sound P g f args H out H':=
 h.wk (BH _) fun j hj=>by rw[DH _ _ hj];exact Qh _
section
theorem VR.mo {G:Gh} {w:World} {a:AV} {u:Value} (h:VR G w a u) (b:Bool):VR ⟨G.loc,G.gJ,b⟩ w a u:=h.mono (fun _ _ h=>h) (fun _ _ h=>⟨h,rfl⟩)
section
variable {P:Program} {g g':bB}
theorem Sound.up (hv:∀n cs,g n=some cs->g' n=some cs) (hm:g.mo=true) (ZU:g'.mo=false) {f:FuncId} {args:List AV} {out:Out} (h:Sound P g f args ⟨0,.nil⟩ out ⟨0,.nil⟩):Sound P g' f args ⟨0,.nil⟩ out ⟨0,.nil⟩:=by
 refine⟨h.1,fun G w vs hw fP=>?_⟩
 have Nd:WR g ⟨G.loc,G.gJ,true⟩ ⟨0,.nil⟩ w:={
  cells:=fun id l cs opn h1 h2=>by obtain⟨a1,a2,a3,a4,a5⟩:=hw.cells id l cs opn h1 h2;exact⟨a1,a2,a3,a4,fun j hj=>let⟨u,hu,hv⟩:=a5 j hj;⟨u,hu,hv.mo true⟩⟩
  room:=hw.room
  kT:=hw.kT
  jM:=hw.jM
  gZ:=fun id l o h1 h2 h3=>by cases h2
  lt:=hw.lt
  gN:=hw.gN
  iF:=fun n cs hn=>(hw.iF n cs (hv n cs hn)).mo true
  BL:=fun n cs hn h0=>hw.BL n cs (hv n cs hn) h0
  mo:=hm.symm}
 refine(h.2 ⟨G.loc,G.gJ,true⟩ w vs Nd ⟨fP.1,fun j hj=>(fP.2 j hj).mo true⟩).mono fun e w' ⟨G',h1,h2,h3⟩=>?_;have hG:G.mo=false:=hw.mo.trans ZU
 refine⟨⟨G'.loc,G'.gJ,false⟩,{
  cells:=fun id l cs opn q1 q2=>by obtain⟨a1,a2,a3,a4,a5⟩:=h1.cells id l cs opn q1 q2;exact⟨a1,a2,a3,a4,fun j hj=>let⟨u,hu,hv⟩:=a5 j hj;⟨u,hu,hv.mo false⟩⟩
  room:=h1.room
  kT:=h1.kT
  jM:=h1.jM
  gZ:=fun id l o q1 q2 q3=>by cases q2
  lt:=h1.lt
  gN:=h1.gN
  iF:=fun n cs hn=>(hw.iF n cs hn).mono h2.loc h2.gJ
  BL:=fun n cs hn h0=>by obtain⟨c,el,fz,a1,a2⟩:=hw.BL n cs hn h0;refine⟨c,el,fz,?_,a2⟩;rw[h2.frame n (Cd.1 a1).1 (fun id l _ ⟨o,ho,_⟩=>by cases ho)];exact a1
  mo:=ZU.symm},{
  loc:=h2.loc
  gJ:=h2.gJ
  size:=h2.size
  frame:=h2.frame
  lO:=h2.lO
  pA:=h2.pA
  next:=h2.next
  news:=h2.news
  dead:=h2.dead
  mo:=hG.symm
  same:=⟨h2.same.os,h2.same.output,h2.same.tape,fun hb=>by rw[hG] at hb;cases hb⟩},?_⟩
 cases out with
 |ret v=>cases e with
  |returned u=>exact h3.mo false
  |_=>exact h3.elim
 |CD v=>cases e with
  |panicked c=>obtain⟨u,a,b⟩:=h3;exact⟨u,a,b.mo false⟩
  |_=>exact h3.elim
theorem yI {f:FuncId} (HI:tZ P f) {s t:List UInt8} {n:Int} (h:∀w,Calls P f #[.string ⟨s.toArray⟩,.string ⟨t.toArray⟩] w fun e w'=>e=.returned (.int .i64 n)/\w'=w) (H:aA):Sound P g f [.str s,.str t] H (.ret (.int .i64 n)) H:=by
 refine⟨HI,fun G w vs hw fP=>?_⟩;obtain⟨hl,hv⟩:=fP
 match vs,hl with
 |[u0,u1],_=>have v0:=(hv 0 (by simp)).fB;have v1:=(hv 1 (by simp)).fB;simp only[Ci,Dw] at v0 v1;subst v0 v1;refine(h w).mono fun e w' he=>?_;obtain⟨rfl,rfl⟩:=he;exact⟨G,hw,Ext.refl G H _,.int _ _⟩
theorem Ext.aAu {G:Gh} {H:aA} {w w':World} (oD:∀b o,G.gJ b o->∃v,w.cell? ⟨b,o,none⟩=some v)
 (hb:∀b,b<w.heap.size->w'.heap[b]?=w.heap[b]?) (jA:w.heap.size<=w'.heap.size) (hs:OE G.mo w w'):Ext G H w G H w' where
 loc:=fun _ _ h=>h
 gJ:=fun b o hi=>⟨hi,by obtain⟨v,hv⟩:=oD b o hi;exact fE (hb b (pJ hv))⟩
 size:=jA
 frame:=fun b eQ _=>hb b eQ
 lO:=fun id l h hl=>.inr ⟨id,l,h,hl,rfl⟩
 pA:=fun _ _ h=>.inl h
 next:=Ak _
 news:=fun _ _ h h'=>by rw[h] at h';cases h'
 dead:=fun _ _ _ h=>h
 mo:=rfl
 same:=hs
def cD (xs:List (List UInt8)):List (List AV):=xs.map fun x=>[.str x]
theorem QX (xs:List (List UInt8)):(cD xs).flatten=xs.map AV.str:=by
 induction xs with
 |nil=>rfl
 |cons x r ih=>simp only[cD,By,Bp] at ih ⊢;rw[ih];rfl
theorem OG {f:FuncId} (HI:tZ P f) (hm:g.mo=false) {xs:List (List UInt8)} {sep:List UInt8} (bN:xs≠[]) (hN:xs.length<=140737488355328) (hlen:(Lib.join xs sep).length<=140737488355328)
 (h:∀(bk o c:Nat) (ys:List ByteArray) (w:World),(∀(j:Nat) x,ys[j]?=some x->w.cell? ⟨bk,o+j,none⟩=some (.string x))->bk<w.heap.size->ys.length<=140737488355328->ys.length<=c->
   (Lib.join (ys.map (·.data.toList)) sep).length<=140737488355328->
   Calls P f #[.slice (some ⟨bk,o,none⟩) ys.length c,.string ⟨sep.toArray⟩] w fun e w'=>e=.returned (.string ⟨(Lib.join (ys.map (·.data.toList)) sep).toArray⟩)/\Go.RowKit.Below w.heap.size w w') (tag:Nat) (H:aA):
 Sound P g f [.aV tag 1 (cD xs),.str sep] H (.ret (.str (Lib.join xs sep))) H:=by
 refine⟨HI,fun G w vs hw fP=>?_⟩;obtain⟨hl,hv⟩:=fP
 match vs,hl with
 |[u0,u1],_=>
  have v0:=hv 0 (by simp);have v1:=(hv 1 (by simp)).fB;simp only[Ci,Dw] at v0 v1;subst v1;have wF:0<xs.length:=Ij.2 bN;generalize he:cD xs=els at v0;have Oy:els.length=xs.length:=by rw[<-he];exact Ad _
  cases v0 with
  |vA=>simp at Oy;omega
  |aV _ _ _ b o cap us hu hc hvv ht=>
   have tS:els.flatten=xs.map AV.str:=by rw[<-he];exact QX xs
   have Ml:(xs.map fun x=>(⟨x.toArray⟩:ByteArray)).map (·.data.toList)=xs:=by rw[Dp];have :((fun x:ByteArray=>x.data.toList)∘fun x:List UInt8=>(⟨x.toArray⟩:ByteArray))=id:=(by funext x;simp);rw[this,Hc]
   have iB:∀(j:Nat) x,(xs.map fun x=>(⟨x.toArray⟩:ByteArray))[j]?=some x->w.cell? ⟨b,o+j,none⟩=some (.string x):=fun j x hj=>by rw[Bo] at hj;obtain⟨y,hy,rfl⟩:=Ag.1 hj;have HH:j<xs.length:=(Be.1 hy).1;have EF:j<els.flatten.length:=(by rw[tS];simpa using HH);have h2:=hvv j EF;have e2:els.flatten.getD j aD=.str y:=(by rw[tS,List.getD,Bo,hy];rfl);rw[e2] at h2;rw[(hc j EF).2.1,h2.fB]
   have hbk:b<w.heap.size:=by
    obtain⟨y,hy⟩:∃y,xs[0]?=some y:=⟨xs[0],Ab wF⟩
    exact pJ (iB 0 ⟨y.toArray⟩ (by rw[Bo,hy];rfl))
   have mY:=ht.1;have :=h b o cap _ w iB hbk (by rw[Ad];exact hN) (by rw[Ad];omega) (by rw[Ml];exact hlen);rw[Ml,Ad,<-Oy] at this;refine this.mono fun e w' hh=>?_;obtain⟨rfl,hB⟩:=hh;have hG:G.mo=false:=hw.mo.trans hm;exact⟨G,hw.grow hB.block,Ext.aAu hw.gN hB.block hB.size ⟨hB.os,hB.output,hB.tape,fun hb=>by rw[hG] at hb;cases hb⟩,VR.MF _ _ _⟩
end
end
section
theorem aJv (nw tag:Nat):HE none nw tag=HE none 0 tag:=by
 match tag with
 |0=>rfl
 |1=>rfl
 |k+2=>rfl
theorem Xj (H:aA) (nw:Nat) (v:AV):jR H none nw v=jR H none 0 v:=by cases v<;>simp only[jR,aJv nw]
theorem GK {f f':AV->Option AV} (h:∀x,f x=f' x):∀l,Pb f l=Pb f' l
 |[]=>rfl
 |x::r=>by simp only[Pb,h x,GK h r]
theorem QP (H:aA) (nw:Nat):∀(n:Nat) (v:AV),fT H none nw n v=fT H none 0 n v
 |0,v=>by cases v<;>exact Xj H nw _
 |n+1,v=>by
  cases v with
  |agg cs=>simp only[fT,GK (QP H nw n) cs]
  |gP cs=>simp only[fT,GK (QP H nw n) cs]
  |_=>exact Xj H nw _
abbrev Fact:=FuncId×List AV×AV
def kn (f:FuncId) (args:List AV):List Fact->Option AV
 |[]=>none
 |e::r=>match Nat.beq f e.1 with
  |true=>match sC (nY args) e.2.1 with
   |true=>some e.2.2
   |false=>kn f args r
  |false=>kn f args r
def uA (P:Program) (g:bB) (K:List Fact):Prop:=∀e∈K,∀H,Sound P g e.1 e.2.1 H (.ret e.2.2) H
def aUq (K:List Fact) (o:TV):TV:=fun f args H=>match kn f args K with
 |some v=>some (.ret v,H)
 |none=>o f args H
def DQ (g:bB) (T:FT) (rq:TV) (JR:FuncId->Nat->Bool) (n:Nat) (e:Fact):Bool:=
 match bU e.2.1 with
 |true=>match exF rq T.get g 100000 JR 40 (.func (.func e.1) [] []) e.2.1 ⟨0,.nil⟩ with
  |some (.ret u,H2)=>match fT H2 none 0 n u with
   |some v=>v.same e.2.2
   |none=>false
  |_=>false
 |false=>false
section
variable {P:Program} {g:bB}
theorem aCb {f:FuncId} {args:List AV} {v:AV}:∀{K:List Fact},uA P g K->kn f args K=some v->∀H,Sound P g f args H (.ret v) H
 |[],_,h,_=>by cases h
 |e::r,hK,h,H=>by
  have hr:uA P g r:=fun x hx=>hK x (Aw _ hx);simp only[kn] at h;split at h
  · rename_i hf;split at h
    · rename_i hs;cases h;obtain rfl:=Bg hf;exact Sound.wB (by rw[nL _ _ hs];exact hK e Au H)
    exact aCb hr h H
  exact aCb hr h H
theorem aIr {K:List Fact} (hK:uA P g K) {o:TV} (ho:OC P g o):OC P g (aUq K o):=by
 intro f args H out H' h;unfold aUq at h;split at h
 · rename_i v hv;cases h;exact aCb hK hv H
 exact ho _ _ _ _ _ h
theorem aUw (hm:Fit P g) (hg:HT g) {T:FT} (hT:T.All fun f F=>∃mu,fN P g mu f F) {rq:TV} (ho:OC P g rq) {JR:FuncId->Nat->Bool} (hn:OB P g JR) {n:Nat} {e:Fact} (h:DQ g T rq JR n e=true) (H:aA):Sound P g e.1 e.2.1 H (.ret e.2.2) H:=by
 unfold DQ at h;split at h
 · rename_i ha;split at h
   · rename_i u H2 he;split at h
     · rename_i v hv;obtain rfl:=AV.Up _ _ h
       rcases LX hm ho hn (fun f F hF=>hT.get hF) 40 _ _ _ _ _ he with ⟨p,hp,hS⟩|⟨id,hc,_⟩
       · cases hp;simp only[Dk,Bz] at hS;exact hS.frame hg ha (tk:=none) (fun k hk=>by cases hk) (n:=n) H (by rw[QP];exact hv)
       cases hc
     cases h
   cases h
 cases h
def bCs:FuncId->Nat->Bool:=fun _ _=>false
theorem dD:OB P g bCs:=fun _ _ h=>by cases h
theorem uA.nil:uA P g []:=fun e he=>by cases he
theorem uA.cons {K:List Fact} (hK:uA P g K) {f:FuncId} {args:List AV} {v:AV} (h:∀H,Sound P g f args H (.ret v) H):uA P g ((f,args,v)::K):=fun e he=>by
 rcases Aq.1 he with rfl|he
 · exact h
 exact hK e he
theorem uA.DQ {K:List Fact} (hK:uA P g K) (hm:Fit P g) (hg:HT g) {T:FT} (hT:T.All fun f F=>∃mu,fN P g mu f F) {o:TV} (ho:OC P g o) {JR:FuncId->Nat->Bool} (hn:OB P g JR) (n:Nat) {e:Fact} (h:Av.DQ g T (aUq K o) JR n e=true):uA P g (e::K):=fun x hx=>by
 rcases Aq.1 hx with rfl|hx
 · exact aUw hm hg hT (aIr hK ho) hn h
 exact hK x hx
end
end
end Go.Av
namespace Go.Av
open Go Go.RowKit
section
def Tl (P:Program) (fl:TypeId->Option (List TypeId)):List Field->List TypeId->Option (List TypeId)
 |[],acc=>some acc
 |f::r,acc=>match fl f.type with
  |some ts=>if f.offset=acc.length/\P.cellsOf f.type=ts.length then Tl P fl r (acc++ts) else none
  |none=>none
def MV (P:Program):Nat->TypeId->Option (List TypeId)
 |0,_=>none
 |d+1,t=>match P.underlying t with
  |some (.struct fs)=>match Tl P (MV P d) fs.toList [] with
   |some ts=>if P.cellsOf t=ts.length then some ts else none
   |none=>none
  |some (.array n e)=>match MV P d e with
   |some ts=>if P.cellsOf e=ts.length/\P.cellsOf t=n*ts.length/\0<ts.length then some (List.replicate n ts).flatten else none
   |none=>none
  |some (.int _)=>some [t]
  |some (.slice _)=>some [t]
  |some .string=>some [t]
  |_=>none
section
variable {H:Type} {enc:TypeId×Value->H} {P:Program} {w:World} {base:Nat} {spare:Nat->Bool} {held:Bool}
def qK (enc:TypeId×Value->H) (P:Program) (w:World) (base:Nat) (spare:Nat->Bool) (held:Bool) (ts:List TypeId) (cs:List Value):Prop:=
 ∀(i:Nat) (u:TypeId),ts[i]?=some u->∃(v:Value) (m:Nat) (y:DataW H×List MemPlace),cs[i]?=some v/\DataW.trod enc P w base spare held m u [v]=some y
theorem EZ {ts us:List TypeId} {cs:List Value} (h1:qK enc P w base spare held ts cs) (h2:qK enc P w base spare held us (cs.drop ts.length)):qK enc P w base spare held (ts++us) cs:=by
 intro i u h;by_cases hi:i<ts.length
 · rw[Ex hi] at h;exact h1 i u h
 rw[Ib (by omega)] at h;obtain⟨v,m,y,hv,hy⟩:=h2 _ u h;refine⟨v,m,y,?_,hy⟩;rw[Ft] at hv;rw[<-hv];congr 1;omega
theorem Mz {ts:List TypeId} {cs:List Value} (n:Nat) (h:qK enc P w base spare held ts (cs.take n)):qK enc P w base spare held ts cs:=by
 intro i u hu;obtain⟨v,m,y,hv,hy⟩:=h i u hu;refine⟨v,m,y,?_,hy⟩;rw[Gj] at hv;split at hv
 · exact hv
 cases hv
theorem FA {fl:TypeId->Option (List TypeId)} {n:Nat} {cs:List Value}
 (tS:∀(u:TypeId) (ts:List TypeId) (cs:List Value) (x:DataW H×List MemPlace),fl u=some ts->DataW.trod enc P w base spare held n u cs=some x->qK enc P w base spare held ts cs):
 ∀(fs:List Field) (acc ts:List TypeId),Tl P fl fs acc=some ts->qK enc P w base spare held acc cs->
  (∀f∈fs,∃x,DataW.trod enc P w base spare held n f.type ((cs.drop f.offset).take (P.cellsOf f.type))=some x)->qK enc P w base spare held ts cs
 |[],acc,ts,h,ha,hf=>by obtain rfl:=Aa h;exact ha
 |f::r,acc,ts,h,ha,hf=>by
  unfold Tl at h;split at h
  · rename_i us hus;split at h
    · rename_i hc;obtain⟨x,hx⟩:=hf f (Au ..);refine FA tS r _ ts h (EZ ha ?_) (fun g hg=>hf g (Aw _ hg));rw[<-hc.1];exact Mz _ (tS _ _ _ _ hus hx)
    cases h
  cases h
theorem QD {e:TypeId} {n:Nat} {ts:List TypeId}:∀(k:Nat) (cs:List Value),(∀i,i<k->qK enc P w base spare held ts ((cs.drop (i*ts.length)).take ts.length))->qK enc P w base spare held (List.replicate k ts).flatten cs
 |0,cs,h=>by intro i u hu;simp at hu
 |k+1,cs,h=>by
  rw[Dv,Bp];refine EZ ?_ ?_
  · have :=h 0 (by omega);rw[Ic,Cy] at this;exact Mz _ this
  refine QD (e:=e) (n:=n) k _ fun i hi=>?_;have :=h (i+1) (by omega);rw[Ix];rw[show ts.length+i*ts.length=(i+1)*ts.length by rw[Ce,Gq,Hh]];exact this
theorem yC:∀(d:Nat) {t:TypeId} {ts:List TypeId} {fuel:Nat} {cs:List Value} {x:DataW H×List MemPlace},MV P d t=some ts->DataW.trod enc P w base spare held fuel t cs=some x->qK enc P w base spare held ts cs
 |0,t,ts,fuel,cs,x,h,hx=>by cases h
 |d+1,t,ts,fuel,cs,x,h,hx=>by
  unfold MV at h;split at h
  · rename_i fs ht;split at h
    · rename_i us hus;split at h
      · obtain rfl:=Aa h;obtain⟨xs,n,_,_,hl,Wh,hf⟩:=DataW.trod_struct ht hx;refine FA (n:=n) (fun u ts cs x h1 h2=>yC d h1 h2) fs.toList [] us hus (fun i u hu=>by simp at hu) fun f hfm=>?_;obtain⟨i,hi,hif⟩:=Cv hfm;have :=hf i f (by rw[<-hif];simp);rw[this];have oY:i<xs.length:=(by rw[Wh];simpa using hi);exact⟨_,Ab oY⟩
      cases h
    cases h
  · rename_i n e ht;split at h
    · rename_i us hus;split at h
      · rename_i hc;obtain rfl:=Aa h;obtain⟨xs,m,_,_,hl,Wh,hf⟩:=DataW.trod_array ht hx;refine QD (e:=e) (n:=m) n cs fun i hi=>?_;have :=hf i hi;rw[hc.1,Ab (by omega)] at this;exact yC d hus this
      cases h
    cases h
  · rename_i k ht;obtain rfl:=Aa h;obtain⟨n,rfl,_⟩:=DataW.trod_int ht hx;intro i u hu
    match i,hu with
    |0,hu=>exact⟨_,fuel,x,rfl,by simpa [<-Aa hu] using hx⟩
  · rename_i e ht;obtain rfl:=Aa h
    have hc:∃c,cs=[c]:=by
     rcases DataW.trod_slice ht hx with ⟨h,_⟩|⟨a,len,cap,_,_,_,_,h,_⟩
     · exact⟨_,h⟩
     exact⟨_,h⟩
    obtain⟨c,rfl⟩:=hc;intro i u hu
    match i,hu with
    |0,hu=>exact⟨_,fuel,x,rfl,by simpa [<-Aa hu] using hx⟩
  · rename_i ht;obtain rfl:=Aa h;obtain⟨z,rfl,_⟩:=DataW.trod_string ht hx;intro i u hu
    match i,hu with
    |0,hu=>exact⟨_,fuel,x,rfl,by simpa [<-Aa hu] using hx⟩
  cases h
theorem bu {ts:List TypeId} {cs:List Value} (h:qK enc P w base spare held ts cs) {i:Nat} {u:TypeId} (hu:ts[i]?=some u) (hk:P.underlying u=some .string):
 ∃z:ByteArray,cs[i]?=some (.string z)/\z.size<=maxLen:=by
 obtain⟨v,m,y,hv,hy⟩:=h i u hu;obtain⟨z,hz,_,hs⟩:=DataW.trod_string hk hy;refine⟨z,?_,hs⟩;rw[hv];simpa using hz
theorem uO {ts:List TypeId} {cs:List Value} (h:qK enc P w base spare held ts cs) {i:Nat} {u:TypeId} {k:IntKind} (hu:ts[i]?=some u) (hk:P.underlying u=some (.int k)):
 ∃n,cs[i]?=some (.int k n)/\(Lit.int k n).wf=true:=by
 obtain⟨v,m,y,hv,hy⟩:=h i u hu;obtain⟨n,hn,_,hw⟩:=DataW.trod_int hk hy;refine⟨n,?_,hw⟩;rw[hv];simpa using hn
end
end
end Go.Av
namespace Go.Av
open Go Go.RowKit Go.ChangeShapes Go.WideShapes Go.ChangeAt Go.Deep
section
def sZ (mo:Bool) (W:World):Gh:=⟨fun _=>none,fun b o=>∃v,W.cell? ⟨b,o,none⟩=some v,mo⟩
theorem aRg {g:bB} {W:World} (hg:∀n cs,g n=some cs->VR (sZ g.mo W) W (.pl cs) (.pointer (some ⟨n,0,none⟩)))
 (hs:∀n cs,g n=some cs->cs≠[]->∃c el fz,W.heap[n]?=some (.cells c el fz)/\c.size=cs.length):WR g (sZ g.mo W) ⟨0,.nil⟩ W where
 cells:=fun id l cs opn h=>by cases h
 room:=fun id l h=>by cases h
 kT:=fun id jU l l' _ h=>by cases h
 jM:=fun id l h=>by cases h
 gZ:=fun id l es h=>by cases h
 lt:=fun id l h=>by cases h
 gN:=fun b o h=>h
 iF:=hg
 BL:=hs
 mo:=rfl
theorem IM {mo:Bool} {W W':World} {G':Gh} {H':aA} (h:Ext (sZ mo W) ⟨0,.nil⟩ W G' H' W') {b:Nat} (hb:b<W.heap.size):W'.heap[b]?=W.heap[b]?:=
 h.frame b hb fun id l hl=>by cases hl
theorem aVi {mo:Bool} {W:World} {k:IntKind} {sz len cap b o:Nat} {f:Nat->Int} {els:List (List AV)} (hu:∀e∈els,e.length=sz) (hl:els.length=len)
 (hf:els.flatten=(List.range (len*sz)).map fun j=>AV.int k (f j)) (hc:∀j,j<len*sz->W.cell? ⟨b,o+j,none⟩=some (.int k (f j))) (mY:len<=cap):
 VR (sZ mo W) W (.aV 0 sz els) (.slice (some ⟨b,o,none⟩) len cap):=by
 subst hl;have tS:els.flatten.length=els.length*sz:=by rw[hf];simp
 have hg:∀j,j<els.length*sz->els.flatten.getD j aD=.int k (f j):=fun j hj=>by rw[hf,List.getD,Bo,Gw hj];rfl
 refine .aV 0 sz els b o cap (fun j=>.int k (f j)) hu (fun j hj=>?_) (fun j hj=>?_) ⟨mY,trivial⟩
 · rw[tS] at hj;refine⟨⟨_,hc j hj⟩,hc j hj,?_⟩;rw[hg j hj];rfl
 rw[tS] at hj;rw[hg j hj];exact .int _ _
theorem vd {w:World} {a:Addr} {v:Value} (h:w.cell? a=some v):a.spot=none:=World.cell?_spot h
theorem Vl (b o j:Nat):(Addr.mk b o none).add j=⟨b,o+j,none⟩:=by
 unfold Addr.add;split
 · rename_i h;rw[h];rfl
 rfl
section
variable {H:Type} {enc:TypeId×Value->H} {P:Program} {w:World} {base:Nat} {held:Bool}
theorem UY {t e:TypeId} {k:IntKind} {d:Nat} {ts:List TypeId} {fuel:Nat} {v:Value} {x:DataW H×List MemPlace} (ht:P.underlying t=some (.slice e)) (hf:MV P d e=some ts)
 (hk:∀u∈ts,P.underlying u=some (.int k)) (jA:P.cellsOf e=ts.length) (h0:0<ts.length) (mo:Bool) (h:DataW.trod enc P w base (fun _=>true) held fuel t [v]=some x):
 v=.slice none 0 0\/∃(len:Nat) (f:Nat->Int),len<=maxLen/\(∀j,j<len*ts.length->(Lit.int k (f j)).wf=true)/\
  ∀els:List (List AV),els.length=len->(∀e∈els,e.length=ts.length)->els.flatten=(List.range (len*ts.length)).map (fun j=>AV.int k (f j))->VR (sZ mo w) w (.aV 0 ts.length els) v:=by
 rcases open_slice ht h with ⟨h0,_⟩|⟨a,len,cap,m,n,D,Pl,hv,hb,hl,hm,hmm,rfl,hx⟩
 · exact .inl (by simpa using h0)
 right;have lP:v=.slice (some a) len cap:=by simpa using hv
 subst lP;have hmc:m=cap:=by simpa using hmm
 subst hmc
 have key:∀j,j<m*ts.length->∃r,w.cell? (a.add j)=some (.int k r)/\(Lit.int k r).wf=true:=fun j hj=>by have hi:j / ts.length<m:=Nat.div_lt_of_lt_mul (by rwa [Da]);have hr:j%ts.length<ts.length:=De _ h0;obtain⟨CY,h1,h2⟩:=hx (j / ts.length) (by omega);rw[jA] at h1;obtain⟨_,hlen,iB⟩:=World.cells?_some h1;have hra:=yC d hf h2;obtain⟨r,hr1,Zb⟩:=uO hra (i:=j%ts.length) (u:=ts[j%ts.length]) (Ab hr) (hk _ (Ai hr));refine⟨r,?_,Zb⟩;rw[<-hr1,<-iB _ hr,add_add,Da,Fh]
 have hlm:len*ts.length<=m*ts.length:=Cj _ hl;obtain⟨f,hfn⟩:=choose_lt (α:=Int) (n:=len*ts.length) (p:=fun j r=>w.cell? (a.add j)=some (.int k r)/\(Lit.int k r).wf=true) (fun j hj=>key j (by omega));refine⟨len,f,by omega,fun j hj=>(hfn j hj).2,fun els e1 e2 e3=>?_⟩;obtain⟨b,o,s⟩:=a
 cases s with
 |none=>exact aVi e2 e1 e3 (fun j hj=>by have :=(hfn j hj).1;rwa [Vl] at this) hl
 |some s=>
  have JA:m=0:=by
   rcases Gi m with h|h
   · exact h
   obtain⟨r,hr,_⟩:=key 0 (Nat.mul_pos h h0);have :=vd hr;simp[Addr.add] at this
  subst JA;obtain rfl:len=0:=by omega
  obtain rfl:els=[]:=Cs e1;exact .vA 0 ts.length b o s (by decide)
end
theorem QC {α:Type} (f:Nat->α) (sz:Nat):∀len:Nat,((List.range len).map fun i=>(List.range sz).map fun r=>f (i*sz+r)).flatten=(List.range (len*sz)).map f
 |0=>by simp
 |len+1=>by rw[Fj,Ch,Ez,QC f sz len,Ce,Gq,List.range_add,Ch,Dp];simp
theorem ZJ {mo:Bool} {W W':World} {G':Gh} {H':aA} (h:Ext (sZ mo W) ⟨0,.nil⟩ W G' H' W') (a:Addr) (ha:a.block<W.heap.size):W'.frozen? a=W.frozen? a:=by simp only[World.frozen?,IM h ha]
theorem aCa {mo:Bool} {W W':World} {G':Gh} {H':aA} (h:Ext (sZ mo W) ⟨0,.nil⟩ W G' H' W') (may:MemPlace->Prop):W.keptBut W' may:=by
 refine⟨h.same.1,h.same.2,fun i hi=>?_⟩;rw[IM h hi]
 cases W.heap[i]? with
 |none=>rfl
 |some o=>
  cases o with
  |cells c t fr=>exact⟨rfl,rfl,rfl,fun _ _=>rfl⟩
  |map es clock=>exact .inr ⟨rfl,rfl⟩
  |_=>rfl
section
variable {H:Type} {enc:TypeId×Value->H} {P:Program}
theorem XL {mo:Bool} {f:Func} {s:ChangeSpec} {apart fresh handsOn again:Bool} {W W':World} {args:Array Value} {v:Value} {ds gs:List (DataW H)} {before pa pv:List MemPlace} {G':Gh} {H':aA}
 (hE:Ext (sZ mo W) ⟨0,.nil⟩ W G' H' W')
 (hW:DataW.Whole enc P f.params.toList s.vars apart W args.toList ds gs before)
 (Zd:∀(b:Nat) (sp:Nat->Bool) (hd:Bool),DataW.TrodAll enc P W' b sp hd f.resultTypes.toList (v.resultList f.resultTypes.size) (s.fn H (ds++gs)).results [])
 (IV:∀sp:Nat->Bool,(∀p∈before,sp p.block=true)->DataW.TrodAll enc P W' 0 sp true f.params.toList args.toList (s.fn H (ds++gs)).args pa)
 (aLn:∀sp:Nat->Bool,(∀p∈before,sp p.block=true)->DataW.TrodVars enc P W' sp s.vars (s.fn H (ds++gs)).vars pv)
 (oZ:before=pa++pv)
 (HI:∀(j:Nat) (t:TypeId) (r:Value),f.resultTypes[j]?=some t->(v.resultList f.resultTypes.size)[j]?=some r->Value.okWide P W' .any 0 t r):
 s.post enc P f apart fresh handsOn again W args v W':=by
 have hold:∀p∈before,(fun b=>decide (b<W.heap.size)) p.block=true:=fun p hp=>by simpa using hW.lt p hp
 refine⟨ds,gs,before,[],pa,pv,hW,Zd _ _ _,IV _ hold,aLn _ hold,aCa hE _,fun _=>?_⟩;obtain⟨_,_,_,_,_,hz,hn⟩:=id hW;refine⟨HI,_,_,([]++pa)++pv,⟨[]++pa,pv,trodAll_append (IV _ (fun _ _=>rfl)) (Zd _ _ _),aLn _ (fun _ _=>rfl),rfl,?_,?_⟩,?_⟩
 · intro b off hp;have hp':MemPlace.cell b off∈before:=by rw[oZ];simpa using hp
   rw[ZJ hE _ (hW.lt _ hp')];exact hz b off hp'
 · intro ha;have :=hn ha;rw[oZ] at this;simpa using this
 intro p hp _;rw[oZ];simpa using hp
end
end
end Go.Av
namespace Go.Av
section
def zP:=And.intro bDm (And.intro aEn bDn)
def zG:=And.intro bDm <| And.intro sy <| And.intro mg <| And.intro @AV.cells.eq_1 <| And.intro @AV.cells.eq_2 <| And.intro @AV.EV.eq_1 <| And.intro @AV.EV.eq_2 <| And.intro @yQ.eq_1 <| And.intro @yQ.eq_2 <| And.intro @yQ.eq_3 <| And.intro @yQ.eq_4 <| And.intro @yQ.eq_5 <| And.intro @yQ.eq_6 <| And.intro @unA.eq_1 <| And.intro @unA.eq_2 <| And.intro @unA.eq_3 <| And.intro @unA.eq_4 <| And.intro @unA.eq_5 <| And.intro @unA.eq_6 @dW.eq_1
def zI:=And.intro @aA.eP.eq_1 <| And.intro sh <| And.intro sn <| And.intro sl <| And.intro @gO.eq_1 <| And.intro @IK.eq_1 <| And.intro @IK.eq_2 <| And.intro @Lt.eq_1 <| And.intro @Lt.eq_2 <| And.intro Hq <| And.intro Fv <| And.intro @false_implies <| And.intro @implies_true.{0} <| And.intro @implies_true.{1} <| And.intro aVk <| And.intro iz <| And.intro cOl <| And.intro @AV.cells.eq_1 <| And.intro @AV.cells.eq_2 <| And.intro @AV.EV.eq_1 <| And.intro @AV.EV.eq_2 <| And.intro @yQ.eq_1 <| And.intro @yQ.eq_2 <| And.intro @yQ.eq_3 <| And.intro @yQ.eq_4 <| And.intro @yQ.eq_5 @yQ.eq_6
def zD:=And.intro @dX.fresh.eq_1 <| And.intro @dX.fresh.eq_2 <| And.intro @dX.fresh.eq_3 <| And.intro @dX.fresh.eq_4 <| And.intro @dX.fresh.eq_5 <| And.intro @dX.fresh.eq_6 <| And.intro bJh <| And.intro bDo <| And.intro @de <| And.intro @dX.cY.eq_1 <| And.intro @dX.cY.eq_2 <| And.intro @dX.cY.eq_3 <| And.intro @dX.cY.eq_4 <| And.intro @dX.cY.eq_5 <| And.intro @BQ.eq_1 <| And.intro @BQ.eq_2 <| And.intro @BQ.eq_3 <| And.intro @BQ.eq_4 <|
 And.intro @false_implies <| And.intro @implies_true.{0} <| And.intro @implies_true.{1} <| And.intro @forall_const.{0} <| And.intro @forall_const.{1} <| And.intro @Jx <| And.intro @Kq <| And.intro @Bx.{0} <| And.intro @Aq.{0} <| And.intro @Em <| And.intro @false_or <| And.intro @Aj.{0,0} <| And.intro @forall_eq.{1} <| And.intro @forall_eq_or_imp.{1} <| And.intro @forall_eq'.{1} @Ac.{0}
def zR:=And.intro @tA.eq_1 <| And.intro @tA.eq_2 <| And.intro @RV.eq_1 <| And.intro @RV.eq_2 <| And.intro zG zI
def zB:=And.intro aEn <| And.intro @ne_eq.{1} @Is
theorem tB {p q:Prop} [Decidable p] [Decidable q] (h:p↔q):True/\True/\AV.bool (decide p)=AV.bool (decide q):=⟨trivial,trivial,Ao AV.bool (Az.2 h)⟩
theorem Rx {rs:List HM} {R:Out->aA->Prop} {f:cU} {H:aA} {vs:List AV} (hR:R (.ret (pY vs)) H) (hv:tA f H rs=some vs:=by(simp only[↓zP,zR,seval];rfl)):MA rs R .ret f [] H:=⟨rfl,vs,hv,hR⟩
def zJ:=And.intro zG zI
def zM:=And.intro sm <| And.intro @Hl.{0} @Kq
theorem wI {z y:Int} (h: -2^63<=z/\z<2^63/\z=y):IntKind.i64.wrap z=y:=by rw[wrap_i64 h.1 h.2.1];exact h.2.2
theorem eL (h:aA) (s t:Nat) (x:List AV):dM h s (.aV t s [x])=some [x]:=by simp[dM]
theorem Dz {P:Program} {g:bB} {n:Nat} {f:cU} {ds:List fY} {H:aA} {Q:FQ} {pairs:List (Nat×Nat)} {rl:List bC} (h:eU P g n pairs H.next 0 0 rl [] [] f H fun f' H'=>Q .normal f' ds H') (h0:rl.countP (·.op.fresh)=0:=by decide):FC P g n (.draw rl pairs) f ds H Q:=Va h0 h
structure Kt (P:Program) (g:bB) (n:Nat) (b:bV) (Q:FQ) (f:cU) (ds:List fY) (H:aA):Prop where
 h:FC P g n b f ds H Q
theorem aZ {P:Program} {g:bB} {n:Nat} {b:bV} {Q:FQ} {f f':cU} {ds:List fY} {H H':aA} (hf:f=f') (hH:H=H'):Kt P g n b Q f ds H=Kt P g n b Q f' ds H':=by rw[hf,hH]
theorem bT {P:Program} {g:bB} {n:Nat} {b:bV} {Q:FQ} {f:cU} {ds:List fY} {H:aA} (h:FC P g n b f ds H Q):Kt P g n b Q f ds H:=⟨h⟩
theorem bS {P:Program} {g:bB} {n:Nat} {a b:bV} {Q:FQ} {f:cU} {ds:List fY} {H:aA} (h:FC P g n a f ds H (gC (Kt P g n b Q) Q)):FC P g n (.seq a b) f ds H Q:=by
 rw[dc];refine jB (fun e f ds H hq=>?_) h
 cases e with
 |normal=>exact hq.h
 |_=>exact hq
theorem fL {P:Program} {g:bB} {n:Nat} {a b:bV} {Q:FQ} {f:cU} {ds:List fY} {H:aA} (h:FC P g n a f ds H (gC (Kt P g n b Q) Q)):Kt P g n (.seq a b) Q f ds H:=⟨bS h⟩
section
variable {P:Program} {g:bB} {n:Nat} {f:cU} {H:aA} {d:Nat} {fid:FuncId} {azs:List Arg} {args:List AV} {v:AV} {H':aA}
theorem bK {r:List bC} {ds:List fY} {Q:FQ} (hS:Sound P g fid args H (.ret v) H') (h:bL P g n r (jG f d v) ds H' Q) (hd:d<n:=by decide) (ha:azs.map (mT g f)=args:=by simp only[sm,aEn,Nat.reduceEqDiff,dW]):
 bL P g n (⟨some d,.call (.const (.func (.func fid) [] [])) azs,none⟩::r) f ds H Q:=kr hd ha hS h
theorem eT {pairs:List (Nat×Nat)} {base i k:Nat} {rs:List bC} {rd:List (Nat×Nat)} {ef:List (Nat×aA×aA)} {R:cU->aA->Prop} (hS:Sound P g fid args H (.ret v) H')
 (h:eU P g n pairs base (i+1) k rs rd ((i,H,H')::ef) (jG f d v) H' R) (hd:d<n:=by decide) (ha:azs.map (mT g f)=args:=by simp only[sm,aEn,ne_eq,Nat.reduceEqDiff,Is]) (hn:H.next<=H'.next:=by exact Ak _)
 (hr:∀x∈rd,(x.1,i)∈pairs->H.get x.2=H'.get x.2:=by exact fun _ _ _=>rfl):eU P g n pairs base i k (⟨some d,.call (.const (.func (.func fid) [] [])) azs,none⟩::rs) rd ef f H R:=HP hd ha hS hn hr h
end
end
end Go.Av
namespace Go.Av
open Go
section
section
variable {P:Program} {g:bB}
theorem FL {f:FuncId} (HI:tZ P f) (hm:g.mo=false) {args:List AV} {us:List Value} {r:List UInt8} (hu:∀(G:Gh) (w:World) (vs:List Value),gI G w args vs->vs=us)
 (h:∀(G:Gh) (H:aA) (w:World),WR g G H w->Calls P f us.toArray w fun e w'=>e=.returned (.string ⟨r.toArray⟩)/\Go.RowKit.Below w.heap.size w w') (H:aA):Sound P g f args H (.ret (.str r)) H:=by
 refine⟨HI,fun G w vs hw fP=>?_⟩;obtain rfl:=hu G w vs fP;refine(h G H w hw).mono fun e w' hh=>?_;obtain⟨rfl,hB⟩:=hh;have hG:G.mo=false:=hw.mo.trans hm;exact⟨G,hw.grow hB.block,Ext.aAu hw.gN hB.block hB.size ⟨hB.os,hB.output,hB.tape,fun hb=>by rw[hG] at hb;cases hb⟩,VR.MF _ _ _⟩
theorem aEq {name:String} {n:Nat} {k:IntKind} {zs:List Int} (hn:P.globalNamed name=some n) (hz:g n=some (zs.map (AV.int k))) (h0:zs≠[]) {G:Gh} {H:aA} {w:World} (hw:WR g G H w):Lib.TabIs P w name k zs:=by
 obtain⟨c,el,fz,a1,a2⟩:=hw.BL n _ hz (fun e=>h0 (Ee.1 e));unfold Lib.TabIs World.var?;rw[hn,Jy,a1];have hl:c.size=zs.length:=by rw[a2,Ad]
 refine Ao some (Array.ext (by simp[hl]) fun j h1 h2=>?_);have hj:j<zs.length:=by omega
 have hp:=hw.iF n _ hz;generalize he:zs.map (AV.int k)=cs at hp;have IW:cs.length=zs.length:=by rw[<-he,Ad]
 cases hp with
 |pl _ _ _ us hh hv=>
  have b1:=(hh j (by omega)).2.1;have b2:=hv j (by omega);have e1:cs.getD j aD=.int k zs[j]:=by rw[<-he,List.getD,Bo,Ab hj];rfl
  rw[e1] at b2;rw[b2.fV,Df] at b1;obtain⟨c',el',fz',q1,q2⟩:=vF b1;rw[a1] at q1;cases q1
  have :c[j]?=some (Value.int k zs[j]):=q2
  rw[Dx h1] at this;rw[Aa this];simp
theorem Vg {f:FuncId} (HI:tZ P f) (hm:g.mo=false) {xs:List (List UInt8)} {sep:List UInt8} (bN:xs≠[]) (hN:xs.length<=140737488355328) (hlen:(Lib.join xs sep).length<=140737488355328)
 (h:∀(bk o c:Nat) (ys:List ByteArray) (w:World),(∀(j:Nat) x,ys[j]?=some x->w.cell? ⟨bk,o+j,none⟩=some (.string x))->bk<w.heap.size->ys.length<=140737488355328->ys.length<=c->
   (Lib.join (ys.map (·.data.toList)) sep).length<=140737488355328->
   Calls P f #[.slice (some ⟨bk,o,none⟩) ys.length c,.string ⟨sep.toArray⟩] w fun e w'=>e=.returned (.string ⟨(Lib.join (ys.map (·.data.toList)) sep).toArray⟩)/\Go.RowKit.Below w.heap.size w w') {nF:Nat} {opn:Bool} {H:aA}
 (hg:H.get nF=some (.cells (xs.map AV.str) opn)):
 Sound P g f [.sl nF 1 0 xs.length xs.length,.str sep] H (.ret (.str (Lib.join xs sep))) H:=by
 refine⟨HI,fun G w vs hw fP=>?_⟩;obtain⟨hl,hv⟩:=fP
 match vs,hl with
 |[u0,u1],_=>
  have v0:=hv 0 (by simp);have v1:=(hv 1 (by simp)).fB;simp only[Ci,Dw] at v0 v1;subst v1;have wF:0<xs.length:=Ij.2 bN
  cases v0 with
  |sl _ _ _ _ _ iT l rT hle gD mY=>
   obtain⟨a1,a2,a3,a4,a5⟩:=hw.cells nF l _ opn rT hg;rw[Ad] at a1 a5
   have Ml:(xs.map fun x=>(⟨x.toArray⟩:ByteArray)).map (·.data.toList)=xs:=by rw[Dp];have :((fun x:ByteArray=>x.data.toList)∘fun x:List UInt8=>(⟨x.toArray⟩:ByteArray))=id:=(by funext x;simp);rw[this,Hc]
   have iB:∀(j:Nat) x,(xs.map fun x=>(⟨x.toArray⟩:ByteArray))[j]?=some x->w.cell? ⟨l.cS,l.base+0+j,none⟩=some (.string x):=fun j x hj=>by rw[Bo] at hj;obtain⟨y,hy,rfl⟩:=Ag.1 hj;have HH:j<xs.length:=(Be.1 hy).1;obtain⟨u,hu,KU⟩:=a5 j HH;have e2:(xs.map AV.str).getD j aD=.str y:=(by rw[List.getD,Bo,hy];rfl);rw[e2] at KU;rw[Di,hu,KU.fB]
   have hbk:l.cS<w.heap.size:=by
    obtain⟨y,hy⟩:∃y,xs[0]?=some y:=⟨xs[0],Ab wF⟩
    exact pJ (iB 0 ⟨y.toArray⟩ (by rw[Bo,hy];rfl))
   have IW:xs.length<=iT:=(by rcases mY with rfl|mY<;>omega);have :=h l.cS (l.base+0) iT _ w iB hbk (by rw[Ad];exact hN) (by rw[Ad];exact IW) (by rw[Ml];exact hlen);rw[Ml,Ad] at this;refine this.mono fun e w' hh=>?_;obtain⟨rfl,hB⟩:=hh;have hG:G.mo=false:=hw.mo.trans hm;exact⟨G,hw.grow hB.block,Ext.aAu hw.gN hB.block hB.size ⟨hB.os,hB.output,hB.tape,fun hb=>by rw[hG] at hb;cases hb⟩,VR.MF _ _ _⟩
end
end
section
section
variable {P:Program} {g:bB} {rl:List bC} {pj:Option Nat} {pairs:List (Nat×Nat)} {s0:List AV} {H0:aA} {Hs:Nat->aA} {ss:Nat->List AV} {vs:Nat->AV}
theorem cV.snoc (D:cV P g rl pj pairs s0 H0 Hs ss vs) {r:bC} {v:AV} (hf:r.op.fresh=false) (hr:∀ev id,r.op.cY ev≠some id)
 (HJ:∀id,DStep P g (pj==some rl.length) id r (ss rl.length) (Hs rl.length) v (Hs rl.length)):
 ∃Hs' ss' vm,cV P g (rl++[r]) pj pairs s0 H0 Hs' ss' vm/\∀i,i<=rl.length->ss' i=ss i/\Hs' i=Hs i:=by
 have hc:(rl++[r]).countP (·.op.fresh)=rl.countP (·.op.fresh):=by simp[List.countP_append,hf]
 have hfi:∀i,i<=rl.length->eY (rl++[r]) i=eY rl i:=fun i hi=>by unfold eY;rw[Db hi]
 have cG:∀i q,(rl++[r])[i]?=some q->(i<rl.length/\rl[i]?=some q)\/(i=rl.length/\q=r):=fun i q h=>by
  rcases It i rl.length with h1|h1|h1
  · rw[Ex h1] at h;exact .inl ⟨h1,h⟩
  · subst h1;simp at h;exact .inr ⟨rfl,h.symm⟩
  rw[Bw (by simp;omega)] at h;cases h
 have hH:∀i,i<=rl.length->Hs (min i rl.length)=Hs i:=fun i hi=>by rw[Jk hi]
 refine⟨fun i=>Hs (min i rl.length),fun i=>if i<=rl.length then ss i else mE (ss rl.length) r.dst v,fun i=>if i<rl.length then vs i else v,⟨?_,?_,fun k hk=>?_,fun i q hq=>?_,fun i q hq he=>?_,fun i e hie ri re gu wu hwi hwe id hid=>?_⟩,fun i hi=>⟨by simp only[if_pos hi],hH i hi⟩⟩
 · simp only[Bb,if_true];exact D.s0
 · simp only[Nat.zero_min];rw[hc];exact D.h0
 · rw[hc] at hk;exact D.free k hk
 · rcases cG i q hq with ⟨h1,h2⟩|⟨rfl,rfl⟩
   · simp only[hH i (by omega),hH (i+1) (by omega),if_pos (show i<=rl.length by omega),if_pos (show i+1<=rl.length by omega),if_pos h1,hfi i (by omega)];exact D.step i q h2
   simp only[Nat.min_self,Ak,if_true,Fe,Cm,show ¬rl.length+1<=rl.length by omega,show min (rl.length+1) rl.length=rl.length by omega];exact⟨HJ _,trivial⟩
 · rcases cG i q hq with ⟨h1,h2⟩|⟨rfl,rfl⟩
   · simp only[hH i (by omega),hH (i+1) (by omega)];exact D.mono i q h2 he
   simp only[Nat.min_self,show min (rl.length+1) rl.length=rl.length by omega];exact Ak _
 rcases cG e re wu with ⟨h1,h2⟩|⟨rfl,rfl⟩
 · rcases cG i ri gu with ⟨h3,h4⟩|⟨rfl,rfl⟩
   · simp only[hH e (by omega),hH (e+1) (by omega)];simp only[if_pos (show i<=rl.length by omega)] at hwi hid;simp only[if_pos (show e<=rl.length by omega)] at hwe;refine D.GZ i e hie ri re h4 h2 hwi hwe id ?_;rw[hfi i (by omega)] at hid;exact hid
   rcases hid with h|h
   · exact absurd h (hr _ _)
   rw[hf] at h;cases h.1
 simp only[Nat.min_self,show min (rl.length+1) rl.length=rl.length by omega]
theorem cV.bCr:∀(l2:List bC) {rl:List bC} {Hs:Nat->aA} {ss:Nat->List AV} {vs:Nat->AV},cV P g rl pj pairs s0 H0 Hs ss vs->(∀r∈l2,∃d x,r=⟨d,.Ni x,none⟩)->
 ∃Hs' ss' vm,cV P g (rl++l2) pj pairs s0 H0 Hs' ss' vm/\∀i,i<=rl.length->ss' i=ss i/\Hs' i=Hs i
 |[],rl,Hs,ss,vs,D,_=>⟨Hs,ss,vs,by simpa using D,fun i _=>⟨rfl,rfl⟩⟩
 |r::l2,rl,Hs,ss,vs,D,h=>by
  obtain⟨d,x,rfl⟩:=h r Au
  obtain⟨Hs1,ss1,vs1,D1,h1⟩:=D.snoc (r:=⟨d,.Ni x,none⟩) (v:=x.eval g (ss rl.length)) rfl (fun _ _ h=>by cases h) fun id=>by unfold DStep;rw[if_pos (by rfl),if_neg (by simp[dX.fresh])];rfl
  obtain⟨Hs2,ss2,vs2,D2,h2⟩:=cV.bCr l2 D1 fun r hr=>h r (Aw _ hr)
  refine⟨Hs2,ss2,vs2,by simpa using D2,fun i hi=>?_⟩;have :=h2 i (by simp;omega);have q:=h1 i hi;exact⟨this.1.trans q.1,this.2.trans q.2⟩
variable {n:Nat} {f:cU} {ds:List fY} {H:aA} {Q:FQ}
theorem xq (j k:Nat) {d:Option Nat} {c:Arg} {azs:List Arg} (hj:rl[j]?=some ⟨d,.call c azs,none⟩) (hm:(j,rl.length)∈pairs)
 (hp:(pairs.all fun x=>match (rl.take j)[x.2]? with|some r=>r.op.qE|none=>true)=true) (h2:∀r∈rl.drop (j+1),∃d x,r=⟨d,.Ni x,none⟩)
 (h0:(rl.take j).countP (·.op.fresh)=k) (hf:nZ H k=true)
 (h:∀H1:aA,H1.next=H.next+k->(∀id,H1.get id=H.get id)->eU P g n pairs H.next 0 0 (rl.take j) [] [] f H1 fun f' H'=>∃p x H2,lL (mT g f' c)=some p/\
   Sound P g p.1 (p.2.1++azs.map (mT g f')++p.2.2) H' (.CD x) H2/\Q (.panic x) f' ds H2):FC P g n (.draw rl pairs) f ds H Q:=by
 have Mh:=(Be.1 hj).1;have hlen:(rl.take j).length=j:=by simp;omega
 have Wf:rl=rl.take j++(⟨d,.call c azs,none⟩::rl.drop (j+1)):=by rw[<-(Be.1 hj).2,List.getElem_cons_drop Mh,Gk]
 refine .inr fun hb=>?_;have hA:=tN (rl.take j) 0 0 [] [] f _ hb (Vb (W:=(rl.take j).filterMap (·.dst)) (f0:=f) (fun o ho d hd=>Hi.2 ⟨o,ho,hd⟩) iZ.ud (oN _ _ _ _ _ _ _ _ (h {H with next:=H.next+k} rfl fun _=>rfl)))
 obtain⟨Hs,ss,vs,D,f',hs,wN,hk,p,x,H2,hc,hS,hq⟩:=VU.run (rl:=rl.take j) (s:=LF n f) (H:=H) ⟨by rw[h0];exact hf,by rw[h0];exact hA⟩ (fun i e hie re wu=>by
  have :=Ba.1 hp (i,e) hie;simp only[wu] at this
  exact this)
 have D':cV P g (rl.take j) (some j) pairs (LF n f) H Hs ss vs:=⟨D.s0,D.h0,D.free,fun i r hi=>by
  have oY:=(Be.1 hi).1
  have bN:((some j:Option Nat)==some i)=false:=by have :j≠i:=(by omega);simpa using this
  rw[bN]
  exact D.step i r hi,D.mono,D.GZ⟩
 obtain⟨Hs1,ss1,vs1,D1,q1⟩:=D'.snoc (r:=⟨d,.call c azs,none⟩) (v:=aD) rfl (fun _ _ h=>by cases h) fun id=>by unfold DStep;rw[if_pos (by rfl),if_neg (by simp[dX.fresh])];simp only[hlen,Jc,if_true];exact⟨trivial,trivial⟩
 obtain⟨Hs2,ss2,vs2,D2,q2⟩:=D1.bCr _ h2;rw[hlen] at q1 hs hS;have e1:=q1 j (Ak _);have e2:=q2 j (by simp;omega);have es:ss2 j=LF n f':=(e2.1.trans e1.1).trans hs;have eH:Hs2 j=Hs j:=e2.2.trans e1.2;refine⟨x,f',H2,⟨j,Hs2,ss2,vs2,hm,?_,⟨d,.call c azs,none⟩,c,azs,p,x,H2,hj,rfl,rfl,?_,?_,rfl,es,rfl⟩,wN,fun t ht=>hk t (pU.2 fun hm=>ht ?_),hq⟩
 · rw[Wf];simpa using D2
 · rw[es,<-vY wN];exact hc
 · rw[es,eH,<-vY wN];exact hS
 obtain⟨r,hr,hd⟩:=Hi.1 hm;exact Hi.2 ⟨r,Cx hr,hd⟩
end
end
end Go.Av
namespace Go.Proofs.YtbndcmnnbiiobaaGreatDoor
open Go Go.Av
def bEb:Nat->Option (List AV):=fun _=>none
def gv:bB:=mkG Tryz.prog bEb
theorem fit:Fit Tryz.prog gv:=ja (by kernel_rfl)
theorem dQ:HT gv:=fun n cs h=>by cases h
abbrev Sg (f:FuncId) (args:List AV) (H:aA) (out:Out) (H':aA):Prop:=Sound Tryz.prog gv f args H out H'
abbrev CW (f:Go.Func):={x:DY // wP Tryz.prog gv false f=some x}
theorem dC {k:FuncId} {f:Go.Func} (h:Tryz.prog.funcs[k]?=some f) (W:CW f) (h2:(f.name== "runtime.NumGoroutine")=false:=by kernel_rfl):fN Tryz.prog gv false k W.1:=dG h h2 W.2
abbrev Fi (k:FuncId) {f:Go.Func} (W:CW f):=fN Tryz.prog gv false k W.1
theorem Sp {mu:Bool} {k:FuncId} {F:DY} (hF:fN Tryz.prog gv mu k F) {args:List AV} {v:AV} (ha:bU args=true) (hv:v.free=true)
 (h:FC Tryz.prog gv F.ntmps F.body (dW args) [] ⟨0,.nil⟩ (MA F.results fun o _=>o=.ret v)) (H:aA) (hl:args.length<=F.ntmps:=by exact Af rfl):Sound Tryz.prog gv k args H (.ret v) H:=
 gH fit dQ hF hl ha hv h H
theorem So {mu:Bool} {k:FuncId} {F:DY} (hF:fN Tryz.prog gv mu k F) {args:List AV} {v:AV} (ha:bU args=true)
 (h:FC Tryz.prog gv F.ntmps F.body (dW args) [] ⟨0,.nil⟩ (MA F.results fun o _=>o=.ret v)) (H:aA) (hv:v.free=true:=by simp only[sf,sfI,cC]) (hl:args.length<=F.ntmps:=by exact Af rfl):Sound Tryz.prog gv k args H (.ret v) H:=
 gH fit dQ hF hl ha hv h H
theorem cT {g:bB} {mu:Bool} {fn:Go.Func} {F:DY} (h:(wP Tryz.prog g mu fn).isSome=true:=by kernel_rfl) (hx:mkX Tryz.prog g mu fn=some F:=by conv=>lhs;cbv):wP Tryz.prog g mu fn=some F:=BW h hx
theorem lQ {f:FuncId} {mu:Bool} {F:DY} (hF:fN Tryz.prog gv mu f F) {args:List AV} (ha:args.length<=F.ntmps) {H H':aA} {out:Out}
 (h:FC Tryz.prog gv F.ntmps F.body (dW args) [] H (MA F.results fun o h=>o=out/\h=H')) (hdt:F.body.dL=true:=by first|rfl|decide):Sound Tryz.prog gv f args H out H':=by
 obtain⟨_,_,⟨rfl,rfl⟩,hS⟩:=gA fit hF ha h hdt;exact hS
end Go.Proofs.YtbndcmnnbiiobaaGreatDoor
