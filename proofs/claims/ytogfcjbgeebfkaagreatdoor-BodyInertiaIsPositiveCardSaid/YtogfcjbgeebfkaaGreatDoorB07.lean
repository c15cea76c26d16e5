/-
  Part of the proof of statement 13
-/
import Derived.Test.YtogfcjbgeebfkaaGreatDoorB06
import Derived.Test.YtogfcjbgeebfkaaGreatDoorB05
import Derived.Test.YtogfcjbgeebfkaaGreatDoorB03
import Derived.Shelf.SlSortCmp.NoneTotal
import Derived.Below
import Derived.Lib.Join
import Derived.ProofKit
import Derived.OpenShut
import Derived.Deep.Slices
import Derived.Test.YtogfcjbgeebfkaaGreatDoorProg
import Derived.KernelRfl
set_option linter.unusedVariables false
set_option linter.unusedSimpArgs false
set_option linter.unusedSectionVars false
set_option linter.defProp false
set_option maxRecDepth 100000
set_option maxHeartbeats 16000000
namespace Go.Av
open Go Go.Proofs Go.Shelf Go.Lib Go.Sort
abbrev ES(k:Nat):={l:List Int // l.length=k}
instance (k:Nat):Inhabited (ES k):=⟨⟨List.replicate k 0,by simp⟩⟩
def yP{k:Nat}(x:ES k):List Value:=x.1.map (Value.int .i64)
def XG{k:Nat}(x:ES k):List AV:=x.1.map (AV.int .i64)
def oN{k:Nat}(d:List (ES k)):List Int:=d.flatMap (·.1)
theorem aDz{k:Nat}(x:ES k):(yP x).length=k:=by grind[yP]
def Gno:Gh:=⟨fun _=>none,fun _ _=>False,true⟩
theorem WR.empty{g:bL}(d:∀n,g n=none)(w:World):WR g Gno ⟨0,.nil⟩ w where
 cells:=fun id l cs r h=>by cases h
 room:=fun id l h=>by cases h
 lL:=fun id e l l' _ h=>by cases h
 kI:=fun id l h=>by cases h
 iT:=fun id l o h=>by cases h
 lt:=fun id l h=>by cases h
 iE:=fun b o h=>h.elim
 jE:=fun n cs h=>by grind
 BP:=fun n cs h G=>by grind
 mo:=by unfold bL.mo;rw[d];rfl
theorem jD.ints{G:Gh}{w:World}(l:List Int):jD G w (l.map (AV.int .i64)) (l.map (Value.int .i64)):=by
 refine⟨by simp,fun j Y=>?_⟩;have n:j<l.length:=by grind
 have T:(l.map (AV.int .i64)).getD j aC=.int .i64 l[j]:=by grind
 have o:(l.map (Value.int .i64)).getD j undef=.int .i64 l[j]:=by grind
 rw[T,o];exact .int ..
theorem WA{E:Gh}{H':aB}{w w':World}(e:Ext Gno ⟨0,.nil⟩ w E H' w'):∃q a,w'=grow (w.drewN q) a:=by
 refine⟨w'.drawn -w.drawn,w'.heap.extract w.heap.size w'.heap.size,?_⟩
 have c:w'.heap=w.heap++w'.heap.extract w.heap.size w'.heap.size:=by
  apply Array.ext_getElem?;intro b;rw[Array.getElem?_append];split
  . rename_i X;exact e.frame b X (fun id l h=>by cases h)
  grind
 obtain⟨O,Z,B,h4⟩:=e.same
 replace h4:=h4 rfl
 cases w'<;>grind[grow,World.drewN,World.mk.injEq]
theorem UX{P:Program}{f:FuncId}(Om:CI P f)(args:Array Value)(w:World):(callFunc f args).run P w=.ok (.enter f args) w:=by
 obtain⟨fn,h1,h2,h3⟩:=Om;have hb:¬fn.body=none:=fun hh=>by grind
 have h3':¬fn.name= "runtime.NumGoroutine" :=by grind
 simp[callFunc,program,Sem.run,h1,h3',hb]
theorem aMa{P:Program}{g:bL}(d:∀n,g n=none){k:Nat}{q:FuncId}{p:ES k->ES k->Int}
 (s:∀x y,Sound P g q [.agg (XG x),.agg (XG y)] ⟨0,.nil⟩ (.ret (.int .i64 (p x y))) ⟨0,.nil⟩) (dE off size:Nat) (w:World):CmpLays P q #[] yP k p dE off size w:=by
 intro m os dk M x y
 have J:∀z:ES k,VR Gno (sortWorldK yP k w dE off m dk os) (.agg (XG z)) (.agg (yP z).toArray):=fun z=>by have :=jD.ints (G:=Gno) (w:=sortWorldK yP k w dE off m dk os) z.1;exact .agg _ _ this.1 (fun c R=>by obtain⟨n,_,rfl⟩:=Be.1 R;rfl) this.2
 refine((s x y).2 Gno (sortWorldK yP k w dE off m dk os) [.agg (yP x).toArray,.agg (yP y).toArray] (WR.empty d _) ⟨rfl,fun j Y=>?_⟩).mono fun e w' a=>?_
 . grind
 obtain⟨E,O,Z,B⟩:=a;refine⟨?_,WA Z⟩
 cases e with
 |returned u=>cases B;rfl
 |_=>exact B.elim
theorem Tj{k:Nat}(E:1<=k):∀(d:List (ES k)) (t:Nat),t<d.length*k->(oN d)[t]?=some ((d[t / k]?.getD default).1[t%k]?.getD 0)
 |[],t,h=>by grind
 |x::d,t,h=>by
  have C:=x.2;simp only[oN,El];rw[Dp];split
  . rw[Dg A0,Bk A0]
    grind
  have Z:k<=t:=by omega
  have B:t -k<d.length*k:=by simp only[As,Bn,Fh] at h;omega
  have T:t / k=(t -k) / k+1:=by rw[<-Nat.add_div_right _ A0];grind
  have o:t%k=(t -k)%k:=by simp[Nat.mod_eq_sub_mod,Z]
  rw[C,T,o,Fo];exact Tj E d (t -k) B
theorem rB{k:Nat}:∀d:List (ES k),(oN d).length=d.length*k
 |[]=>by simp[oN]
 |x::d=>by
  have :=rB d
  grind[oN]
theorem XN{k:Nat}(E:1<=k)(d:List (ES k)):flatK yP k d.toArray=((oN d).map (Value.int .i64)).toArray:=by
 refine ext_get! (by simp[rB]) fun t W=>?_;have j:t<d.length*k:=by simp_all
 rw[get_flatK _ _ _ _ A0];have O:=Tj E d t j;have a:t%k<k:=Bz _ A0
 grind[rB,yP]
theorem jy{k:Nat}(E:1<=k){w:World}{dE off n:Nat}{d':List (ES k)}{c:Array Value}{T:TypeId}{fz:Nat×Nat}(p:w.heap[dE]?=some (.cells c T fz)):
 WE w (putRowK yP k (Sort.ahead w n) dE off d'.toArray) dE off ((oN d').map (Value.int .i64)) where
 size:=by simp[putRowK,putRow,mapBlock,Sort.ahead]
 other:=fun d X=>by
  simp only[putRowK,putRow,mapBlock,Sort.ahead,Gv]
  grind
 row:=fun I b a h=>by
  rw[p] at h;cases h;refine⟨putCells id off (flatK yP k d'.toArray) c,?_,by simp[putCells],fun o S=>?_,fun j Y r=>?_⟩
  . simp[putRowK,putRow,mapBlock,Sort.ahead,Gv,p,onCells]
  . simp only[putCells,Array.getElem?_mapIdx,size_flatK]
    grind[rB]
  simp only[putCells,Array.getElem?_mapIdx,size_flatK]
  grind[XN,rB]
 same:=.now (h4:=Ia _ _)
theorem ID{P:Program}{g:bL}(hg:∀n,g n=none){O:Ren}(L:SlLaysF0.n6 P O){k:Nat}(E:1<=k)(aE:∀w,(isAgg (O.t 24)).run P w=.ok true w)(zE:∀w,(Go.sizeOf (O.t 24)).run P w=.ok k w)
 {q sf:FuncId} (ae:sf=O.f 6) (af:CI P sf) (ag:CI P q) {p:ES k->ES k->Int} (M:SWO (ltOf p))
 (s:∀x y,Sound P g q [.agg (XG x),.agg (XG y)] ⟨0,.nil⟩ (.ret (.int .i64 (p x y))) ⟨0,.nil⟩) (d:List (ES k)) (hd:d.length<4611686018427387904):
 ∃d':List (ES k),d'.Perm d/\(d'.Pairwise fun a b=>¬p b a<0)/\∀(H:aB) (id:Nat) (r:Bool),H.get id=some (.cells ((oN d).map (AV.int .i64)) r)->
  Sound P g sf [.sl id k 0 d.length d.length,.func (.func q) [] []] H (.ret (.iV [])) (H.set id (.cells ((oN d').map (AV.int .i64)) r)):=by
 subst ae;have m:=pdq_sorts (ltOf p) M d.toArray 0 d.toArray.size (Lib.bitLen d.toArray.size) true true (Bh _) (Ad _) (Or.inl rfl);generalize K:pdq (ltOf p) d.toArray 0 d.toArray.size (Lib.bitLen d.toArray.size) true true=D at m;obtain⟨⟨q1,q2,q3⟩,q4⟩:=m
 have ab:D.toList.Perm d:=by
  rw[<-q1] at q3;have T:(D.extract 0 D.size).toList=D.toList:=by simp
  have o:(d.toArray.extract 0 D.size).toList=d:=by rw[q1];simp
  rwa [T,o] at q3
 have Q:D.toList.length=d.length:=ab.length_eq;refine⟨D.toList,ab,?_,fun H id r dB=>⟨af,fun G w vs hw I=>?_⟩⟩
 . rw[Ga];intro i j F Y BQ;have :=q4 i j (Bh _) BQ (by simp at Y Q ⊢;omega);simp only[ltOf,Cd] at this;simp only[Ej] at F Y;rw[getElem!_pos D i F,getElem!_pos D j Y] at this;simpa using this
 obtain⟨U,J⟩:=I
 match vs,U with
 |[u0,u1],_=>
  have N:=J 0 A3;have v1:=J 1 A3;simp only[Ce,Ed] at N v1
  cases N with
  |sl _ _ _ _ _ V l A ak iP pI=>
   cases v1 with
   |func _ _ _ S bz ha X _ _=>
    obtain rfl:S=[]:=Cl ha;obtain rfl:bz=[]:=Cl X;obtain⟨a1,a2,a3,a4,a5⟩:=hw.cells id l _ r A dB;obtain⟨c,el,fz,b1,b2,b3⟩:=hw.room id l A (.inl ⟨_,_,dB⟩);have aj:((oN d).map (AV.int .i64)).length=d.length*k:=by simp[rB]
    have hH:HoldsK yP k w l.dE (l.base+0) d.toArray:=by intro j Y;rw[size_flatK] at Y;have TN:j<d.length*k:=ZaV;obtain⟨u,T,o⟩:=a5 j (by rw[aj];exact TN);have a6:j<(oN d).length:=(by rw[rB];exact TN);have C:((oN d).map (AV.int .i64)).getD j aC=.int .i64 (oN d)[j]:=(by simp[List.getD,a6]);rw[C] at o;cases o;rw[Cv,T,XN E,getElem!_pos _ _ (by simpa using a6)];simp
    have B:l.dE<w.heap.size:=by
     rcases Ep l.dE w.heap.size with h|h
     . exact h
     rw[Array.getElem?_eq_none h] at b1;cases b1
    have a7:=AnyQ.slices_SortFunc_eq L k aE zE (yP (k:=k)) aDz (fun x v J=>by obtain⟨n,_,rfl⟩:=Be.1 J;rfl) p M q #[] l.dE (l.base+0) V d.toArray w (fun args w=>UX ag args w) (aMa hg s _ _ _ _) hH B (by simpa using hd);rw[K] at a7;refine a7.mono fun e w' z=>?_;obtain⟨rfl,n,os,rfl⟩:=z;have ad:=jy E (w:=w) (dE:=l.dE) (off:=l.base+0) (n:=n) (d':=D.toList) b1
    have Z:gH ((oN d).map (AV.int .i64)) 0 ((oN D.toList).map (AV.int .i64))=(oN D.toList).map (AV.int .i64):=by simp only[gH,Hv,Cw,Ds];rw[Bl (by simp[rB,Q]),Bx]
    obtain⟨r1,r2⟩:=hw.store A dB (jD.ints (oN D.toList)) (fun c R=>by obtain⟨n,_,rfl⟩:=Be.1 R;rfl) (by simp[rB,Q]) ad;rw[Z] at r1 r2
    have W:∀b,b<(putRowK yP k (Sort.ahead w n) l.dE (l.base+0) D.toList.toArray).heap.size->(grow (putRowK yP k (Sort.ahead w n) l.dE (l.base+0) D.toList.toArray) os).heap[b]?=(putRowK yP k (Sort.ahead w n) l.dE (l.base+0) D.toList.toArray).heap[b]?:=fun b X=>by simp only[grow];rw[Array.getElem?_append_left X]
    have e0:sortWorldK yP k w l.dE (l.base+0) n D os=grow (putRowK yP k (Sort.ahead w n) l.dE (l.base+0) D.toList.toArray) os:=(by simp[sortWorldK]);rw[e0];refine⟨G,r1.grow W,r2.trans (Ext.grow r1.iE W (by simp[grow]) .now),?_⟩;exact .iV _ [] rfl fun j Y=>absurd Y (Am _)
theorem nN{P:Program}{g:bL}{O:Ren}(L:SlLaysF0.n6 P O){sf:FuncId}(a:sf=O.f 6)(b:CI P sf)(q:FuncId)(H:aB):Sound P g sf [.bG,.func (.func q) [] []] H (.ret (.iV [])) H:=by
 subst a;refine⟨b,fun G w vs c I=>?_⟩;obtain⟨U,J⟩:=I
 match vs,U with
 |[u0,u1],_=>have N:=J 0 A3;cases N;refine(AnyF.slices_SortFunc_none L none 0 u1 w).mono fun e w' z=>?_;obtain⟨rfl,rfl⟩:=z;exact⟨G,c,Ext.refl G H _,.iV _ [] rfl fun j Y=>absurd Y (Am _)⟩
end Go.Av
namespace Go.Av
open Go
section
section
variable {P:Program} {g:bL} {n:Nat}
theorem sx{k:HU}{f:dI}{id:Nat}{args:List AV}{H2 W:aB}{out:Out}(X:nH n f)(h:UN P g n k f id args H2 out W):PJ P g k (LF n f) id args H2 out W:=by
 unfold PJ;rw[MP];refine fD (fun e s1 N H1 D=>?_) (uM k.MI _ [] H2 _ (X.rY _) h);obtain⟨u,rfl,q,D⟩:=D
 cases e with
 |normal=>
  obtain⟨O,k1,b,Z,B⟩:=D;refine⟨O,k1,b,Z,fD (fun e s2 p G D=>?_) (uM k.body _ [] _ _ q B)⟩;obtain⟨a,rfl,o,D⟩:=D
  cases e with
  |panic v=>assumption
  |_=>exact D
 |_=>exact D.elim
theorem Za(t:Fit P g){k:HU}{f:dI}{id:Nat}{args:List AV}{H2 W:aB}{out:Out}(X:nH n f)(c:H2.get id=some (.loop k (LF n f) .ready))(Q:args.length=k.ps.length)(h:UN P g n k f id args H2 out W):
 mS P g id args H2 out W:=MT t c Q (sx X h)
def aAi(id:Nat)(R:Out->aB->Prop):FQ
 |.normal,_,ds,H=>ds=[]/\∃k sn,H.get id=some (.loop k sn .busy)/\R (.ret (.bool true)) (H.set id (.loop k sn .ready))
 |.ret,_,ds,H=>ds=[]/\∃k sn,H.get id=some (.loop k sn .busy)/\R (.ret (.bool false)) (H.set id (.loop k sn (.done .ret)))
 |.exit i,_,ds,H=>ds=[]/\∃k sn,H.get id=some (.loop k sn .busy)/\R (.ret (.bool false)) (H.set id (.loop k sn (.done (.exit i))))
 |.panic _,_,_,_=>False
theorem IE(t:Fit P g){k:HU}{f:dI}{id:Nat}{args:List AV}{H2:aB}{R:Out->aB->Prop}(X:nH n f)(c:H2.get id=some (.loop k (LF n f) .ready))(Q:args.length=k.ps.length)(U:k.MI.dL=true)(w:k.body.dL=true)
 (h:FC P g n k.MI (oE n f (k.ps.zip args)) [] H2 (iJ (fun u N H1=>N=[]/\∃k1 b,H1.get id=some (.loop k1 b .ready)/\FC P g n k.body u [] (H1.set id (.loop k1 b .busy)) (aAi id R)) fun _ _ _ _=>False)):
 ∃out W,R out W/\mS P g id args H2 out W:=by
 obtain⟨E,l,V,H',⟨u,rfl,q,D⟩,y⟩:=JY U (uM k.MI _ [] H2 _ (X.rY _) h)
 cases E with
 |normal=>
  obtain⟨rfl,k1,b,d,B⟩:=D;obtain⟨A,s2,F,G,⟨H,rfl,o,a⟩,m⟩:=JY w (uM k.body _ [] _ _ q B)
  have p:∀{out:Out} {W:aB},(∀s,YZ id out W A s F G)->mS P g id args H2 out W:=fun {out W} hr=>by
   refine MT t c Q ?_;unfold PJ;rw[MP];refine fD (fun e s1 N H1 z=>?_) y;obtain⟨rfl,rfl|⟨_,x,C⟩,rfl,rfl⟩:=z;rotate_left
   . grind
   refine⟨rfl,k1,b,d,fD (fun e s1 N H1 z=>?_) m⟩;obtain⟨rfl,_,rfl,rfl⟩:=z
   grind
  cases A with
  |normal=>obtain⟨rfl,k2,j,M,r⟩:=a;exact⟨_,_,r,p fun s=>⟨rfl,rfl,k2,j,M,rfl⟩⟩
  |ret=>obtain⟨rfl,k2,j,M,r⟩:=a;exact⟨_,_,r,p fun s=>⟨rfl,rfl,k2,j,M,rfl⟩⟩
  |exit i=>obtain⟨rfl,k2,j,M,r⟩:=a;exact⟨_,_,r,p fun s=>⟨rfl,rfl,k2,j,M,rfl⟩⟩
  |panic v=>exact a.elim
 |_=>exact D.elim
variable {r:List bH} {f:dI} {ds:List gW} {H:aB} {Q:FQ}
theorem uN{d:Nat}{c:Arg}{id:Nat}{azs:List Arg}{args:List AV}{v:AV}{H':aB}(hd:d<n)(R:nZ g f c=.yield id)(I:azs.map (nZ g f)=args)
 (w:mS P g id args H (.ret v) H') (h:bS P g n r (jF f d v) ds H' Q):bS P g n (⟨some d,.call c azs,none⟩::r) f ds H Q:=by
 have :∀v,gJ n f (some d) v=jF f d v:=fun v=>by grind[gJ]
 unfold bS;simp only[lF,if_true,this];exact⟨.ret v,H',.inr ⟨id,R,by grind⟩,h⟩
variable{body:bX}
theorem tc{c:Arg}{S:List Nat}{a:bX}{fid:FuncId}{fs cs:List AV}{v:AV}{y:aB}{p:HU}{l:List AV}{A:LSt}(R:nZ g f c=.func (.func fid) fs cs)
 (w:Sound P g fid (fs++[.yield (H.next+1)]++cs) ((H.alloc .AN).alloc (.loop ⟨S,a,body⟩ (LF n f) .ready)) (.ret v) y) (U:y.get (H.next+1)=some (.loop p l A))
 (h:∀L,zH y (H.next+1) L->QW A f (.mark H.next::ds) L Q):FC P g n (.pO c S a body) f ds H Q:=by
 have r:∃L,zH y (H.next+1) L:=⟨y.set (H.next+1) .dead,rfl,fun m=>by rw[aB.aD]⟩
 obtain⟨L,N⟩:=r;exact⟨fid,fs,cs,v,y,p,l,A,L,R,w,U,N,h L N⟩
theorem uL{c:Arg}{S:List Nat}{a:bX}{fid:FuncId}{fs cs:List AV}(R:nZ g f c=.func (.func fid) fs cs)
 (h:∃v y p l A,Sound P g fid (fs++[.yield (H.next+1)]++cs) ((H.alloc .AN).alloc (.loop ⟨S,a,body⟩ (LF n f) .ready)) (.ret v) y/\y.get (H.next+1)=some (.loop p l A)/\
   ∀L,zH y (H.next+1) L->QW A f (.mark H.next::ds) L Q):FC P g n (.pO c S a body) f ds H Q:=by
 obtain⟨v,y,p,l,A,O,Z,B⟩:=h;exact tc R O Z B
theorem nH.jF{n:Nat}{f:dI}(h:nH n f){d:Nat}(hd:d<n)(v:AV):nH n (jF f d v):=fun t W=>by rw[pR _ _ A0];exact h t W
variable{c:bX}
theorem UG{A:dI}{ds:List gW}{H0:aB}{Q:FQ}(X:nH n A)(h:∀f H,nH n f->f=A->H=H0->FC P g n c f ds H Q):FC P g n c A ds H0 Q:=h _ _ X rfl rfl
theorem cC{A:dI}{ds:List gW}{H:aB}{Q:FQ}(h:∀f,f=A->FC P g n c f ds H Q):FC P g n c A ds H Q:=h _ rfl
structure Over (H H':aB):Prop where
 le:H.next<=H'.next
 same:∀j,j<H.next->H'.get j=H.get j
theorem Over.refl(H:aB):Over H H:=⟨Ad _,fun _ _=>rfl⟩
theorem Over.alloc{H H':aB}(h:Over H H')(o:eS):Over H (H'.alloc o):=⟨by simp only[aB.bJ];have :=h.le;omega,fun j Y=>by
 have :=h.le
 rw[aB.aJ,if_neg A0];exact h.same j Y⟩
theorem Over.set{H H':aB}(h:Over H H'){id:Nat}(f:H.next<=id)(o:eS):Over H (H'.set id o):=⟨by exact h.le,fun j Y=>by rw[aB.aD,if_neg A0];exact h.same j Y⟩
end
end
attribute [local congr] aQ
section
section
variable {P:Program} {g:bL} {n:Nat}
def aMv(n c ix a b:Nat)(cs:List Nat)(l B:bX):Bool:=
 Nat.blt c n&&Nat.blt ix n&&Nat.blt a n&&Nat.blt b n&& !Nat.beq a ix&& !Nat.beq b ix&& !Nat.beq b a&& !wG ix l.wr&& !wG ix B.wr&&B.sR&& !wG a cs&& !wG b cs&& !wG ix cs&&cs.all (fun t=> !wG t l.wr)
def Sy(ix a b:Nat)(l B:bX):List Nat:=a::b::ix::(l.wr++B.wr)
variable{l B:bX}
theorem kd{id c ix a b:Nat}{op:BinOp}{y:Int}{f:dI}{ds:List gW}{H:aB}{Q:FQ}(cs:List Nat)(J:Nat->List AV->aB->Prop)(val:Nat->Int)(N:Nat)
 (M:aMv n c ix a b cs l B=true) (C:∀i,i<N->rL op .i64 (val i) .i64 y=some (.int .i64 (val (i+1))))
 (O:f ix=.int .i64 (val 0)) (G:J 0 (cs.map f) H)
 (k:∀(i:Nat) (u:dI) (H':aB),i<=N->lH (Sy ix a b l B) f u->u ix=.int .i64 (val i)->J i (cs.map u) H'->FC P g n l u ds H' (iJ (fun V q j=>q=ds/\j=H'/\V c=.bool (decide (i<N))) fun _ _ _ _=>False))
 (body:∀(i:Nat) (u:dI) (H':aB),i<N->lH (Sy ix a b l B) f u->u ix=.int .i64 (val i)->J i (cs.map u) H'->FC P g n B u ds H' (iJ (fun V _ j=>J (i+1) (cs.map V) j) (dX id Q)))
 (done:∀(u:dI) (H':aB),lH (Sy ix a b l B) f u->J N (cs.map u) H'->Q .normal u ds H'):
 FC P g n (.block id (.loop (.seq (.seq l (.cond (.tmp c) .skip (.exit id))) (.seq B
  (.ops [⟨some a,.mO (.tmp ix),none⟩,⟨some b,.bin op (.tmp a) (.const (.int .i64 y)),none⟩,⟨some ix,.mO (.tmp b),none⟩]))))) f ds H Q:=by
 simp only[aMv,Ak,Ct,Ib,Bi] at M;obtain⟨⟨⟨⟨⟨⟨⟨⟨⟨⟨⟨⟨⟨s1,s2⟩,s3⟩,U⟩,R⟩,x⟩,w⟩,t1⟩,b1⟩,b2⟩,I⟩,L⟩,c3⟩,S⟩:=M;have h:∀d∈l.wr,d∈Sy ix a b l B:=fun d hd=>by simp[Sy,hd]
 have r:∀d∈B.wr,d∈Sy ix a b l B:=fun d hd=>by simp[Sy,hd]
 have m:∀{u:dI} {d:Nat} {v:AV},d∈Sy ix a b l B->lH (Sy ix a b l B) f u->lH (Sy ix a b l B) f (jF u d v):=fun {u d v} hd E t W=>by have s:t≠d:=fun e=>qW.1 W (by rw[e];exact hd);rw[pR _ _ s];exact E t W
 refine UI (id:=id) (c:=c) (fun i u H'=>lH (Sy ix a b l B) f u/\u ix=.int .i64 (val i)/\J i (cs.map u) H') N ⟨.aId,O,G⟩ ?_ ?_ ?_
 . rintro i u H' F ⟨E,T,Y⟩ K hK z;refine jJ (fun e A p H2 X=>?_) (KD (k i u H' F E T Y));obtain⟨k1,k2,k3⟩:=X
   cases e with
   |normal=>obtain⟨rfl,rfl,k4⟩:=k3;refine⟨rfl,rfl,hK _ k4 ⟨E.trans (k1.sub h),by rw[k1 _ t1];exact T,?_⟩⟩;have :cs.map A=cs.map u:=Dk fun t W=>k1 t (by simpa using S t W);rw[this];exact Y
   |_=>exact k3.elim
 . rintro i u H' F ⟨E,T,Y⟩;refine jJ (fun e A p H2 X=>?_) (KD (body i u H' F E T Y));obtain⟨k1,k2,k3⟩:=X
   cases e with
   |normal=>obtain rfl:=k2 b2;refine⟨rfl,?_⟩;have o:A ix=.int .i64 (val i):=(by rw[k1 _ b1];exact T);have D:=E.trans (k1.sub r);rw[MO,KE _ _ s3];simp only[dU,iG,o,bV];rw[CH _ _ _ _ U];simp only[dU,iG,yQ,sZ,C i F,Cq,bV];rw[KE _ _ s2];simp only[dU,iG,bV,yI,iZ,sZ];refine⟨trivial,m (by simp[Sy]) (m (by simp[Sy]) (m (by simp[Sy]) D)),trivial,?_⟩;rw[Lf c3,Lf L,Lf I];exact k3
   |_=>exact k3
 rintro u H' ⟨E,T,Y⟩;exact done u H' E Y
theorem cH{id c ix a b:Nat}{f:dI}{ds:List gW}{H:aB}{Q:FQ}(cs:List Nat)(J:Nat->List AV->aB->Prop)(s N:Nat)(d:s<=N)(y:N<2^63)
 (M:aMv n c ix a b cs l B=true) (O:f ix=.int .i64 s) (G:J s (cs.map f) H)
 (k:∀(i:Nat) (u:dI) (H':aB),s<=i->i<=N->lH (Sy ix a b l B) f u->u ix=.int .i64 i->J i (cs.map u) H'->FC P g n l u ds H' (iJ (fun V q j=>q=ds/\j=H'/\V c=.bool (decide (i<N))) fun _ _ _ _=>False))
 (body:∀(i:Nat) (u:dI) (H':aB),s<=i->i<N->lH (Sy ix a b l B) f u->u ix=.int .i64 i->J i (cs.map u) H'->FC P g n B u ds H' (iJ (fun V _ j=>J (i+1) (cs.map V) j) (dX id Q)))
 (done:∀(u:dI) (H':aB),lH (Sy ix a b l B) f u->J N (cs.map u) H'->Q .normal u ds H'):
 FC P g n (.block id (.loop (.seq (.seq l (.cond (.tmp c) .skip (.exit id))) (.seq B
  (.ops [⟨some a,.mO (.tmp ix),none⟩,⟨some b,.bin .add (.tmp a) (.const (.int .i64 1)),none⟩,⟨some ix,.mO (.tmp b),none⟩]))))) f ds H Q:=by
 refine kd cs (fun i=>J (s+i)) (fun i=>((s+i:Nat):Int)) (N -s) M (fun i F=>?_) A0 A0 (fun i u H' F E T Y=>?_) (fun i u H' F E T Y=>?_) (fun u H' E Y=>?_)
 . grind[rL,wrap_i64,AV.int.injEq]
 . have h:=k (s+i) u H' A0 A0 E T Y
   rwa [show decide (s+i<N)=decide (i<N -s) from by grind] at h
 all_goals grind
theorem UJ{id c ix a b:Nat}{f:dI}{ds:List gW}{H:aB}{Q:FQ}(cs:List Nat)(J:Nat->List AV->aB->Prop)(N:Nat)(y:N<2^63)
 (M:aMv n c ix a b cs l B=true) (O:f ix=.int .i64 ((N:Int) -1)) (G:J N (cs.map f) H)
 (k:∀(i:Nat) (u:dI) (H':aB),i<=N->lH (Sy ix a b l B) f u->u ix=.int .i64 ((i:Int) -1)->J i (cs.map u) H'->FC P g n l u ds H' (iJ (fun V q j=>q=ds/\j=H'/\V c=.bool (decide (0<i))) fun _ _ _ _=>False))
 (body:∀(i:Nat) (u:dI) (H':aB),i<N->lH (Sy ix a b l B) f u->u ix=.int .i64 i->J (i+1) (cs.map u) H'->FC P g n B u ds H' (iJ (fun V _ j=>J i (cs.map V) j) (dX id Q)))
 (done:∀(u:dI) (H':aB),lH (Sy ix a b l B) f u->J 0 (cs.map u) H'->Q .normal u ds H'):
 FC P g n (.block id (.loop (.seq (.seq l (.cond (.tmp c) .skip (.exit id))) (.seq B
  (.ops [⟨some a,.mO (.tmp ix),none⟩,⟨some b,.bin .sub (.tmp a) (.const (.int .i64 1)),none⟩,⟨some ix,.mO (.tmp b),none⟩]))))) f ds H Q:=by
 refine kd cs (fun i=>J (N -i)) (fun i=>((N -i:Nat):Int) -1) N M (fun i F=>?_) A0 A0 (fun i u H' F E T Y=>?_) (fun i u H' F E T Y=>?_) (fun u H' E Y=>?_)
 . grind[rL,wrap_i64,AV.int.injEq]
 . have h:=k (N -i) u H' A0 E T Y
   rwa [show decide (0<N -i)=decide (i<N) from by grind] at h
 . have e:N -i=(N -(i+1))+1:=by omega
   grind
 grind
end
end
theorem Tt{k:IntKind}(M:k.signed=false)(x:Int):k.wrap x=x%2^k.bits:=by simp[IntKind.wrap,M]
end Go.Av
namespace Go.aH
section
variable {p:Nat->V} {N:Nat} {n:V} {d:Int}
instance:DecidableEq V:=fun a b=>match a,b with
 |⟨x,y,z⟩,⟨x',y',z'⟩=>if h:x=x'/\y=y'/\z=z' then .isTrue (by obtain⟨rfl,rfl,rfl⟩:=h;rfl) else .isFalse (fun e=>h (by cases e;exact⟨rfl,rfl,rfl⟩))
def fW(p:Nat->V)(i j k:Nat):V×Int:=(iC (bC (vec p i j) (vec p i k)),dot (iC (bC (vec p i j) (vec p i k))) (p i))
def jM(p:Nat->V)(i j k:Nat):List (V×Int):=
 if(fW p i j k).1=V0 then [] else [fW p i j k,(neg (fW p i j k).1,-(fW p i j k).2)]
theorem Te:iC V0=V0:=by rfl
theorem AU{i j k:Nat}(F:i<N)(Y:j<N)(E:k<N){q:V×Int}(h:q∈jM p i j k)(le:∀k,k<N->dot q.1 (p k)<=q.2)(lt:∃k,k<N/\dot q.1 (p k)<q.2):oR p N q.1 q.2:=by
 unfold jM at h;split at h
 . grind
 rename_i s;have R:bC (vec p i j) (vec p i k)≠V0:=fun e=>s (by rw[fW,e,Te]);simp only[Ba,Cn,Fg] at h
 rcases h with rfl|rfl
 . exact yE.oa (a:=i) (b:=j) (c:=k) ⟨R,.inl rfl⟩ F Y E le lt rfl
 refine yE.oa (a:=i) (b:=j) (c:=k) ⟨R,.inr rfl⟩ F Y E le lt ?_;simp[fW,qN]
theorem iB(F:oR p N n d):∃i j k,k<j/\j<i/\i<N/\(n,d)∈jM p i j k:=by
 obtain⟨i,j,k,O,Z,B,R,hd⟩:=F.down;refine⟨i,j,k,O,Z,B,?_⟩;have s:¬(fW p i j k).1=V0:=qh R.1;unfold jM
 rcases R.2 with e|e<;>simp_all[hd,e,fW,qN]
def tE(i j k a b c:Nat):Prop:=a<i\/(a=i/\(b<j\/(b=j/\c<k)))
def tM(p:Nat->V)(N:Nat)(i j k:Nat)(K:List (V×Int)):Prop:=
 ∀a b c,c<b->b<a->a<N->tE i j k a b c->∀q∈jM p a b c,oR p N q.1 q.2->q∈K
theorem tM.zero:tM p N 0 0 0 []:=fun a b c _ _ _ h=>by simp_all[tE,h]
theorem tM.down{i j:Nat}{K:List (V×Int)}(h:tM p N i j j K):tM p N i (j+1) 0 K:=fun a b c O Z B X q D F=>h a b c O Z B (by grind[tE]) q D F
theorem tM.next{i:Nat}{K:List (V×Int)}(h:tM p N i i 0 K):tM p N (i+1) 0 0 K:=fun a b c O Z B X q D F=>h a b c O Z B (by grind[tE]) q D F
theorem tM.step{i j k:Nat}{K d:List (V×Int)}(h:tM p N i j k K)(M:∀q∈K,q∈d)(A:∀q∈jM p i j k,oR p N q.1 q.2->q∈d):tM p N i j (k+1) d:=fun a b c O Z B X q D F=>by
 by_cases e:a=i/\b=j/\c=k
 . grind
 exact M q (h a b c O Z B (by grind[tE]) q D F)
theorem tM.all{K:List (V×Int)}(h:tM p N N 0 0 K)(hK:∀q∈K,oR p N q.1 q.2)(q:V×Int):q∈K↔oR p N q.1 q.2:=by refine⟨hK q,fun F=>?_⟩;obtain⟨i,j,k,O,Z,B,R⟩:=iB F;exact h i j k O Z B (.inl B) q R F
theorem Qr(P:V×Int->Prop):∀L:List (V×Int),∃K:List (V×Int),K.Nodup/\∀q,q∈K↔q∈L/\P q
 |[]=>⟨[],List.nodup_nil,fun q=>by simp⟩
 |x::L=>by
  obtain⟨K,O,Z⟩:=Qr P L;by_cases C:P x/\x∉K
  . refine⟨x::K,List.nodup_cons.2 ⟨C.2,O⟩,fun q=>?_⟩
    grind
  grind
theorem xL{α:Type}(R:α->α->Prop)(tr:∀{a b c},R a b->R b c->R a c)(d:∀a b,R a b\/R b a):∀l:List α,∃s:List α,s.Perm l/\s.Pairwise R
 |[]=>⟨[],List.Perm.refl _,List.Pairwise.nil⟩
 |x::l=>by
  obtain⟨s,O,Z⟩:=xL R tr d l
  have ins:∀s:List α,s.Pairwise R->∃t:List α,t.Perm (x::s)/\t.Pairwise R:=by
   intro s
   induction s with
   |nil=>simp
   |cons y s K=>
    intro M;rw[Cj] at M
    rcases d x y with h|h
    . refine⟨x::y::s,List.Perm.refl _,Cj.2 ⟨fun z e=>?_,Cj.2 M⟩⟩
      grind
    obtain⟨t,t1,t2⟩:=K M.2;refine⟨y::t,(List.Perm.cons y t1).trans (List.Perm.swap x y s),Cj.2 ⟨fun z e=>?_,t2⟩⟩
    grind
  obtain⟨t,t1,t2⟩:=ins s Z;exact⟨t,t1.trans (List.Perm.cons x O),t2⟩
theorem pS.exists(p:Nat->V)(N:Nat):∃S,pS p N S:=by
 obtain⟨K,O,Z⟩:=Qr (fun q=>oR p N q.1 q.2) ((List.range N).flatMap fun i=>(List.range N).flatMap fun j=>(List.range N).flatMap fun k=>jM p i j k)
 have hK:∀q,q∈K↔oR p N q.1 q.2:=fun q=>by
  rw[Z];refine⟨fun h=>h.2,fun F=>⟨?_,F⟩⟩;obtain⟨i,j,k,a1,y,Q,R⟩:=iB F;simp only[Ec,Bb]
  grind
 obtain⟨S,s1,s2⟩:=xL (fun a b:V×Int=>¬jC b.1 a.1) (fun {a b c} h h'=>by grind[jC]) (fun a b=>by grind[jC]) K;exact⟨S,pS.o7 O hK s1 s2⟩
theorem sT{α:Type}:∀(l z:List α),l.Nodup->(∀x∈l,x∈z)->l.length<=z.length
 |[],_,_,_=>Bh _
 |x::l,z,hn,h=>by
  obtain⟨s,t,rfl⟩:=List.append_of_mem (h x Ay);rw[List.nodup_cons] at hn
  have :=sT l (s++t) hn.2 fun y Q=>by grind
  grind
theorem nT{α j:Type}(f:α->List j)(m:Nat)(N:∀x,(f x).length<=m):∀l:List α,(l.flatMap f).length<=l.length*m
 |[]=>by simp
 |x::l=>by have O:=nT f m N l;have Z:=N x;simp only[El,Aq,As,Bn,Fh];omega
theorem yR{K:List (V×Int)}(A:K.Nodup)(hK:∀q∈K,oR p N q.1 q.2):K.length<=N*(N*(N*2)):=by
 have O:=sT K ((List.range N).flatMap fun i=>(List.range N).flatMap fun j=>(List.range N).flatMap fun k=>jM p i j k) A fun q D=>by obtain⟨i,j,k,a1,y,Q,R⟩:=iB (hK q D);simp only[Ec,Bb];exact⟨i,Q,j,by omega,k,by omega,R⟩
 have c:∀i j k,(jM p i j k).length<=2:=fun i j k=>by unfold jM;split<;>simp
 have Z:=nT (fun i=>(List.range N).flatMap fun j=>(List.range N).flatMap fun k=>jM p i j k) (N*(N*2)) (fun i=>by
  have :=nT (fun j=>(List.range N).flatMap fun k=>jM p i j k) (N*2) (fun j=>by
   have :=nT (fun k=>jM p i j k) 2 (fun k=>c i j k) (List.range N)
   rwa [Bt] at this) (List.range N)
  rwa [Bt] at this) (List.range N)
 rw[Bt] at Z;omega
theorem fm{A:List Nat}{n:Nat}(b:A.Nodup)(U:∀j∈A,j<n)(y:∀j,j<n->j∈A):A.Perm (List.range n):=
 (List.perm_ext_iff_of_nodup b List.nodup_range).2 fun a=>by grind
theorem QZ{α:Type}(l:List α)(d:α):(List.range l.length).map (fun j=>l.getD j d)=l:=by
 refine Et A3 fun k O Z=>?_
 grind
end
end Go.aH
namespace Go.iW
def cY:List Nat->Nat
 |[]=>0
 |d::l=>d+65536*cY l
def DD(l:List Nat):Prop:=∀d∈l,d<65536
def wZ:List Nat->List Nat
 |[]=>[]
 |d::l=>if wZ l=[] then(if d=0 then [] else [d]) else d::wZ l
def dg(n:Nat):List Nat:=if n=0 then [] else n%65536::dg (n / 65536)
termination_by n
decreasing_by omega
theorem AO:dg 0=[]:=by simp[dg]
theorem Ma{n:Nat}(h:n≠0):dg n=n%65536::dg (n / 65536):=by rw[dg,if_neg h]
theorem Ud{n:Nat}:dg n=[]↔n=0:=by
 constructor
 . intro h;refine Co fun A=>?_;simp_all[Ma,A]
 rintro rfl;exact AO
theorem BK(n:Nat):cY (dg n)=n:=by
 induction n using dg.induct with
 |case1=>rw[AO];rfl
 |case2 n h K=>rw[Ma h,cY,K];omega
theorem KC(n:Nat):DD (dg n):=by
 induction n using dg.induct with
 |case1=>rw[AO];intro d hd;grind
 |case2 n h K=>
  rw[Ma h];intro d hd
  rcases Ba.1 hd with rfl|hd
  . omega
  exact K d hd
theorem DD.tail{d:Nat}{l:List Nat}(h:DD (d::l)):DD l:=fun x C=>h x (Ax _ C)
theorem ME:∀{l:List Nat},DD l->wZ l=dg (cY l)
 |[],_=>by simp[wZ,cY,AO]
 |d::l,h=>by
  have K:=ME h.tail;have hd:=h d Ay;simp only[wZ,K,Ud,cY];by_cases J:cY l=0
  . rw[if_pos J,J];by_cases O:d=0
    . grind[AO]
    rw[if_neg O,Ma A0,show(d+65536*0)%65536=d by omega,show(d+65536*0) / 65536=0 by omega,AO]
  rw[if_neg J,Ma (n:=d+65536*cY l) A0,show(d+65536*cY l)%65536=d by omega,show(d+65536*cY l) / 65536=cY l by omega]
theorem BJ:∀{l:List Nat} {n:Nat},n<=l.length->(∀k,n<=k->k<l.length->l.getD k 0=0)->(n=0\/l.getD (n -1) 0≠0)->l.take n=wZ l
 |[],n,_,_,_=>by simp[wZ]
 |d::l,0,h,h1,_=>by
  have K:=BJ (l:=l) (n:=0) (Bh _) (fun k _ E=>by simpa using h1 (k+1) (Bh _) (by simpa using E)) (.inl rfl);have hd:d=0:=by simpa using h1 0 (Bh _) A3
  simp[wZ,<-K,hd]
 |d::l,n+1,h,h1,h2=>by
  have A:n<=l.length:=by simpa using h
  have a:∀k,n<=k->k<l.length->l.getD k 0=0:=fun k E U=>by simpa using h1 (k+1) A0 (by simpa using U)
  cases n with
  |zero=>have K:=BJ (l:=l) (n:=0) A a (.inl rfl);have hd:d≠0:=(by simpa using h2);simp[wZ,<-K,hd]
  |succ n=>
   have m:l.getD n 0≠0:=(by simpa using h2);have K:=BJ (l:=l) (n:=n+1) A a (.inr (by simpa using m))
   have :¬wZ l=[]:=by rw[<-K];intro e;have U:0<(l.take (n+1)).length:=(by rw[Fb];omega);rw[e] at U;exact absurd U (Ff 0)
   rw[wZ,if_neg this,Ft,K]
theorem Si{k:Nat}:∀{n:Nat},n<65536^k->(dg n).length<=k:=by
 induction k with
 |zero=>simp[AO]
 |succ k K=>
  intro n h;by_cases A:n=0
  . grind
  rw[Ma A]
  grind
theorem FX:∀{l:List Nat},DD l->cY l<65536^l.length
 |[],_=>by simp[cY]
 |d::l,h=>by
  have K:=FX h.tail;have hd:=h d Ay
  grind[cY,List.length_cons,Nat.pow_succ]
theorem xA:∀(a b:List Nat),cY (a++b)=cY a+65536^a.length*cY b
 |[],b=>by simp[cY]
 |d::a,b=>by have K:=xA a b;rw[Fe,cY,K,cY,As,De,Gc,Cc (65536^a.length) 65536,<-Cf,Bm]
theorem NN{l:List Nat}{k:Nat}(h:k<l.length):cY (l.take (k+1))=cY (l.take k)+65536^k*l.getD k 0:=by
 rw[Ao,xA];have :(l.take k).length=k:=by grind
 simp[this,h,cY]
theorem DD.take{l:List Nat}(h:DD l)(k:Nat):DD (l.take k):=fun d hd=>h d (Cu hd)
theorem DD.getD{l:List Nat}(h:DD l)(k:Nat):l.getD k 0<65536:=by
 by_cases E:k<l.length
 . rw[Dj,Ai E];exact h _ (Ag E)
 grind
theorem tZ{l:List Nat}(h:DD l){k:Nat}(E:k<=l.length):cY (l.take k)<65536^k:=by
 have :=FX (h.take k)
 grind
theorem bNj:W=65536*65536:=rfl
theorem pow_even(m:Nat):65536^(2*m)=W^m:=by rw[bNj,Nat.pow_mul]
theorem pow_odd(m:Nat):65536^(2*m+1)=65536*W^m:=by rw[De,pow_even,Cc]
def qT(l:List Nat):List Nat:=l.flatMap fun w=>[w%65536,w / 65536]
theorem OF:∀l:List Nat,cY (qT l)=vK l
 |[]=>rfl
 |w::l=>by have K:=OF l;have e:qT (w::l)=w%65536::w / 65536::qT l:=rfl;rw[e,cY,cY,K,vK,W];omega
theorem SS:∀{l:List Nat},(∀w∈l,w<W)->DD (qT l)
 |[],_=>fun d hd=>by cases hd
 |w::l,h=>by
  have L:=h w Ay
  have I:w / 65536<65536:=by have :W=65536*65536:=rfl;omega
  intro d hd
  rcases Ba.1 hd with rfl|hd
  . omega
  rcases Ba.1 hd with rfl|hd
  . omega
  exact SS (fun w L=>h w (Ax _ L)) d hd
theorem Mt{v X m:Nat}(t:m<16)(J:v<W^16)(C:aT v m+X<W):(aV 16 v).set m (aT v m+X)=aV 16 (v+X*W^m):=by
 have U:LW 16 (aV 16 v):=⟨cW _ _,DT⟩;have O:=(U.set m C).eq;have Z:=wT (aV 16 v) m (aT v m+X) (by assumption);rw[kW t,fP J,Bn] at Z
 grind
theorem c7{v m c:Nat}(h:v<c*W^m):aT v m<c/\v / W^m<c:=by have :v / W^m<c:=(Cm (eB m)).2 h;exact⟨Bv (Nat.mod_le _ _) this,this⟩
theorem Yt{a b:List Nat}(I:DD a)(X:DD b){k:Nat}(h:cY (a.drop (k+1))=cY (b.drop (k+1)))(c:a.getD k 0<b.getD k 0):cY a<cY b:=by
 have split:∀(l:List Nat),DD l->∃r,r<65536^k/\cY l=r+65536^k*(l.getD k 0+65536*cY (l.drop (k+1))):=fun l U=>by
  by_cases E:k<l.length
  . refine⟨cY (l.take k),tZ U A0,?_⟩
    have e:l=l.take k++(l.getD k 0::l.drop (k+1)):=by simp_all
    have L:(l.take k).length=k:=by simp;omega
    conv=>lhs;rw[e]
    rw[xA,L,cY]
  refine⟨cY l,?_,?_⟩
  . exact Au (FX U) (Bu A1 A0)
  rw[Dj,Cr A0,Bl A0];simp[cY]
 obtain⟨s,Z,o⟩:=split b X;generalize cY (b.drop (k+1))=t at *;have :a.getD k 0+65536*t+1<=b.getD k 0+65536*t:=by omega
 have :=Dd (65536^k) this
 grind
theorem Vy{a b:List Nat}{k:Nat}(h:cY (a.drop (k+1))=cY (b.drop (k+1)))(z:a.getD k 0=b.getD k 0):cY (a.drop k)=cY (b.drop k):=by
 have split:∀(l:List Nat),cY (l.drop k)=l.getD k 0+65536*cY (l.drop (k+1)):=fun l=>by
  by_cases E:k<l.length
  . rw[Gb E,cY];grind
  rw[Bl A0,Bl A0,Dj,Cr A0];rfl
 grind
theorem aAx{a b:List Nat}{k c v:Nat}(h:v+65536^k*c=cY (a.take k)+cY (b.take k)):
 v+65536^k*((a.getD k 0+b.getD k 0+c)%65536)+65536^(k+1)*((a.getD k 0+b.getD k 0+c) / 65536)=cY (a.take (k+1))+cY (b.take (k+1)):=by
 have tk:∀l:List Nat,cY (l.take (k+1))=cY (l.take k)+65536^k*l.getD k 0:=fun l=>by
  by_cases E:k<l.length
  . exact NN E
  rw[Bd A0,Bd A0,Dj,Cr A0];simp
 generalize C:a.getD k 0+b.getD k 0+c=x;have e:65536^k*(x%65536)+65536^k*(65536*(x / 65536))=65536^k*x:=by grind[Nat.mul_add,Nat.mod_add_div]
 grind
end Go.iW
namespace Go.aH
section
variable {p:Nat->V} {N:Nat}
theorem vp(p:Nat->V)(a b c:Nat):bC (vec p c b) (vec p c a)=neg (bC (vec p a b) (vec p a c)):=by simp only[vec,bC,sub,neg];apply V.ext'<;>simp only <;>grind
theorem XD(u w:V):dot (bC u w) w=0:=by simp only[dot,bC];grind
theorem Rp{u w:V}(h:dot u w=0):dot (iC u) w=0:=by
 by_cases B:u=V0
 . subst B;rw[Te];simp[dot,V0]
 have O:=DB u w;rw[h] at O;exact fG (c:=(fY u:Int)) (by have :=tA B;omega) O
theorem fo(p:Nat->V)(a b c:Nat):fW p c b a=(neg (fW p a b c).1,-(fW p a b c).2):=by unfold fW;rw[vp p a b c,Lq,qN];have h:=Rp (XD (vec p a b) (vec p a c));rw[lD] at h;rw[show dot (iC (bC (vec p a b) (vec p a c))) (p c)=dot (iC (bC (vec p a b) (vec p a c))) (p a) by omega]
theorem uq{a b c:Nat}{q:V×Int}(h:q∈jM p c b a):q∈jM p a b c:=by
 unfold jM at h ⊢;rw[fo] at h;split at h
 . cases h
 rename_i s;rw[if_neg (fun e=>s (by rw[e];rfl))];simp only[Ba,Cn,Fg,neg_neg,Int.neg_neg] at h ⊢
 rcases h with h|h
 . exact .inr h
 exact .inl h
def jP(p:Nat->V)(N:Nat)(i j k:Nat)(K:List (V×Int)):Prop:=
 ∀a b c,a<b->b<c->c<N->tE i j k a b c->∀q∈jM p a b c,oR p N q.1 q.2->q∈K
theorem jP.zero:jP p N 0 0 0 []:=fun a b c _ _ _ h=>by unfold tE at h;omega
theorem jP.j0{i:Nat}{K:List (V×Int)}(h:jP p N i 0 0 K):jP p N i (i+1) 0 K:=fun a b c O Z B X q D F=>h a b c O Z B Zbb q D F
theorem jP.k0{i j:Nat}{K:List (V×Int)}(h:jP p N i j 0 K):jP p N i j (j+1) K:=fun a b c O Z B X q D F=>h a b c O Z B Zbb q D F
theorem jP.kN{i j:Nat}{K:List (V×Int)}(h:jP p N i j N K):jP p N i (j+1) 0 K:=fun a b c O Z B X q D F=>h a b c O Z B Zbb q D F
theorem jP.jN{i:Nat}{K:List (V×Int)}(h:jP p N i N 0 K):jP p N (i+1) 0 0 K:=fun a b c O Z B X q D F=>h a b c O Z B Zbb q D F
theorem jP.step{i j k:Nat}{K d:List (V×Int)}(h:jP p N i j k K)(M:∀q∈K,q∈d)(A:∀q∈jM p i j k,oR p N q.1 q.2->q∈d):jP p N i j (k+1) d:=fun a b c O Z B X q D F=>by
 by_cases e:a=i/\b=j/\c=k
 . obtain⟨rfl,rfl,rfl⟩:=e;exact A q D F
 exact M q (h a b c O Z B Zbb q D F)
theorem jP.all{K:List (V×Int)}(h:jP p N N 0 0 K)(hK:∀q∈K,oR p N q.1 q.2)(q:V×Int):q∈K↔oR p N q.1 q.2:=by refine⟨hK q,fun F=>?_⟩;obtain⟨i,j,k,O,Z,B,R⟩:=iB F;exact h k j i O Z B (.inl A0) q (uq R) F
end
section
variable {p:Nat->V} {N:Nat}
def okF(p:Nat->V)(N:Nat)(q:V×Int):Bool:=((List.range N).all fun k=>decide (dot q.1 (p k)<=q.2))&&(List.range N).any fun k=>decide (dot q.1 (p k)<q.2)
theorem o8{q:V×Int}:okF p N q=true↔(∀k,k<N->dot q.1 (p k)<=q.2)/\∃k,k<N/\dot q.1 (p k)<q.2:=by simp only[okF,Ak,Bi,Cz,Bb,Bs]
def ltV(a b:V):Bool:=decide (a.x<b.x)||(decide (a.x=b.x)&&(decide (a.y<b.y)||(decide (a.y=b.y)&&decide (a.z<b.z))))
theorem oi{a b:V}:ltV a b=true↔jC a b:=by simp only[ltV,jC,Eb,Ak,Bs]
def aQd:List (V×Int)->Bool
 |[]=>true
 |q::r=>(r.all fun x=>ltV q.1 x.1)&&aQd r
theorem qw:∀{S:List (V×Int)},aQd S=true->S.Pairwise fun a b=>jC a.1 b.1
 |[],_=>.nil
 |q::r,h=>by simp only[aQd,Ak,Bi] at h;exact Cj.2 ⟨fun x C=>oi.1 (h.1 x C),qw h.2⟩
def OH(p:Nat->V)(N:Nat)(S:List (V×Int)):Bool:=
 aQd S&&(S.all fun q=>okF p N q&&(List.range N).any fun i=>(List.range i).any fun j=>(List.range j).any fun k=>(jM p i j k).contains q)&&
 ((List.range N).all fun i=>(List.range i).all fun j=>(List.range j).all fun k=>(jM p i j k).all fun q=> !okF p N q||S.contains q)
theorem AP{S:List (V×Int)}(h:OH p N S=true):pS p N S:=by
 simp only[OH,Ak] at h;obtain⟨⟨O,Z⟩,B⟩:=h;refine⟨fun q=>⟨fun D=>?_,fun u=>?_⟩,qw O⟩
 . have :=Bi.1 Z q D;simp only[Ak,Cz,Bb] at this;obtain⟨a,i,F,j,Y,k,E,R⟩:=this;obtain⟨le,lt⟩:=o8.1 a;exact AU (i:=i) (j:=j) (k:=k) F A0 A0 (by simpa using R) le lt
 obtain⟨i,j,k,E,Y,F,R⟩:=iB u;simp only[Bi,Bb] at B;have :=B i F j Y k E q R;rw[o8.2 ⟨u.le,u.lt⟩] at this;simpa using this
def aHk(z:List Nat)(f:Nat->Nat):List Nat:=match z with
 |[]=>[]
 |s::_=>(List.range (match (List.range z.length).find? (fun i=>iter f (i+1) s==s) with|some i=>i+1|none=>0)).map fun i=>iter f i s
theorem aPd{n:V}{d:Int}{L:List Nat}(h:Poly p N n d L):L=aHk (iF p N n d) (tO n p (iF p N n d)):=by
 obtain⟨s,r,m,e,W,rfl⟩:=h.ex
 have a:(List.range (iF p N n d).length).find? (fun i=>iter (tO n p (iF p N n d)) (i+1) s==s)=some (m -1):=by have b:=W.pos;have c:=W.le;rw[List.find?_eq_some_iff_getElem];refine⟨by rw[show m -1+1=m by omega,Dr];exact W.back,m -1,by rw[Bt];omega,by rw[Gt],fun j Y=>?_⟩;rw[Gt];have :=W.first (j+1) A0 A0;simpa using this
 unfold aHk;generalize g:tO n p (iF p N n d)=f at *;generalize iF p N n d=z at *;subst e;simp only;rw[a];have b:=W.pos;rw[show(match some (m -1) with|some i=>i+1|none=>0)=m from by show m -1+1=m;omega]
end
end Go.aH
namespace Go.iW
def rq(w n k:Nat):Nat:=w%W^k*2^n / W^k
theorem aJo(w n:Nat):rq w n 0=0:=by simp[rq,Ih]
theorem aJm(w n k:Nat):rq w n k<2^n:=by unfold rq;rw[Cm (eB k),Cc];exact Nat.mul_lt_mul_of_pos_left (Bz _ (eB k)) (Gl A1)
theorem aQj{w n k:Nat}(h:w<W^k):rq w n k=w*2^n / W^k:=by simp[rq,Bk,h]
theorem Yr(w n k:Nat):w%W^(k+1)*2^n / W^k=rq w n k+aT w k*2^n:=by unfold rq;rw[mod_succ,Bn,Cf,Fj _ _ (eB k)]
theorem aJn(w n k:Nat):(rq w n k+aT w k*2^n) / W=rq w n (k+1):=by rw[<-Yr,Dn,<-De];rfl
theorem aNr(w n k:Nat):aT (w*2^n) k=(rq w n k+aT w k*2^n)%W:=by
 rw[<-Yr];unfold aT
 have e:w*2^n=w%W^(k+1)*2^n+W^k*(W*(w / W^(k+1)*2^n)):=by
  conv=>lhs;rw[<-Jv w (W^(k+1))]
  simp[Bn,De,Cf]
 rw[e,Fj _ _ (eB k),Nat.add_mul_mod_self_left]
theorem aQz(n:Nat)(h:n<=32):W=2^n*2^(32 -n):=by rw[<-Ee,show n+(32 -n)=32 by omega];rfl
theorem yd(w n k:Nat)(h:n<=32):aT (w / 2^n) k=(aT w (k+1)*W+aT w k) / 2^n%W:=by
 have Z:0<2^n:=Gl A1;have e:w / W^k=(w / W^(k+1+1)*W+aT w (k+1))*W+aT w k:=by rw[<-nQ w (k+1),<-nQ w k]
 show w / 2^n / W^k%W=_;rw[Dn,Cc,<-Dn,e,Bn,Bm];generalize w / W^(k+1+1)=x
 have C:x*W*W=2^n*(W*(x*2^(32 -n))):=by
  have Y:x*W=x*(2^n*2^(32 -n)):=by rw[<-aQz n h]
  grind
 rw[C,Ju Z,Ij]
def gsD(t2 t1 l D v2:Nat):Nat:=min (W -1) ((t2*W*W+t1*W+l) / (D*W+v2))
theorem aEt{t2 t1 l D v2:Nat}(J:0<D)(G:l<W):gsD t2 t1 l D v2<=(t2*W+t1) / D:=by
 refine Aw (Nat.min_le_right _ _) ?_;rw[Nat.le_div_iff_mul_le J];have O:=Ip (t2*W*W+t1*W+l) (D*W+v2);generalize (t2*W*W+t1*W+l) / (D*W+v2)=x at *;rw[Gc,<-Cf] at O;have Z:x*D*W<(t2*W+t1+1)*W:=by rw[Bn,Bn,Fh];omega
 have :=Nat.lt_of_mul_lt_mul_right Z;omega
theorem l5{t2 t1 l D v2 d r:Nat}(J:0<D)(z:d*D+r=t2*W+t1)(hc:W<=d\/r*W+l<d*v2):gsD t2 t1 l D v2<d:=by
 have hW:=qJ
 rcases hc with hc|hc
 . exact Bv (Ik _ _) A0
 refine Bv (Nat.min_le_right _ _) ?_;have a:0<D*W+v2:=by grind
 rw[Cm a,<-Bn,<-z,Gc,<-Cf,Bn];omega
theorem aEs{t2 t1 l D v2 d r:Nat}(J:0<D)(O:t1<W)(Z:v2<W)(b:t2<=D)(z:d*D+r=t2*W+t1)(c:gsD t2 t1 l D v2<=d)(hc:W<=r\/d<W/\d*v2<=r*W+l):d=gsD t2 t1 l D v2:=by
 have hW:=qJ;have a:0<D*W+v2:=by have :=Hn J hW;omega
 refine Nat.le_antisymm ?_ c
 have key:d<W/\d*v2<=r*W+l:=by
  rcases hc with hc|hc
  . have hd:d<W:=by
     have :d*D<W*D:=(by have :=Bc W b;rw[Cc D] at this;omega);simp_all
    have a1:d*v2<=W*W:=Az (Nat.le_of_lt hd) (Nat.le_of_lt Z);have y:W*W<=r*W:=Bc W hc;omega
  omega
 refine Nat.le_min.2 ⟨by omega,?_⟩;rw[Nat.le_div_iff_mul_le a,<-Bn,<-z,Gc,<-Cf,Bn];omega
theorem zL{u k:Nat}(h:u<W^(k+1)):aT u k=u / W^k:=by exact Bk (by rw[Cm (eB k),Cc,<-De];omega)
theorem aZg{u n j:Nat}(A:2<=n)(B:u<W^(j+n+1)):aT u (j+n)*W*W+aT u (j+n -1)*W+aT u (j+n -2)=u / W^(j+n -2):=by
 have T:=nQ u (j+n -2);have o:=nQ u (j+n -1);rw[show j+n -1+1=j+n by omega,<-zL B] at o
 grind
theorem aNb{v n:Nat}(A:2<=n)(J:v<W^n):aT v (n -1)*W+aT v (n -2)=v / W^(n -2):=by
 have T:=nQ v (n -2);have o:n -2+1=n -1:=by omega
 have R:v<W^(n -1+1):=by grind
 simp_all[o,zL,R]
theorem bEj{u v n j:Nat}(A:2<=n)(J:v<W^n)(Z:W^(n -1)<=v)(B:u<v*W^(j+1)):
 u / (v*W^j)<=gsD (aT u (j+n)) (aT u (j+n -1)) (aT u (j+n -2)) (aT v (n -1)) (aT v (n -2))/\
 gsD (aT u (j+n)) (aT u (j+n -1)) (aT u (j+n -2)) (aT v (n -1)) (aT v (n -2))<=u / (v*W^j)+1/\aT u (j+n)<=aT v (n -1)/\0<aT v (n -1)/\u<W^(j+n+1):=by
 have hul:u<W^(j+n+1):=by refine Au B ?_;rw[show j+n+1=n+(j+1) by omega,Ee W n (j+1)];exact Bc _ (Nat.le_of_lt J)
 have c:0<v:=Au (eB _) Z;have b:0<v*W^j:=Hn c (eB j);have U:aT v (n -1)=v / W^(n -1):=zL (by rw[show n -1+1=n by omega];exact J)
 have D:u / (v*W^j)<W:=by rw[Cm b,Cc W,Cf,<-De];exact B
 have h:=Ip u (v*W^j);have i:W^(n -2)*W^j=W^(j+n -2):=by rw[<-Ee];congr 1;omega
 unfold gsD;rw[aZg A hul,aNb A J];have l:v / W^(n -2)*W^(n -2)<=v:=Ip _ _;have k:=Nat.lt_div_mul_add (eB (n -2)) (a:=v);have f:0<v / W^(n -2):=Jj (Aw (Bu qJ A0) Z) (eB _);refine⟨Nat.le_min.2 ⟨by omega,?_⟩,?_,?_,?_,hul⟩
 . rw[Nat.le_div_iff_mul_le f,Nat.le_div_iff_mul_le (eB _)];refine Aw ?_ h;rw[<-i,Cf,<-Cf _ (W^(n -2))];exact Dd _ (Bc _ l)
 . generalize d:min (W -1) (u / W^(j+n -2) / (v / W^(n -2)))=g;have o:g<=W -1:=by rw[<-d];exact Ik _ _
   have e:g*(v / W^(n -2))<=u / W^(j+n -2):=by rw[<-Nat.le_div_iff_mul_le f,<-d];exact Nat.min_le_right _ _
   rw[Nat.le_div_iff_mul_le (eB _),<-i,Cf,<-Cf _ (W^(n -2))] at e;generalize v / W^(n -2)*W^(n -2)=V at *
   have a1:g*(v*W^j)<=g*(V*W^j)+g*(W^(n -2)*W^j):=by rw[<-Gc,<-Bn];exact Dd _ (Bc _ (Nat.le_of_lt k))
   have y:g*(W^(n -2)*W^j)<=v*W^j:=by rw[<-Cf];refine Bc _ (Aw ?_ Z);have :W^(n -1)=W*W^(n -2):=(by rw[<-Jl];congr 1;omega);rw[this];exact Bc _ A0
   have Q:(g -1)*(v*W^j)<=u:=(by rw[Nat.sub_mul,Fh];omega);have :=(Nat.le_div_iff_mul_le b).2 Q;omega
 . have m:aT u (j+n)=u / W^(j+n):=zL hul;have O:=Nat.lt_div_mul_add (eB (n -1)) (a:=v)
   have :u / W^(j+n)<v / W^(n -1)+1:=by rw[Cm (eB _)];refine Au B ?_;have Y:W^(j+n)=W^(n -1)*W^(j+1):=(by rw[<-Ee];congr 1;omega);rw[Y,<-Cf,Bn,Fh];exact Bc _ (Nat.le_of_lt O)
   omega
 rw[U];exact Jj Z (eB _)
def tv(o:List Nat)(u p:Nat):Prop:=∀k,p<=k->o.getD k 0=aT u k
theorem tv.set{o:List Nat}{u p d:Nat}(h:tv o u p)(m:p<o.length):tv (o.set p d) u (p+1):=fun k E=>by rw[XT m,if_neg A0];exact h k A0
theorem tv.lt{m:Nat}{o:List Nat}{u p:Nat}(S:LW m o)(h:tv o u p)(B:u<W^p):vK o<W^p:=by refine JE S.lt fun k O Z=>?_;rw[S.aT,h k O];exact zK B O
theorem RO{p x:Nat}:x / W*W^(p+1)+x%W*W^p=x*W^p:=by rw[De,Cc (W^p),<-Cf,<-Bn,Cc (x / W),Dt]
def rh(x lo b:Nat):Nat:=if x<lo+b then x+W -lo -b else x -lo -b
def Vt(x lo b:Nat):Nat:=if x<lo+b then 1 else 0
theorem aJi{x lo b:Nat}(C:x<W)(h:lo+b<=W):rh x lo b+lo+b=x+Vt x lo b*W/\rh x lo b<W/\Vt x lo b<=1:=by grind[rh,Vt]
theorem aAv{o:List Nat}{u v d i j c b:Nat}(S:LW 17 o)(m:j+i<17)(X:b<=1)(t:tv o u (j+i))
 (z:vK o+d*(v%W^i)*W^j=u+(c+b)*W^(j+i)):
 let e:=c+d*aT v i;let lo:=e%W;let o':=o.set (j+i) (rh (aT u (j+i)) lo b)
 LW 17 o'/\tv o' u (j+(i+1))/\vK o'+d*(v%W^(i+1))*W^j=u+(e / W+Vt (aT u (j+i)) lo b)*W^(j+(i+1)):=by
 intro e lo o';have f:lo<W:=Bz _ qJ;obtain⟨T,a,C⟩:=aJi (dC u (j+i)) (lo:=lo) (b:=b) A0;refine⟨S.set _ a,t.set Zb6,?_⟩;have O:=wT o (j+i) (rh (aT u (j+i)) lo b) Zb6;rw[t _ (Ad _)] at O;have Z:e / W*W^(j+i+1)+lo*W^(j+i)=e*W^(j+i):=RO
 have B:d*(v%W^(i+1))*W^j=d*(v%W^i)*W^j+d*aT v i*W^(j+i):=by rw[mod_succ,Gc,Bn,Ee];simp only[Cc,Nat.mul_left_comm,Cf]
 have h4:e*W^(j+i)=c*W^(j+i)+d*aT v i*W^(j+i):=Bn ..;have M:(rh (aT u (j+i)) lo b+lo+b)*W^(j+i)=(aT u (j+i)+Vt (aT u (j+i)) lo b*W)*W^(j+i):=by rw[T]
 have w:Vt (aT u (j+i)) lo b*W*W^(j+i)=Vt (aT u (j+i)) lo b*W^(j+i+1):=by rw[Cf,<-Jl]
 rw[<-Bm j i 1];simp only[Bn] at M z ⊢;show vK (o.set _ _)+_=_;omega
def tkN(u v n j d:Nat):Nat:=if d*v*W^j<=u then u -d*v*W^j else u+W^(j+n+1) -d*v*W^j
theorem aJg{o:List Nat}{u v d n j c b:Nat}(S:LW 17 o)(m:j+n<17)(X:c+b<=W)(t:tv o u (j+n))(J:v<W^n)(B:u<W^(j+n+1))
 (z:vK o+d*(v%W^n)*W^j=u+(c+b)*W^(j+n)):
 o.set (j+n) (rh (aT u (j+n)) c b)=aV 17 (tkN u v n j d)/\(Vt (aT u (j+n)) c b=1↔u<d*v*W^j)/\tkN u v n j d<W^(j+n+1):=by
 obtain⟨T,e,C⟩:=aJi (dC u (j+n)) X;have D:=S.set (j+n) e;have O:=wT o (j+n) (rh (aT u (j+n)) c b) Zb6;rw[t _ (Ad _)] at O;rw[Bk J] at z;have a:=t.set (d:=rh (aT u (j+n)) c b) Zb6;have r:=a.lt D B;have M:(rh (aT u (j+n)) c b+c+b)*W^(j+n)=(aT u (j+n)+Vt (aT u (j+n)) c b*W)*W^(j+n):=by rw[T]
 have w:Vt (aT u (j+n)) c b*W*W^(j+n)=Vt (aT u (j+n)) c b*W^(j+n+1):=by rw[Cf,<-Jl]
 simp only[Bn] at M z;have key:vK (o.set (j+n) (rh (aT u (j+n)) c b))+d*v*W^j=u+Vt (aT u (j+n)) c b*W^(j+n+1):=by omega
 have y:vK (o.set (j+n) (rh (aT u (j+n)) c b))=tkN u v n j d/\(Vt (aT u (j+n)) c b=1↔u<d*v*W^j):=by
  unfold tkN
  rcases Ep 0 (Vt (aT u (j+n)) c b) with h|h
  . rw[show Vt (aT u (j+n)) c b=1 by omega,Fh] at key;rw[if_neg A0];exact⟨by omega,by omega⟩
  rw[show Vt (aT u (j+n)) c b=0 by omega,Gq] at key;rw[if_pos A0];exact⟨by omega,by omega⟩
 exact⟨by rw[<-y.1];exact D.eq,y.2,by rw[<-y.1];exact r⟩
theorem xe{o:List Nat}{u v i j c:Nat}(S:LW 17 o)(m:j+i<17)(t:tv o u (j+i))
 (z:vK o+c*W^(j+i)=u+v%W^i*W^j):
 let s:=aT u (j+i)+aT v i+c;let o':=o.set (j+i) (s%W)
 LW 17 o'/\tv o' u (j+(i+1))/\vK o'+s / W*W^(j+(i+1))=u+v%W^(i+1)*W^j:=by
 intro s o';refine⟨S.set _ (Bz _ qJ),t.set Zaq,?_⟩;have O:=wT o (j+i) (s%W) Zaq;rw[t _ (Ad _)] at O;have Z:s / W*W^(j+i+1)+s%W*W^(j+i)=s*W^(j+i):=RO
 have B:v%W^(i+1)*W^j=v%W^i*W^j+aT v i*W^(j+i):=by grind[mod_succ,Nat.add_mul,Nat.pow_add,Nat.mul_comm,Nat.mul_left_comm,Nat.mul_assoc]
 grind
theorem aEq{o:List Nat}{u v n j c:Nat}(S:LW 17 o)(m:j+n<17)(t:tv o u (j+n))(J:v<W^n)(B:u<W^(j+n+1))
 (z:vK o+c*W^(j+n)=u+v%W^n*W^j):
 o.set (j+n) ((aT u (j+n)+c)%W)=aV 17 ((u+v*W^j)%W^(j+n+1)):=by
 have D:=S.set (j+n) (d:=(aT u (j+n)+c)%W) (Bz _ qJ);have O:=wT o (j+n) ((aT u (j+n)+c)%W) Zaq;rw[t _ (Ad _)] at O;rw[Bk J] at z;have a:=t.set (d:=(aT u (j+n)+c)%W) Zaq;have r:=a.lt D B;have Z:(aT u (j+n)+c) / W*W^(j+n+1)+(aT u (j+n)+c)%W*W^(j+n)=(aT u (j+n)+c)*W^(j+n):=RO;rw[Bn] at Z;have key:u+v*W^j=vK (o.set (j+n) ((aT u (j+n)+c)%W))+(aT u (j+n)+c) / W*W^(j+n+1):=by omega
 rw[key,Nat.add_mul_mod_self_right,Bk r];exact D.eq
theorem aHt{A v n j:Nat}(i:2<=n)(J:v<W^n)(Z:W^(n -1)<=v):
 let u:=A%(v*W^(j+1));let d:=gsD (aT u (j+n)) (aT u (j+n -1)) (aT u (j+n -2)) (aT v (n -1)) (aT v (n -2))
 (d*v*W^j<=u->u -d*v*W^j=A%(v*W^j)/\d=aT (A / v) j)/\
 (u<d*v*W^j->(u+W^(j+n+1) -d*v*W^j+v*W^j)%W^(j+n+1)=A%(v*W^j)/\0<d/\d -1=aT (A / v) j):=by
 intro u d;have c:0<v:=Au (eB _) Z;have b:0<v*W^j:=Hn c (eB j);have B:u<v*W^(j+1):=Bz _ (Hn c (eB _));obtain⟨g,e,m,R,k⟩:=bEj i J Z B
 have eq:u / (v*W^j)=aT (A / v) j:=by show A%(v*W^(j+1)) / (v*W^j)=_;rw[De,<-Cf,Nat.mod_mul_right_div_self,<-Dn];rfl
 have f:u%(v*W^j)=A%(v*W^j):=by exact Nat.mod_mod_of_dvd _ ⟨W,by rw[De,Cf]⟩
 have l:=Dt u (v*W^j);have p:=Bz u b;rw[eq,f] at l;rw[f] at p;rw[eq] at g e;generalize aT (A / v) j=q at *;have T:∀x,x*v*W^j=v*W^j*x:=fun x=>by rw[Cf,Cc]
 refine⟨fun h=>?_,fun h=>?_⟩
 . have :d=q:=by
    refine Nat.le_antisymm ?_ g
    rcases Ep q d with h1|h1
    . have :v*W^j*(q+1)<=v*W^j*d:=Dd _ h1;rw[Gc,Df] at this;rw[T] at h;omega
    exact h1
   rw[this] at h ⊢;rw[T] at h ⊢;exact⟨by omega,rfl⟩
 have :d=q+1:=by
  refine Nat.le_antisymm e ?_
  rcases Ep q d with h1|h1
  . exact h1
  have :v*W^j*d<=v*W^j*q:=Dd _ h1;rw[T] at h;omega
 rw[this] at h ⊢;rw[T,Gc,Df] at h ⊢
 have U:v*W^j<=W^(j+n+1):=by rw[show j+n+1=n+j+1 by omega,De,Ee];refine Aw (Bc _ (Nat.le_of_lt J)) ?_;exact Nat.le_mul_of_pos_right _ qJ
 refine⟨?_,by omega,by omega⟩;have o:u+W^(j+n+1) -(v*W^j*q+v*W^j)+v*W^j=A%(v*W^j)+W^(j+n+1):=by omega
 have a:A%(v*W^j)<W^(j+n+1):=Au p U;rw[o,Nat.add_mod_right,Bk a]
theorem zm{a b n m s:Nat}(I:a<W^m)(c:n<=m)(q:W^(n -1)<=b)(A:0<n):a*2^s<b*2^s*W^(m -n+1):=by
 have O:W^m<=b*W^(m -n+1):=by
  have :W^m=W^(n -1)*W^(m -n+1):=by rw[<-Ee];congr 1;omega
  rw[this];exact Bc _ q
 rw[Nat.mul_right_comm];exact Nat.mul_lt_mul_of_pos_right (Au I O) (Gl A1)
end Go.iW
namespace Go.aH
section
variable {p:Nat->V} {N:Nat} {n n':V} {d d':Int}
def dK{α:Type}(f:α->Int):List α->Int
 |[]=>0
 |x::l=>f x+dK f l
theorem EI{α:Type}(f:α->Int):∀l m:List α,dK f (l++m)=dK f l+dK f m
 |[],m=>by simp[dK]
 |x::l,m=>by simp only[Fe,dK,EI f l m];omega
theorem aAu{α:Type}(f:α->Int){l m:List α}(h:l.Perm m):dK f l=dK f m:=by
 induction h with
 |nil=>rfl
 |cons x _ K=>simp[dK,K]
 |swap x y l=>grind[dK]
 |trans _ _ O Z=>omega
theorem EJ{α j:Type}(g:α->j)(f:j->Int):∀l:List α,dK f (l.map g)=dK (fun x=>f (g x)) l
 |[]=>rfl
 |x::l=>by simp only[Bw,dK,EJ g f l]
theorem BI{α j:Type}(g:α->List j)(f:j->Int):∀l:List α,dK f (l.flatMap g)=dK (fun x=>dK f (g x)) l
 |[]=>rfl
 |x::l=>by simp only[El,dK,EI,BI g f l]
theorem kY{α:Type}{f g:α->Int}:∀{l:List α},(∀x∈l,f x=g x)->dK f l=dK g l
 |[],_=>rfl
 |x::l,h=>by simp only[dK,h x A3,kY (l:=l) fun y Q=>h y (Ax _ Q)]
theorem zZ{α:Type}(f g:α->Int):∀l:List α,dK (fun x=>f x+g x) l=dK f l+dK g l
 |[]=>rfl
 |x::l=>by simp only[dK,zZ f g l];omega
theorem vS{α:Type}(c:Int)(f:α->Int):∀l:List α,dK (fun x=>c*f x) l=c*dK f l
 |[]=>by simp[dK]
 |x::l=>by simp only[dK,vS c f l,Int.mul_add]
theorem FU{α:Type}{f g:α->Int}:∀{l:List α},(∀x∈l,f x<=g x)->dK f l<=dK g l
 |[],_=>Int.le_refl _
 |x::l,h=>by
  have Z:=FU (l:=l) fun y Q=>h y (by grind)
  grind[dK]
theorem FV{α:Type}:∀l:List α,dK (fun _=>0) l=0
 |[]=>rfl
 |x::l=>by simp only[dK,FV l];rfl
theorem vT{α:Type}{f:α->Int}:∀{l:List α},(∀x∈l,0<=f x)->(∃x∈l,0<f x)->0<dK f l
 |[],_,⟨_,h,_⟩=>by grind
 |x::l,h,⟨y,hy,hp⟩=>by
  have O:=h x A3
  have Z:0<=dK f l:=by have :=FU (f:=fun _=>0) (g:=f) (l:=l) fun y hy=>h y (by grind);have e:=FV l;omega
  simp only[dK]
  rcases Ba.1 hy with rfl|hy
  . omega
  have :=vT (fun y hy=>h y (by grind)) ⟨y,hy,hp⟩;omega
def ky(L:List Nat):List (Nat×Nat):=(List.range L.length).map fun i=>(L.getD i 0,L.getD ((i+1)%L.length) 0)
theorem Oq{L:List Nat}{a b:Nat}:(a,b)∈ky L↔Next L a b:=by
 unfold ky Next;simp only[Be,Bb,An];constructor
 . rintro⟨i,F,rfl,rfl⟩;have Z:(i+1)%L.length<L.length:=Bz _ A0;exact⟨i,F,by grind,by grind⟩
 grind
theorem aMo(L:List Nat):(ky L).map Prod.fst=L:=by
 unfold ky;refine Et A3 fun i O Z=>?_
 grind
theorem Way.inj{z:List Nat}{s m:Nat}{f:Nat->Nat}(W:Way n p z s m f):∀i j,i<j->j<m->iter f i s≠iter f j s
 |0,j,h,hj=>fun e=>W.first j h hj e.symm
 |i+1,j+1,h,hj=>fun e=>by have O:=(W.side i).2;have Z:=(W.side j).2;rw[<-e] at Z;exact W.inj i j A0 A0 (O.inj W.H (W.side i).1 (W.side j).1 Z)
theorem Poly.nodup{L:List Nat}(h:Poly p N n d L):L.Nodup:=by obtain⟨s,r,m,e,W,rfl⟩:=h.ex;rw[List.nodup_iff_pairwise_ne,Ev];refine Gf ?_ Hw;intro a b I X j;exact W.inj a b j (Bb.1 X)
theorem wa{L:List Nat}(h:L.Nodup):(ky L).Nodup:=by have e:=aMo L;rw[<-e,List.nodup_iff_pairwise_ne,Ev] at h;exact h.imp fun s e=>s (Al Prod.fst e)
theorem NO(c:Nat)(v:V):fY (smul c v)=c*fY v:=by simp only[fY,smul,Int.gcd_mul_left,Cs];rw[show((c*Int.gcd v.y v.z:Nat):Int)=(c:Int)*(Int.gcd v.y v.z:Int) by simp,Int.gcd_mul_left,Cs]
theorem aBa{v:V}(h:v≠V0):fY (iC v)=1:=by have e:=Al fY (FM v);rw[NO] at e;have m:=tA h;exact Nat.eq_of_mul_eq_mul_left m A0
theorem oR.one(F:oR p N n d):fY n=1:=by obtain⟨a,b,c,_,_,_,O,Z,_⟩:=F.jw;rw[Z];exact aBa O
theorem aIl{u v:V}(B:fY u=1)(J:fY v=1){a b:Int}(I:0<a)(X:0<b)(h:smul a u=smul b v):u=v:=by obtain⟨x,rfl⟩:∃x:Nat,a=x:=⟨a.toNat,by omega⟩;obtain⟨y,rfl⟩:∃y:Nat,b=y:=⟨b.toNat,by omega⟩;have e:=Al fY h;rw[NO,NO,B,J,Df,Df] at e;subst e;exact rD A0 h
theorem oR.aTi(F:oR p N n d)(A:MN p N){a b:Nat}(I:a∈iF p N n d)(h:Sd n p (iF p N n d) a b):∃z∈iF p N n d,0<dL n (vec p a b) (vec p a z):=by obtain⟨s,r,j⟩:=F.RZ.head;obtain⟨m,W⟩:=F.RZ.way A j;obtain⟨i,_,rfl⟩:=W.cover I h;have X:=(W.side i).2.uniq W.H (W.side i).1 h;have :=W.aLu F.RZ i;rw[X] at this;exact⟨_,(W.side (i+2)).1,this⟩
theorem qu(n e u v:V)(O:dot n u=0)(Z:dot n e=0)(B:dot v e=0):dot n n*dot e e*dot v u=dL n e u*dL v n e:=by
 simp only[dL,dot,bC] at *
 grind
theorem bMu(e u v:V)(O:dot u e=0)(Z:dot v e=0):smul (dot e e) (bC u v)=smul (dL e u v) e:=by grind[dL,dot,bC,smul,V.mk.injEq]
theorem aTe(u v:V)(h:bC u v=V0)(w:V):dot u u*dot v w=dot u v*dot u w:=by grind[dot,bC,V0,V.mk.injEq]
theorem bMv(u v:V)(h:bC u v=V0):smul (dot u v) u=smul (dot u u) v:=by grind[dot,bC,smul,V0,V.mk.injEq]
theorem wb(F:oR p N n d)(v:oR p N n' d')(A:MN p N){a b:Nat}(I:a∈iF p N n d)(h:Sd n p (iF p N n d) a b)(W:a∈iF p N n' d')(M:Sd n' p (iF p N n' d') a b):n=n':=by
 have H:=F.RZ.pl A;have H':=v.RZ.pl A;have O:=(cJ.1 I).2;have j:=(cJ.1 W).2;obtain⟨z,s,q⟩:=F.aTi A I h;obtain⟨y,Q,r⟩:=v.aTi A W M;have i:=cM (H.ne I h.1 h.2.1);have T:=H.pl a I b h.1;have o:=H'.pl a W b M.1;have C:=H.pl a I z s;have B:=H'.pl a W y Q;have L:dot n' (vec p a z)<=0:=by rw[lD];have :=v.le z (cJ.1 s).1;omega
 have t:dot n (vec p a y)<=0:=by rw[lD];have :=F.le y (cJ.1 Q).1;omega
 have m:=cM H.hn;have l:=cM H'.hn;obtain⟨k,E,x⟩:=F.lt;have Z:dot n (vec p a k)<0:=by rw[lD];omega
 have g:dot n' (vec p a k)<=0:=by rw[lD];have :=v.le k E;omega
 have o1:=F.one;have o2:=v.one;generalize vec p a b=e at *;generalize vec p a z=u at *;generalize vec p a y=w at *;have s1:=qu n e u n' C T o;have s2:=qu n' e w n B o T
 have p1:dL n' n e<=0:=by
  rcases Int.lt_or_le 0 (dL n' n e) with c|c
  . have q1:=En q c;have q2:dot n n*dot e e*dot n' u<=0:=Int.mul_nonpos_of_nonneg_of_nonpos (Fv (En m i)) L;omega
  exact c
 have p2:dL n n' e<=0:=by
  rcases Int.lt_or_le 0 (dL n n' e) with c|c
  . have q1:=En r c;have q2:dot n' n'*dot e e*dot n w<=0:=Int.mul_nonpos_of_nonneg_of_nonpos (Fv (En l i)) t;omega
  exact c
 have P:dL n' n e= -dL n n' e:=by simp only[dL,dot,bC];grind
 have X:dL e n n'=dL n n' e:=by simp only[dL,dot,bC];grind
 have D:dL e n n'=0:=by omega
 have f:=bMu e n n' T o;rw[D,smul_zero] at f;have R:bC n n'=V0:=rD (c:=dot e e) A0 (by rw[f];simp[smul,V0]);have k1:=aTe n n' R (vec p a k)
 have J:0<dot n n':=by
  rcases Int.lt_or_le 0 (dot n n') with c|c
  . exact c
  have K:dot n n'≠0:=fun G=>by have :=aTe n n' R n';rw[G,Js] at this;have :=En m l;omega
  have q1:0<dot n n'*dot n (vec p a k):=Je A0 Z;have q2:dot n n*dot n' (vec p a k)<=0:=Int.mul_nonpos_of_nonneg_of_nonpos (Fv m) g;omega
 exact aIl o1 o2 J m (bMv n n' R)
structure Ob (p:Nat->V) (N:Nat) (K:List ((V×Int)×List Nat)):Prop where
 fl:pS p N (K.map Prod.fst)
 po:∀e∈K,Poly p N e.1.1 e.1.2 e.2
def IG(K:List ((V×Int)×List Nat)):List (Nat×Nat):=K.flatMap fun e=>ky e.2
theorem Ob.oa{K:List ((V×Int)×List Nat)}(h:Ob p N K){e:(V×Int)×List Nat}(z:e∈K):oR p N e.1.1 e.1.2:=
 (h.fl.mem e.1).1 (List.mem_map_of_mem z)
theorem Ob.nodup{K:List ((V×Int)×List Nat)}(h:Ob p N K)(A:MN p N):(IG K).Nodup:=by
 rw[List.nodup_iff_pairwise_ne];unfold IG;rw[List.pairwise_flatMap];refine⟨fun e z=>?_,?_⟩
 . have :=wa (h.po e z).nodup
   grind
 have M:=h.fl.SL;rw[Ev] at M;refine Gf ?_ M;rintro e f z c r ⟨a,b⟩ C ⟨s,k⟩ Q j;cases j;rw[Oq] at C Q;obtain⟨u,G⟩:=(h.po e z).lQ.1 C;obtain⟨d,y⟩:=(h.po f c).lQ.1 Q;have :=wb (h.oa z) (h.oa c) A u G d y;rw[this] at r;exact jC.nv _ r
theorem Ob.back{K:List ((V×Int)×List Nat)}(h:Ob p N K)(A:MN p N){a b:Nat}(j:(a,b)∈IG K):(b,a)∈IG K:=by unfold IG at *;rw[Ec] at *;obtain⟨e,z,C⟩:=j;obtain⟨n',d',g,v,x,d⟩:=(h.po e z).back A (h.oa z) (Oq.1 C);obtain⟨f,i,k⟩:=Be.1 ((h.fl.mem (n',d')).2 v);have c:=h.po f i;rw[k] at c;rw[x.uniq c] at d;exact⟨f,i,Oq.2 d⟩
theorem Ob.closed{K:List ((V×Int)×List Nat)}(h:Ob p N K)(A:MN p N)(g:Nat->Nat->Int)(d:∀a b,g b a= -g a b):dK (fun e=>dK (fun x=>g x.1 x.2) (ky e.2)) K=0:=by
 rw[<-BI (fun e:(V×Int)×List Nat=>ky e.2) (fun x=>g x.1 x.2)];have hd:=h.nodup A
 have m:(IG K).Perm ((IG K).map Prod.swap):=by
  rw[List.perm_ext_iff_of_nodup hd]
  . rintro⟨a,b⟩;rw[Be];constructor
    . intro C;exact⟨(b,a),h.back A C,rfl⟩
    rintro⟨⟨x,y⟩,C,e⟩;cases e;exact h.back A C
  rw[List.nodup_iff_pairwise_ne] at *;rw[Ev];exact hd.imp fun s e=>s (by have :=Al Prod.swap e;simpa using this)
 have T:=aAu (fun x:Nat×Nat=>g x.1 x.2) m;rw[EJ] at T
 have o:dK (fun x:Nat×Nat=>g x.swap.1 x.swap.2) (IG K)= -dK (fun x:Nat×Nat=>g x.1 x.2) (IG K):=by
  have :dK (fun x:Nat×Nat=>g x.swap.1 x.swap.2) (IG K)=dK (fun x:Nat×Nat=>(-1)*g x.1 x.2) (IG K):=kY fun x _=>by show g x.2 x.1=_;rw[d];omega
  rw[this,vS];omega
 show dK _ (IG K)=0;omega
end
section
variable {p:Nat->V} {N:Nat} {n n':V} {d d':Int}
def kZ(L:List Nat):List (Nat×Nat×Nat):=(List.range (L.length -2)).map fun k=>(L.getD 0 0,L.getD (k+1) 0,L.getD (k+2) 0)
theorem JR{f:Nat->Int}(m:Nat):dK f (List.range (m+1))=dK f (List.range m)+f m:=by simp[Dh,EI,dK]
theorem XK(v:Nat->Nat)(g:Nat->Nat->Int)(d:∀a b,g b a= -g a b):∀j,dK (fun k=>g (v 0) (v (k+1))+g (v (k+1)) (v (k+2))+g (v (k+2)) (v 0)) (List.range j)=dK (fun i=>g (v i) (v (i+1))) (List.range (j+1))+g (v (j+1)) (v 0)
 |0=>by grind[dK,List.range,List.range.loop]
 |j+1=>by
  rw[JR,XK v g d j,JR (j+1)]
  grind
theorem aMt{L:List Nat}(f:2<=L.length)(g:Nat->Nat->Int)(d:∀a b,g b a= -g a b):dK (fun t=>g t.1 t.2.1+g t.2.1 t.2.2+g t.2.2 t.1) (kZ L)=dK (fun x=>g x.1 x.2) (ky L):=by obtain⟨j,Y⟩:∃j,L.length=j+2:=⟨L.length -2,by omega⟩;unfold kZ ky;rw[EJ,EJ,Y,show j+2 -2=j by omega,JR (j+1)];rw[XK (fun i=>L.getD i 0) g d j,Nat.mod_self];congr 1;refine kY fun i F=>?_;have :=Bb.1 F;rw[Bk A0]
theorem Ob.Vu{K:List ((V×Int)×List Nat)}(h:Ob p N K)(A:MN p N)(U:∀e∈K,2<=e.2.length)(T j:V->V->V->Int)(g:V->V->Int)(d:∀a b,g b a= -g a b)(i:∀a b c,T a b c=j a b c+(g a b+g b c+g c a)):
 dK (fun e=>dK (fun t=>T (p t.1) (p t.2.1) (p t.2.2)) (kZ e.2)) K=dK (fun e=>dK (fun t=>j (p t.1) (p t.2.1) (p t.2.2)) (kZ e.2)) K:=by
 have f:∀e∈K,dK (fun t=>T (p t.1) (p t.2.1) (p t.2.2)) (kZ e.2)=dK (fun t=>j (p t.1) (p t.2.1) (p t.2.2)) (kZ e.2)+dK (fun x=>g (p x.1) (p x.2)) (ky e.2):=fun e z=>by
  rw[<-aMt (U e z) (fun a b=>g (p a) (p b)) (fun a b=>d _ _),<-zZ]
  grind
 rw[kY f,zZ,h.closed A (fun a b=>g (p a) (p b)) (fun a b=>d _ _),Int.add_zero]
def D3(a b c:V):Int:=dot (bC a b) c
theorem WV(P a b c:V):D3 a b c=D3 (sub a P) (sub b P) (sub c P)+(D3 P a b+D3 P b c+D3 P c a):=by simp only[D3,dot,bC,sub];grind
theorem UD(P a b:V):D3 P b a= -D3 P a b:=by grind[D3,dot,bC]
theorem aBx(u P a b c:V):D3 a b c*dot u (add (add a b) c)=D3 (sub a P) (sub b P) (sub c P)*dot u (add (add (add a b) c) P)+(D3 P a b*dot u (add (add P a) b)+D3 P b c*dot u (add (add P b) c)+D3 P c a*dot u (add (add P c) a)):=by simp only[D3,dot,bC,sub,add];grind
theorem aBk{n a b c:V}(X:dot n (sub b a)=0)(R:dot n (sub c a)=0)(P:V):dot n n*D3 (sub a P) (sub b P) (sub c P)=dL n (sub b a) (sub c a)*(dot n a -dot n P):=by simp only[D3,dL,dot,bC,sub] at *;grind
theorem Poly.jw{L:List Nat}(A:MN p N)(F:oR p N n d)(h:Poly p N n d L):3<=L.length/\∀k,k<L.length -2->
 L.getD 0 0∈iF p N n d/\L.getD (k+1) 0∈iF p N n d/\L.getD (k+2) 0∈iF p N n d/\0<=dL n (vec p (L.getD 0 0) (L.getD (k+1) 0)) (vec p (L.getD 0 0) (L.getD (k+2) 0))/\
 (k=0->0<dL n (vec p (L.getD 0 0) (L.getD (k+1) 0)) (vec p (L.getD 0 0) (L.getD (k+2) 0))):=by
 obtain⟨s,r,m,e,W,rfl⟩:=h.ex
 have a:∀i,i<m->((List.range m).map fun i=>iter (tO n p (iF p N n d)) i s).getD i 0=iter (tO n p (iF p N n d)) i s:=fun i b=>by simp[List.getD,b]
 have Q:((List.range m).map fun i=>iter (tO n p (iF p N n d)) i s).length=m:=by simp
 generalize tO n p (iF p N n d)=f at *;have X:=W.aLu F.RZ
 have t:3<=m:=by
  have G:=X 0;have g:=W.pos;have E:=W.back
  rcases Ep 2 m with c|c
  . omega
  have :m=1\/m=2:=by omega
  rcases this with rfl|rfl
  . have T:iter f (0+1) s=iter f 0 s:=E;rw[T] at G;simp[vec,sub,dL,dot,bC] at G
  have T:iter f (0+2) s=iter f 0 s:=E;rw[T] at G;simp[vec,sub,dL,dot,bC] at G
 rw[Q];refine⟨t,fun k E=>?_⟩;rw[a 0 A0,a (k+1) A0,a (k+2) A0];refine⟨(W.side 0).1,(W.side (k+1)).1,(W.side (k+2)).1,?_,?_⟩
 . have :=((W.side (k+1)).2.2.2 _ (W.side 0).1).1
   have e:dL n (vec p (iter f 0 s) (iter f (k+1) s)) (vec p (iter f 0 s) (iter f (k+2) s))=dL n (vec p (iter f (k+1) s) (iter f (k+2) s)) (vec p (iter f (k+1) s) (iter f 0 s)):=by simp only[vec,dL,dot,bC,sub];grind
   rw[e];exact this
 rintro rfl;exact X 0
def aQn(p:Nat->V)(K:List ((V×Int)×List Nat)):Int:=dK (fun e=>dK (fun t=>D3 (p t.1) (p t.2.1) (p t.2.2)) (kZ e.2)) K
def mom(u:V)(p:Nat->V)(K:List ((V×Int)×List Nat)):Int:=dK (fun e=>dK (fun t=>D3 (p t.1) (p t.2.1) (p t.2.2)*dot u (add (add (p t.1) (p t.2.1)) (p t.2.2))) (kZ e.2)) K
theorem Lg{L:List Nat}{t:Nat×Nat×Nat}:t∈kZ L↔∃k,k<L.length -2/\t=(L.getD 0 0,L.getD (k+1) 0,L.getD (k+2) 0):=by grind[kZ]
theorem Ob.len{K:List ((V×Int)×List Nat)}(h:Ob p N K)(A:MN p N):∀e∈K,2<=e.2.length:=fun e z=>by have :=((h.po e z).jw A (h.oa z)).1;omega
theorem Ob.seen{K:List ((V×Int)×List Nat)}(h:Ob p N K)(A:MN p N)(P:V){e:(V×Int)×List Nat}(z:e∈K)(o:dot e.1.1 P<=e.1.2):(∀t∈kZ e.2,0<=D3 (sub (p t.1) P) (sub (p t.2.1) P) (sub (p t.2.2) P))/\
 (dot e.1.1 P<e.1.2->∃t∈kZ e.2,0<D3 (sub (p t.1) P) (sub (p t.2.1) P) (sub (p t.2.2) P)):=by
 have F:=h.oa z;obtain⟨B,W⟩:=(h.po e z).jw A F;have a:=cM F.RZ.hn
 have key:∀k,k<e.2.length -2->dot e.1.1 e.1.1*D3 (sub (p (e.2.getD 0 0)) P) (sub (p (e.2.getD (k+1) 0)) P) (sub (p (e.2.getD (k+2) 0)) P)=dL e.1.1 (vec p (e.2.getD 0 0) (e.2.getD (k+1) 0)) (vec p (e.2.getD 0 0) (e.2.getD (k+2) 0))*(e.1.2 -dot e.1.1 P):=fun k E=>by obtain⟨a1,y,Q,_,_⟩:=W k E;have H:=F.RZ.pl A;have :=aBk (H.pl _ a1 _ y) (H.pl _ a1 _ Q) P;rw[(cJ.1 a1).2] at this;exact this
 constructor
 . intro t b;obtain⟨k,E,rfl⟩:=Lg.1 b;have T:=key k E;have :=Fk (W k E).2.2.2.1 (show 0<=e.1.2 -dot e.1.1 P by omega);exact oW a (by rw[T];exact this)
 intro r;refine⟨_,Lg.2 ⟨0,by omega,rfl⟩,?_⟩;have T:=key 0 A0;have :=En ((W 0 A0).2.2.2.2 rfl) (show 0<e.1.2 -dot e.1.1 P by omega);exact fu a (by rw[T];exact this)
theorem Ob.aYp{K:List ((V×Int)×List Nat)}(h:Ob p N K)(A:MN p N)(hK:K≠[])(u:V)(M:Int)(g:∀k,k<N->dot u (p k)<=M):0<aQn p K/\mom u p K<=4*M*aQn p K:=by
 obtain⟨Y,G⟩:∃e,e∈K:=List.exists_mem_of_ne_nil _ hK;obtain⟨k0,d,r⟩:=(h.oa G).lt;generalize o:p k0=P at r;have i:dot u P<=M:=by rw[<-o];exact g k0 d
 have y:∀e∈K,dot e.1.1 P<=e.1.2:=fun e z=>by rw[<-o];exact(h.oa z).le k0 d
 have ev:aQn p K=dK (fun e=>dK (fun t=>D3 (sub (p t.1) P) (sub (p t.2.1) P) (sub (p t.2.2) P)) (kZ e.2)) K:=
  h.Vu A (h.len A) (fun a b c=>D3 a b c) (fun a b c=>D3 (sub a P) (sub b P) (sub c P)) (fun a b=>D3 P a b) (UD P) (WV P)
 have L:mom u p K=dK (fun e=>dK (fun t=>D3 (sub (p t.1) P) (sub (p t.2.1) P) (sub (p t.2.2) P)*dot u (add (add (add (p t.1) (p t.2.1)) (p t.2.2)) P)) (kZ e.2)) K:=
  h.Vu A (h.len A) (fun a b c=>D3 a b c*dot u (add (add a b) c)) (fun a b c=>D3 (sub a P) (sub b P) (sub c P)*dot u (add (add (add a b) c) P)) (fun a b=>D3 P a b*dot u (add (add P a) b)) (fun a b=>by rw[UD];simp only[dot,add];grind) (aBx u P)
 rw[L,ev];constructor
 . refine vT (fun e z=>?_) ⟨Y,G,?_⟩
   . have :=FU (f:=fun _=>0) (l:=kZ e.2) (h.seen A P z (y e z)).1;rw[FV] at this;exact this
   exact vT (h.seen A P G (y Y G)).1 ((h.seen A P G (y Y G)).2 r)
 rw[<-vS];refine FU fun e z=>?_;rw[<-vS];refine FU fun t W=>?_;have O:=(h.seen A P z (y e z)).1 t W;obtain⟨k,E,rfl⟩:=Lg.1 W;obtain⟨a1,j,Q,_⟩:=((h.po e z).jw A (h.oa z)).2 k E;have b1:=g _ (cJ.1 a1).1;have b2:=g _ (cJ.1 j).1;have D:=g _ (cJ.1 Q).1
 have T:dot u (add (add (add (p (e.2.getD 0 0)) (p (e.2.getD (k+1) 0))) (p (e.2.getD (k+2) 0))) P)=dot u (p (e.2.getD 0 0))+dot u (p (e.2.getD (k+1) 0))+dot u (p (e.2.getD (k+2) 0))+dot u P:=by rw[sF,sF,sF]
 rw[Iw (4*M)];refine Dy ?_ O;simp only at *;omega
end
section
variable {p:Nat->V} {N:Nat} {n n':V} {d d':Int}
end
section
variable {p:Nat->V} {N:Nat}
theorem aBl(e a b c u:V):D3 a b c*dot u e=D3 e b c*dot u a+D3 e c a*dot u b+D3 e a b*dot u c:=by simp only[D3,dot,bC];grind
def Q3(u w a b c:V):Int:=dot u (add (add a b) c)*dot w (add (add a b) c)+dot u a*dot w a+dot u b*dot w b+dot u c*dot w c
def qq(a b c f g h:Int):Int:=(a+b+c)*(f+g+h)+a*f+b*g+c*h
theorem aQx(u w a b c:V):Q3 u w a b c=qq (dot u a) (dot u b) (dot u c) (dot w a) (dot w b) (dot w c):=by simp[Q3,qq,sF]
def sec(u w:V)(p:Nat->V)(K:List ((V×Int)×List Nat)):Int:=dK (fun e=>dK (fun t=>D3 (p t.1) (p t.2.1) (p t.2.2)*Q3 u w (p t.1) (p t.2.1) (p t.2.2)) (kZ e.2)) K
theorem aJc(f g:Nat×Nat×Nat->Int)(K:List ((V×Int)×List Nat)):dK (fun e=>dK (fun t=>f t+g t) (kZ e.2)) K=dK (fun e=>dK f (kZ e.2)) K+dK (fun e=>dK g (kZ e.2)) K:=by simp[zZ]
theorem aJd(c:Int)(f:Nat×Nat×Nat->Int)(K:List ((V×Int)×List Nat)):dK (fun e=>dK (fun t=>c*f t) (kZ e.2)) K=c*dK (fun e=>dK f (kZ e.2)) K:=by simp[vS]
theorem Vv(L:List Nat):(kZ L).length<=(ky L).length:=by simp[kZ,ky]
theorem aMp{L:List Nat}{x:Nat×Nat}(h:x∈ky L):x.1∈L/\x.2∈L:=by
 obtain⟨i,F,O,Z⟩:=Oq.1 h
 grind
theorem Ob.aDx{K:List ((V×Int)×List Nat)}(h:Ob p N K)(A:MN p N):(IG K).length<=N*N:=by
 have M:IG K ⊆ (List.range N).flatMap fun a=>(List.range N).map fun b=>(a,b):=by
  rintro⟨a,b⟩ C;obtain⟨e,z,C⟩:=Ec.1 C
  have y:∀k∈e.2,k<N:=fun k E=>by obtain⟨s,r,m,T,W,o⟩:=(h.po e z).ex;rw[o] at E;obtain⟨i,_,rfl⟩:=Be.1 E;exact(cJ.1 (W.side i).1).1
  obtain⟨O,Z⟩:=aMp C
  grind
 have :=List.Nodup.length_le_of_subset (h.nodup A) M
 have R:∀l:List Nat,(l.flatMap fun a=>(List.range N).map fun b=>(a,b)).length=l.length*N:=fun l=>by induction l<;>grind
 rwa [R,Bt] at this
theorem Ob.Vv{K:List ((V×Int)×List Nat)}(h:Ob p N K)(A:MN p N):(K.flatMap fun e=>kZ e.2).length<=N*N:=by
 refine Aw ?_ (h.aDx A);unfold IG;clear h
 induction K with
 |nil=>simp
 |cons e K a=>simp only[El,Aq];have :=aH.Vv e.2;omega
theorem EH{α:Type}{f:α->Int}{B:Nat}:∀{l:List α},(∀x∈l,(f x).natAbs<=B)->(dK f l).natAbs<=l.length*B
 |[],_=>by simp[dK]
 |x::l,h=>by
  have Z:=EH (l:=l) fun y Q=>h y (Ax _ Q)
  grind[dK,List.length_cons,Nat.succ_mul]
theorem Poly.conv{p':Nat->V}{q:Nat}{n:V}{d d':Int}{L g:List Nat}(P:Poly p N n d L)(x:Poly p' q n d' g)(S:iF p' q n d'=iF p N n d)(M:∀a∈iF p N n d,∀b,Sd n p' (iF p N n d) a b->Sd n p (iF p N n d) a b):g=L:=by
 obtain⟨s,r,m,e,W,rfl⟩:=P.ex;obtain⟨l,c,Y,o,k,rfl⟩:=x.ex;rw[S] at o k ⊢;have :l=s:=by rw[e] at o;exact(List.cons.inj o).1.symm
 subst this;generalize iF p N n d=z at *
 have F:∀i,iter (tO n p' z) i l=iter (tO n p z) i l:=by
  intro i
  induction i with
  |zero=>rfl
  |succ i K=>have Z:=M _ (k.side i).1 _ (k.side i).2;rw[K] at Z;exact((W.side i).2.uniq W.H (W.side i).1 Z).symm
 have t:Y=m:=by
  rcases Ji m Y with hl|he|hl
  . exact absurd ((F m).trans W.back) (k.first m W.pos hl)
  . exact he.symm
  exact absurd ((F Y).symm.trans k.back) (W.first Y k.pos hl)
 subst t;exact Dk fun i _=>F i
end
section
variable {p:Nat->V} {N:Nat}
def Q4(u w a b c P:V):Int:=dot u (add (add (add a b) c) P)*dot w (add (add (add a b) c) P)+dot u a*dot w a+dot u b*dot w b+dot u c*dot w c+dot u P*dot w P
theorem aTo(d x y z a b c p f g h k:Int)(O:d*p=x*a+y*b+z*c)(Z:d*k=x*f+y*g+z*h):
 d*qq a b c f g h=(d -(z+x+y))*((a+b+c+p)*(f+g+h+k)+a*f+b*g+c*h+p*k)+(z*qq p a b k f g+x*qq p b c k g h+y*qq p c a k h f):=by
 unfold qq;have T:d*p*(f+g+h+k)=(x*a+y*b+z*c)*(f+g+h+k):=by rw[O]
 have o:d*k*(a+b+c+p)=(x*f+y*g+z*h)*(a+b+c+p):=by rw[Z]
 clear O Z
 grind
theorem aBz(u w P a b c:V):D3 a b c*Q3 u w a b c=D3 (sub a P) (sub b P) (sub c P)*Q4 u w a b c P+(D3 P a b*Q3 u w P a b+D3 P b c*Q3 u w P b c+D3 P c a*Q3 u w P c a):=by have :=aTo (D3 a b c) (D3 P b c) (D3 P c a) (D3 P a b) (dot u a) (dot u b) (dot u c) (dot u P) (dot w a) (dot w b) (dot w c) (dot w P) (aBl P a b c u) (aBl P a b c w);have e:=WV P a b c;rw[show D3 a b c -(D3 P a b+D3 P b c+D3 P c a)=D3 (sub a P) (sub b P) (sub c P) by omega] at this;simp only[aQx,Q4,sF];exact this
theorem aKi(u w P a b:V):D3 P b a*Q3 u w P b a= -(D3 P a b*Q3 u w P a b):=by rw[UD];simp only[Q3,sF];grind
theorem SY(u a b c P:V):0<=Q4 u u a b c P:=by
 have s:∀x:Int,0<=x*x:=fun x=>by rcases Int.le_total 0 x with h|h;exact Fk h h;exact Int.mul_nonneg_of_nonpos_of_nonpos h h
 unfold Q4;have :=s (dot u (add (add (add a b) c) P));have :=s (dot u a);have :=s (dot u b);have :=s (dot u c);have :=s (dot u P);omega
theorem aTn{u a b c P:V}(B:u≠V0)(hd:D3 (sub a P) (sub b P) (sub c P)≠0):0<Q4 u u a b c P:=by
 have s:∀x:Int,0<=x*x:=fun x=>by rcases Int.le_total 0 x with h|h;exact Fk h h;exact Int.mul_nonneg_of_nonpos_of_nonpos h h
 have z:∀x:Int,x*x=0->x=0:=fun x h=>by rcases Io.1 h with h|h<;>exact h
 refine Co fun A=>hd ?_;have G:=SY u a b c P;unfold Q4 at A G;have s0:=s (dot u (add (add (add a b) c) P));have s1:=s (dot u a);have s2:=s (dot u b);have s3:=s (dot u c);have U:=s (dot u P);have t:=z (dot u a) A0;have p:=z (dot u b) A0;have d:=z (dot u c) A0;have e:=z (dot u P) A0
 have key:∀v:V,dot u v=0->dot u (sub v P)=0:=fun v J=>by
  have :dot u (sub v P)=dot u v -dot u P:=by simp only[dot,sub];grind
  omega
 have :=Pm B (key a t) (key b p) (key c d);rw[<-this];simp only[D3,dL,dot,bC]
 grind
theorem Ob.aQa{K:List ((V×Int)×List Nat)}(h:Ob p N K)(A:MN p N)(hK:K≠[]){u:V}(B:u≠V0):0<sec u u p K:=by
 obtain⟨Y,G⟩:∃e,e∈K:=List.exists_mem_of_ne_nil _ hK;obtain⟨k0,d,r⟩:=(h.oa G).lt;generalize o:p k0=P at r;have y:∀e∈K,dot e.1.1 P<=e.1.2:=fun e z=>by rw[<-o];exact(h.oa z).le k0 d
 have L:sec u u p K=dK (fun e=>dK (fun t=>D3 (sub (p t.1) P) (sub (p t.2.1) P) (sub (p t.2.2) P)*Q4 u u (p t.1) (p t.2.1) (p t.2.2) P) (kZ e.2)) K:=
  h.Vu A (h.len A) (fun a b c=>D3 a b c*Q3 u u a b c) (fun a b c=>D3 (sub a P) (sub b P) (sub c P)*Q4 u u a b c P) (fun a b=>D3 P a b*Q3 u u P a b) (aKi u u P) (aBz u u P)
 rw[L]
 have C:∀e∈K,∀t∈kZ e.2,0<=D3 (sub (p t.1) P) (sub (p t.2.1) P) (sub (p t.2.2) P)*Q4 u u (p t.1) (p t.2.1) (p t.2.2) P:=fun e z t W=>Fk ((h.seen A P z (y e z)).1 t W) (SY _ _ _ _ _)
 refine vT (fun e z=>?_) ⟨Y,G,?_⟩
 . have :=FU (f:=fun _=>0) (l:=kZ e.2) (C e z);rw[FV] at this;exact this
 obtain⟨t,W,m⟩:=(h.seen A P G (y Y G)).2 r;exact vT (C Y G) ⟨t,W,En m (aTn B A0)⟩
theorem aIo(u w:V)(p:Nat->V)(K:List ((V×Int)×List Nat)):sec u w p K=sec w u p K:=
 kY fun e _=>kY fun t _=>by simp only[Q3];grind
theorem minors{a b c d e f:Int}(p:∀x y z:Int,¬(x=0/\y=0/\z=0)->0<x*x*a+y*y*d+z*z*f+2*(x*y*b)+2*(x*z*c)+2*(y*z*e)):
 0<a/\0<a*d -b*b/\0<a*(d*f -e*e) -b*(b*f -e*c)+c*(b*e -d*c):=by
 have O:0<a:=by have :=p 1 0 0 A0;simpa using this
 have Z:0<a*d -b*b:=by
  have :=p (-b) a 0 A0;have e: -b* -b*a+a*a*d+0*0*f+2*(-b*a*b)+2*(-b*0*c)+2*(a*0*e)=a*(a*d -b*b):=by grind
  rw[e] at this
  rcases Int.lt_or_le 0 (a*d -b*b) with h|h
  . exact h
  have :=Int.mul_nonpos_of_nonneg_of_nonpos (Fv O) h;omega
 refine⟨O,Z,?_⟩;have :=p (b*e -c*d) (b*c -a*e) (a*d -b*b) A0
 have o:(b*e -c*d)*(b*e -c*d)*a+(b*c -a*e)*(b*c -a*e)*d+(a*d -b*b)*(a*d -b*b)*f+2*((b*e -c*d)*(b*c -a*e)*b)+2*((b*e -c*d)*(a*d -b*b)*c)+2*((b*c -a*e)*(a*d -b*b)*e)=
  (a*d -b*b)*(a*(d*f -e*e) -b*(b*f -e*c)+c*(b*e -d*c)):=by grind
 rw[o] at this
 rcases Int.lt_or_le 0 (a*(d*f -e*e) -b*(b*f -e*c)+c*(b*e -d*c)) with h|h
 . exact h
 have :=Int.mul_nonpos_of_nonneg_of_nonpos (Fv Z) h;omega
end
end Go.aH
namespace Go.Av
open Go
inductive Wk:AV->AV->Prop
 |refl (a:AV):Wk a a
 |bK (tag sz:Nat) (els DC:List (List AV)) (hl:DC.length=els.length) (hs:(∀e∈els,e.length=sz)->∀e∈DC,e.length=sz) (hf:DC.flatten.length=els.flatten.length)
   (h:∀j,j<els.flatten.length->Wk (els.flatten.getD j aC) (DC.flatten.getD j aC)):Wk (.bK tag sz els) (.bK 0 sz DC)
 |agg (cs FY:List AV) (hl:FY.length=cs.length) (h:∀j,j<cs.length->Wk (cs.getD j aC) (FY.getD j aC)):Wk (.agg cs) (.agg FY)
theorem Wk.one{a b:AV}(h:Wk a b):b.one=a.one:=by cases h<;>rfl
theorem VR.wk{G:Gh}{w:World}{a b:AV}(h:Wk a b):∀{u:Value},VR G w a u->VR G w b u:=by
 induction h with
 |refl a=>simp
 |bK tag sz els f U M N Y K=>
  intro u J
  cases J with
  |wE _ _ b o s W=>obtain rfl:f=[]:=Cl U;exact .wE _ _ b o s A0
  |bK _ _ _ b o cap us B R J W=>rw[<-U];refine .bK 0 sz f b o cap us (M B) (fun j n=>?_) (fun j n=>K j A0 (J j A0)) ⟨by rw[U];exact W.1,trivial⟩;have v:j<els.flatten.length:=A0;exact⟨(R j v).1,(R j v).2.1,by rw[(Y j v).one];grind⟩
 |agg cs t U Y K=>
  intro u J
  cases J with
  |agg _ vs F O J=>
   refine .agg t vs A0 (fun c R=>?_) fun j n=>K j A0 (J j A0);obtain⟨j,n,rfl⟩:=Dl R;have v:j<cs.length:=A0;have :=(Y j v).one
   grind
theorem Sound.wk{P:Program}{g:bL}{f:FuncId}{args args':List AV}{H H':aB}{out:Out}(h:Sound P g f args' H out H')(U:args'.length=args.length)(L:∀j,j<args.length->Wk (args.getD j aC) (args'.getD j aC)):Sound P g f args H out H':=
 ⟨h.1,fun G w vs q J=>h.2 G w vs q ⟨by rw[U];exact J.1,fun j Y=>VR.wk (L j A0) (J.2 j A0)⟩⟩
mutual
def wu:AV->AV
 |.bK _ sz els=>.bK 0 sz (DG els)
 |.agg cs=>.agg (qD cs)
 |a=>a
def qD:List AV->List AV
 |[]=>[]
 |x::r=>wu x::qD r
def DG:List (List AV)->List (List AV)
 |[]=>[]
 |x::r=>qD x::DG r
end
theorem DH:∀l:List AV,(qD l).length=l.length
 |[]=>by rfl
 |x::r=>by simp[qD,DH r]
theorem Sv:∀l:List (List AV),(DG l).length=l.length
 |[]=>by rfl
 |x::r=>by simp[DG,Sv r]
theorem IS:∀l:List (List AV),(DG l).flatten=qD l.flatten
 |[]=>by rfl
 |x::r=>by
  have :∀a b:List AV,qD (a++b)=qD a++qD b:=fun a b=>by
   induction a with
   |nil=>rfl
   |cons y a K=>grind[qD]
  simp[DG,IS r,this]
theorem Sw{sz:Nat}:∀{l:List (List AV)},(∀e∈l,e.length=sz)->∀e∈DG l,e.length=sz
 |[],_,e,he=>by grind[DG]
 |x::r,h,e,he=>by
  simp only[DG,Ba] at he
  rcases he with rfl|he
  . grind[DH]
  exact Sw (fun y Q=>h y (Ax _ Q)) e he
theorem FB:∀(l:List AV) (j:Nat),j<l.length->(qD l).getD j aC=wu (l.getD j aC)
 |[],j,hj=>absurd hj (Am _)
 |x::r,0,_=>by rfl
 |x::r,j+1,hj=>by have :=FB r j (by grind);assumption
theorem GZ{l:List AV}{j:Nat}(Y:j<l.length):l.getD j aC∈l:=by grind
theorem jz(a:AV):Wk a (wu a):=by
 match a with
 |.bK tag sz els=>refine .bK tag sz els _ (Sv els) Sw (by rw[IS,DH]) fun j Y=>?_;rw[IS,FB _ _ Y];have t:=GZ Y;obtain⟨e,z,C⟩:=List.mem_flatten.1 t;have O:=Ka z;have Z:=Ka C;exact jz _
 |.agg cs=>refine .agg cs _ (DH cs) fun j Y=>?_;rw[FB _ _ Y];have t:=GZ Y;have Z:=Ka t;exact jz _
 |.bool _|.int _ _|.str _|.Li|.ref _ _|.pl _|.bG|.sl _ _ _ _ _|.func _ _ _|.BU|.iface _ _|.pY|.iV _|.map _|.rV|.yield _=>exact .refl _
termination_by SizeOf.sizeOf a
decreasing_by
 all_goals grind
theorem Sound.wu{P:Program}{g:bL}{f:FuncId}{args:List AV}{H H':aB}{out:Out}(h:Sound P g f (qD args) H out H'):Sound P g f args H out H':=
 h.wk (DH _) fun j Y=>by rw[FB _ _ Y];exact jz _
section
theorem VR.mo{G:Gh}{w:World}{a:AV}{u:Value}(h:VR G w a u)(b:Bool):VR ⟨G.loc,G.iA,b⟩ w a u:=h.mono (fun _ _ h=>h) (fun _ _ h=>⟨h,rfl⟩)
section
variable {P:Program} {g g':bL}
theorem Sound.up(J:∀n cs,g n=some cs->g' n=some cs)(t:g.mo=true)(F:g'.mo=false){f:FuncId}{args:List AV}{out:Out}(h:Sound P g f args ⟨0,.nil⟩ out ⟨0,.nil⟩):Sound P g' f args ⟨0,.nil⟩ out ⟨0,.nil⟩:=by
 refine⟨h.1,fun G w vs L I=>?_⟩
 have M:WR g ⟨G.loc,G.iA,true⟩ ⟨0,.nil⟩ w:={
  cells:=fun id l cs r O Z=>by obtain⟨a1,y,Q,i,N⟩:=L.cells id l cs r O Z;exact⟨a1,y,Q,i,fun j Y=>let⟨u,B,J⟩:=N j Y;⟨u,B,J.mo true⟩⟩
  room:=L.room
  lL:=L.lL
  kI:=L.kI
  iT:=fun id l o O Z d=>by cases Z
  lt:=L.lt
  iE:=L.iE
  jE:=fun n cs A=>(L.jE n cs (J n cs A)).mo true
  BP:=fun n cs A k=>L.BP n cs (J n cs A) k
  mo:=t.symm}
 refine(h.2 ⟨G.loc,G.iA,true⟩ w vs M ⟨I.1,fun j Y=>(I.2 j Y).mo true⟩).mono fun e w' ⟨E,O,Z,d⟩=>?_;have q:G.mo=false:=L.mo.trans F
 refine⟨⟨E.loc,E.iA,false⟩,{
  cells:=fun id l cs r q1 q2=>by obtain⟨a1,y,Q,i,N⟩:=O.cells id l cs r q1 q2;exact⟨a1,y,Q,i,fun j Y=>let⟨u,B,J⟩:=N j Y;⟨u,B,J.mo false⟩⟩
  room:=O.room
  lL:=O.lL
  kI:=O.kI
  iT:=fun id l o q1 q2 q3=>by cases q2
  lt:=O.lt
  iE:=O.iE
  jE:=fun n cs A=>(L.jE n cs A).mono Z.loc Z.iA
  BP:=fun n cs A k=>by obtain⟨c,T,fz,a1,y⟩:=L.BP n cs A k;refine⟨c,T,fz,?_,y⟩;rw[Z.frame n (Eg.1 a1).1 (fun id l _ ⟨o,S,_⟩=>by cases S)];omega
  mo:=F.symm},{
  loc:=Z.loc
  iA:=Z.iA
  size:=Z.size
  frame:=Z.frame
  mV:=Z.mV
  pM:=Z.pM
  next:=Z.next
  news:=Z.news
  dead:=Z.dead
  mo:=q.symm
  same:=⟨Z.same.os,Z.same.output,Z.same.tape,fun X=>by grind⟩},?_⟩
 cases out with
 |ret v=>cases e with
  |returned u=>exact d.mo false
  |_=>assumption
 |Lo v=>cases e with
  |panicked c=>obtain⟨u,a,b⟩:=d;exact⟨u,a,b.mo false⟩
  |_=>assumption
theorem PT{f:FuncId}(l:CI P f){s t:List UInt8}{n:Int}(h:∀w,Calls P f #[.string ⟨s.toArray⟩,.string ⟨t.toArray⟩] w fun e w'=>e=.returned (.int .i64 n)/\w'=w)(H:aB):Sound P g f [.str s,.str t] H (.ret (.int .i64 n)) H:=by
 refine⟨l,fun G w vs L I=>?_⟩;obtain⟨U,J⟩:=I
 match vs,U with
 |[u0,u1],_=>have N:=(J 0 A3).jL;have D:=(J 1 A3).jL;subst N D;refine(h w).mono fun e w' z=>?_;obtain⟨rfl,rfl⟩:=z;exact⟨G,L,Ext.refl G H _,.int _ _⟩
theorem Ext.bEi{G:Gh}{H:aB}{w w':World}(S:∀b o,G.iA b o->∃v,w.cell? ⟨b,o,none⟩=some v)
 (X:∀b,b<w.heap.size->w'.heap[b]?=w.heap[b]?) (A:w.heap.size<=w'.heap.size) (M:PR G.mo w w'):Ext G H w G H w' where
 loc:=fun _ _ h=>h
 iA:=fun b o F=>⟨F,by obtain⟨v,J⟩:=S b o F;exact fN (X b (qK J))⟩
 size:=A
 frame:=fun b r _=>X b r
 mV:=fun id l h U=>.inr ⟨id,l,h,U,rfl⟩
 pM:=fun _ _ h=>.inl h
 next:=Ad _
 news:=fun _ _ h a=>by grind
 dead:=fun _ _ _ h=>h
 mo:=rfl
 same:=M
def Yl(xs:List (List UInt8)):List (List AV):=xs.map fun x=>[.str x]
theorem jo(xs:List (List UInt8)):(Yl xs).flatten=xs.map AV.str:=by
 induction xs with
 |nil=>rfl
 |cons x r K=>grind[Yl]
theorem ZW{f:FuncId}(l:CI P f)(t:g.mo=false){xs:List (List UInt8)}{A:List UInt8}(s:xs≠[])(C:xs.length<=140737488355328)(Q:(Lib.join xs A).length<=140737488355328)
 (h:∀(bk o c:Nat) (ys:List ByteArray) (w:World),(∀(j:Nat) x,ys[j]?=some x->w.cell? ⟨bk,o+j,none⟩=some (.string x))->bk<w.heap.size->ys.length<=140737488355328->ys.length<=c->
   (Lib.join (ys.map (·.data.toList)) A).length<=140737488355328->
   Calls P f #[.slice (some ⟨bk,o,none⟩) ys.length c,.string ⟨A.toArray⟩] w fun e w'=>e=.returned (.string ⟨(Lib.join (ys.map (·.data.toList)) A).toArray⟩)/\Go.RowKit.Below w.heap.size w w') (tag:Nat) (H:aB):
 Sound P g f [.bK tag 1 (Yl xs),.str A] H (.ret (.str (Lib.join xs A))) H:=by
 refine⟨l,fun G w vs L I=>?_⟩;obtain⟨U,J⟩:=I
 match vs,U with
 |[u0,u1],_=>
  have N:=J 0 A3;have D:=(J 1 A3).jL;subst D;have p:0<xs.length:=Kn.2 s;generalize z:Yl xs=els at N;have F:els.length=xs.length:=by rw[<-z];exact Ah _
  cases N with
  |wE=>simp at F;omega
  |bK _ _ _ b o cap us B R a W=>
   have i:els.flatten=xs.map AV.str:=by rw[<-z];exact jo xs
   have E:(xs.map fun x=>(⟨x.toArray⟩:ByteArray)).map (·.data.toList)=xs:=by rw[Ea];have :((fun x:ByteArray=>x.data.toList)∘fun x:List UInt8=>(⟨x.toArray⟩:ByteArray))=id:=(by funext x;simp);rw[this,Gn]
   have k:∀(j:Nat) x,(xs.map fun x=>(⟨x.toArray⟩:ByteArray))[j]?=some x->w.cell? ⟨b,o+j,none⟩=some (.string x):=fun j x Y=>by rw[Dw] at Y;obtain⟨y,m,rfl⟩:=Ae.1 Y;have n:j<xs.length:=(Bf.1 m).1;have v:j<els.flatten.length:=(by rw[i];simpa using n);have Z:=a j v;have K:els.flatten.getD j aC=.str y:=(by rw[i,List.getD,Dw,m];rfl);rw[K] at Z;rw[(R j v).2.1,Z.jL]
   have d:b<w.heap.size:=by
    obtain⟨y,m⟩:∃y,xs[0]?=some y:=⟨xs[0],Ai p⟩
    exact qK (k 0 ⟨y.toArray⟩ (by rw[Dw,m];rfl))
   have T:=W.1;have :=h b o cap _ w k d (by rw[Ah];exact C) (by rw[Ah];omega) (by rw[E];exact Q);rw[E,Ah,<-F] at this;refine this.mono fun e w' u=>?_;obtain⟨rfl,r⟩:=u;have q:G.mo=false:=L.mo.trans t;exact⟨G,L.grow r.block,Ext.bEi L.iE r.block r.size ⟨r.os,r.output,r.tape,fun X=>by rw[q] at X;cases X⟩,VR.Vs _ _ _⟩
end
end
section
theorem aIt(H:aB)(t:Nat)(v:AV):kK H none t v=kK H none 0 v:=by rfl
theorem JF{f u:AV->Option AV}(h:∀x,f x=u x):∀l,GI f l=GI u l
 |[]=>rfl
 |x::r=>by simp only[GI,h x,JF h r]
theorem RI(H:aB)(t:Nat):∀(n:Nat) (v:AV),iH H none t n v=iH H none 0 n v
 |0,v=>by rfl
 |n+1,v=>by
  cases v with
  |agg cs=>simp only[iH,JF (RI H t n) cs]
  |iV cs=>simp only[iH,JF (RI H t n) cs]
  |_=>exact aIt H t _
abbrev Fact:=FuncId×List AV×AV
def kn(f:FuncId)(args:List AV):List Fact->Option AV
 |[]=>none
 |e::r=>match Nat.beq f e.1 with
  |true=>match sV (qD args) e.2.1 with
   |true=>some e.2.2
   |false=>kn f args r
  |false=>kn f args r
def tQ(P:Program)(g:bL)(K:List Fact):Prop:=∀e∈K,∀H,Sound P g e.1 e.2.1 H (.ret e.2.2) H
def bCo(K:List Fact)(o:UR):UR:=fun f args H=>match kn f args K with
 |some v=>some (.ret v,H)
 |none=>o f args H
def CF(g:bL)(T:FT)(b:UR)(a:FuncId->Nat->Bool)(n:Nat)(e:Fact):Bool:=
 match cP e.2.1 with
 |true=>match exF b T.get g 100000 a 40 (.func (.func e.1) [] []) e.2.1 ⟨0,.nil⟩ with
  |some (.ret u,H2)=>match iH H2 none 0 n u with
   |some v=>v.same e.2.2
   |none=>false
  |_=>false
 |false=>false
section
variable {P:Program} {g:bL}
theorem aFv{f:FuncId}{args:List AV}{v:AV}:∀{K:List Fact},tQ P g K->kn f args K=some v->∀H,Sound P g f args H (.ret v) H
 |[],_,h,_=>by cases h
 |e::r,hK,h,H=>by
  have V:tQ P g r:=fun x C=>hK x (Ax _ C);simp only[kn] at h;split at h
  . rename_i N;split at h
    . rename_i M;cases h;obtain rfl:=Ch N;exact Sound.wu (by rw[sW _ _ M];exact hK e Ay H)
    exact aFv V h H
  exact aFv V h H
theorem aOy{K:List Fact}(hK:tQ P g K){o:UR}(S:PO P g o):PO P g (bCo K o):=by
 intro f args H out H' h;unfold bCo at h;split at h
 . rename_i v J;cases h;exact aFv hK J H
 exact S _ _ _ _ _ h
theorem bCw(t:Fit P g)(d:GN g){T:FT}(c:T.All fun f F=>∃N,gX P g N f F){b:UR}(S:PO P g b){a:FuncId->Nat->Bool}(A:PN P g a){n:Nat}{e:Fact}(h:CF g T b a n e=true)(H:aB):Sound P g e.1 e.2.1 H (.ret e.2.2) H:=by
 unfold CF at h;split at h
 . rename_i I;split at h
   . rename_i u H2 z;split at h
     . rename_i v J;obtain rfl:=AV.Vo _ _ h
       rcases Md t S A (fun f F i=>c.get i) 40 _ _ _ _ _ z with ⟨p,m,w⟩|⟨id,R,_⟩
       . cases m;simp only[Cw,Bx] at w;exact w.frame d I (tk:=none) (fun k E=>by grind) (n:=n) H (by rw[RI];exact J)
       grind
     grind
   grind
 grind
def bMh:FuncId->Nat->Bool:=fun _ _=>false
theorem dN:PN P g bMh:=fun _ _ h=>by cases h
theorem tQ.nil:tQ P g []:=fun e z=>by grind
theorem tQ.cons{K:List Fact}(hK:tQ P g K){f:FuncId}{args:List AV}{v:AV}(h:∀H,Sound P g f args H (.ret v) H):tQ P g ((f,args,v)::K):=fun e he=>by
 rcases Ba.1 he with rfl|he
 . omega
 exact hK e he
theorem tQ.CF{K:List Fact}(hK:tQ P g K)(t:Fit P g)(d:GN g){T:FT}(b:T.All fun f F=>∃N,gX P g N f F){o:UR}(S:PO P g o){a:FuncId->Nat->Bool}(A:PN P g a)(n:Nat){e:Fact}(h:Av.CF g T (bCo K o) a n e=true):tQ P g (e::K):=fun x hx=>by
 rcases Ba.1 hx with rfl|hx
 . exact bCw t d b (aOy hK S) A h
 exact hK x hx
end
end
end Go.Av
namespace Go.Av
open Go Go.RowKit
section
def Up(P:Program)(fl:TypeId->Option (List TypeId)):List Field->List TypeId->Option (List TypeId)
 |[],acc=>some acc
 |f::r,acc=>match fl f.type with
  |some l=>if f.offset=acc.length/\P.cellsOf f.type=l.length then Up P fl r (acc++l) else none
  |none=>none
def Nd(P:Program):Nat->TypeId->Option (List TypeId)
 |0,_=>none
 |d+1,t=>match P.underlying t with
  |some (.struct fs)=>match Up P (Nd P d) fs.toList [] with
   |some l=>if P.cellsOf t=l.length then some l else none
   |none=>none
  |some (.array n e)=>match Nd P d e with
   |some l=>if P.cellsOf e=l.length/\P.cellsOf t=n*l.length/\0<l.length then some (List.replicate n l).flatten else none
   |none=>none
  |some (.int _)=>some [t]
  |some (.slice _)=>some [t]
  |some .string=>some [t]
  |_=>none
section
variable {H:Type} {enc:TypeId×Value->H} {P:Program} {w:World} {base:Nat} {spare:Nat->Bool} {held:Bool}
def rK(enc:TypeId×Value->H)(P:Program)(w:World)(base:Nat)(spare:Nat->Bool)(held:Bool)(l:List TypeId)(cs:List Value):Prop:=
 ∀(i:Nat) (u:TypeId),l[i]?=some u->∃(v:Value) (m:Nat) (y:DataW H×List MemPlace),cs[i]?=some v/\DataW.trod enc P w base spare held m u [v]=some y
theorem HH{l us:List TypeId}{cs:List Value}(O:rK enc P w base spare held l cs)(Z:rK enc P w base spare held us (cs.drop l.length)):rK enc P w base spare held (l++us) cs:=by
 intro i u h;by_cases F:i<l.length
 . rw[Jd F] at h;exact O i u h
 rw[Iy A0] at h;obtain⟨v,m,y,J,Q⟩:=Z _ u h
 grind
theorem Nx{l:List TypeId}{cs:List Value}(n:Nat)(h:rK enc P w base spare held l (cs.take n)):rK enc P w base spare held l cs:=by
 intro i u B;obtain⟨v,m,y,J,Q⟩:=h i u B
 grind
theorem HI{fl:TypeId->Option (List TypeId)}{n:Nat}{cs:List Value}
 (i:∀(u:TypeId) (l:List TypeId) (cs:List Value) (x:DataW H×List MemPlace),fl u=some l->DataW.trod enc P w base spare held n u cs=some x->rK enc P w base spare held l cs):
 ∀(fs:List Field) (a l:List TypeId),Up P fl fs a=some l->rK enc P w base spare held a cs->
  (∀f∈fs,∃x,DataW.trod enc P w base spare held n f.type ((cs.drop f.offset).take (P.cellsOf f.type))=some x)->rK enc P w base spare held l cs
 |[],a,l,h,ha,hf=>by obtain rfl:=Aa h;omega
 |f::r,a,l,h,ha,hf=>by
  unfold Up at h;split at h
  . rename_i us j;split at h
    . rename_i R;obtain⟨x,C⟩:=hf f (Ay ..);refine HI i r _ l h (HH ha ?_) (fun g d=>hf g (Ax _ d));rw[<-R.1];exact Nx _ (i _ _ _ _ j C)
    grind
  grind
theorem Qy{e:TypeId}{n:Nat}{l:List TypeId}:∀(k:Nat) (cs:List Value),(∀i,i<k->rK enc P w base spare held l ((cs.drop (i*l.length)).take l.length))->rK enc P w base spare held (List.replicate k l).flatten cs
 |0,cs,h=>by intro i u B;grind
 |k+1,cs,h=>by
  refine HH ?_ ?_
  . have :=h 0 A0;rw[Gq,Eo] at this;exact Nx _ this
  refine Qy (e:=e) (n:=n) k _ fun i F=>?_;rw[Kk]
  grind
theorem AA:∀(d:Nat) {t:TypeId} {l:List TypeId} {L:Nat} {cs:List Value} {x:DataW H×List MemPlace},Nd P d t=some l->DataW.trod enc P w base spare held L t cs=some x->rK enc P w base spare held l cs
 |0,t,l,L,cs,x,h,hx=>by cases h
 |d+1,t,l,L,cs,x,h,hx=>by
  unfold Nd at h;split at h
  . rename_i fs W;split at h
    . rename_i us j;split at h
      . obtain rfl:=Aa h;obtain⟨xs,n,_,_,U,b,N⟩:=DataW.trod_struct W hx;refine HI (n:=n) (fun u l cs x O Z=>AA d O Z) fs.toList [] us j (fun i u B=>by simp at B) fun f o=>?_;obtain⟨i,F,g⟩:=Dl o;have :=N i f (by rw[<-g];simp);rw[this];have p:i<xs.length:=(by rw[b];simpa using F);exact⟨_,Ai p⟩
      cases h
    cases h
  . rename_i n e W;split at h
    . rename_i us j;split at h
      . rename_i R;obtain rfl:=Aa h;obtain⟨xs,m,_,_,U,b,N⟩:=DataW.trod_array W hx;refine Qy (e:=e) (n:=m) n cs fun i F=>?_;have :=N i F;rw[R.1,Ai A0] at this;exact AA d j this
      cases h
    cases h
  . rename_i k W;obtain rfl:=Aa h;obtain⟨n,rfl,_⟩:=DataW.trod_int W hx;intro i u B
    match i,B with
    |0,B=>exact⟨_,L,x,rfl,by simpa [<-Aa B] using hx⟩
  . rename_i e W;obtain rfl:=Aa h
    have R:∃c,cs=[c]:=by
     rcases DataW.trod_slice W hx with ⟨h,_⟩|⟨a,len,cap,_,_,_,_,h,_⟩
     . exact⟨_,h⟩
     exact⟨_,h⟩
    obtain⟨c,rfl⟩:=R;intro i u B
    match i,B with
    |0,B=>exact⟨_,L,x,rfl,by simpa [<-Aa B] using hx⟩
  . rename_i W;obtain rfl:=Aa h;obtain⟨z,rfl,_⟩:=DataW.trod_string W hx;intro i u B
    match i,B with
    |0,B=>exact⟨_,L,x,rfl,by simpa [<-Aa B] using hx⟩
  cases h
theorem il{l:List TypeId}{cs:List Value}(h:rK enc P w base spare held l cs){i:Nat}{u:TypeId}(B:l[i]?=some u)(E:P.underlying u=some .string):
 ∃z:ByteArray,cs[i]?=some (.string z)/\z.size<=maxLen:=by
 obtain⟨v,m,y,J,Q⟩:=h i u B;obtain⟨z,s,_,M⟩:=DataW.trod_string E Q
 grind
theorem vQ{l:List TypeId}{cs:List Value}(h:rK enc P w base spare held l cs){i:Nat}{u:TypeId}{k:IntKind}(B:l[i]?=some u)(E:P.underlying u=some (.int k)):
 ∃n,cs[i]?=some (.int k n)/\(Lit.int k n).wf=true:=by
 obtain⟨v,m,y,J,Q⟩:=h i u B;obtain⟨n,A,_,L⟩:=DataW.trod_int E Q
 grind
end
end
end Go.Av
namespace Go.Av
open Go Go.RowKit Go.ChangeShapes Go.WideShapes Go.ChangeAt Go.Deep
section
def tN(mo:Bool)(W:World):Gh:=⟨fun _=>none,fun b o=>∃v,W.cell? ⟨b,o,none⟩=some v,mo⟩
theorem aZf{g:bL}{W:World}(d:∀n cs,g n=some cs->VR (tN g.mo W) W (.pl cs) (.pointer (some ⟨n,0,none⟩)))
 (M:∀n cs,g n=some cs->cs≠[]->∃c T fz,W.heap[n]?=some (.cells c T fz)/\c.size=cs.length):WR g (tN g.mo W) ⟨0,.nil⟩ W where
 cells:=fun id l cs r h=>by cases h
 room:=fun id l h=>by cases h
 lL:=fun id e l l' _ h=>by cases h
 kI:=fun id l h=>by cases h
 iT:=fun id l es h=>by cases h
 lt:=fun id l h=>by cases h
 iE:=fun b o h=>h
 jE:=d
 BP:=M
 mo:=rfl
theorem KV{mo:Bool}{W k:World}{E:Gh}{H':aB}(h:Ext (tN mo W) ⟨0,.nil⟩ W E H' k){b:Nat}(X:b<W.heap.size):k.heap[b]?=W.heap[b]?:=
 h.frame b X fun id l U=>by cases U
theorem bDj{mo:Bool}{W:World}{k:IntKind}{sz len cap b o:Nat}{f:Nat->Int}{els:List (List AV)}(B:∀e∈els,e.length=sz)(U:els.length=len)
 (N:els.flatten=(List.range (len*sz)).map fun j=>AV.int k (f j)) (R:∀j,j<len*sz->W.cell? ⟨b,o+j,none⟩=some (.int k (f j))) (T:len<=cap):
 VR (tN mo W) W (.bK 0 sz els) (.slice (some ⟨b,o,none⟩) len cap):=by
 subst U;have i:els.flatten.length=els.length*sz:=by grind
 have d:∀j,j<els.length*sz->els.flatten.getD j aC=.int k (f j):=fun j Y=>by grind
 refine .bK 0 sz els b o cap (fun j=>.int k (f j)) B (fun j Y=>?_) (fun j Y=>?_) ⟨T,trivial⟩
 . rw[i] at Y;refine⟨⟨_,R j Y⟩,R j Y,?_⟩;rw[d j Y];rfl
 rw[i] at Y;rw[d j Y];exact .int _ _
theorem aAt{w:World}{a:Addr}{v:Value}(h:w.cell? a=some v):a.spot=none:=World.cell?_spot h
theorem Wg(b o j:Nat):(Addr.mk b o none).add j=⟨b,o+j,none⟩:=by unfold Addr.add;simp
section
variable {H:Type} {enc:TypeId×Value->H} {P:Program} {w:World} {base:Nat} {held:Bool}
theorem Vb{t e:TypeId}{k:IntKind}{d:Nat}{l:List TypeId}{L:Nat}{v:Value}{x:DataW H×List MemPlace}(W:P.underlying t=some (.slice e))(N:Nd P d e=some l)
 (E:∀u∈l,P.underlying u=some (.int k)) (A:P.cellsOf e=l.length) (G:0<l.length) (mo:Bool) (h:DataW.trod enc P w base (fun _=>true) held L t [v]=some x):
 v=.slice none 0 0\/∃(len:Nat) (f:Nat->Int),len<=maxLen/\(∀j,j<len*l.length->(Lit.int k (f j)).wf=true)/\
  ∀els:List (List AV),els.length=len->(∀e∈els,e.length=l.length)->els.flatten=(List.range (len*l.length)).map (fun j=>AV.int k (f j))->VR (tN mo w) w (.bK 0 l.length els) v:=by
 rcases open_slice W h with ⟨G,_⟩|⟨a,len,cap,m,n,D,Pl,J,X,U,hm,c,rfl,C⟩
 . exact .inl (by simpa using G)
 right;have R:v=.slice (some a) len cap:=by simpa using J
 subst R;have q:m=cap:=by simpa using c
 subst q
 have key:∀j,j<m*l.length->∃r,w.cell? (a.add j)=some (.int k r)/\(Lit.int k r).wf=true:=fun j Y=>by have F:j / l.length<m:=Kh (by rwa [Cc]);have V:j%l.length<l.length:=Bz _ G;obtain⟨FY,O,Z⟩:=C (j / l.length) A0;rw[A] at O;obtain⟨_,Q,I⟩:=World.cells?_some O;have B:=AA d N Z;obtain⟨r,z,M⟩:=vQ B (i:=j%l.length) (u:=l[j%l.length]) (Ai V) (E _ (Ag V));refine⟨r,?_,M⟩;rw[<-z,<-I _ V,add_add,Cc,Dt]
 have K:len*l.length<=m*l.length:=Bc _ U;obtain⟨f,g⟩:=choose_lt (α:=Int) (n:=len*l.length) (p:=fun j r=>w.cell? (a.add j)=some (.int k r)/\(Lit.int k r).wf=true) (fun j Y=>key j A0);refine⟨len,f,by omega,fun j Y=>(g j Y).2,fun els T e2 S=>?_⟩;obtain⟨b,o,s⟩:=a
 cases s with
 |none=>exact bDj e2 T S (fun j Y=>by have :=(g j Y).1;rwa [Wg] at this) U
 |some s=>
  have y:m=0:=by
   rcases Fy m with h|h
   . exact h
   obtain⟨r,V,_⟩:=key 0 (Hn h G);have :=aAt V;simp[Addr.add] at this
  subst y;obtain rfl:len=0:=by omega
  obtain rfl:els=[]:=Cl T;exact .wE 0 l.length b o s A1
end
theorem Qw{α:Type}(f:Nat->α)(sz:Nat):∀len:Nat,((List.range len).map fun i=>(List.range sz).map fun r=>f (i*sz+r)).flatten=(List.range (len*sz)).map f
 |0=>by simp
 |len+1=>by rw[Dh,Cg,Ex,Qw f sz len,Bn,Fh,List.range_add,Cg,Ea];simp
variable{E:Gh}
theorem bh{mo:Bool}{W k:World}{H':aB}(h:Ext (tN mo W) ⟨0,.nil⟩ W E H' k)(a:Addr)(I:a.block<W.heap.size):k.frozen? a=W.frozen? a:=by simp only[World.frozen?,KV h I]
theorem aFu{mo:Bool}{W k:World}{H':aB}(h:Ext (tN mo W) ⟨0,.nil⟩ W E H' k)(a:MemPlace->Prop):W.keptBut k a:=by
 refine⟨h.same.1,h.same.2,fun i F=>?_⟩
 grind[KV]
section
variable {H:Type} {enc:TypeId×Value->H} {P:Program}
theorem YN{mo:Bool}{f:Func}{s:ChangeSpec}{d fresh c e:Bool}{W k:World}{args:Array Value}{v:Value}{ds U:List (DataW H)}{a pa pv:List MemPlace}{E:Gh}{H':aB}
 (i:Ext (tN mo W) ⟨0,.nil⟩ W E H' k)
 (hW:DataW.Whole enc P f.params.toList s.vars d W args.toList ds U a)
 (n:∀(b:Nat) (Q:Nat->Bool) (hd:Bool),DataW.TrodAll enc P k b Q hd f.resultTypes.toList (v.resultList f.resultTypes.size) (s.fn H (ds++U)).results [])
 (q:∀Q:Nat->Bool,(∀p∈a,Q p.block=true)->DataW.TrodAll enc P k 0 Q true f.params.toList args.toList (s.fn H (ds++U)).args pa)
 (g:∀Q:Nat->Bool,(∀p∈a,Q p.block=true)->DataW.TrodVars enc P k Q s.vars (s.fn H (ds++U)).vars pv)
 (X:a=pa++pv)
 (l:∀(j:Nat) (t:TypeId) (r:Value),f.resultTypes[j]?=some t->(v.resultList f.resultTypes.size)[j]?=some r->Value.okWide P k .any 0 t r):
 s.post enc P f d fresh c e W args v k:=by
 have o:∀p∈a,(fun b=>decide (b<W.heap.size)) p.block=true:=fun p m=>by simpa using hW.lt p m
 refine⟨ds,U,a,[],pa,pv,hW,n _ _ _,q _ o,g _ o,aFu i _,fun _=>?_⟩;obtain⟨_,_,_,_,_,h,A⟩:=id hW;refine⟨l,_,_,([]++pa)++pv,⟨[]++pa,pv,trodAll_append (q _ (fun _ _=>rfl)) (n _ _ _),g _ (fun _ _=>rfl),rfl,?_,?_⟩,?_⟩
 . intro b off m;have x:MemPlace.cell b off∈a:=by grind
   rw[bh i _ (hW.lt _ x)];exact h b off x
 all_goals grind
end
end
end Go.Av
namespace Go.Av
section
def zP:=And.intro bNd (And.intro NL bNe)
def zG:=And.intro bNd <| And.intro sy <| And.intro uw <| And.intro @AV.cells.eq_1 <| And.intro @AV.cells.eq_2 <| And.intro @AV.DS.eq_1 <| And.intro @AV.DS.eq_2 <| And.intro @BX.eq_1 <| And.intro @BX.eq_2 <| And.intro @BX.eq_3 <| And.intro @BX.eq_4 <| And.intro @BX.eq_5 <| And.intro @BX.eq_6 <| And.intro @unA.eq_1 <| And.intro @unA.eq_2 <| And.intro @unA.eq_3 <| And.intro @unA.eq_4 <| And.intro @unA.eq_5 <| And.intro @unA.eq_6 @dY.eq_1
def zI:=And.intro @aB.eV.eq_1 <| And.intro sh <| And.intro sn <| And.intro sl <| And.intro @gH.eq_1 <| And.intro @KR.eq_1 <| And.intro @KR.eq_2 <| And.intro @Mu.eq_1 <| And.intro @Mu.eq_2 <| And.intro Gg <| And.intro Fl <| And.intro @false_implies <| And.intro @implies_true.{0} <| And.intro @implies_true.{1} <| And.intro bDk <| And.intro iz <| And.intro cOl <| And.intro @AV.cells.eq_1 <| And.intro @AV.cells.eq_2 <| And.intro @AV.DS.eq_1 <| And.intro @AV.DS.eq_2 <| And.intro @BX.eq_1 <| And.intro @BX.eq_2 <| And.intro @BX.eq_3 <| And.intro @BX.eq_4 <| And.intro @BX.eq_5 @BX.eq_6
def zD:=And.intro @eN.fresh.eq_1 <| And.intro @eN.fresh.eq_2 <| And.intro @eN.fresh.eq_3 <| And.intro @eN.fresh.eq_4 <| And.intro @eN.fresh.eq_5 <| And.intro @eN.fresh.eq_6 <| And.intro bSk <| And.intro bNf <| And.intro @kf <| And.intro @eN.dP.eq_1 <| And.intro @eN.dP.eq_2 <| And.intro @eN.dP.eq_3 <| And.intro @eN.dP.eq_4 <| And.intro @eN.dP.eq_5 <| And.intro @DO.eq_1 <| And.intro @DO.eq_2 <| And.intro @DO.eq_3 <| And.intro @DO.eq_4 <|
 And.intro @false_implies <| And.intro @implies_true.{0} <| And.intro @implies_true.{1} <| And.intro @forall_const.{0} <| And.intro @forall_const.{1} <| And.intro @Ke <| And.intro @and_true <| And.intro @Cn.{0} <| And.intro @Ba.{0} <| And.intro @Fg <| And.intro @false_or <| And.intro @An.{0,0} <| And.intro @forall_eq.{1} <| And.intro @forall_eq_or_imp.{1} <| And.intro @forall_eq'.{1} @Aj.{0}
def zR:=And.intro @ED.eq_1 <| And.intro @ED.eq_2 <| And.intro @aIb.eq_1 <| And.intro @aIb.eq_2 <| And.intro zG zI
def zB:=And.intro NL <| And.intro @ne_eq.{1} @Fm
theorem tB{p q:Prop} [Decidable p] [Decidable q] (h:p↔q):True/\True/\AV.bool (decide p)=AV.bool (decide q):=⟨trivial,trivial,Al AV.bool (Bj.2 h)⟩
theorem Rx{W:List KA}{R:Out->aB->Prop}{f:dI}{H:aB}{vs:List AV}(r:R (.ret (nJ vs)) H)(J:ED f H W=some vs:=by(simp only[↓zP,zR,seval];rfl)):SI W R .ret f [] H:=⟨rfl,vs,J,r⟩
def zJ:=And.intro zG zI
def zM:=And.intro sm <| And.intro @List.cons.injEq.{0} @and_true
theorem wI{z y:Int}(h: -2^63<=z/\z<2^63/\z=y):IntKind.i64.wrap z=y:=by grind[wrap_i64]
theorem eL(h:aB)(s t:Nat)(x:List AV):dM h s (.bK t s [x])=some [x]:=by simp[dM]
theorem Dz{P:Program}{g:bL}{n:Nat}{f:dI}{ds:List gW}{H:aB}{Q:FQ}{pairs:List (Nat×Nat)}{rl:List bH}(h:eE P g n pairs H.next 0 0 rl [] [] f H fun u H'=>Q .normal u ds H')(G:rl.countP (·.op.fresh)=0:=by decide):FC P g n (.draw rl pairs) f ds H Q:=WZ G h
structure Kt (P:Program) (g:bL) (n:Nat) (b:bX) (Q:FQ) (f:dI) (ds:List gW) (H:aB):Prop where
 h:FC P g n b f ds H Q
variable{b:bX}
theorem bE{P:Program}{g:bL}{n:Nat}{Q:FQ}{f u:dI}{ds:List gW}{H H':aB}(N:f=u)(q:H=H'):Kt P g n b Q f ds H=Kt P g n b Q u ds H':=by grind
theorem bQ{P:Program}{g:bL}{n:Nat}{Q:FQ}{f:dI}{ds:List gW}{H:aB}(h:FC P g n b f ds H Q):Kt P g n b Q f ds H:=⟨h⟩
theorem bP{P:Program}{g:bL}{n:Nat}{a:bX}{Q:FQ}{f:dI}{ds:List gW}{H:aB}(h:FC P g n a f ds H (iJ (Kt P g n b Q) Q)):FC P g n (.seq a b) f ds H Q:=by
 rw[ke];refine jJ (fun e f ds H D=>?_) h
 cases e with
 |normal=>exact D.h
 |_=>exact D
theorem fQ{P:Program}{g:bL}{n:Nat}{a:bX}{Q:FQ}{f:dI}{ds:List gW}{H:aB}(h:FC P g n a f ds H (iJ (Kt P g n b Q) Q)):Kt P g n (.seq a b) Q f ds H:=⟨bP h⟩
section
variable {P:Program} {g:bL} {n:Nat} {f:dI} {H:aB} {d:Nat} {fid:FuncId} {azs:List Arg} {args:List AV} {v:AV} {H':aB}
theorem eI{r:List bH}{ds:List gW}{Q:FQ}(w:Sound P g fid args H (.ret v) H')(h:bS P g n r (jF f d v) ds H' Q)(hd:d<n:=by decide)(I:azs.map (nZ g f)=args:=by simp only[sm,NL,Nat.reduceEqDiff,dY]):
 bS P g n (⟨some d,.call (.const (.func (.func fid) [] [])) azs,none⟩::r) f ds H Q:=SU hd I w h
theorem gV{pairs:List (Nat×Nat)}{base i k:Nat}{W:List bH}{a:List (Nat×Nat)}{t:List (Nat×aB×aB)}{R:dI->aB->Prop}(w:Sound P g fid args H (.ret v) H')
 (h:eE P g n pairs base (i+1) k W a ((i,H,H')::t) (jF f d v) H' R) (hd:d<n:=by decide) (I:azs.map (nZ g f)=args:=by simp only[sm,NL,ne_eq,Nat.reduceEqDiff,Fm]) (A:H.next<=H'.next:=by exact Ad _)
 (hr:∀x∈a,(x.1,i)∈pairs->H.get x.2=H'.get x.2:=by exact fun _ _ _=>rfl):eE P g n pairs base i k (⟨some d,.call (.const (.func (.func fid) [] [])) azs,none⟩::W) a t f H R:=yG hd I w A hr h
end
theorem Ks{f g A:Nat->AV}{n:Nat}{v:AV}(h:f=g)(e:A n=v)(k:g n=A n:=by simp only[zB,seval]):f n=v:=by grind
theorem zq{a b:AV}(k:a=b:=by simp only[zB,seval]):a=b:=k
variable{q:Prop}
theorem Tz{p:Prop}(h:q)(k:p=q:=by simp only[↓zP,zG,seval];exact rfl):p:=by grind
theorem Ty{p:Prop}(h:q)(k:p=q:=by simp only[↓zP,zJ,seval];exact rfl):p:=by grind
theorem Tx{p:Prop}(h:q)(k:p=q:=by simp only[↓zP,seval];exact rfl):p:=by grind
theorem Tv{p:Prop}(h:q)(k:p=q:=by simp only[zI,seval];exact rfl):p:=by grind
end
end Go.Av
namespace Go.Av
open Go
section
section
variable {P:Program} {g:bL} {n:Nat} {f:dI} {H:aB} {d:Nat} {fid:FuncId} {azs:List Arg} {args:List AV} {v:AV} {H':aB}
theorem FCx{r:List bH}{ds:List gW}{Q:FQ}(I:azs.map (nZ g f)=args)(w:Sound P g fid args H (.ret v) H')(hd:d<n)(h:bS P g n r (jF f d v) ds H' Q):
 bS P g n (⟨some d,.call (.const (.func (.func fid) [] [])) azs,none⟩::r) f ds H Q:=SU hd I w h
theorem FDx{pairs:List (Nat×Nat)}{base i k:Nat}{W:List bH}{a:List (Nat×Nat)}{t:List (Nat×aB×aB)}{R:dI->aB->Prop}(I:azs.map (nZ g f)=args)(w:Sound P g fid args H (.ret v) H')(hd:d<n)
 (h:eE P g n pairs base (i+1) k W a ((i,H,H')::t) (jF f d v) H' R) (A:H.next<=H'.next:=by exact Ad _)
 (hr:∀x∈a,(x.1,i)∈pairs->H.get x.2=H'.get x.2:=by exact fun _ _ _=>rfl):eE P g n pairs base i k (⟨some d,.call (.const (.func (.func fid) [] [])) azs,none⟩::W) a t f H R:=yG hd I w A hr h
end
variable{q:Prop}
theorem Wz{p:Prop}(h:q)(k:q->p:=by
 intro hW
 repeat (first
  |simp only[↓zP,zJ,seval,zD,reduceCtorEq,AH,aI,Bg,Ci,Gg,Fl, *,-hW]
  |refine FCx ZaC (by apply_assumption) A1 ?_
  |refine FDx Zay (by apply_assumption) A1 ?_)
 exact hW):p:=k h
theorem Wy{p:Prop}(h:q)(k:q->p:=by
 intro hW
 repeat (first
  |simp only[↓zP,zJ,seval,zD,reduceCtorEq,AH,aI,Bg,Ci,Gg,Fl, *,-hW,-hK]
  |refine FCx ZaC (by apply_assumption) A1 ?_
  |refine FDx Zay (by apply_assumption) A1 ?_)
 exact hW):p:=k h
theorem Wx{p:Prop}(h:q)(k:q->p:=by
 intro hW
 repeat (first
  |simp only[↓zP,zJ,seval,zD,reduceCtorEq,AH,aI,Bg,Ci,Gg,Fl, *,-hW,-dJ]
  |refine FCx ZaC (by apply_assumption) A1 ?_
  |refine FDx Zay (by apply_assumption) A1 ?_)
 exact hW):p:=k h
theorem Ww{p:Prop}(h:q)(k:q->p:=by
 intro hW
 repeat (first
  |simp only[↓zP,zJ,seval,zD,reduceCtorEq,AH,aI,Bg,Ci,Gg,Fl, *,-hW,-hK,-dJ]
  |refine FCx ZaC (by apply_assumption) A1 ?_
  |refine FDx Zay (by apply_assumption) A1 ?_)
 exact hW):p:=k h
theorem Kv{A X:aB}{i:Nat}{v:Option eS}(hX:A=X)(e:A.get i=v:=by simp only[zI,seval];exact rfl):X.get i=v:=hX▸e
theorem Kx{A X:aB}{i:Nat}{v:Option eS}(h:A=X)(e:A.get i=v:=by simp only[zI,seval, *,-hX];exact rfl):X.get i=v:=h▸e
theorem Ku{H X:aB}{r q:Nat}{o p:eS}{w:Option eS}(hX:(H.alloc o).set r p=X)(g:H.get q=w)(O:q≠r:=by omega)(Z:q≠H.next:=by omega):X.get q=w:=by rw[<-hX,aB.aD,if_neg O,aB.aJ,if_neg Z];exact g
theorem Kw{H L X:aB}{r q:Nat}{o p:eS}{w:Option eS}(hX:(L.set r o).set r p=X)(e:∀id,L.get id=H.get id)(g:H.get q=w)(O:q≠r:=by omega):X.get q=w:=by rw[<-hX,aB.aD,if_neg O,aB.aD,if_neg O,e];exact g
theorem Kz{A X:aB}{r:Nat}{p:eS}(hX:A.set r p=X):X.get r=some p:=by rw[<-hX,aB.aD,if_pos rfl]
theorem Kf{f g:Nat->AV}{i:Nat}{v:AV}(h:f=g)(e:g i=v:=by simp only[zB,seval];exact rfl):f i=v:=h▸e
theorem Kg{f g:Nat->AV}{i:Nat}{v:AV}(h:f=g)(e:g i=v:=by simp only[zB,seval, *];exact rfl):f i=v:=h▸e
theorem Kj{a b v:AV}(h:a=b)(e:b=v:=by simp only[zB,seval];exact rfl):a=v:=h.trans e
end
section
section
variable {P:Program} {g:bL} {rl:List bH} {pj:Option Nat} {pairs:List (Nat×Nat)} {s0:List AV} {H0:aB} {Hs:Nat->aB} {ss:Nat->List AV} {vs:Nat->AV}
variable {n:Nat} {f:dI} {ds:List gW} {H:aB} {Q:FQ}
end
end
end Go.Av
namespace Go.Proofs.YtogfcjbgeebfkaaGreatDoor
open Go Go.Av
def bNs:Nat->Option (List AV):=fun _=>none
def gv:bL:=mkG Tryz.prog bNs
theorem fit:Fit Tryz.prog gv:=ot (by kernel_rfl)
theorem dZ:GN gv:=fun n cs h=>by cases h
abbrev Sg(f:FuncId)(args:List AV)(H:aB)(out:Out)(H':aB):Prop:=Sound Tryz.prog gv f args H out H'
abbrev CW(f:Go.Func):={x:CC // xT Tryz.prog gv false f=some x}
theorem dH {k:FuncId} {f:Go.Func} (h:Tryz.prog.funcs[k]?=some f) (W:CW f) (h2:(f.name== "runtime.NumGoroutine")=false:=by kernel_rfl):gX Tryz.prog gv false k W.1:=dT h h2 W.2
abbrev Fi(k:FuncId){f:Go.Func}(W:CW f):=gX Tryz.prog gv false k W.1
variable{F:CC}
theorem Sp{N:Bool}{k:FuncId}(u:gX Tryz.prog gv N k F){args:List AV}{v:AV}(I:cP args=true)(J:v.free=true)
 (h:FC Tryz.prog gv F.ntmps F.body (dY args) [] ⟨0,.nil⟩ (SI F.results fun o _=>o=.ret v)) (H:aB) (U:args.length<=F.ntmps:=by exact Ab rfl):Sound Tryz.prog gv k args H (.ret v) H:=
 IC fit dZ u U I J h H
theorem So{N:Bool}{k:FuncId}(u:gX Tryz.prog gv N k F){args:List AV}{v:AV}(I:cP args=true)
 (h:FC Tryz.prog gv F.ntmps F.body (dY args) [] ⟨0,.nil⟩ (SI F.results fun o _=>o=.ret v)) (H:aB) (J:v.free=true:=by simp only[sf,sfI,cD]) (U:args.length<=F.ntmps:=by exact Ab rfl):Sound Tryz.prog gv k args H (.ret v) H:=
 IC fit dZ u U I J h H
variable{fn:Go.Func}
theorem dD{g:bL}{N:Bool}(h:(xT Tryz.prog g N fn).isSome=true:=by kernel_rfl)(C:mkX Tryz.prog g N fn=some F:=by conv=>lhs;cbv):xT Tryz.prog g N fn=some F:=aGp h C
def mkY(P:Program)(g:bL)(N:Bool)(fn:Go.Func)(c:Code):Option CC:=
 match fJ P g N c,wM P fn.results.toList with
  |some b,some r=>some ⟨fn.ntmps,r,b⟩
  |_,_=>none
theorem Mx{g:bL}{N:Bool}{b:Code}(X:fn.body=some b:=by exact rfl)(h:(xT Tryz.prog g N fn).isSome=true:=by kernel_rfl)(C:mkY Tryz.prog g N fn b=some F:=by
 conv=>lhs;unfold mkY;simp only[ax]
 (try conv in (occs:= *) mX _ _ _ _ _=>all_goals cbv)
 (try simp only[Cq])
 (try conv in (occs:= *) qY _ _=>all_goals cbv)
 conv=>lhs;cbv):xT Tryz.prog g N fn=some F:=aGp h (by unfold mkX;rw[X];exact C)
theorem oS{f:FuncId}{N:Bool}(u:gX Tryz.prog gv N f F){args:List AV}(I:args.length<=F.ntmps){H H':aB}{out:Out}
 (h:FC Tryz.prog gv F.ntmps F.body (dY args) [] H (SI F.results fun o h=>o=out/\h=H')) (a:F.body.dL=true:=by first|rfl|decide):Sound Tryz.prog gv f args H out H':=by
 obtain⟨_,_,⟨rfl,rfl⟩,w⟩:=bZ fit u I h a;exact w
def aWz:CW Tryz.f254:=⟨_,dD⟩
theorem bJi:Fi 254 aWz:=dH Tryz.func254 aWz
def aXd:CW Tryz.f258:=⟨_,dD⟩
theorem bJm:Fi 258 aXd:=dH Tryz.func258 aXd
def aXa:CW Tryz.f255:=⟨_,Mx⟩
theorem bJj:Fi 255 aXa:=dH Tryz.func255 aXa
def aXb:CW Tryz.f256:=⟨_,dD⟩
theorem bJk:Fi 256 aXb:=dH Tryz.func256 aXb
def aXc:CW Tryz.f257:=⟨_,dD⟩
theorem bJl:Fi 257 aXc:=dH Tryz.func257 aXc
def aVp:CW Tryz.f198:=⟨_,dD⟩
theorem bHx:Fi 198 aVp:=dH Tryz.func198 aVp
def aWh:CW Tryz.f229:=⟨_,dD⟩
theorem bIq:Fi 229 aWh:=dH Tryz.func229 aWh
def aWy:CW Tryz.f253:=⟨_,dD⟩
theorem bJh:Fi 253 aWy:=dH Tryz.func253 aWy
end Go.Proofs.YtogfcjbgeebfkaaGreatDoor
