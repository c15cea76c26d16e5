/-
  Part of the proof of statement 9
-/
import Derived.Test.YtogfcjbgeebfkaaGreatDoorA06
import Derived.Test.YtogfcjbgeebfkaaGreatDoorA05
import Derived.Test.YtogfcjbgeebfkaaGreatDoorA03
import Derived.Below
import Derived.Lib.Join
import Derived.ProofKit
import Derived.OpenShut
import Derived.Deep.Slices
import Derived.Test.YtogfcjbgeebfkaaGreatDoorProg
import Derived.KernelRfl
set_option linter.unusedVariables false
set_option linter.unusedSimpArgs false
set_option linter.unusedSectionVars false
set_option linter.defProp false
set_option maxRecDepth 100000
set_option maxHeartbeats 16000000
namespace Go.Av
open Go
section
section
variable {P:Program} {g:bL} {n:Nat}
theorem tz{k:Mm}{f:dD}{id:Nat}{args:List AV}{w X:aA}{out:Out}(a:oO n f)(h:UX P g n k f id args w out X):PV P g k (LF n f) id args w out X:=by
 unfold PV;rw[Ml];refine eW (fun e A N H1 D=>?_) (vI k.Nr _ [] w _ (a.sF _) h);obtain⟨b,rfl,p,D⟩:=D
 cases e with
 |normal=>
  obtain⟨O,k1,d,Z,W⟩:=D;refine⟨O,k1,d,Z,eW (fun e c G i D=>?_) (vI k.body _ [] _ _ p W)⟩;obtain⟨s,rfl,o,D⟩:=D
  cases e with
  |panic v=>assumption
  |_=>exact D
 |_=>exact D.elim
theorem Zo(p:Fit P g){k:Mm}{f:dD}{id:Nat}{args:List AV}{w X:aA}{out:Out}(a:oO n f)(y:w.get id=some (.loop k (LF n f) .ready))(Q:args.length=k.ps.length)(h:UX P g n k f id args w out X):
 tY P g id args w out X:=Mq p y Q (tz a h)
def aBa(id:Nat)(R:Out->aA->Prop):FQ
 |.normal,_,ds,H=>ds=[]/\∃k sn,H.get id=some (.loop k sn .busy)/\R (.ret (.bool true)) (H.set id (.loop k sn .ready))
 |.ret,_,ds,H=>ds=[]/\∃k sn,H.get id=some (.loop k sn .busy)/\R (.ret (.bool false)) (H.set id (.loop k sn (.done .ret)))
 |.exit i,_,ds,H=>ds=[]/\∃k sn,H.get id=some (.loop k sn .busy)/\R (.ret (.bool false)) (H.set id (.loop k sn (.done (.exit i))))
 |.panic _,_,_,_=>False
theorem Zp(p:Fit P g){k:Mm}{f:dD}{id:Nat}{args:List AV}{w:aA}{R:Out->aA->Prop}(u:oO n f)(E:w.get id=some (.loop k (LF n f) .ready))(Q:args.length=k.ps.length)(c:k.Nr.dH=true)(a:k.body.dH=true)
 (h:FC P g n k.Nr (uY n f (k.ps.zip args)) [] w (iP (fun b N H1=>N=[]/\∃k1 d,H1.get id=some (.loop k1 d .ready)/\FC P g n k.body b [] (H1.set id (.loop k1 d .busy)) (aBa id R)) fun _ _ _ _=>False)):
 ∃out X,R out X/\tY P g id args w out X:=by
 obtain⟨l,S,V,H',⟨b,rfl,F,D⟩,q⟩:=KI c (vI k.Nr _ [] w _ (u.sF _) h)
 cases l with
 |normal=>
  obtain⟨rfl,k1,d,t,L⟩:=D;obtain⟨r,Z,G,o,⟨H,rfl,I,K⟩,m⟩:=KI a (vI k.body _ [] _ _ F L)
  have y:∀{out:Out} {X:aA},(∀s,Yo id out X r s G o)->tY P g id args w out X:=fun {out X} hr=>by
   refine Mq p E Q ?_;unfold PV;rw[Ml];refine eW (fun e A N H1 B=>?_) q;obtain⟨rfl,rfl|⟨_,x,C⟩,rfl,rfl⟩:=B;rotate_left
   . grind
   refine⟨rfl,k1,d,t,eW (fun e A N H1 B=>?_) m⟩;obtain⟨rfl,_,rfl,rfl⟩:=B
   grind
  cases r with
  |normal=>obtain⟨rfl,k2,j,M,z⟩:=K;exact⟨_,_,z,y fun s=>⟨rfl,rfl,k2,j,M,rfl⟩⟩
  |ret=>obtain⟨rfl,k2,j,M,z⟩:=K;exact⟨_,_,z,y fun s=>⟨rfl,rfl,k2,j,M,rfl⟩⟩
  |exit i=>obtain⟨rfl,k2,j,M,z⟩:=K;exact⟨_,_,z,y fun s=>⟨rfl,rfl,k2,j,M,rfl⟩⟩
  |panic v=>exact K.elim
 |_=>exact D.elim
variable {r:List bG} {f:dD} {ds:List gX} {H:aA} {Q:FQ}
theorem IG{d:Nat}{c:Arg}{id:Nat}{azs:List Arg}{args:List AV}{v:AV}{H':aA}(hd:d<n)(R:oG g f c=.yield id)(I:azs.map (oG g f)=args)
 (u:tY P g id args H (.ret v) H') (h:bT P g n r (kI f d v) ds H' Q):bT P g n (⟨some d,.call c azs,none⟩::r) f ds H Q:=by
 have :∀v,gK n f (some d) v=kI f d v:=fun v=>by grind[gK]
 unfold bT;simp only[lI,if_true,this];exact⟨.ret v,H',.inr ⟨id,R,by grind⟩,h⟩
variable{body:bY}
theorem ud{c:Arg}{ps:List Nat}{a:bY}{fid:FuncId}{fs cs:List AV}{v:AV}{B:aA}{p:Mm}{S:List AV}{y:LSt}(R:oG g f c=.func (.func fid) fs cs)
 (u:Sound P g fid (fs++[.yield (H.next+1)]++cs) ((H.alloc .Nu).alloc (.loop ⟨ps,a,body⟩ (LF n f) .ready)) (.ret v) B) (U:B.get (H.next+1)=some (.loop p S y))
 (h:∀G,AD B (H.next+1) G->Qi y f (.mark H.next::ds) G Q):FC P g n (.pT c ps a body) f ds H Q:=by
 have r:∃G,AD B (H.next+1) G:=⟨B.set (H.next+1) .dead,rfl,fun m=>by rw[aA.aH]⟩
 obtain⟨G,N⟩:=r;exact⟨fid,fs,cs,v,B,p,S,y,G,R,u,U,N,h G N⟩
theorem IF{c:Arg}{ps:List Nat}{a:bY}{fid:FuncId}{fs cs:List AV}(R:oG g f c=.func (.func fid) fs cs)
 (h:∃v B p S y,Sound P g fid (fs++[.yield (H.next+1)]++cs) ((H.alloc .Nu).alloc (.loop ⟨ps,a,body⟩ (LF n f) .ready)) (.ret v) B/\B.get (H.next+1)=some (.loop p S y)/\
   ∀G,AD B (H.next+1) G->Qi y f (.mark H.next::ds) G Q):FC P g n (.pT c ps a body) f ds H Q:=by
 obtain⟨v,B,p,S,y,O,Z,W⟩:=h;exact ud R O Z W
theorem oO.kI{n:Nat}{f:dD}(h:oO n f){d:Nat}(hd:d<n)(v:AV):oO n (kI f d v):=fun t q=>by rw[pX _ _ A0];exact h t q
variable{c:bY}
theorem aTz{A:dD}{ds:List gX}{H0:aA}{Q:FQ}(X:oO n A)(h:∀f H,oO n f->f=A->H=H0->FC P g n c f ds H Q):FC P g n c A ds H0 Q:=h _ _ X rfl rfl
theorem bW{A:dD}{ds:List gX}{H:aA}{Q:FQ}(h:∀f,f=A->FC P g n c f ds H Q):FC P g n c A ds H Q:=h _ rfl
structure Over (H H':aA):Prop where
 le:H.next<=H'.next
 same:∀j,j<H.next->H'.get j=H.get j
theorem Over.refl(H:aA):Over H H:=⟨Ae _,fun _ _=>rfl⟩
theorem Over.alloc{H H':aA}(h:Over H H')(o:eG):Over H (H'.alloc o):=⟨by simp only[aA.bK];have :=h.le;omega,fun j Y=>by
 have :=h.le
 rw[aA.aI,if_neg A0];exact h.same j Y⟩
theorem Over.set{H H':aA}(h:Over H H'){id:Nat}(d:H.next<=id)(o:eG):Over H (H'.set id o):=⟨by exact h.le,fun j Y=>by rw[aA.aH,if_neg A0];exact h.same j Y⟩
end
end
attribute [local congr] aQ
section
section
variable {P:Program} {g:bL} {n:Nat}
def aNp(n c ix a b:Nat)(cs:List Nat)(l B:bY):Bool:=
 Nat.blt c n&&Nat.blt ix n&&Nat.blt a n&&Nat.blt b n&& !Nat.beq a ix&& !Nat.beq b ix&& !Nat.beq b a&& !wZ ix l.wr&& !wZ ix B.wr&&B.tK&& !wZ a cs&& !wZ b cs&& !wZ ix cs&&cs.all (fun t=> !wZ t l.wr)
def TK(ix a b:Nat)(l B:bY):List Nat:=a::b::ix::(l.wr++B.wr)
variable{l B:bY}
theorem kr{id c ix a b:Nat}{op:BinOp}{S:Int}{f:dD}{ds:List gX}{H:aA}{Q:FQ}(cs:List Nat)(J:Nat->List AV->aA->Prop)(val:Nat->Int)(N:Nat)
 (M:aNp n c ix a b cs l B=true) (gY:∀i,i<N->rX op .i64 (val i) .i64 S=some (.int .i64 (val (i+1))))
 (O:f ix=.int .i64 (val 0)) (o:J 0 (cs.map f) H)
 (k:∀(i:Nat) (u:dD) (H':aA),i<=N->lK (TK ix a b l B) f u->u ix=.int .i64 (val i)->J i (cs.map u) H'->FC P g n l u ds H' (iP (fun V r j=>r=ds/\j=H'/\V c=.bool (decide (i<N))) fun _ _ _ _=>False))
 (body:∀(i:Nat) (u:dD) (H':aA),i<N->lK (TK ix a b l B) f u->u ix=.int .i64 (val i)->J i (cs.map u) H'->FC P g n B u ds H' (iP (fun V _ j=>J (i+1) (cs.map V) j) (dV id Q)))
 (done:∀(u:dD) (H':aA),lK (TK ix a b l B) f u->J N (cs.map u) H'->Q .normal u ds H'):
 FC P g n (.block id (.loop (.seq (.seq l (.cond (.tmp c) .skip (.exit id))) (.seq B
  (.ops [⟨some a,.wE (.tmp ix),none⟩,⟨some b,.bin op (.tmp a) (.const (.int .i64 S)),none⟩,⟨some ix,.wE (.tmp b),none⟩]))))) f ds H Q:=by
 simp only[aNp,Ak,Cx,Im,Bh] at M;obtain⟨⟨⟨⟨⟨⟨⟨⟨⟨⟨⟨⟨⟨A,Z⟩,s3⟩,x⟩,D⟩,W⟩,U⟩,t1⟩,R⟩,L⟩,y⟩,m⟩,c3⟩,c4⟩:=M;have h:∀d∈l.wr,d∈TK ix a b l B:=fun d hd=>by simp[TK,hd]
 have I:∀d∈B.wr,d∈TK ix a b l B:=fun d hd=>by simp[TK,hd]
 have p:∀{u:dD} {d:Nat} {v:AV},d∈TK ix a b l B->lK (TK ix a b l B) f u->lK (TK ix a b l B) f (kI u d v):=fun {u d v} hd E t q=>by have z:t≠d:=fun e=>rD.1 q (by rw[e];exact hd);rw[pX _ _ z];exact E t q
 refine aUa (id:=id) (c:=c) (fun i u H'=>lK (TK ix a b l B) f u/\u ix=.int .i64 (val i)/\J i (cs.map u) H') N ⟨.aIw,O,o⟩ ?_ ?_ ?_
 . rintro i u H' F ⟨E,T,Y⟩ K hK C;refine lE (fun e s G w X=>?_) (KP (k i u H' F E T Y));obtain⟨k1,k2,k3⟩:=X
   cases e with
   |normal=>obtain⟨rfl,rfl,k4⟩:=k3;refine⟨rfl,rfl,hK _ k4 ⟨E.trans (k1.sub h),by rw[k1 _ t1];exact T,?_⟩⟩;have :cs.map s=cs.map u:=Dd fun t q=>k1 t (by simpa using c4 t q);rw[this];exact Y
   |_=>exact k3.elim
 . rintro i u H' F ⟨E,T,Y⟩;refine lE (fun e s G w X=>?_) (KP (body i u H' F E T Y));obtain⟨k1,k2,k3⟩:=X
   cases e with
   |normal=>obtain rfl:=k2 L;refine⟨rfl,?_⟩;have e2:s ix=.int .i64 (val i):=(by rw[k1 _ R];exact T);have fI:=E.trans (k1.sub I);rw[Mk,KQ _ _ s3];simp only[dS,jM,e2,bX];rw[DG _ _ _ _ x];simp only[dS,jM,zQ,tS,gY i F,Ct,bX];rw[KQ _ _ Z];simp only[dS,jM,bX,yZ,jD,tS];refine⟨trivial,p (by simp[TK]) (p (by simp[TK]) (p (by simp[TK]) fI)),trivial,?_⟩;rw[Lu c3,Lu m,Lu y];exact k3
   |_=>exact k3
 rintro u H' ⟨E,T,Y⟩;exact done u H' E Y
theorem cL{id c ix a b:Nat}{f:dD}{ds:List gX}{H:aA}{Q:FQ}(cs:List Nat)(J:Nat->List AV->aA->Prop)(s N:Nat)(d:s<=N)(e:N<2^63)
 (M:aNp n c ix a b cs l B=true) (O:f ix=.int .i64 s) (o:J s (cs.map f) H)
 (k:∀(i:Nat) (u:dD) (H':aA),s<=i->i<=N->lK (TK ix a b l B) f u->u ix=.int .i64 i->J i (cs.map u) H'->FC P g n l u ds H' (iP (fun V r j=>r=ds/\j=H'/\V c=.bool (decide (i<N))) fun _ _ _ _=>False))
 (body:∀(i:Nat) (u:dD) (H':aA),s<=i->i<N->lK (TK ix a b l B) f u->u ix=.int .i64 i->J i (cs.map u) H'->FC P g n B u ds H' (iP (fun V _ j=>J (i+1) (cs.map V) j) (dV id Q)))
 (done:∀(u:dD) (H':aA),lK (TK ix a b l B) f u->J N (cs.map u) H'->Q .normal u ds H'):
 FC P g n (.block id (.loop (.seq (.seq l (.cond (.tmp c) .skip (.exit id))) (.seq B
  (.ops [⟨some a,.wE (.tmp ix),none⟩,⟨some b,.bin .add (.tmp a) (.const (.int .i64 1)),none⟩,⟨some ix,.wE (.tmp b),none⟩]))))) f ds H Q:=by
 refine kr cs (fun i=>J (s+i)) (fun i=>((s+i:Nat):Int)) (N -s) M (fun i F=>?_) A0 A0 (fun i u H' F E T Y=>?_) (fun i u H' F E T Y=>?_) (fun u H' E Y=>?_)
 . grind[rX,wrap_i64,AV.int.injEq]
 . have h:=k (s+i) u H' A0 A0 E T Y
   rwa [show decide (s+i<N)=decide (i<N -s) from by grind] at h
 all_goals grind
theorem US{id c ix a b:Nat}{f:dD}{ds:List gX}{H:aA}{Q:FQ}(cs:List Nat)(J:Nat->List AV->aA->Prop)(N:Nat)(d:N<2^63)
 (M:aNp n c ix a b cs l B=true) (O:f ix=.int .i64 ((N:Int) -1)) (o:J N (cs.map f) H)
 (k:∀(i:Nat) (u:dD) (H':aA),i<=N->lK (TK ix a b l B) f u->u ix=.int .i64 ((i:Int) -1)->J i (cs.map u) H'->FC P g n l u ds H' (iP (fun V r j=>r=ds/\j=H'/\V c=.bool (decide (0<i))) fun _ _ _ _=>False))
 (body:∀(i:Nat) (u:dD) (H':aA),i<N->lK (TK ix a b l B) f u->u ix=.int .i64 i->J (i+1) (cs.map u) H'->FC P g n B u ds H' (iP (fun V _ j=>J i (cs.map V) j) (dV id Q)))
 (done:∀(u:dD) (H':aA),lK (TK ix a b l B) f u->J 0 (cs.map u) H'->Q .normal u ds H'):
 FC P g n (.block id (.loop (.seq (.seq l (.cond (.tmp c) .skip (.exit id))) (.seq B
  (.ops [⟨some a,.wE (.tmp ix),none⟩,⟨some b,.bin .sub (.tmp a) (.const (.int .i64 1)),none⟩,⟨some ix,.wE (.tmp b),none⟩]))))) f ds H Q:=by
 refine kr cs (fun i=>J (N -i)) (fun i=>((N -i:Nat):Int) -1) N M (fun i F=>?_) A0 A0 (fun i u H' F E T Y=>?_) (fun i u H' F E T Y=>?_) (fun u H' E Y=>?_)
 . grind[rX,wrap_i64,AV.int.injEq]
 . have h:=k (N -i) u H' A0 E T Y
   rwa [show decide (0<N -i)=decide (i<N) from by grind] at h
 . have e:N -i=(N -(i+1))+1:=by omega
   grind
 grind
end
end
variable{k:IntKind}
theorem Rs(M:k.signed=false)(x:Int):k.wrap x=x%2^k.bits:=by simp[IntKind.wrap,M]
theorem aBx(M:k.signed=false)(x:Nat):k.wrap (x:Int)=((x%2^k.bits:Nat):Int):=by rw[Rs M];simp
theorem zu(n x:Nat):BitVec.ofInt n (x:Int)=BitVec.ofNat n x:=by apply BitVec.eq_of_toNat_eq;simp[BitVec.toNat_ofInt]
theorem aMl(M:k.signed=false){a b:Nat}(I:a<2^k.bits)(X:b<2^k.bits):zK .or k (a:Int) (b:Int)=some (.int k ((a|||b:Nat):Int)):=by
 have h:(BitVec.ofNat k.bits a|||BitVec.ofNat k.bits b).toNat=a|||b:=by rw[BitVec.toNat_or,Ji,Ji,Bl I,Bl X]
 simp only[zK,zu,h,aBx M];rw[Bl (Nat.or_lt_two_pow I X)]
end Go.Av
namespace Go.aC
section
variable {p:Nat->V} {N:Nat} {n:V} {d:Int}
instance:DecidableEq V:=fun a b=>match a,b with
 |⟨x,y,z⟩,⟨x',y',z'⟩=>if h:x=x'/\y=y'/\z=z' then .isTrue (by obtain⟨rfl,rfl,rfl⟩:=h;rfl) else .isFalse (fun e=>h (by cases e;exact⟨rfl,rfl,rfl⟩))
def fX(p:Nat->V)(i j k:Nat):V×Int:=(iK (aY (vec p i j) (vec p i k)),dot (iK (aY (vec p i j) (vec p i k))) (p i))
def jR(p:Nat->V)(i j k:Nat):List (V×Int):=
 if(fX p i j k).1=V0 then [] else [fX p i j k,(neg (fX p i j k).1,-(fX p i j k).2)]
theorem Tt:iK V0=V0:=by rfl
theorem BM{i j k:Nat}(F:i<N)(Y:j<N)(E:k<N){q:V×Int}(h:q∈jR p i j k)(le:∀k,k<N->dot q.1 (p k)<=q.2)(lt:∃k,k<N/\dot q.1 (p k)<q.2):oM p N q.1 q.2:=by
 unfold jR at h;split at h
 . grind
 rename_i s;have R:aY (vec p i j) (vec p i k)≠V0:=fun e=>s (by rw[fX,e,Tt]);simp only[Bd,Ci,Fe] at h
 rcases h with rfl|rfl
 . exact yX.isF (a:=i) (b:=j) (c:=k) ⟨R,.inl rfl⟩ F Y E le lt rfl
 refine yX.isF (a:=i) (b:=j) (c:=k) ⟨R,.inr rfl⟩ F Y E le lt ?_;simp[fX,oF]
theorem iB(F:oM p N n d):∃i j k,k<j/\j<i/\i<N/\(n,d)∈jR p i j k:=by
 obtain⟨i,j,k,O,Z,W,R,hd⟩:=F.down;refine⟨i,j,k,O,Z,W,?_⟩;have s:¬(fX p i j k).1=V0:=rf R.1;unfold jR
 rcases R.2 with e|e<;>simp_all[hd,e,fX,oF]
def tW(i j k a b c:Nat):Prop:=a<i\/(a=i/\(b<j\/(b=j/\c<k)))
def uJ(p:Nat->V)(N:Nat)(i j k:Nat)(K:List (V×Int)):Prop:=
 ∀a b c,c<b->b<a->a<N->tW i j k a b c->∀q∈jR p a b c,oM p N q.1 q.2->q∈K
theorem uJ.zero:uJ p N 0 0 0 []:=fun a b c _ _ _ h=>by simp_all[tW,h]
theorem uJ.down{i j:Nat}{K:List (V×Int)}(h:uJ p N i j j K):uJ p N i (j+1) 0 K:=fun a b c O Z W X q D F=>h a b c O Z W (by grind[tW]) q D F
theorem uJ.next{i:Nat}{K:List (V×Int)}(h:uJ p N i i 0 K):uJ p N (i+1) 0 0 K:=fun a b c O Z W X q D F=>h a b c O Z W (by grind[tW]) q D F
theorem uJ.step{i j k:Nat}{K d:List (V×Int)}(h:uJ p N i j k K)(M:∀q∈K,q∈d)(A:∀q∈jR p i j k,oM p N q.1 q.2->q∈d):uJ p N i j (k+1) d:=fun a b c O Z W X q D F=>by
 by_cases e:a=i/\b=j/\c=k
 . grind
 exact M q (h a b c O Z W (by grind[tW]) q D F)
theorem uJ.all{K:List (V×Int)}(h:uJ p N N 0 0 K)(hK:∀q∈K,oM p N q.1 q.2)(q:V×Int):q∈K↔oM p N q.1 q.2:=by refine⟨hK q,fun F=>?_⟩;obtain⟨i,j,k,O,Z,W,R⟩:=iB F;exact h i j k O Z W (.inl W) q R F
theorem RH(P:V×Int->Prop):∀L:List (V×Int),∃K:List (V×Int),K.Nodup/\∀q,q∈K↔q∈L/\P q
 |[]=>⟨[],List.nodup_nil,fun q=>by simp⟩
 |x::L=>by
  obtain⟨K,O,Z⟩:=RH P L;by_cases C:P x/\x∉K
  . refine⟨x::K,List.nodup_cons.2 ⟨C.2,O⟩,fun q=>?_⟩
    grind
  grind
theorem yD{α:Type}(R:α->α->Prop)(tr:∀{a b c},R a b->R b c->R a c)(d:∀a b,R a b\/R b a):∀l:List α,∃s:List α,s.Perm l/\s.Pairwise R
 |[]=>⟨[],List.Perm.refl _,List.Pairwise.nil⟩
 |x::l=>by
  obtain⟨s,O,Z⟩:=yD R tr d l
  have ins:∀s:List α,s.Pairwise R->∃t:List α,t.Perm (x::s)/\t.Pairwise R:=by
   intro s
   induction s with
   |nil=>simp
   |cons y s e=>
    intro M;rw[Ck] at M
    rcases d x y with h|h
    . refine⟨x::y::s,List.Perm.refl _,Ck.2 ⟨fun z f=>?_,Ck.2 M⟩⟩
      grind
    obtain⟨t,t1,t2⟩:=e M.2;refine⟨y::t,(List.Perm.cons y t1).trans (List.Perm.swap x y s),Ck.2 ⟨fun z f=>?_,t2⟩⟩
    grind
  obtain⟨t,t1,t2⟩:=ins s Z;exact⟨t,t1.trans (List.Perm.cons x O),t2⟩
theorem oW.exists(p:Nat->V)(N:Nat):∃S,oW p N S:=by
 obtain⟨K,O,d⟩:=RH (fun q=>oM p N q.1 q.2) ((List.range N).flatMap fun i=>(List.range N).flatMap fun j=>(List.range N).flatMap fun k=>jR p i j k)
 have hK:∀q,q∈K↔oM p N q.1 q.2:=fun q=>by
  rw[d];refine⟨fun h=>h.2,fun F=>⟨?_,F⟩⟩;obtain⟨i,j,k,a1,Q,s,R⟩:=iB F;simp only[Ed,Ax]
  grind
 obtain⟨S,A,Z⟩:=yD (fun a b:V×Int=>¬iO b.1 a.1) (fun {a b c} h h'=>by grind[iO]) (fun a b=>by grind[iO]) K;exact⟨S,oW.qk O hK A Z⟩
theorem tL{α:Type}:∀(l I:List α),l.Nodup->(∀x∈l,x∈I)->l.length<=I.length
 |[],_,_,_=>Bk _
 |x::l,I,hn,h=>by
  obtain⟨s,t,rfl⟩:=List.append_of_mem (h x Az);rw[List.nodup_cons] at hn
  have :=tL l (s++t) hn.2 fun y Q=>by grind
  grind
theorem nY{α i:Type}(f:α->List i)(m:Nat)(N:∀x,(f x).length<=m):∀l:List α,(l.flatMap f).length<=l.length*m
 |[]=>by simp
 |x::l=>by have O:=nY f m N l;have Z:=N x;simp only[Dw,An,Ba,Bo,Fk];omega
theorem zS{K:List (V×Int)}(A:K.Nodup)(hK:∀q∈K,oM p N q.1 q.2):K.length<=N*(N*(N*2)):=by
 have O:=tL K ((List.range N).flatMap fun i=>(List.range N).flatMap fun j=>(List.range N).flatMap fun k=>jR p i j k) A fun q D=>by obtain⟨i,j,k,a1,Q,s,R⟩:=iB (hK q D);simp only[Ed,Ax];exact⟨i,s,j,by omega,k,by omega,R⟩
 have c:∀i j k,(jR p i j k).length<=2:=fun i j k=>by unfold jR;split<;>simp
 have Z:=nY (fun i=>(List.range N).flatMap fun j=>(List.range N).flatMap fun k=>jR p i j k) (N*(N*2)) (fun i=>by
  have :=nY (fun j=>(List.range N).flatMap fun k=>jR p i j k) (N*2) (fun j=>by
   have :=nY (fun k=>jR p i j k) 2 (fun k=>c i j k) (List.range N)
   rwa [Bv] at this) (List.range N)
  rwa [Bv] at this) (List.range N)
 rw[Bv] at Z;omega
theorem jc{t:List Nat}{n:Nat}(A:t.Nodup)(U:∀j∈t,j<n)(W:∀j,j<n->j∈t):t.Perm (List.range n):=
 (List.perm_ext_iff_of_nodup A List.nodup_range).2 fun a=>by grind
theorem Ql{α:Type}(l:List α)(d:α):(List.range l.length).map (fun j=>l.getD j d)=l:=by
 refine Fh A2 fun k O Z=>?_
 grind
end
end Go.aC
namespace Go.jG
def cZ:List Nat->Nat
 |[]=>0
 |d::l=>d+65536*cZ l
def DD(l:List Nat):Prop:=∀d∈l,d<65536
def xV:List Nat->List Nat
 |[]=>[]
 |d::l=>if xV l=[] then(if d=0 then [] else [d]) else d::xV l
def dg(n:Nat):List Nat:=if n=0 then [] else n%65536::dg (n / 65536)
termination_by n
decreasing_by omega
theorem BE:dg 0=[]:=by simp[dg]
theorem Mx{n:Nat}(h:n≠0):dg n=n%65536::dg (n / 65536):=by rw[dg,if_neg h]
theorem Up{n:Nat}:dg n=[]↔n=0:=by
 constructor
 . intro h;refine Cq fun A=>?_;simp_all[Mx,A]
 rintro rfl;exact BE
theorem CD(n:Nat):cZ (dg n)=n:=by
 induction n using dg.induct with
 |case1=>rw[BE];rfl
 |case2 n h z=>rw[Mx h,cZ,z];omega
theorem KN(n:Nat):DD (dg n):=by
 induction n using dg.induct with
 |case1=>rw[BE];intro d hd;grind
 |case2 n h z=>
  rw[Mx h];intro d hd
  rcases Bd.1 hd with rfl|hd
  . omega
  exact z d hd
theorem DD.tail{d:Nat}{l:List Nat}(h:DD (d::l)):DD l:=fun x C=>h x (As _ C)
theorem MY:∀{l:List Nat},DD l->xV l=dg (cZ l)
 |[],_=>by simp[xV,cZ,BE]
 |d::l,h=>by
  have z:=MY h.tail;have hd:=h d Az;simp only[xV,z,Up,cZ];by_cases J:cZ l=0
  . rw[if_pos J,J];by_cases I:d=0
    . grind[BE]
    rw[if_neg I,Mx A0,show(d+65536*0)%65536=d by omega,show(d+65536*0) / 65536=0 by omega,BE]
  rw[if_neg J,Mx (n:=d+65536*cZ l) A0,show(d+65536*cZ l)%65536=d by omega,show(d+65536*cZ l) / 65536=cZ l by omega]
theorem CC:∀{l:List Nat} {n:Nat},n<=l.length->(∀k,n<=k->k<l.length->l.getD k 0=0)->(n=0\/l.getD (n -1) 0≠0)->l.take n=xV l
 |[],n,_,_,_=>by simp[xV]
 |d::l,0,h,h1,_=>by
  have z:=CC (l:=l) (n:=0) (Bk _) (fun k _ E=>by simpa using h1 (k+1) (Bk _) (by simpa using E)) (.inl rfl);have hd:d=0:=by simpa using h1 0 (Bk _) A2
  simp[xV,<-z,hd]
 |d::l,n+1,h,h1,h2=>by
  have A:n<=l.length:=by simpa using h
  have a:∀k,n<=k->k<l.length->l.getD k 0=0:=fun k E U=>by simpa using h1 (k+1) A0 (by simpa using U)
  cases n with
  |zero=>have z:=CC (l:=l) (n:=0) A a (.inl rfl);have hd:d≠0:=(by simpa using h2);simp[xV,<-z,hd]
  |succ n=>
   have g:l.getD n 0≠0:=(by simpa using h2);have z:=CC (l:=l) (n:=n+1) A a (.inr (by simpa using g))
   have :¬xV l=[]:=by rw[<-z];intro e;have U:0<(l.take (n+1)).length:=(by rw[Et];omega);rw[e] at U;exact absurd U (Ec 0)
   rw[xV,if_neg this,Gf,z]
theorem Sz{k:Nat}:∀{n:Nat},n<65536^k->(dg n).length<=k:=by
 induction k with
 |zero=>simp[BE]
 |succ k z=>
  intro n h;by_cases A:n=0
  . grind
  rw[Mx A]
  grind
theorem GM:∀{l:List Nat},DD l->cZ l<65536^l.length
 |[],_=>by simp[cZ]
 |d::l,h=>by
  have z:=GM h.tail;have hd:=h d Az
  grind[cZ,List.length_cons,Nat.pow_succ]
theorem xW:∀(a b:List Nat),cZ (a++b)=cZ a+65536^a.length*cZ b
 |[],b=>by simp[cZ]
 |d::a,b=>by have z:=xW a b;rw[Gk,cZ,z,cZ,Ba,De,Fz,Cc (65536^a.length) 65536,<-Cf,Bm]
theorem Nj{l:List Nat}{k:Nat}(h:k<l.length):cZ (l.take (k+1))=cZ (l.take k)+65536^k*l.getD k 0:=by
 rw[Ao,xW];have :(l.take k).length=k:=by grind
 simp[this,h,cZ]
theorem DD.take{l:List Nat}(h:DD l)(k:Nat):DD (l.take k):=fun d hd=>h d (Cw hd)
theorem DD.getD{l:List Nat}(h:DD l)(k:Nat):l.getD k 0<65536:=by
 by_cases E:k<l.length
 . rw[Dh,Af E];exact h _ (Ac E)
 grind
theorem vA{l:List Nat}(h:DD l){k:Nat}(E:k<=l.length):cZ (l.take k)<65536^k:=by
 have :=GM (h.take k)
 grind
theorem bNf:W=65536*65536:=rfl
theorem pow_even(m:Nat):65536^(2*m)=W^m:=by rw[bNf,Nat.pow_mul]
theorem pow_odd(m:Nat):65536^(2*m+1)=65536*W^m:=by rw[De,pow_even,Cc]
def rB(l:List Nat):List Nat:=l.flatMap fun w=>[w%65536,w / 65536]
theorem Oa:∀l:List Nat,cZ (rB l)=wJ l
 |[]=>rfl
 |w::l=>by have z:=Oa l;have e:rB (w::l)=w%65536::w / 65536::rB l:=rfl;rw[e,cZ,cZ,z,wJ,W];omega
theorem Sq:∀{l:List Nat},(∀w∈l,w<W)->DD (rB l)
 |[],_=>fun d hd=>by cases hd
 |w::l,h=>by
  have L:=h w Az
  have I:w / 65536<65536:=by have :W=65536*65536:=rfl;omega
  intro d hd
  rcases Bd.1 hd with rfl|hd
  . omega
  rcases Bd.1 hd with rfl|hd
  . omega
  exact Sq (fun w L=>h w (As _ L)) d hd
theorem NP{v X m:Nat}(p:m<16)(J:v<W^16)(C:aP v m+X<W):(aV 16 v).set m (aP v m+X)=aV 16 (v+X*W^m):=by
 have U:LW 16 (aV 16 v):=⟨cK _ _,EI⟩;have O:=(U.set m C).eq;have Z:=xN (aV 16 v) m (aP v m+X) (by assumption);rw[lA p,fS J,Bo] at Z
 grind
theorem fm{v m c:Nat}(h:v<c*W^m):aP v m<c/\v / W^m<c:=by have :v / W^m<c:=(Cn (dX m)).2 h;exact⟨Bn (Nat.mod_le _ _) this,this⟩
theorem ZJ{a b:List Nat}(I:DD a)(X:DD b){k:Nat}(h:cZ (a.drop (k+1))=cZ (b.drop (k+1)))(c:a.getD k 0<b.getD k 0):cZ a<cZ b:=by
 have split:∀(l:List Nat),DD l->∃r,r<65536^k/\cZ l=r+65536^k*(l.getD k 0+65536*cZ (l.drop (k+1))):=fun l U=>by
  by_cases E:k<l.length
  . refine⟨cZ (l.take k),vA U A0,?_⟩
    have e:l=l.take k++(l.getD k 0::l.drop (k+1)):=by simp_all
    have L:(l.take k).length=k:=by simp;omega
    conv=>lhs;rw[e]
    rw[xW,L,cZ]
  refine⟨cZ l,?_,?_⟩
  . exact Bg (GM U) (Bu A1 A0)
  rw[Dh,Cu A0,Bc A0];simp[cZ]
 obtain⟨s,Z,P⟩:=split b X;generalize cZ (b.drop (k+1))=t at *;have :a.getD k 0+65536*t+1<=b.getD k 0+65536*t:=by omega
 have :=Dr (65536^k) this
 grind
theorem WK{a b:List Nat}{k:Nat}(h:cZ (a.drop (k+1))=cZ (b.drop (k+1)))(B:a.getD k 0=b.getD k 0):cZ (a.drop k)=cZ (b.drop k):=by
 have split:∀(l:List Nat),cZ (l.drop k)=l.getD k 0+65536*cZ (l.drop (k+1)):=fun l=>by
  by_cases E:k<l.length
  . rw[Fb E,cZ];grind
  rw[Bc A0,Bc A0,Dh,Cu A0];rfl
 grind
theorem aBp{a b:List Nat}{k c v:Nat}(h:v+65536^k*c=cZ (a.take k)+cZ (b.take k)):
 v+65536^k*((a.getD k 0+b.getD k 0+c)%65536)+65536^(k+1)*((a.getD k 0+b.getD k 0+c) / 65536)=cZ (a.take (k+1))+cZ (b.take (k+1)):=by
 have tk:∀l:List Nat,cZ (l.take (k+1))=cZ (l.take k)+65536^k*l.getD k 0:=fun l=>by
  by_cases E:k<l.length
  . exact Nj E
  rw[Au A0,Au A0,Dh,Cu A0];simp
 generalize C:a.getD k 0+b.getD k 0+c=x;have e:65536^k*(x%65536)+65536^k*(65536*(x / 65536))=65536^k*x:=by grind[Nat.mul_add,Nat.mod_add_div]
 grind
end Go.jG
namespace Go.aC
section
variable {p:Nat->V} {N:Nat}
theorem xg(p:Nat->V)(a b c:Nat):aY (vec p c b) (vec p c a)=neg (aY (vec p a b) (vec p a c)):=by simp only[vec,aY,sub,neg];apply V.ext'<;>simp only <;>grind
theorem XR(u w:V):dot (aY u w) w=0:=by simp only[dot,aY];grind
theorem SJ{u w:V}(h:dot u w=0):dot (iK u) w=0:=by
 by_cases K:u=V0
 . subst K;rw[Tt];simp[dot,V0]
 have O:=DV u w;rw[h] at O;exact fE (c:=(fZ u:Int)) (by have :=tT K;omega) O
theorem jd(p:Nat->V)(a b c:Nat):fX p c b a=(neg (fX p a b c).1,-(fX p a b c).2):=by unfold fX;rw[xg p a b c,MF,oF];have h:=SJ (XR (vec p a b) (vec p a c));rw[lH] at h;rw[show dot (iK (aY (vec p a b) (vec p a c))) (p c)=dot (iK (aY (vec p a b) (vec p a c))) (p a) by omega]
theorem vu{a b c:Nat}{q:V×Int}(h:q∈jR p c b a):q∈jR p a b c:=by
 unfold jR at h ⊢;rw[jd] at h;split at h
 . cases h
 rename_i s;rw[if_neg (fun e=>s (by rw[e];rfl))];simp only[Bd,Ci,Fe,neg_neg,Int.neg_neg] at h ⊢
 rcases h with h|h
 . exact .inr h
 exact .inl h
def jT(p:Nat->V)(N:Nat)(i j k:Nat)(K:List (V×Int)):Prop:=
 ∀a b c,a<b->b<c->c<N->tW i j k a b c->∀q∈jR p a b c,oM p N q.1 q.2->q∈K
theorem jT.zero:jT p N 0 0 0 []:=fun a b c _ _ _ h=>by unfold tW at h;omega
theorem jT.j0{i:Nat}{K:List (V×Int)}(h:jT p N i 0 0 K):jT p N i (i+1) 0 K:=fun a b c O Z W X q D F=>h a b c O Z W Zbi q D F
theorem jT.k0{i j:Nat}{K:List (V×Int)}(h:jT p N i j 0 K):jT p N i j (j+1) K:=fun a b c O Z W X q D F=>h a b c O Z W Zbi q D F
theorem jT.kN{i j:Nat}{K:List (V×Int)}(h:jT p N i j N K):jT p N i (j+1) 0 K:=fun a b c O Z W X q D F=>h a b c O Z W Zbi q D F
theorem jT.jN{i:Nat}{K:List (V×Int)}(h:jT p N i N 0 K):jT p N (i+1) 0 0 K:=fun a b c O Z W X q D F=>h a b c O Z W Zbi q D F
theorem jT.step{i j k:Nat}{K d:List (V×Int)}(h:jT p N i j k K)(M:∀q∈K,q∈d)(A:∀q∈jR p i j k,oM p N q.1 q.2->q∈d):jT p N i j (k+1) d:=fun a b c O Z W X q D F=>by
 by_cases e:a=i/\b=j/\c=k
 . obtain⟨rfl,rfl,rfl⟩:=e;exact A q D F
 exact M q (h a b c O Z W Zbi q D F)
theorem jT.all{K:List (V×Int)}(h:jT p N N 0 0 K)(hK:∀q∈K,oM p N q.1 q.2)(q:V×Int):q∈K↔oM p N q.1 q.2:=by refine⟨hK q,fun F=>?_⟩;obtain⟨i,j,k,O,Z,W,R⟩:=iB F;exact h k j i O Z W (.inl A0) q (vu R) F
end
section
variable {p:Nat->V} {N:Nat}
def okF(p:Nat->V)(N:Nat)(q:V×Int):Bool:=((List.range N).all fun k=>decide (dot q.1 (p k)<=q.2))&&(List.range N).any fun k=>decide (dot q.1 (p k)<q.2)
theorem ql{q:V×Int}:okF p N q=true↔(∀k,k<N->dot q.1 (p k)<=q.2)/\∃k,k<N/\dot q.1 (p k)<q.2:=by simp only[okF,Ak,Bh,Cj,Ax,Br]
def ltV(a b:V):Bool:=decide (a.x<b.x)||(decide (a.x=b.x)&&(decide (a.y<b.y)||(decide (a.y=b.y)&&decide (a.z<b.z))))
theorem pq{a b:V}:ltV a b=true↔iO a b:=by simp only[ltV,iO,Ea,Ak,Br]
def aQv:List (V×Int)->Bool
 |[]=>true
 |q::r=>(r.all fun x=>ltV q.1 x.1)&&aQv r
theorem sj:∀{S:List (V×Int)},aQv S=true->S.Pairwise fun a b=>iO a.1 b.1
 |[],_=>.nil
 |q::r,h=>by simp only[aQv,Ak,Bh] at h;exact Ck.2 ⟨fun x C=>pq.1 (h.1 x C),sj h.2⟩
def Oc(p:Nat->V)(N:Nat)(S:List (V×Int)):Bool:=
 aQv S&&(S.all fun q=>okF p N q&&(List.range N).any fun i=>(List.range i).any fun j=>(List.range j).any fun k=>(jR p i j k).contains q)&&
 ((List.range N).all fun i=>(List.range i).all fun j=>(List.range j).all fun k=>(jR p i j k).all fun q=> !okF p N q||S.contains q)
theorem BH{S:List (V×Int)}(h:Oc p N S=true):oW p N S:=by
 simp only[Oc,Ak] at h;obtain⟨⟨O,Z⟩,W⟩:=h;refine⟨fun q=>⟨fun D=>?_,fun L=>?_⟩,sj O⟩
 . have :=Bh.1 Z q D;simp only[Ak,Cj,Ax] at this;obtain⟨a,i,F,j,Y,k,E,R⟩:=this;obtain⟨le,lt⟩:=ql.1 a;exact BM (i:=i) (j:=j) (k:=k) F A0 A0 (by simpa using R) le lt
 obtain⟨i,j,k,E,Y,F,R⟩:=iB L;simp only[Bh,Ax] at W;have :=W i F j Y k E q R;rw[ql.2 ⟨L.le,L.lt⟩] at this;simpa using this
def aIe(I:List Nat)(f:Nat->Nat):List Nat:=match I with
 |[]=>[]
 |s::_=>(List.range (match (List.range I.length).find? (fun i=>iter f (i+1) s==s) with|some i=>i+1|none=>0)).map fun i=>iter f i s
theorem aQa{n:V}{d:Int}{L:List Nat}(h:Poly p N n d L):L=aIe (iE p N n d) (uM n p (iE p N n d)):=by
 obtain⟨s,r,m,e,W,rfl⟩:=h.ex
 have a:(List.range (iE p N n d).length).find? (fun i=>iter (uM n p (iE p N n d)) (i+1) s==s)=some (m -1):=by have b:=W.pos;have k:=W.le;rw[List.find?_eq_some_iff_getElem];refine⟨by rw[show m -1+1=m by omega,Dl];exact W.back,m -1,by rw[Bv];omega,by rw[Hq],fun j Y=>?_⟩;rw[Hq];have :=W.first (j+1) A0 A0;simpa using this
 unfold aIe;generalize c:uM n p (iE p N n d)=f at *;generalize iE p N n d=I at *;subst e;simp only;rw[a];have b:=W.pos;rw[show(match some (m -1) with|some i=>i+1|none=>0)=m from by show m -1+1=m;omega]
end
end Go.aC
namespace Go.jG
def te(w n k:Nat):Nat:=w%W^k*2^n / W^k
theorem aKf(w n:Nat):te w n 0=0:=by simp[te,Ip]
theorem aKd(w n k:Nat):te w n k<2^n:=by unfold te;rw[Cn (dX k),Cc];exact Nat.mul_lt_mul_of_pos_left (Bz _ (dX k)) (Gl A1)
theorem aRb{w n k:Nat}(h:w<W^k):te w n k=w*2^n / W^k:=by simp[te,Bl,h]
theorem ZH(w n k:Nat):w%W^(k+1)*2^n / W^k=te w n k+aP w k*2^n:=by unfold te;rw[mod_succ,Bo,Cf,Fl _ _ (dX k)]
theorem aKe(w n k:Nat):(te w n k+aP w k*2^n) / W=te w n (k+1):=by rw[<-ZH,Dn,<-De];rfl
theorem aOm(w n k:Nat):aP (w*2^n) k=(te w n k+aP w k*2^n)%W:=by
 rw[<-ZH];unfold aP
 have e:w*2^n=w%W^(k+1)*2^n+W^k*(W*(w / W^(k+1)*2^n)):=by
  conv=>lhs;rw[<-Kb w (W^(k+1))]
  simp[Bo,De,Cf]
 rw[e,Fl _ _ (dX k),Nat.add_mul_mod_self_left]
theorem aRo(n:Nat)(h:n<=32):W=2^n*2^(32 -n):=by rw[<-Ej,show n+(32 -n)=32 by omega];rfl
theorem zd(w n k:Nat)(h:n<=32):aP (w / 2^n) k=(aP w (k+1)*W+aP w k) / 2^n%W:=by
 have Z:0<2^n:=Gl A1;have e:w / W^k=(w / W^(k+1+1)*W+aP w (k+1))*W+aP w k:=by rw[<-nT w (k+1),<-nT w k]
 show w / 2^n / W^k%W=_;rw[Dn,Cc,<-Dn,e,Bo,Bm];generalize w / W^(k+1+1)=x
 have B:x*W*W=2^n*(W*(x*2^(32 -n))):=by
  have u:x*W=x*(2^n*2^(32 -n)):=by rw[<-aRo n h]
  grind
 rw[B,Nat.mul_add_div Z,Nat.mul_add_mod]
def gsD(t2 t1 v l v2:Nat):Nat:=min (W -1) ((t2*W*W+t1*W+v) / (l*W+v2))
theorem aFh{t2 t1 v l v2:Nat}(J:0<l)(o:v<W):gsD t2 t1 v l v2<=(t2*W+t1) / l:=by
 refine Ay (Nat.min_le_right _ _) ?_;rw[Nat.le_div_iff_mul_le J];have O:=It (t2*W*W+t1*W+v) (l*W+v2);generalize (t2*W*W+t1*W+v) / (l*W+v2)=x at *;rw[Fz,<-Cf] at O;have Z:x*l*W<(t2*W+t1+1)*W:=by rw[Bo,Bo,Fk];omega
 have :=Nat.lt_of_mul_lt_mul_right Z;omega
theorem nf{t2 t1 v l v2 d r:Nat}(J:0<l)(B:d*l+r=t2*W+t1)(hc:W<=d\/r*W+v<d*v2):gsD t2 t1 v l v2<d:=by
 have hW:=qQ
 rcases hc with hc|hc
 . exact Bn (Ir _ _) A0
 refine Bn (Nat.min_le_right _ _) ?_;have a:0<l*W+v2:=by grind
 rw[Cn a,<-Bo,<-B,Fz,<-Cf,Bo];omega
theorem aFg{t2 t1 v l v2 d r:Nat}(J:0<l)(O:t1<W)(Z:v2<W)(q:t2<=l)(B:d*l+r=t2*W+t1)(t:gsD t2 t1 v l v2<=d)(hc:W<=r\/d<W/\d*v2<=r*W+v):d=gsD t2 t1 v l v2:=by
 have hW:=qQ;have a:0<l*W+v2:=by have :=Jp J hW;omega
 refine Nat.le_antisymm ?_ t
 have key:d<W/\d*v2<=r*W+v:=by
  rcases hc with hc|hc
  . have hd:d<W:=by
     have :d*l<W*l:=(by have :=Bf W q;rw[Cc l] at this;omega);simp_all
    have a1:d*v2<=W*W:=Be (Nat.le_of_lt hd) (Nat.le_of_lt Z);have Q:W*W<=r*W:=Bf W hc;omega
  omega
 refine Nat.le_min.2 ⟨by omega,?_⟩;rw[Nat.le_div_iff_mul_le a,<-Bo,<-B,Fz,<-Cf,Bo];omega
theorem AF{u k:Nat}(h:u<W^(k+1)):aP u k=u / W^k:=by exact Bl (by rw[Cn (dX k),Cc,<-De];omega)
theorem aZe{u n j:Nat}(A:2<=n)(K:u<W^(j+n+1)):aP u (j+n)*W*W+aP u (j+n -1)*W+aP u (j+n -2)=u / W^(j+n -2):=by
 have T:=nT u (j+n -2);have P:=nT u (j+n -1);rw[show j+n -1+1=j+n by omega,<-AF K] at P
 grind
theorem aNv{v n:Nat}(A:2<=n)(J:v<W^n):aP v (n -1)*W+aP v (n -2)=v / W^(n -2):=by
 have T:=nT v (n -2);have P:n -2+1=n -1:=by omega
 have R:v<W^(n -1+1):=by grind
 simp_all[P,AF,R]
theorem bEt{u v n j:Nat}(A:2<=n)(J:v<W^n)(e:W^(n -1)<=v)(K:u<v*W^(j+1)):
 u / (v*W^j)<=gsD (aP u (j+n)) (aP u (j+n -1)) (aP u (j+n -2)) (aP v (n -1)) (aP v (n -2))/\
 gsD (aP u (j+n)) (aP u (j+n -1)) (aP u (j+n -2)) (aP v (n -1)) (aP v (n -2))<=u / (v*W^j)+1/\aP u (j+n)<=aP v (n -1)/\0<aP v (n -1)/\u<W^(j+n+1):=by
 have ou:u<W^(j+n+1):=by refine Bg K ?_;rw[show j+n+1=n+(j+1) by omega,Ej W n (j+1)];exact Bf _ (Nat.le_of_lt J)
 have c:0<v:=Bg (dX _) e;have b:0<v*W^j:=Jp c (dX j);have U:aP v (n -1)=v / W^(n -1):=AF (by rw[show n -1+1=n by omega];exact J)
 have D:u / (v*W^j)<W:=by rw[Cn b,Cc W,Cf,<-De];exact K
 have h:=It u (v*W^j);have i:W^(n -2)*W^j=W^(j+n -2):=by rw[<-Ej];congr 1;omega
 unfold gsD;rw[aZe A ou,aNv A J];have l:v / W^(n -2)*W^(n -2)<=v:=It _ _;have k:=Nat.lt_div_mul_add (dX (n -2)) (a:=v);have f:0<v / W^(n -2):=Jq (Ay (Bu qQ A0) e) (dX _);refine⟨Nat.le_min.2 ⟨by omega,?_⟩,?_,?_,?_,ou⟩
 . rw[Nat.le_div_iff_mul_le f,Nat.le_div_iff_mul_le (dX _)];refine Ay ?_ h;rw[<-i,Cf,<-Cf _ (W^(n -2))];exact Dr _ (Bf _ l)
 . generalize t:min (W -1) (u / W^(j+n -2) / (v / W^(n -2)))=g;have o:g<=W -1:=by rw[<-t];exact Ir _ _
   have d:g*(v / W^(n -2))<=u / W^(j+n -2):=by rw[<-Nat.le_div_iff_mul_le f,<-t];exact Nat.min_le_right _ _
   rw[Nat.le_div_iff_mul_le (dX _),<-i,Cf,<-Cf _ (W^(n -2))] at d;generalize v / W^(n -2)*W^(n -2)=V at *
   have a1:g*(v*W^j)<=g*(V*W^j)+g*(W^(n -2)*W^j):=by rw[<-Fz,<-Bo];exact Dr _ (Bf _ (Nat.le_of_lt k))
   have Q:g*(W^(n -2)*W^j)<=v*W^j:=by rw[<-Cf];refine Bf _ (Ay ?_ e);have :W^(n -1)=W*W^(n -2):=(by rw[<-Jr];congr 1;omega);rw[this];exact Bf _ A0
   have s:(g -1)*(v*W^j)<=u:=(by rw[Nat.sub_mul,Fk];omega);have :=(Nat.le_div_iff_mul_le b).2 s;omega
 . have m:aP u (j+n)=u / W^(j+n):=AF ou;have O:=Nat.lt_div_mul_add (dX (n -1)) (a:=v)
   have :u / W^(j+n)<v / W^(n -1)+1:=by rw[Cn (dX _)];refine Bg K ?_;have Y:W^(j+n)=W^(n -1)*W^(j+1):=(by rw[<-Ej];congr 1;omega);rw[Y,<-Cf,Bo,Fk];exact Bf _ (Nat.le_of_lt O)
   omega
 rw[U];exact Jq e (dX _)
def uu(o:List Nat)(u p:Nat):Prop:=∀k,p<=k->o.getD k 0=aP u k
theorem uu.set{o:List Nat}{u p d:Nat}(h:uu o u p)(m:p<o.length):uu (o.set p d) u (p+1):=fun k E=>by rw[Xi m,if_neg A0];exact h k A0
theorem uu.lt{m:Nat}{o:List Nat}{u p:Nat}(S:LW m o)(h:uu o u p)(K:u<W^p):wJ o<W^p:=by refine JP S.lt fun k O Z=>?_;rw[S.aP,h k O];exact AE K O
theorem Rf{p x:Nat}:x / W*W^(p+1)+x%W*W^p=x*W^p:=by rw[De,Cc (W^p),<-Cf,<-Bo,Cc (x / W),Dy]
def s9(x lo b:Nat):Nat:=if x<lo+b then x+W -lo -b else x -lo -b
def WG(x lo b:Nat):Nat:=if x<lo+b then 1 else 0
theorem aJz{x lo b:Nat}(C:x<W)(h:lo+b<=W):s9 x lo b+lo+b=x+WG x lo b*W/\s9 x lo b<W/\WG x lo b<=1:=by grind[s9,WG]
theorem aBn{o:List Nat}{u v d i j c b:Nat}(S:LW 17 o)(m:j+i<17)(X:b<=1)(Q:uu o u (j+i))
 (B:wJ o+d*(v%W^i)*W^j=u+(c+b)*W^(j+i)):
 let s:=c+d*aP v i;let lo:=s%W;let o':=o.set (j+i) (s9 (aP u (j+i)) lo b)
 LW 17 o'/\uu o' u (j+(i+1))/\wJ o'+d*(v%W^(i+1))*W^j=u+(s / W+WG (aP u (j+i)) lo b)*W^(j+(i+1)):=by
 intro s lo o';have E:lo<W:=Bz _ qQ;obtain⟨T,P,e⟩:=aJz (dC u (j+i)) (lo:=lo) (b:=b) A0;refine⟨S.set _ P,Q.set Zcm,?_⟩;have O:=xN o (j+i) (s9 (aP u (j+i)) lo b) Zcm;rw[Q _ (Ae _)] at O;have Z:s / W*W^(j+i+1)+lo*W^(j+i)=s*W^(j+i):=Rf
 have a:d*(v%W^(i+1))*W^j=d*(v%W^i)*W^j+d*aP v i*W^(j+i):=by rw[mod_succ,Fz,Bo,Ej];simp only[Cc,Nat.mul_left_comm,Cf]
 have h4:s*W^(j+i)=c*W^(j+i)+d*aP v i*W^(j+i):=Bo ..;have M:(s9 (aP u (j+i)) lo b+lo+b)*W^(j+i)=(aP u (j+i)+WG (aP u (j+i)) lo b*W)*W^(j+i):=by rw[T]
 have R:WG (aP u (j+i)) lo b*W*W^(j+i)=WG (aP u (j+i)) lo b*W^(j+i+1):=by rw[Cf,<-Jr]
 rw[<-Bm j i 1];simp only[Bo] at M B ⊢;show wJ (o.set _ _)+_=_;omega
def tkN(u v n j d:Nat):Nat:=if d*v*W^j<=u then u -d*v*W^j else u+W^(j+n+1) -d*v*W^j
theorem aJx{o:List Nat}{u v d n j c b:Nat}(S:LW 17 o)(m:j+n<17)(X:c+b<=W)(Q:uu o u (j+n))(J:v<W^n)(K:u<W^(j+n+1))
 (B:wJ o+d*(v%W^n)*W^j=u+(c+b)*W^(j+n)):
 o.set (j+n) (s9 (aP u (j+n)) c b)=aV 17 (tkN u v n j d)/\(WG (aP u (j+n)) c b=1↔u<d*v*W^j)/\tkN u v n j d<W^(j+n+1):=by
 obtain⟨T,P,e⟩:=aJz (dC u (j+n)) X;have k:=S.set (j+n) P;have O:=xN o (j+n) (s9 (aP u (j+n)) c b) Zcm;rw[Q _ (Ae _)] at O;rw[Bl J] at B;have a:=Q.set (d:=s9 (aP u (j+n)) c b) Zcm;have r:=a.lt k K;have M:(s9 (aP u (j+n)) c b+c+b)*W^(j+n)=(aP u (j+n)+WG (aP u (j+n)) c b*W)*W^(j+n):=by rw[T]
 have R:WG (aP u (j+n)) c b*W*W^(j+n)=WG (aP u (j+n)) c b*W^(j+n+1):=by rw[Cf,<-Jr]
 simp only[Bo] at M B;have key:wJ (o.set (j+n) (s9 (aP u (j+n)) c b))+d*v*W^j=u+WG (aP u (j+n)) c b*W^(j+n+1):=by omega
 have F:wJ (o.set (j+n) (s9 (aP u (j+n)) c b))=tkN u v n j d/\(WG (aP u (j+n)) c b=1↔u<d*v*W^j):=by
  unfold tkN
  rcases Er 0 (WG (aP u (j+n)) c b) with h|h
  . rw[show WG (aP u (j+n)) c b=1 by omega,Fk] at key;rw[if_neg A0];exact⟨by omega,by omega⟩
  rw[show WG (aP u (j+n)) c b=0 by omega,Gp] at key;rw[if_pos A0];exact⟨by omega,by omega⟩
 exact⟨by rw[<-F.1];exact k.eq,F.2,by rw[<-F.1];exact r⟩
theorem xu{o:List Nat}{u v i j c:Nat}(S:LW 17 o)(m:j+i<17)(Q:uu o u (j+i))
 (B:wJ o+c*W^(j+i)=u+v%W^i*W^j):
 let s:=aP u (j+i)+aP v i+c;let o':=o.set (j+i) (s%W)
 LW 17 o'/\uu o' u (j+(i+1))/\wJ o'+s / W*W^(j+(i+1))=u+v%W^(i+1)*W^j:=by
 intro s o';refine⟨S.set _ (Bz _ qQ),Q.set Zas,?_⟩;have O:=xN o (j+i) (s%W) Zas;rw[Q _ (Ae _)] at O;have Z:s / W*W^(j+i+1)+s%W*W^(j+i)=s*W^(j+i):=Rf
 have a:v%W^(i+1)*W^j=v%W^i*W^j+aP v i*W^(j+i):=by grind[mod_succ,Nat.add_mul,Nat.pow_add,Nat.mul_comm,Nat.mul_left_comm,Nat.mul_assoc]
 grind
theorem aFf{o:List Nat}{u v n j c:Nat}(S:LW 17 o)(m:j+n<17)(Q:uu o u (j+n))(J:v<W^n)(K:u<W^(j+n+1))
 (B:wJ o+c*W^(j+n)=u+v%W^n*W^j):
 o.set (j+n) ((aP u (j+n)+c)%W)=aV 17 ((u+v*W^j)%W^(j+n+1)):=by
 have k:=S.set (j+n) (d:=(aP u (j+n)+c)%W) (Bz _ qQ);have O:=xN o (j+n) ((aP u (j+n)+c)%W) Zas;rw[Q _ (Ae _)] at O;rw[Bl J] at B;have a:=Q.set (d:=(aP u (j+n)+c)%W) Zas;have r:=a.lt k K;have Z:(aP u (j+n)+c) / W*W^(j+n+1)+(aP u (j+n)+c)%W*W^(j+n)=(aP u (j+n)+c)*W^(j+n):=Rf;rw[Bo] at Z;have key:u+v*W^j=wJ (o.set (j+n) ((aP u (j+n)+c)%W))+(aP u (j+n)+c) / W*W^(j+n+1):=by omega
 rw[key,Nat.add_mul_mod_self_right,Bl r];exact k.eq
theorem aIn{A v n j:Nat}(k:2<=n)(J:v<W^n)(e:W^(n -1)<=v):
 let u:=A%(v*W^(j+1));let d:=gsD (aP u (j+n)) (aP u (j+n -1)) (aP u (j+n -2)) (aP v (n -1)) (aP v (n -2))
 (d*v*W^j<=u->u -d*v*W^j=A%(v*W^j)/\d=aP (A / v) j)/\
 (u<d*v*W^j->(u+W^(j+n+1) -d*v*W^j+v*W^j)%W^(j+n+1)=A%(v*W^j)/\0<d/\d -1=aP (A / v) j):=by
 intro u d;have c:0<v:=Bg (dX _) e;have b:0<v*W^j:=Jp c (dX j);have K:u<v*W^(j+1):=Bz _ (Jp c (dX _));obtain⟨g,i,C,o,w⟩:=bEt k J e K
 have eq:u / (v*W^j)=aP (A / v) j:=by show A%(v*W^(j+1)) / (v*W^j)=_;rw[De,<-Cf,Nat.mod_mul_right_div_self,<-Dn];rfl
 have f:u%(v*W^j)=A%(v*W^j):=by exact Nat.mod_mod_of_dvd _ ⟨W,by rw[De,Cf]⟩
 have m:=Dy u (v*W^j);have p:=Bz u b;rw[eq,f] at m;rw[f] at p;rw[eq] at g i;generalize aP (A / v) j=q at *;have T:∀x,x*v*W^j=v*W^j*x:=fun x=>by rw[Cf,Cc]
 refine⟨fun h=>?_,fun h=>?_⟩
 . have :d=q:=by
    refine Nat.le_antisymm ?_ g
    rcases Er q d with h1|h1
    . have :v*W^j*(q+1)<=v*W^j*d:=Dr _ h1;rw[Fz,Df] at this;rw[T] at h;omega
    exact h1
   rw[this] at h ⊢;rw[T] at h ⊢;exact⟨by omega,rfl⟩
 have :d=q+1:=by
  refine Nat.le_antisymm i ?_
  rcases Er q d with h1|h1
  . exact h1
  have :v*W^j*d<=v*W^j*q:=Dr _ h1;rw[T] at h;omega
 rw[this] at h ⊢;rw[T,Fz,Df] at h ⊢
 have U:v*W^j<=W^(j+n+1):=by rw[show j+n+1=n+j+1 by omega,De,Ej];refine Ay (Bf _ (Nat.le_of_lt J)) ?_;exact Nat.le_mul_of_pos_right _ qQ
 refine⟨?_,by omega,by omega⟩;have P:u+W^(j+n+1) -(v*W^j*q+v*W^j)+v*W^j=A%(v*W^j)+W^(j+n+1):=by omega
 have a:A%(v*W^j)<W^(j+n+1):=Bg p U;rw[P,Nat.add_mod_right,Bl a]
theorem aAk{a b n m s:Nat}(I:a<W^m)(c:n<=m)(D:W^(n -1)<=b)(A:0<n):a*2^s<b*2^s*W^(m -n+1):=by
 have O:W^m<=b*W^(m -n+1):=by
  have :W^m=W^(n -1)*W^(m -n+1):=by rw[<-Ej];congr 1;omega
  rw[this];exact Bf _ D
 rw[Ja];exact Nat.mul_lt_mul_of_pos_right (Bg I O) (Gl A1)
end Go.jG
namespace Go.aC
section
variable {p:Nat->V} {N:Nat} {n n':V} {d d':Int}
def dB{α:Type}(f:α->Int):List α->Int
 |[]=>0
 |x::l=>f x+dB f l
theorem EZ{α:Type}(f:α->Int):∀l m:List α,dB f (l++m)=dB f l+dB f m
 |[],m=>by simp[dB]
 |x::l,m=>by simp only[Gk,dB,EZ f l m];omega
theorem aBl{α:Type}(f:α->Int){l m:List α}(h:l.Perm m):dB f l=dB f m:=by
 induction h with
 |nil=>rfl
 |cons x _ z=>simp[dB,z]
 |swap x y l=>grind[dB]
 |trans _ _ O Z=>omega
theorem tQ{α i:Type}(g:α->i)(f:i->Int):∀l:List α,dB f (l.map g)=dB (fun x=>f (g x)) l
 |[]=>rfl
 |x::l=>by simp only[Cg,dB,tQ g f l]
theorem CA{α i:Type}(g:α->List i)(f:i->Int):∀l:List α,dB f (l.flatMap g)=dB (fun x=>dB f (g x)) l
 |[]=>rfl
 |x::l=>by simp only[Dw,dB,EZ,CA g f l]
theorem iU{α:Type}{f g:α->Int}:∀{l:List α},(∀x∈l,f x=g x)->dB f l=dB g l
 |[],_=>rfl
 |x::l,h=>by simp only[dB,h x A2,iU (l:=l) fun y Q=>h y (As _ Q)]
theorem rM{α:Type}(f g:α->Int):∀l:List α,dB (fun x=>f x+g x) l=dB f l+dB g l
 |[]=>rfl
 |x::l=>by simp only[dB,rM f g l];omega
theorem mE{α:Type}(c:Int)(f:α->Int):∀l:List α,dB (fun x=>c*f x) l=c*dB f l
 |[]=>by simp[dB]
 |x::l=>by simp only[dB,mE c f l,Int.mul_add]
theorem CB{α:Type}{f g:α->Int}:∀{l:List α},(∀x∈l,f x<=g x)->dB f l<=dB g l
 |[],_=>Int.le_refl _
 |x::l,h=>by
  have Z:=CB (l:=l) fun y Q=>h y (by grind)
  grind[dB]
theorem Ng{α:Type}:∀l:List α,dB (fun _=>0) l=0
 |[]=>rfl
 |x::l=>by simp only[dB,Ng l];rfl
theorem MS{α:Type}{f:α->Int}:∀{l:List α},(∀x∈l,0<=f x)->(∃x∈l,0<f x)->0<dB f l
 |[],_,⟨_,h,_⟩=>by grind
 |x::l,h,⟨y,hy,hp⟩=>by
  have O:=h x A2
  have Z:0<=dB f l:=by have :=CB (f:=fun _=>0) (g:=f) (l:=l) fun y hy=>h y (by grind);have e:=Ng l;omega
  simp only[dB]
  rcases Bd.1 hy with rfl|hy
  . omega
  have :=MS (fun y hy=>h y (by grind)) ⟨y,hy,hp⟩;omega
def mj(L:List Nat):List (Nat×Nat):=(List.range L.length).map fun i=>(L.getD i 0,L.getD ((i+1)%L.length) 0)
theorem PF{L:List Nat}{a b:Nat}:(a,b)∈mj L↔Next L a b:=by
 unfold mj Next;simp only[Bb,Ax,Ap];constructor
 . rintro⟨i,F,rfl,rfl⟩;have Z:(i+1)%L.length<L.length:=Bz _ A0;exact⟨i,F,by grind,by grind⟩
 grind
theorem aNf(L:List Nat):(mj L).map Prod.fst=L:=by
 unfold mj;refine Fh A2 fun i O Z=>?_
 grind
theorem Way.inj{I:List Nat}{s m:Nat}{f:Nat->Nat}(W:Way n p I s m f):∀i j,i<j->j<m->iter f i s≠iter f j s
 |0,j,h,hj=>fun e=>W.first j h hj e.symm
 |i+1,j+1,h,hj=>fun e=>by have O:=(W.side i).2;have Z:=(W.side j).2;rw[<-e] at Z;exact W.inj i j A0 A0 (O.inj W.H (W.side i).1 (W.side j).1 Z)
theorem Poly.nodup{L:List Nat}(h:Poly p N n d L):L.Nodup:=by obtain⟨s,r,m,e,W,rfl⟩:=h.ex;rw[List.nodup_iff_pairwise_ne,Eo];refine Gd ?_ Ib;intro a b I X j;exact W.inj a b j (Ax.1 X)
theorem xl{L:List Nat}(h:L.Nodup):(mj L).Nodup:=by have e:=aNf L;rw[<-e,List.nodup_iff_pairwise_ne,Eo] at h;exact h.imp fun z e=>z (Am Prod.fst e)
theorem Nl(c:Nat)(v:V):fZ (smul c v)=c*fZ v:=by simp only[fZ,smul,Int.gcd_mul_left,Cp];rw[show((c*Int.gcd v.y v.z:Nat):Int)=(c:Int)*(Int.gcd v.y v.z:Int) by simp,Int.gcd_mul_left,Cp]
theorem aBs{v:V}(h:v≠V0):fZ (iK v)=1:=by have e:=Am fZ (GC v);rw[Nl] at e;have m:=tT h;exact Nat.eq_of_mul_eq_mul_left m A0
theorem oM.one(F:oM p N n d):fZ n=1:=by obtain⟨a,b,c,_,_,_,O,Z,_⟩:=F.ZF;rw[Z];exact aBs O
theorem aJf{u v:V}(K:fZ u=1)(J:fZ v=1){a b:Int}(I:0<a)(X:0<b)(h:smul a u=smul b v):u=v:=by obtain⟨x,rfl⟩:∃x:Nat,a=x:=⟨a.toNat,by omega⟩;obtain⟨y,rfl⟩:∃y:Nat,b=y:=⟨b.toNat,by omega⟩;have e:=Am fZ h;rw[Nl,Nl,K,J,Df,Df] at e;subst e;exact rL A0 h
theorem oM.aTx(F:oM p N n d)(A:KG p N){a b:Nat}(I:a∈iE p N n d)(h:Sd n p (iE p N n d) a b):∃z∈iE p N n d,0<dH n (vec p a b) (vec p a z):=by obtain⟨s,r,j⟩:=F.Ru.head;obtain⟨m,W⟩:=F.Ru.way A j;obtain⟨i,_,rfl⟩:=W.cover I h;have X:=(W.side i).2.uniq W.H (W.side i).1 h;have :=W.aMk F.Ru i;rw[X] at this;exact⟨_,(W.side (i+2)).1,this⟩
theorem si(n e u v:V)(O:dot n u=0)(Z:dot n e=0)(W:dot v e=0):dot n n*dot e e*dot v u=dH n e u*dH v n e:=by
 simp only[dH,dot,aY] at *
 grind
theorem bMo(e u v:V)(O:dot u e=0)(Z:dot v e=0):smul (dot e e) (aY u v)=smul (dH e u v) e:=by grind[dH,dot,aY,smul,V.mk.injEq]
theorem aTt(u v:V)(h:aY u v=V0)(w:V):dot u u*dot v w=dot u v*dot u w:=by grind[dot,aY,V0,V.mk.injEq]
theorem bMp(u v:V)(h:aY u v=V0):smul (dot u v) u=smul (dot u u) v:=by grind[dot,aY,smul,V0,V.mk.injEq]
theorem xm(F:oM p N n d)(i:oM p N n' d')(A:KG p N){a b:Nat}(I:a∈iE p N n d)(h:Sd n p (iE p N n d) a b)(C:a∈iE p N n' d')(K:Sd n' p (iE p N n' d') a b):n=n':=by
 have H:=F.Ru.pl A;have H':=i.Ru.pl A;have l:=(cJ.1 I).2;have r:=(cJ.1 C).2;obtain⟨z,s,q⟩:=F.aTx A I h;obtain⟨y,Q,x⟩:=i.aTx A C K;have v:=cP (H.ne I h.1 h.2.1);have T:=H.pl a I b h.1;have P:=H'.pl a C b K.1;have J:=H.pl a I z s;have U:=H'.pl a C y Q;have D:dot n' (vec p a z)<=0:=by rw[lH];have :=i.le z (cJ.1 s).1;omega
 have B:dot n (vec p a y)<=0:=by rw[lH];have :=F.le y (cJ.1 Q).1;omega
 have t:=cP H.hn;have G:=cP H'.hn;obtain⟨k,E,Y⟩:=F.lt;have m:dot n (vec p a k)<0:=by rw[lH];omega
 have f:dot n' (vec p a k)<=0:=by rw[lH];have :=i.le k E;omega
 have o1:=F.one;have o2:=i.one;generalize vec p a b=e at *;generalize vec p a z=u at *;generalize vec p a y=w at *;have L:=si n e u n' J T P;have Z:=si n' e w n U P T
 have V:dH n' n e<=0:=by
  rcases Int.lt_or_le 0 (dH n' n e) with c|c
  . have q1:=Ev q c;have q2:dot n n*dot e e*dot n' u<=0:=Int.mul_nonpos_of_nonneg_of_nonpos (Ig (Ev t v)) D;omega
  exact c
 have S:dH n n' e<=0:=by
  rcases Int.lt_or_le 0 (dH n n' e) with c|c
  . have q1:=Ev x c;have q2:dot n' n'*dot e e*dot n w<=0:=Int.mul_nonpos_of_nonneg_of_nonpos (Ig (Ev G v)) B;omega
  exact c
 have O:dH n' n e= -dH n n' e:=by simp only[dH,dot,aY];grind
 have M:dH e n n'=dH n n' e:=by simp only[dH,dot,aY];grind
 have g:dH e n n'=0:=by omega
 have j:=bMo e n n' T P;rw[g,smul_zero] at j;have R:aY n n'=V0:=rL (c:=dot e e) A0 (by rw[j];simp[smul,V0]);have k1:=aTt n n' R (vec p a k)
 have X:0<dot n n':=by
  rcases Int.lt_or_le 0 (dot n n') with c|c
  . exact c
  have W:dot n n'≠0:=fun o=>by have :=aTt n n' R n';rw[o,Jy] at this;have :=Ev t G;omega
  have q1:0<dot n n'*dot n (vec p a k):=Jl A0 m;have q2:dot n n*dot n' (vec p a k)<=0:=Int.mul_nonpos_of_nonneg_of_nonpos (Ig t) f;omega
 exact aJf o1 o2 X t (bMp n n' R)
structure Md (p:Nat->V) (N:Nat) (K:List ((V×Int)×List Nat)):Prop where
 fl:oW p N (K.map Prod.fst)
 po:∀e∈K,Poly p N e.1.1 e.1.2 e.2
def IQ(K:List ((V×Int)×List Nat)):List (Nat×Nat):=K.flatMap fun e=>mj e.2
theorem Md.isF{K:List ((V×Int)×List Nat)}(h:Md p N K){e:(V×Int)×List Nat}(B:e∈K):oM p N e.1.1 e.1.2:=
 (h.fl.mem e.1).1 (List.mem_map_of_mem B)
theorem Md.nodup{K:List ((V×Int)×List Nat)}(h:Md p N K)(A:KG p N):(IQ K).Nodup:=by
 rw[List.nodup_iff_pairwise_ne];unfold IQ;rw[List.pairwise_flatMap];refine⟨fun e B=>?_,?_⟩
 . have :=xl (h.po e B).nodup
   grind
 have M:=h.fl.Ra;rw[Eo] at M;refine Gd ?_ M;rintro e f B g r ⟨a,b⟩ C ⟨s,I⟩ Q j;cases j;rw[PF] at C Q;obtain⟨c,d⟩:=(h.po e B).lZ.1 C;obtain⟨i,k⟩:=(h.po f g).lZ.1 Q;have :=xm (h.isF B) (h.isF g) A c d i k;rw[this] at r;exact iO.o5 _ r
theorem Md.back{K:List ((V×Int)×List Nat)}(h:Md p N K)(A:KG p N){a b:Nat}(j:(a,b)∈IQ K):(b,a)∈IQ K:=by unfold IQ at *;rw[Ed] at *;obtain⟨e,B,C⟩:=j;obtain⟨n',d',g,i,o,d⟩:=(h.po e B).back A (h.isF B) (PF.1 C);obtain⟨f,k,l⟩:=Bb.1 ((h.fl.mem (n',d')).2 i);have c:=h.po f k;rw[l] at c;rw[o.uniq c] at d;exact⟨f,k,PF.2 d⟩
theorem Md.closed{K:List ((V×Int)×List Nat)}(h:Md p N K)(A:KG p N)(g:Nat->Nat->Int)(t:∀a b,g b a= -g a b):dB (fun e=>dB (fun x=>g x.1 x.2) (mj e.2)) K=0:=by
 rw[<-CA (fun e:(V×Int)×List Nat=>mj e.2) (fun x=>g x.1 x.2)];have hd:=h.nodup A
 have m:(IQ K).Perm ((IQ K).map Prod.swap):=by
  rw[List.perm_ext_iff_of_nodup hd]
  . rintro⟨a,b⟩;rw[Bb];constructor
    . intro C;exact⟨(b,a),h.back A C,rfl⟩
    rintro⟨⟨x,y⟩,C,e⟩;cases e;exact h.back A C
  rw[List.nodup_iff_pairwise_ne] at *;rw[Eo];exact hd.imp fun z e=>z (by have :=Am Prod.swap e;simpa using this)
 have T:=aBl (fun x:Nat×Nat=>g x.1 x.2) m;rw[tQ] at T
 have P:dB (fun x:Nat×Nat=>g x.swap.1 x.swap.2) (IQ K)= -dB (fun x:Nat×Nat=>g x.1 x.2) (IQ K):=by
  have :dB (fun x:Nat×Nat=>g x.swap.1 x.swap.2) (IQ K)=dB (fun x:Nat×Nat=>(-1)*g x.1 x.2) (IQ K):=iU fun x _=>by show g x.2 x.1=_;rw[t];omega
  rw[this,mE];omega
 show dB _ (IQ K)=0;omega
end
section
variable {p:Nat->V} {N:Nat} {n n':V} {d d':Int}
def lC(L:List Nat):List (Nat×Nat×Nat):=(List.range (L.length -2)).map fun k=>(L.getD 0 0,L.getD (k+1) 0,L.getD (k+2) 0)
theorem KC{f:Nat->Int}(m:Nat):dB f (List.range (m+1))=dB f (List.range m)+f m:=by simp[Ds,EZ,dB]
theorem XZ(v:Nat->Nat)(g:Nat->Nat->Int)(t:∀a b,g b a= -g a b):∀j,dB (fun k=>g (v 0) (v (k+1))+g (v (k+1)) (v (k+2))+g (v (k+2)) (v 0)) (List.range j)=dB (fun i=>g (v i) (v (i+1))) (List.range (j+1))+g (v (j+1)) (v 0)
 |0=>by grind[dB,List.range,List.range.loop]
 |j+1=>by
  rw[KC,XZ v g t j,KC (j+1)]
  grind
theorem aNn{L:List Nat}(m:2<=L.length)(g:Nat->Nat->Int)(c:∀a b,g b a= -g a b):dB (fun t=>g t.1 t.2.1+g t.2.1 t.2.2+g t.2.2 t.1) (lC L)=dB (fun x=>g x.1 x.2) (mj L):=by obtain⟨j,Y⟩:∃j,L.length=j+2:=⟨L.length -2,by omega⟩;unfold lC mj;rw[tQ,tQ,Y,show j+2 -2=j by omega,KC (j+1)];rw[XZ (fun i=>L.getD i 0) g c j,Nat.mod_self];congr 1;refine iU fun i F=>?_;have :=Ax.1 F;rw[Bl A0]
theorem Md.MX{K:List ((V×Int)×List Nat)}(h:Md p N K)(A:KG p N)(U:∀e∈K,2<=e.2.length)(T j:V->V->V->Int)(g:V->V->Int)(d:∀a b,g b a= -g a b)(Q:∀a b c,T a b c=j a b c+(g a b+g b c+g c a)):
 dB (fun e=>dB (fun t=>T (p t.1) (p t.2.1) (p t.2.2)) (lC e.2)) K=dB (fun e=>dB (fun t=>j (p t.1) (p t.2.1) (p t.2.2)) (lC e.2)) K:=by
 have f:∀e∈K,dB (fun t=>T (p t.1) (p t.2.1) (p t.2.2)) (lC e.2)=dB (fun t=>j (p t.1) (p t.2.1) (p t.2.2)) (lC e.2)+dB (fun x=>g (p x.1) (p x.2)) (mj e.2):=fun e B=>by
  rw[<-aNn (U e B) (fun a b=>g (p a) (p b)) (fun a b=>d _ _),<-rM]
  grind
 rw[iU f,rM,h.closed A (fun a b=>g (p a) (p b)) (fun a b=>d _ _),Int.add_zero]
def D3(a b c:V):Int:=dot (aY a b) c
theorem aCe(P a b c:V):D3 a b c=D3 (sub a P) (sub b P) (sub c P)+(D3 P a b+D3 P b c+D3 P c a):=by simp only[D3,dot,aY,sub];grind
theorem KM(P a b:V):D3 P b a= -D3 P a b:=by grind[D3,dot,aY]
theorem aCq(u P a b c:V):D3 a b c*dot u (add (add a b) c)=D3 (sub a P) (sub b P) (sub c P)*dot u (add (add (add a b) c) P)+(D3 P a b*dot u (add (add P a) b)+D3 P b c*dot u (add (add P b) c)+D3 P c a*dot u (add (add P c) a)):=by simp only[D3,dot,aY,sub,add];grind
theorem aCd{n a b c:V}(X:dot n (sub b a)=0)(R:dot n (sub c a)=0)(P:V):dot n n*D3 (sub a P) (sub b P) (sub c P)=dH n (sub b a) (sub c a)*(dot n a -dot n P):=by simp only[D3,dH,dot,aY,sub] at *;grind
theorem Poly.ZF{L:List Nat}(A:KG p N)(F:oM p N n d)(h:Poly p N n d L):3<=L.length/\∀k,k<L.length -2->
 L.getD 0 0∈iE p N n d/\L.getD (k+1) 0∈iE p N n d/\L.getD (k+2) 0∈iE p N n d/\0<=dH n (vec p (L.getD 0 0) (L.getD (k+1) 0)) (vec p (L.getD 0 0) (L.getD (k+2) 0))/\
 (k=0->0<dH n (vec p (L.getD 0 0) (L.getD (k+1) 0)) (vec p (L.getD 0 0) (L.getD (k+2) 0))):=by
 obtain⟨s,r,m,e,W,rfl⟩:=h.ex
 have t:∀i,i<m->((List.range m).map fun i=>iter (uM n p (iE p N n d)) i s).getD i 0=iter (uM n p (iE p N n d)) i s:=fun i b=>by simp[List.getD,b]
 have Q:((List.range m).map fun i=>iter (uM n p (iE p N n d)) i s).length=m:=by simp
 generalize uM n p (iE p N n d)=f at *;have X:=W.aMk F.Ru
 have a:3<=m:=by
  have o:=X 0;have g:=W.pos;have E:=W.back
  rcases Er 2 m with c|c
  . omega
  have :m=1\/m=2:=by omega
  rcases this with rfl|rfl
  . have T:iter f (0+1) s=iter f 0 s:=E;rw[T] at o;simp[vec,sub,dH,dot,aY] at o
  have T:iter f (0+2) s=iter f 0 s:=E;rw[T] at o;simp[vec,sub,dH,dot,aY] at o
 rw[Q];refine⟨a,fun k E=>?_⟩;rw[t 0 A0,t (k+1) A0,t (k+2) A0];refine⟨(W.side 0).1,(W.side (k+1)).1,(W.side (k+2)).1,?_,?_⟩
 . have :=((W.side (k+1)).2.2.2 _ (W.side 0).1).1
   have e:dH n (vec p (iter f 0 s) (iter f (k+1) s)) (vec p (iter f 0 s) (iter f (k+2) s))=dH n (vec p (iter f (k+1) s) (iter f (k+2) s)) (vec p (iter f (k+1) s) (iter f 0 s)):=by simp only[vec,dH,dot,aY,sub];grind
   rw[e];exact this
 rintro rfl;exact X 0
def WL(p:Nat->V)(K:List ((V×Int)×List Nat)):Int:=dB (fun e=>dB (fun t=>D3 (p t.1) (p t.2.1) (p t.2.2)) (lC e.2)) K
def mom(u:V)(p:Nat->V)(K:List ((V×Int)×List Nat)):Int:=dB (fun e=>dB (fun t=>D3 (p t.1) (p t.2.1) (p t.2.2)*dot u (add (add (p t.1) (p t.2.1)) (p t.2.2))) (lC e.2)) K
theorem Lv{L:List Nat}{t:Nat×Nat×Nat}:t∈lC L↔∃k,k<L.length -2/\t=(L.getD 0 0,L.getD (k+1) 0,L.getD (k+2) 0):=by grind[lC]
theorem Md.len{K:List ((V×Int)×List Nat)}(h:Md p N K)(A:KG p N):∀e∈K,2<=e.2.length:=fun e B=>by have :=((h.po e B).ZF A (h.isF B)).1;omega
theorem Md.seen{K:List ((V×Int)×List Nat)}(h:Md p N K)(A:KG p N)(P:V){e:(V×Int)×List Nat}(B:e∈K)(G:dot e.1.1 P<=e.1.2):(∀t∈lC e.2,0<=D3 (sub (p t.1) P) (sub (p t.2.1) P) (sub (p t.2.2) P))/\
 (dot e.1.1 P<e.1.2->∃t∈lC e.2,0<D3 (sub (p t.1) P) (sub (p t.2.1) P) (sub (p t.2.2) P)):=by
 have F:=h.isF B;obtain⟨W,q⟩:=(h.po e B).ZF A F;have a:=cP F.Ru.hn
 have key:∀k,k<e.2.length -2->dot e.1.1 e.1.1*D3 (sub (p (e.2.getD 0 0)) P) (sub (p (e.2.getD (k+1) 0)) P) (sub (p (e.2.getD (k+2) 0)) P)=dH e.1.1 (vec p (e.2.getD 0 0) (e.2.getD (k+1) 0)) (vec p (e.2.getD 0 0) (e.2.getD (k+2) 0))*(e.1.2 -dot e.1.1 P):=fun k E=>by obtain⟨a1,Q,s,_,_⟩:=q k E;have H:=F.Ru.pl A;have :=aCd (H.pl _ a1 _ Q) (H.pl _ a1 _ s) P;rw[(cJ.1 a1).2] at this;exact this
 constructor
 . intro t b;obtain⟨k,E,rfl⟩:=Lv.1 b;have T:=key k E;have :=Hd (q k E).2.2.2.1 (show 0<=e.1.2 -dot e.1.1 P by omega);exact pD a (by rw[T];exact this)
 intro r;refine⟨_,Lv.2 ⟨0,by omega,rfl⟩,?_⟩;have T:=key 0 A0;have :=Ev ((q 0 A0).2.2.2.2 rfl) (show 0<e.1.2 -dot e.1.1 P by omega);exact je a (by rw[T];exact this)
theorem Md.Zy{K:List ((V×Int)×List Nat)}(h:Md p N K)(A:KG p N)(hK:K≠[])(u:V)(M:Int)(g:∀k,k<N->dot u (p k)<=M):0<WL p K/\mom u p K<=4*M*WL p K:=by
 obtain⟨Y,o⟩:∃e,e∈K:=List.exists_mem_of_ne_nil _ hK;obtain⟨k0,d,r⟩:=(h.isF o).lt;generalize G:p k0=P at r;have i:dot u P<=M:=by rw[<-G];exact g k0 d
 have T:∀e∈K,dot e.1.1 P<=e.1.2:=fun e B=>by rw[<-G];exact(h.isF B).le k0 d
 have ev:WL p K=dB (fun e=>dB (fun t=>D3 (sub (p t.1) P) (sub (p t.2.1) P) (sub (p t.2.2) P)) (lC e.2)) K:=
  h.MX A (h.len A) (fun a b c=>D3 a b c) (fun a b c=>D3 (sub a P) (sub b P) (sub c P)) (fun a b=>D3 P a b) (KM P) (aCe P)
 have F:mom u p K=dB (fun e=>dB (fun t=>D3 (sub (p t.1) P) (sub (p t.2.1) P) (sub (p t.2.2) P)*dot u (add (add (add (p t.1) (p t.2.1)) (p t.2.2)) P)) (lC e.2)) K:=
  h.MX A (h.len A) (fun a b c=>D3 a b c*dot u (add (add a b) c)) (fun a b c=>D3 (sub a P) (sub b P) (sub c P)*dot u (add (add (add a b) c) P)) (fun a b=>D3 P a b*dot u (add (add P a) b)) (fun a b=>by rw[KM];simp only[dot,add];grind) (aCq u P)
 rw[F,ev];constructor
 . refine MS (fun e B=>?_) ⟨Y,o,?_⟩
   . have :=CB (f:=fun _=>0) (l:=lC e.2) (h.seen A P B (T e B)).1;rw[Ng] at this;exact this
   exact MS (h.seen A P o (T Y o)).1 ((h.seen A P o (T Y o)).2 r)
 rw[<-mE];refine CB fun e B=>?_;rw[<-mE];refine CB fun t q=>?_;have O:=(h.seen A P B (T e B)).1 t q;obtain⟨k,E,rfl⟩:=Lv.1 q;obtain⟨a1,Q,s,_⟩:=((h.po e B).ZF A (h.isF B)).2 k E;have R:=g _ (cJ.1 a1).1;have L:=g _ (cJ.1 Q).1;have m:=g _ (cJ.1 s).1
 have j:dot u (add (add (add (p (e.2.getD 0 0)) (p (e.2.getD (k+1) 0))) (p (e.2.getD (k+2) 0))) P)=dot u (p (e.2.getD 0 0))+dot u (p (e.2.getD (k+1) 0))+dot u (p (e.2.getD (k+2) 0))+dot u P:=by rw[fV,fV,fV]
 rw[Hj (4*M)];refine Dx ?_ O;simp only at *;omega
end
section
variable {p:Nat->V} {N:Nat} {n n':V} {d d':Int}
theorem WD(c u:V):dot c (neg u)= -dot c u:=by grind[dot,neg]
end
section
variable {p:Nat->V} {N:Nat}
theorem UP(e a b c:V):D3 (add e a) (add e b) (add e c)=D3 a b c+(D3 e a b+D3 e b c+D3 e c a):=by simp only[D3,dot,aY,add];grind
theorem Zi(e a b c u:V):D3 a b c*dot u e=D3 e b c*dot u a+D3 e c a*dot u b+D3 e a b*dot u c:=by simp only[D3,dot,aY];grind
theorem bDs(d x y z e a b c:Int)(h:d*e=x*a+y*b+z*c):(d+(z+x+y))*(a+b+c+3*e)=d*(a+b+c)+4*e*d+(z*(a+b+3*e)+x*(b+c+3*e)+y*(c+a+3*e)):=by grind
def Q3(u w a b c:V):Int:=dot u (add (add a b) c)*dot w (add (add a b) c)+dot u a*dot w a+dot u b*dot w b+dot u c*dot w c
def qq(a b c f g h:Int):Int:=(a+b+c)*(f+g+h)+a*f+b*g+c*h
theorem bDv(d x y z e k a b c f g h:Int)(O:d*e=x*a+y*b+z*c)(Z:d*k=x*f+y*g+z*h):
 (d+(z+x+y))*qq (e+a) (e+b) (e+c) (k+f) (k+g) (k+h)=d*qq a b c f g h+(5*e*(d*(f+g+h))+5*k*(d*(a+b+c))+20*(e*k)*d)+
   (z*qq e (e+a) (e+b) k (k+f) (k+g)+x*qq e (e+b) (e+c) k (k+g) (k+h)+y*qq e (e+c) (e+a) k (k+h) (k+f)):=by
 unfold qq
 grind
theorem bDu(u w a b c:V):Q3 u w a b c=qq (dot u a) (dot u b) (dot u c) (dot w a) (dot w b) (dot w c):=by simp[Q3,qq,fV]
def sec(u w:V)(p:Nat->V)(K:List ((V×Int)×List Nat)):Int:=dB (fun e=>dB (fun t=>D3 (p t.1) (p t.2.1) (p t.2.2)*Q3 u w (p t.1) (p t.2.1) (p t.2.2)) (lC e.2)) K
theorem MQ(f g:Nat×Nat×Nat->Int)(K:List ((V×Int)×List Nat)):dB (fun e=>dB (fun t=>f t+g t) (lC e.2)) K=dB (fun e=>dB f (lC e.2)) K+dB (fun e=>dB g (lC e.2)) K:=by simp[rM]
theorem MR(c:Int)(f:Nat×Nat×Nat->Int)(K:List ((V×Int)×List Nat)):dB (fun e=>dB (fun t=>c*f t) (lC e.2)) K=c*dB (fun e=>dB f (lC e.2)) K:=by simp[mE]
theorem Md.aKl{K:List ((V×Int)×List Nat)}(h:Md p N K)(A:KG p N)(e:V):WL (fun i=>add e (p i)) K=WL p K:=
 h.MX A (h.len A) (fun a b c=>D3 (add e a) (add e b) (add e c)) D3 (fun a b=>D3 e a b) (KM e) (UP e)
theorem Md.aHe{K:List ((V×Int)×List Nat)}(h:Md p N K)(A:KG p N)(e u:V):mom u (fun i=>add e (p i)) K=mom u p K+4*dot u e*WL p K:=by
 have O:mom u (fun i=>add e (p i)) K=_:=h.MX A (h.len A) (fun a b c=>D3 (add e a) (add e b) (add e c)*dot u (add (add (add e a) (add e b)) (add e c))) (fun a b c=>D3 a b c*dot u (add (add a b) c)+4*dot u e*D3 a b c)
  (fun a b=>D3 e a b*(dot u a+dot u b+3*dot u e)) (fun a b=>by rw[KM e a b];grind) (fun a b c=>by
    have :=bDs (D3 a b c) (D3 e b c) (D3 e c a) (D3 e a b) (dot u e) (dot u a) (dot u b) (dot u c) (Zi e a b c u);rw[UP,fV,fV,fV,fV,fV,fV,fV,<-this]
    grind)
 rw[O,MQ,MR];rfl
theorem Md.aJh{K:List ((V×Int)×List Nat)}(h:Md p N K)(A:KG p N)(e u w:V):sec u w (fun i=>add e (p i)) K=sec u w p K+(5*dot u e*mom w p K+5*dot w e*mom u p K+20*(dot u e*dot w e)*WL p K):=by
 have O:sec u w (fun i=>add e (p i)) K=_:=h.MX A (h.len A) (fun a b c=>D3 (add e a) (add e b) (add e c)*Q3 u w (add e a) (add e b) (add e c))
  (fun a b c=>D3 a b c*Q3 u w a b c+(5*dot u e*(D3 a b c*dot w (add (add a b) c))+5*dot w e*(D3 a b c*dot u (add (add a b) c))+20*(dot u e*dot w e)*D3 a b c))
  (fun a b=>D3 e a b*Q3 u w e (add e a) (add e b)) (fun a b=>by
    rw[KM e a b];simp only[Q3,fV];grind) (fun a b c=>by
    have :=bDv (D3 a b c) (D3 e b c) (D3 e c a) (D3 e a b) (dot u e) (dot w e) (dot u a) (dot u b) (dot u c) (dot w a) (dot w b) (dot w c) (Zi e a b c u) (Zi e a b c w)
    simp_all[UP,bDu,fV])
 rw[O,MQ,MQ,MQ,MR,MR,MR];rfl
theorem WH(L:List Nat):(lC L).length<=(mj L).length:=by simp[lC,mj]
theorem aNg{L:List Nat}{x:Nat×Nat}(h:x∈mj L):x.1∈L/\x.2∈L:=by
 obtain⟨i,F,O,Z⟩:=PF.1 h
 grind
theorem Md.aEq{K:List ((V×Int)×List Nat)}(h:Md p N K)(A:KG p N):(IQ K).length<=N*N:=by
 have M:IQ K ⊆ (List.range N).flatMap fun a=>(List.range N).map fun b=>(a,b):=by
  rintro⟨a,b⟩ C;obtain⟨e,B,C⟩:=Ed.1 C
  have T:∀k∈e.2,k<N:=fun k E=>by obtain⟨s,r,m,c,W,P⟩:=(h.po e B).ex;rw[P] at E;obtain⟨i,_,rfl⟩:=Bb.1 E;exact(cJ.1 (W.side i).1).1
  obtain⟨O,Z⟩:=aNg C
  grind
 have :=List.Nodup.length_le_of_subset (h.nodup A) M
 have R:∀l:List Nat,(l.flatMap fun a=>(List.range N).map fun b=>(a,b)).length=l.length*N:=fun l=>by induction l<;>grind
 rwa [R,Bv] at this
theorem Md.WH{K:List ((V×Int)×List Nat)}(h:Md p N K)(A:KG p N):(K.flatMap fun e=>lC e.2).length<=N*N:=by
 refine Ay ?_ (h.aEq A);unfold IQ;clear h
 induction K with
 |nil=>simp
 |cons e K z=>simp only[Dw,An];have :=aC.WH e.2;omega
theorem wR{α:Type}{f:α->Int}{B:Nat}:∀{l:List α},(∀x∈l,(f x).natAbs<=B)->(dB f l).natAbs<=l.length*B
 |[],_=>by simp[dB]
 |x::l,h=>by
  have Z:=wR (l:=l) fun y Q=>h y (As _ Q)
  grind[dB,List.length_cons,Nat.succ_mul]
theorem Poly.conv{p':Nat->V}{D:Nat}{n:V}{d d':Int}{L g:List Nat}(P:Poly p N n d L)(o:Poly p' D n d' g)(c:iE p' D n d'=iE p N n d)(M:∀a∈iE p N n d,∀b,Sd n p' (iE p N n d) a b->Sd n p (iE p N n d) a b):g=L:=by
 obtain⟨s,r,m,e,W,rfl⟩:=P.ex;obtain⟨S,h,Y,k,l,rfl⟩:=o.ex;rw[c] at k l ⊢;have :S=s:=by rw[e] at k;exact(List.cons.inj k).1.symm
 subst this;generalize iE p N n d=I at *
 have F:∀i,iter (uM n p' I) i S=iter (uM n p I) i S:=by
  intro i
  induction i with
  |zero=>rfl
  |succ i z=>have Z:=M _ (l.side i).1 _ (l.side i).2;rw[z] at Z;exact((W.side i).2.uniq W.H (W.side i).1 Z).symm
 have f:Y=m:=by
  rcases Hz m Y with hl|he|hl
  . exact absurd ((F m).trans W.back) (l.first m W.pos hl)
  . exact he.symm
  exact absurd ((F Y).symm.trans l.back) (W.first Y l.pos hl)
 subst f;exact Dd fun i _=>F i
end
end Go.aC
namespace Go.Av
open Go
inductive Wk:AV->AV->Prop
 |refl (a:AV):Wk a a
 |bJ (tag sz:Nat) (els DW:List (List AV)) (hl:DW.length=els.length) (hs:(∀e∈els,e.length=sz)->∀e∈DW,e.length=sz) (hf:DW.flatten.length=els.flatten.length)
   (h:∀j,j<els.flatten.length->Wk (els.flatten.getD j aB) (DW.flatten.getD j aB)):Wk (.bJ tag sz els) (.bJ 0 sz DW)
 |agg (cs GN:List AV) (hl:GN.length=cs.length) (h:∀j,j<cs.length->Wk (cs.getD j aB) (GN.getD j aB)):Wk (.agg cs) (.agg GN)
theorem Wk.one{a b:AV}(h:Wk a b):b.one=a.one:=by cases h<;>rfl
theorem VR.wk{G:Gh}{w:World}{a b:AV}(h:Wk a b):∀{u:Value},VR G w a u->VR G w b u:=by
 induction h with
 |refl a=>simp
 |bJ tag sz els n U M N Y z=>
  intro u J
  cases J with
  |wY _ _ b o s q=>obtain rfl:n=[]:=Cm U;exact .wY _ _ b o s A0
  |bJ _ _ _ b o cap us K R J q=>rw[<-U];refine .bJ 0 sz n b o cap us (M K) (fun j S=>?_) (fun j S=>z j A0 (J j A0)) ⟨by rw[U];exact q.1,trivial⟩;have v:j<els.flatten.length:=A0;exact⟨(R j v).1,(R j v).2.1,by rw[(Y j v).one];grind⟩
 |agg cs I U Y z=>
  intro u J
  cases J with
  |agg _ vs X O J=>
   refine .agg I vs A0 (fun c R=>?_) fun j S=>z j A0 (J j A0);obtain⟨j,S,rfl⟩:=Cz R;have v:j<cs.length:=A0;have :=(Y j v).one
   grind
theorem Sound.wk{P:Program}{g:bL}{f:FuncId}{args a:List AV}{H H':aA}{out:Out}(h:Sound P g f a H out H')(U:a.length=args.length)(L:∀j,j<args.length->Wk (args.getD j aB) (a.getD j aB)):Sound P g f args H out H':=
 ⟨h.1,fun G w vs D J=>h.2 G w vs D ⟨by rw[U];exact J.1,fun j Y=>VR.wk (L j A0) (J.2 j A0)⟩⟩
mutual
def ct:AV->AV
 |.bJ _ sz els=>.bJ 0 sz (vR els)
 |.agg cs=>.agg (qF cs)
 |a=>a
def qF:List AV->List AV
 |[]=>[]
 |x::r=>ct x::qF r
def vR:List (List AV)->List (List AV)
 |[]=>[]
 |x::r=>qF x::vR r
end
theorem DZ:∀l:List AV,(qF l).length=l.length
 |[]=>by rfl
 |x::r=>by simp[qF,DZ r]
theorem TH:∀l:List (List AV),(vR l).length=l.length
 |[]=>by rfl
 |x::r=>by simp[vR,TH r]
theorem JD:∀l:List (List AV),(vR l).flatten=qF l.flatten
 |[]=>by rfl
 |x::r=>by
  have :∀a b:List AV,qF (a++b)=qF a++qF b:=fun a b=>by
   induction a with
   |nil=>rfl
   |cons y a z=>grind[qF]
  simp[vR,JD r,this]
theorem TI{sz:Nat}:∀{l:List (List AV)},(∀e∈l,e.length=sz)->∀e∈vR l,e.length=sz
 |[],_,e,he=>by grind[vR]
 |x::r,h,e,he=>by
  simp only[vR,Bd] at he
  rcases he with rfl|he
  . grind[DZ]
  exact TI (fun y Q=>h y (As _ Q)) e he
theorem FU:∀(l:List AV) (j:Nat),j<l.length->(qF l).getD j aB=ct (l.getD j aB)
 |[],j,hj=>absurd hj (Al _)
 |x::r,0,_=>by rfl
 |x::r,j+1,hj=>by have :=FU r j (by grind);assumption
theorem HQ{l:List AV}{j:Nat}(Y:j<l.length):l.getD j aB∈l:=by grind
theorem WM(a:AV):Wk a (ct a):=by
 match a with
 |.bJ tag sz els=>refine .bJ tag sz els _ (TH els) TI (by rw[JD,DZ]) fun j Y=>?_;rw[JD,FU _ _ Y];have p:=HQ Y;obtain⟨e,B,C⟩:=List.mem_flatten.1 p;have O:=Kh B;have Z:=Kh C;exact WM _
 |.agg cs=>refine .agg cs _ (DZ cs) fun j Y=>?_;rw[FU _ _ Y];have p:=HQ Y;have Z:=Kh p;exact WM _
 |.bool _|.int _ _|.str _|.NX|.ref _ _|.pl _|.bE|.sl _ _ _ _ _|.func _ _ _|.EL|.iface _ _|.rE|.jS _|.map _|.uD|.yield _=>exact .refl _
termination_by SizeOf.sizeOf a
decreasing_by
 all_goals grind
theorem Sound.ct{P:Program}{g:bL}{f:FuncId}{args:List AV}{H H':aA}{out:Out}(h:Sound P g f (qF args) H out H'):Sound P g f args H out H':=
 h.wk (DZ _) fun j Y=>by rw[FU _ _ Y];exact WM _
section
theorem VR.mo{G:Gh}{w:World}{a:AV}{u:Value}(h:VR G w a u)(b:Bool):VR ⟨G.loc,G.iZ,b⟩ w a u:=h.mono (fun _ _ h=>h) (fun _ _ h=>⟨h,rfl⟩)
section
variable {P:Program} {g g':bL}
theorem Sound.up(J:∀n cs,g n=some cs->g' n=some cs)(p:g.mo=true)(I:g'.mo=false){f:FuncId}{args:List AV}{out:Out}(h:Sound P g f args ⟨0,.nil⟩ out ⟨0,.nil⟩):Sound P g' f args ⟨0,.nil⟩ out ⟨0,.nil⟩:=by
 refine⟨h.1,fun G w vs L z=>?_⟩
 have R:WR g ⟨G.loc,G.iZ,true⟩ ⟨0,.nil⟩ w:={
  cells:=fun id l cs r O Z=>by obtain⟨a1,Q,s,i,M⟩:=L.cells id l cs r O Z;exact⟨a1,Q,s,i,fun j Y=>let⟨u,K,J⟩:=M j Y;⟨u,K,J.mo true⟩⟩
  room:=L.room
  mV:=L.mV
  lV:=L.lV
  jK:=fun id l o O Z W=>by cases Z
  lt:=L.lt
  jJ:=L.jJ
  kQ:=fun n cs A=>(L.kQ n cs (J n cs A)).mo true
  FV:=fun n cs A d=>L.FV n cs (J n cs A) d
  mo:=p.symm}
 refine(h.2 ⟨G.loc,G.iZ,true⟩ w vs R ⟨z.1,fun j Y=>(z.2 j Y).mo true⟩).mono fun e w' ⟨E,O,Z,W⟩=>?_;have D:G.mo=false:=L.mo.trans I
 refine⟨⟨E.loc,E.iZ,false⟩,{
  cells:=fun id l cs r q1 q2=>by obtain⟨a1,Q,s,i,M⟩:=O.cells id l cs r q1 q2;exact⟨a1,Q,s,i,fun j Y=>let⟨u,K,J⟩:=M j Y;⟨u,K,J.mo false⟩⟩
  room:=O.room
  mV:=O.mV
  lV:=O.lV
  jK:=fun id l o q1 q2 q3=>by cases q2
  lt:=O.lt
  jJ:=O.jJ
  kQ:=fun n cs A=>(L.kQ n cs A).mono Z.loc Z.iZ
  FV:=fun n cs A d=>by obtain⟨c,q,fz,a1,Q⟩:=L.FV n cs A d;refine⟨c,q,fz,?_,Q⟩;rw[Z.frame n (Ez.1 a1).1 (fun id l _ ⟨o,S,_⟩=>by cases S)];omega
  mo:=I.symm},{
  loc:=Z.loc
  iZ:=Z.iZ
  size:=Z.size
  frame:=Z.frame
  nM:=Z.nM
  qG:=Z.qG
  next:=Z.next
  news:=Z.news
  dead:=Z.dead
  mo:=D.symm
  same:=⟨Z.same.os,Z.same.output,Z.same.tape,fun X=>by grind⟩},?_⟩
 cases out with
 |ret v=>cases e with
  |returned u=>exact W.mo false
  |_=>assumption
 |MD v=>cases e with
  |panicked c=>obtain⟨u,a,b⟩:=W;exact⟨u,a,b.mo false⟩
  |_=>assumption
theorem Pe{f:FuncId}(N:DH P f){s t:List UInt8}{n:Int}(h:∀w,Calls P f #[.string ⟨s.toArray⟩,.string ⟨t.toArray⟩] w fun e w'=>e=.returned (.int .i64 n)/\w'=w)(H:aA):Sound P g f [.str s,.str t] H (.ret (.int .i64 n)) H:=by
 refine⟨N,fun G w vs L z=>?_⟩;obtain⟨U,J⟩:=z
 match vs,U with
 |[u0,u1],_=>have W:=(J 0 A2).jQ;have l:=(J 1 A2).jQ;subst W l;refine(h w).mono fun e w' B=>?_;obtain⟨rfl,rfl⟩:=B;exact⟨G,L,Ext.refl G H _,.int _ _⟩
theorem Ext.bEs{G:Gh}{H:aA}{w w':World}(S:∀b o,G.iZ b o->∃v,w.cell? ⟨b,o,none⟩=some v)
 (X:∀b,b<w.heap.size->w'.heap[b]?=w.heap[b]?) (I:w.heap.size<=w'.heap.size) (M:Pc G.mo w w'):Ext G H w G H w' where
 loc:=fun _ _ h=>h
 iZ:=fun b o F=>⟨F,by obtain⟨v,J⟩:=S b o F;exact gL (X b (sY J))⟩
 size:=I
 frame:=fun b r _=>X b r
 nM:=fun id l h U=>.inr ⟨id,l,h,U,rfl⟩
 qG:=fun _ _ h=>.inl h
 next:=Ae _
 news:=fun _ _ h K=>by grind
 dead:=fun _ _ _ h=>h
 mo:=rfl
 same:=M
def ZA(xs:List (List UInt8)):List (List AV):=xs.map fun x=>[.str x]
theorem kd(xs:List (List UInt8)):(ZA xs).flatten=xs.map AV.str:=by
 induction xs with
 |nil=>rfl
 |cons x r z=>grind[ZA]
theorem Zm{f:FuncId}(N:DH P f)(p:g.mo=false){xs:List (List UInt8)}{t:List UInt8}(C:xs≠[])(F:xs.length<=140737488355328)(Q:(Lib.join xs t).length<=140737488355328)
 (h:∀(d o c:Nat) (ys:List ByteArray) (w:World),(∀(j:Nat) x,ys[j]?=some x->w.cell? ⟨d,o+j,none⟩=some (.string x))->d<w.heap.size->ys.length<=140737488355328->ys.length<=c->
   (Lib.join (ys.map (·.data.toList)) t).length<=140737488355328->
   Calls P f #[.slice (some ⟨d,o,none⟩) ys.length c,.string ⟨t.toArray⟩] w fun e w'=>e=.returned (.string ⟨(Lib.join (ys.map (·.data.toList)) t).toArray⟩)/\Go.RowKit.Below w.heap.size w w') (tag:Nat) (H:aA):
 Sound P g f [.bJ tag 1 (ZA xs),.str t] H (.ret (.str (Lib.join xs t))) H:=by
 refine⟨N,fun G w vs L z=>?_⟩;obtain⟨U,J⟩:=z
 match vs,U with
 |[u0,u1],_=>
  have W:=J 0 A2;have l:=(J 1 A2).jQ;subst l;have u:0<xs.length:=Hk.2 C;generalize B:ZA xs=els at W;have T:els.length=xs.length:=by rw[<-B];exact Ah _
  cases W with
  |wY=>simp at T;omega
  |bJ _ _ _ b o cap us K R a q=>
   have i:els.flatten=xs.map AV.str:=by rw[<-B];exact kd xs
   have E:(xs.map fun x=>(⟨x.toArray⟩:ByteArray)).map (·.data.toList)=xs:=by rw[Da];have :((fun x:ByteArray=>x.data.toList)∘fun x:List UInt8=>(⟨x.toArray⟩:ByteArray))=id:=(by funext x;simp);rw[this,Fv]
   have k:∀(j:Nat) x,(xs.map fun x=>(⟨x.toArray⟩:ByteArray))[j]?=some x->w.cell? ⟨b,o+j,none⟩=some (.string x):=fun j x Y=>by rw[Eg] at Y;obtain⟨y,n,rfl⟩:=Ad.1 Y;have I:j<xs.length:=(Bj.1 n).1;have v:j<els.flatten.length:=(by rw[i];simpa using I);have Z:=a j v;have s:els.flatten.getD j aB=.str y:=(by rw[i,List.getD,Eg,n];rfl);rw[s] at Z;rw[(R j v).2.1,Z.jQ]
   have m:b<w.heap.size:=by
    obtain⟨y,n⟩:∃y,xs[0]?=some y:=⟨xs[0],Af u⟩
    exact sY (k 0 ⟨y.toArray⟩ (by rw[Eg,n];rfl))
   have A:=q.1;have :=h b o cap _ w k m (by rw[Ah];exact F) (by rw[Ah];omega) (by rw[E];exact Q);rw[E,Ah,<-T] at this;refine this.mono fun e w' r=>?_;obtain⟨rfl,S⟩:=r;have D:G.mo=false:=L.mo.trans p;exact⟨G,L.grow S.block,Ext.bEs L.jJ S.block S.size ⟨S.os,S.output,S.tape,fun X=>by rw[D] at X;cases X⟩,VR.WE _ _ _⟩
end
end
section
theorem aJm(H:aA)(d:Nat)(v:AV):mJ H none d v=mJ H none 0 v:=by rfl
theorem JQ{f u:AV->Option AV}(h:∀x,f x=u x):∀l,NS f l=NS u l
 |[]=>rfl
 |x::r=>by simp only[NS,h x,JQ h r]
theorem RY(H:aA)(d:Nat):∀(n:Nat) (v:AV),jB H none d n v=jB H none 0 n v
 |0,v=>by rfl
 |n+1,v=>by
  cases v with
  |agg cs=>simp only[jB,JQ (RY H d n) cs]
  |jS cs=>simp only[jB,JQ (RY H d n) cs]
  |_=>exact aJm H d _
abbrev Fact:=FuncId×List AV×AV
def kn(f:FuncId)(args:List AV):List Fact->Option AV
 |[]=>none
 |e::r=>match Nat.beq f e.1 with
  |true=>match tN (qF args) e.2.1 with
   |true=>some e.2.2
   |false=>kn f args r
  |false=>kn f args r
def vK(P:Program)(g:bL)(K:List Fact):Prop:=∀e∈K,∀H,Sound P g e.1 e.2.1 H (.ret e.2.2) H
def bCp(K:List Fact)(o:Ub):Ub:=fun f args H=>match kn f args K with
 |some v=>some (.ret v,H)
 |none=>o f args H
def GI(g:bL)(T:FT)(b:Ub)(a:FuncId->Nat->Bool)(n:Nat)(e:Fact):Bool:=
 match cW e.2.1 with
 |true=>match exF b T.get g 100000 a 40 (.func (.func e.1) [] []) e.2.1 ⟨0,.nil⟩ with
  |some (.ret u,H2)=>match jB H2 none 0 n u with
   |some v=>v.same e.2.2
   |none=>false
  |_=>false
 |false=>false
section
variable {P:Program} {g:bL}
theorem aGm{f:FuncId}{args:List AV}{v:AV}:∀{K:List Fact},vK P g K->kn f args K=some v->∀H,Sound P g f args H (.ret v) H
 |[],_,h,_=>by cases h
 |e::r,hK,h,H=>by
  have V:vK P g r:=fun x C=>hK x (As _ C);simp only[kn] at h;split at h
  . rename_i N;split at h
    . rename_i M;cases h;obtain rfl:=Ch N;exact Sound.ct (by rw[tO _ _ M];exact hK e Az H)
    exact aGm V h H
  exact aGm V h H
theorem aPv{K:List Fact}(hK:vK P g K){o:Ub}(S:PZ P g o):PZ P g (bCp K o):=by
 intro f args H out H' h;unfold bCp at h;split at h
 . rename_i v J;cases h;exact aGm hK J H
 exact S _ _ _ _ _ h
theorem bCw(d:Fit P g)(t:KS g){T:FT}(Q:T.All fun f F=>∃N,iM P g N f F){b:Ub}(S:PZ P g b){a:FuncId->Nat->Bool}(A:PY P g a){n:Nat}{e:Fact}(h:GI g T b a n e=true)(H:aA):Sound P g e.1 e.2.1 H (.ret e.2.2) H:=by
 unfold GI at h;split at h
 . rename_i I;split at h
   . rename_i u w B;split at h
     . rename_i v J;obtain rfl:=AV.WA _ _ h
       rcases NA d S A (fun f F L=>Q.get L) 40 _ _ _ _ _ B with ⟨p,m,c⟩|⟨id,R,_⟩
       . cases m;simp only[Dt,Bx] at c;exact c.frame t I (tk:=none) (fun k E=>by grind) (n:=n) H (by rw[RY];exact J)
       grind
     grind
   grind
 grind
def bMd:FuncId->Nat->Bool:=fun _ _=>false
theorem dO:PY P g bMd:=fun _ _ h=>by cases h
theorem vK.nil:vK P g []:=fun e B=>by grind
theorem vK.cons{K:List Fact}(hK:vK P g K){f:FuncId}{args:List AV}{v:AV}(h:∀H,Sound P g f args H (.ret v) H):vK P g ((f,args,v)::K):=fun e he=>by
 rcases Bd.1 he with rfl|he
 . omega
 exact hK e he
theorem vK.GI{K:List Fact}(hK:vK P g K)(p:Fit P g)(t:KS g){T:FT}(Q:T.All fun f F=>∃N,iM P g N f F){o:Ub}(S:PZ P g o){a:FuncId->Nat->Bool}(A:PY P g a)(n:Nat){e:Fact}(h:Av.GI g T (bCp K o) a n e=true):vK P g (e::K):=fun x hx=>by
 rcases Bd.1 hx with rfl|hx
 . exact bCw p t Q (aPv hK S) A h
 exact hK x hx
end
end
end Go.Av
namespace Go.Av
open Go Go.RowKit
section
def VD(P:Program)(a:TypeId->Option (List TypeId)):List Field->List TypeId->Option (List TypeId)
 |[],acc=>some acc
 |f::r,acc=>match a f.type with
  |some l=>if f.offset=acc.length/\P.cellsOf f.type=l.length then VD P a r (acc++l) else none
  |none=>none
def OB(P:Program):Nat->TypeId->Option (List TypeId)
 |0,_=>none
 |d+1,t=>match P.underlying t with
  |some (.struct fs)=>match VD P (OB P d) fs.toList [] with
   |some l=>if P.cellsOf t=l.length then some l else none
   |none=>none
  |some (.array n e)=>match OB P d e with
   |some l=>if P.cellsOf e=l.length/\P.cellsOf t=n*l.length/\0<l.length then some (List.replicate n l).flatten else none
   |none=>none
  |some (.int _)=>some [t]
  |some (.slice _)=>some [t]
  |some .string=>some [t]
  |_=>none
section
variable {H:Type} {enc:TypeId×Value->H} {P:Program} {w:World} {base:Nat} {spare:Nat->Bool} {held:Bool}
def rW(enc:TypeId×Value->H)(P:Program)(w:World)(base:Nat)(spare:Nat->Bool)(held:Bool)(l:List TypeId)(cs:List Value):Prop:=
 ∀(i:Nat) (u:TypeId),l[i]?=some u->∃(v:Value) (m:Nat) (y:DataW H×List MemPlace),cs[i]?=some v/\DataW.trod enc P w base spare held m u [v]=some y
theorem HT{l us:List TypeId}{cs:List Value}(O:rW enc P w base spare held l cs)(Z:rW enc P w base spare held us (cs.drop l.length)):rW enc P w base spare held (l++us) cs:=by
 intro i u h;by_cases F:i<l.length
 . rw[Jk F] at h;exact O i u h
 rw[Jc A0] at h;obtain⟨v,m,y,J,Q⟩:=Z _ u h
 grind
theorem OR{l:List TypeId}{cs:List Value}(n:Nat)(h:rW enc P w base spare held l (cs.take n)):rW enc P w base spare held l cs:=by
 intro i u K;obtain⟨v,m,y,J,Q⟩:=h i u K
 grind
theorem HU{a:TypeId->Option (List TypeId)}{n:Nat}{cs:List Value}
 (i:∀(u:TypeId) (l:List TypeId) (cs:List Value) (x:DataW H×List MemPlace),a u=some l->DataW.trod enc P w base spare held n u cs=some x->rW enc P w base spare held l cs):
 ∀(fs:List Field) (c l:List TypeId),VD P a fs c=some l->rW enc P w base spare held c cs->
  (∀f∈fs,∃x,DataW.trod enc P w base spare held n f.type ((cs.drop f.offset).take (P.cellsOf f.type))=some x)->rW enc P w base spare held l cs
 |[],c,l,h,ha,hf=>by obtain rfl:=Aa h;omega
 |f::r,c,l,h,ha,hf=>by
  unfold VD at h;split at h
  . rename_i us b;split at h
    . rename_i R;obtain⟨x,C⟩:=hf f (Az ..);refine HU i r _ l h (HT ha ?_) (fun g t=>hf g (As _ t));rw[<-R.1];exact OR _ (i _ _ _ _ b C)
    grind
  grind
theorem RN{e:TypeId}{n:Nat}{l:List TypeId}:∀(k:Nat) (cs:List Value),(∀i,i<k->rW enc P w base spare held l ((cs.drop (i*l.length)).take l.length))->rW enc P w base spare held (List.replicate k l).flatten cs
 |0,cs,h=>by intro i u K;grind
 |k+1,cs,h=>by
  refine HT ?_ ?_
  . have :=h 0 A0;rw[Gp,Fm] at this;exact OR _ this
  refine RN (e:=e) (n:=n) k _ fun i F=>?_;rw[Je]
  grind
theorem vE:∀(d:Nat) {t:TypeId} {l:List TypeId} {X:Nat} {cs:List Value} {x:DataW H×List MemPlace},OB P d t=some l->DataW.trod enc P w base spare held X t cs=some x->rW enc P w base spare held l cs
 |0,t,l,X,cs,x,h,hx=>by cases h
 |d+1,t,l,X,cs,x,h,hx=>by
  unfold OB at h;split at h
  . rename_i fs q;split at h
    . rename_i us b;split at h
      . obtain rfl:=Aa h;obtain⟨xs,n,_,_,U,L,N⟩:=DataW.trod_struct q hx;refine HU (n:=n) (fun u l cs x O Z=>vE d O Z) fs.toList [] us b (fun i u K=>by simp at K) fun f j=>?_;obtain⟨i,F,g⟩:=Cz j;have :=N i f (by rw[<-g];simp);rw[this];have o:i<xs.length:=(by rw[L];simpa using F);exact⟨_,Af o⟩
      cases h
    cases h
  . rename_i n e q;split at h
    . rename_i us b;split at h
      . rename_i R;obtain rfl:=Aa h;obtain⟨xs,m,_,_,U,L,N⟩:=DataW.trod_array q hx;refine RN (e:=e) (n:=m) n cs fun i F=>?_;have :=N i F;rw[R.1,Af A0] at this;exact vE d b this
      cases h
    cases h
  . rename_i k q;obtain rfl:=Aa h;obtain⟨n,rfl,_⟩:=DataW.trod_int q hx;intro i u K
    match i,K with
    |0,K=>exact⟨_,X,x,rfl,by simpa [<-Aa K] using hx⟩
  . rename_i e q;obtain rfl:=Aa h
    have R:∃c,cs=[c]:=by
     rcases DataW.trod_slice q hx with ⟨h,_⟩|⟨a,len,cap,_,_,_,_,h,_⟩
     . exact⟨_,h⟩
     exact⟨_,h⟩
    obtain⟨c,rfl⟩:=R;intro i u K
    match i,K with
    |0,K=>exact⟨_,X,x,rfl,by simpa [<-Aa K] using hx⟩
  . rename_i q;obtain rfl:=Aa h;obtain⟨z,rfl,_⟩:=DataW.trod_string q hx;intro i u K
    match i,K with
    |0,K=>exact⟨_,X,x,rfl,by simpa [<-Aa K] using hx⟩
  cases h
theorem jo{l:List TypeId}{cs:List Value}(h:rW enc P w base spare held l cs){i:Nat}{u:TypeId}(K:l[i]?=some u)(E:P.underlying u=some .string):
 ∃z:ByteArray,cs[i]?=some (.string z)/\z.size<=maxLen:=by
 obtain⟨v,m,y,J,Q⟩:=h i u K;obtain⟨z,s,_,M⟩:=DataW.trod_string E Q
 grind
theorem oC{l:List TypeId}{cs:List Value}(h:rW enc P w base spare held l cs){i:Nat}{u:TypeId}{k:IntKind}(K:l[i]?=some u)(E:P.underlying u=some (.int k)):
 ∃n,cs[i]?=some (.int k n)/\(Lit.int k n).wf=true:=by
 obtain⟨v,m,y,J,Q⟩:=h i u K;obtain⟨n,A,_,L⟩:=DataW.trod_int E Q
 grind
end
end
end Go.Av
namespace Go.Av
open Go Go.RowKit Go.ChangeShapes Go.WideShapes Go.ChangeAt Go.Deep
section
def tD(mo:Bool)(W:World):Gh:=⟨fun _=>none,fun b o=>∃v,W.cell? ⟨b,o,none⟩=some v,mo⟩
theorem aZd{g:bL}{W:World}(t:∀n cs,g n=some cs->VR (tD g.mo W) W (.pl cs) (.pointer (some ⟨n,0,none⟩)))
 (M:∀n cs,g n=some cs->cs≠[]->∃c q fz,W.heap[n]?=some (.cells c q fz)/\c.size=cs.length):WR g (tD g.mo W) ⟨0,.nil⟩ W where
 cells:=fun id l cs r h=>by cases h
 room:=fun id l h=>by cases h
 mV:=fun id f l l' _ h=>by cases h
 lV:=fun id l h=>by cases h
 jK:=fun id l es h=>by cases h
 lt:=fun id l h=>by cases h
 jJ:=fun b o h=>h
 kQ:=t
 FV:=M
 mo:=rfl
theorem LK{mo:Bool}{W a:World}{E:Gh}{H':aA}(h:Ext (tD mo W) ⟨0,.nil⟩ W E H' a){b:Nat}(X:b<W.heap.size):a.heap[b]?=W.heap[b]?:=
 h.frame b X fun id l U=>by cases U
theorem bDk{mo:Bool}{W:World}{k:IntKind}{sz len cap b o:Nat}{f:Nat->Int}{els:List (List AV)}(K:∀e∈els,e.length=sz)(U:els.length=len)
 (N:els.flatten=(List.range (len*sz)).map fun j=>AV.int k (f j)) (R:∀j,j<len*sz->W.cell? ⟨b,o+j,none⟩=some (.int k (f j))) (A:len<=cap):
 VR (tD mo W) W (.bJ 0 sz els) (.slice (some ⟨b,o,none⟩) len cap):=by
 subst U;have i:els.flatten.length=els.length*sz:=by grind
 have t:∀j,j<els.length*sz->els.flatten.getD j aB=.int k (f j):=fun j Y=>by grind
 refine .bJ 0 sz els b o cap (fun j=>.int k (f j)) K (fun j Y=>?_) (fun j Y=>?_) ⟨A,trivial⟩
 . rw[i] at Y;refine⟨⟨_,R j Y⟩,R j Y,?_⟩;rw[t j Y];rfl
 rw[i] at Y;rw[t j Y];exact .int _ _
theorem aBk{w:World}{a:Addr}{v:Value}(h:w.cell? a=some v):a.spot=none:=World.cell?_spot h
theorem Ws(b o j:Nat):(Addr.mk b o none).add j=⟨b,o+j,none⟩:=by unfold Addr.add;simp
section
variable {H:Type} {enc:TypeId×Value->H} {P:Program} {w:World} {base:Nat} {held:Bool}
theorem Vn{t e:TypeId}{k:IntKind}{d:Nat}{l:List TypeId}{X:Nat}{v:Value}{x:DataW H×List MemPlace}(q:P.underlying t=some (.slice e))(N:OB P d e=some l)
 (E:∀u∈l,P.underlying u=some (.int k)) (I:P.cellsOf e=l.length) (G:0<l.length) (mo:Bool) (h:DataW.trod enc P w base (fun _=>true) held X t [v]=some x):
 v=.slice none 0 0\/∃(len:Nat) (f:Nat->Int),len<=maxLen/\(∀j,j<len*l.length->(Lit.int k (f j)).wf=true)/\
  ∀els:List (List AV),els.length=len->(∀e∈els,e.length=l.length)->els.flatten=(List.range (len*l.length)).map (fun j=>AV.int k (f j))->VR (tD mo w) w (.bJ 0 l.length els) v:=by
 rcases open_slice q h with ⟨G,_⟩|⟨a,len,cap,m,n,D,Pl,J,hb,U,hm,S,rfl,C⟩
 . exact .inl (by simpa using G)
 right;have R:v=.slice (some a) len cap:=by simpa using J
 subst R;have z:m=cap:=by simpa using S
 subst z
 have key:∀j,j<m*l.length->∃r,w.cell? (a.add j)=some (.int k r)/\(Lit.int k r).wf=true:=fun j Y=>by have F:j / l.length<m:=Nat.div_lt_of_lt_mul (by rwa [Cc]);have V:j%l.length<l.length:=Bz _ G;obtain⟨GN,O,Z⟩:=C (j / l.length) A0;rw[I] at O;obtain⟨_,Q,K⟩:=World.cells?_some O;have A:=vE d N Z;obtain⟨r,c,L⟩:=oC A (i:=j%l.length) (u:=l[j%l.length]) (Af V) (E _ (Ac V));refine⟨r,?_,L⟩;rw[<-c,<-K _ V,add_add,Cc,Dy]
 have M:len*l.length<=m*l.length:=Bf _ U;obtain⟨f,g⟩:=choose_lt (α:=Int) (n:=len*l.length) (p:=fun j r=>w.cell? (a.add j)=some (.int k r)/\(Lit.int k r).wf=true) (fun j Y=>key j A0);refine⟨len,f,by omega,fun j Y=>(g j Y).2,fun els T W B=>?_⟩;obtain⟨b,o,s⟩:=a
 cases s with
 |none=>exact bDk W T B (fun j Y=>by have :=(g j Y).1;rwa [Ws] at this) U
 |some s=>
  have y:m=0:=by
   rcases Ho m with h|h
   . exact h
   obtain⟨r,V,_⟩:=key 0 (Jp h G);have :=aBk V;simp[Addr.add] at this
  subst y;obtain rfl:len=0:=by omega
  obtain rfl:els=[]:=Cm T;exact .wY 0 l.length b o s A1
end
theorem RM{α:Type}(f:Nat->α)(sz:Nat):∀len:Nat,((List.range len).map fun i=>(List.range sz).map fun r=>f (i*sz+r)).flatten=(List.range (len*sz)).map f
 |0=>by simp
 |len+1=>by rw[Ds,Cd,Fa,RM f sz len,Bo,Fk,List.range_add,Cd,Da];simp
variable{E:Gh}
theorem c9{mo:Bool}{W l:World}{H':aA}(h:Ext (tD mo W) ⟨0,.nil⟩ W E H' l)(a:Addr)(I:a.block<W.heap.size):l.frozen? a=W.frozen? a:=by simp only[World.frozen?,LK h I]
theorem aGl{mo:Bool}{W l:World}{H':aA}(h:Ext (tD mo W) ⟨0,.nil⟩ W E H' l)(a:MemPlace->Prop):W.keptBut l a:=by
 refine⟨h.same.1,h.same.2,fun i F=>?_⟩
 grind[LK]
section
variable {H:Type} {enc:TypeId×Value->H} {P:Program}
theorem Yc{mo:Bool}{f:Func}{s:ChangeSpec}{d fresh c e:Bool}{W l:World}{args:Array Value}{v:Value}{ds B:List (DataW H)}{a pa pv:List MemPlace}{E:Gh}{H':aA}
 (w:Ext (tD mo W) ⟨0,.nil⟩ W E H' l)
 (hW:DataW.Whole enc P f.params.toList s.vars d W args.toList ds B a)
 (o:∀(b:Nat) (i:Nat->Bool) (hd:Bool),DataW.TrodAll enc P l b i hd f.resultTypes.toList (v.resultList f.resultTypes.size) (s.fn H (ds++B)).results [])
 (n:∀i:Nat->Bool,(∀p∈a,i p.block=true)->DataW.TrodAll enc P l 0 i true f.params.toList args.toList (s.fn H (ds++B)).args pa)
 (g:∀i:Nat->Bool,(∀p∈a,i p.block=true)->DataW.TrodVars enc P l i s.vars (s.fn H (ds++B)).vars pv)
 (J:a=pa++pv)
 (N:∀(j:Nat) (t:TypeId) (r:Value),f.resultTypes[j]?=some t->(v.resultList f.resultTypes.size)[j]?=some r->Value.okWide P l .any 0 t r):
 s.post enc P f d fresh c e W args v l:=by
 have I:∀p∈a,(fun b=>decide (b<W.heap.size)) p.block=true:=fun p m=>by simpa using hW.lt p m
 refine⟨ds,B,a,[],pa,pv,hW,o _ _ _,n _ I,g _ I,aGl w _,fun _=>?_⟩;obtain⟨_,_,_,_,_,h,A⟩:=id hW;refine⟨N,_,_,([]++pa)++pv,⟨[]++pa,pv,trodAll_append (n _ (fun _ _=>rfl)) (o _ _ _),g _ (fun _ _=>rfl),rfl,?_,?_⟩,?_⟩
 . intro b off m;have x:MemPlace.cell b off∈a:=by grind
   rw[c9 w _ (hW.lt _ x)];exact h b off x
 all_goals grind
end
end
end Go.Av
namespace Go.Av
section
def zP:=And.intro bMy (And.intro Nh bMz)
def zG:=And.intro bMy <| And.intro sy <| And.intro wa <| And.intro @AV.cells.eq_1 <| And.intro @AV.cells.eq_2 <| And.intro @AV.HO.eq_1 <| And.intro @AV.HO.eq_2 <| And.intro @CS.eq_1 <| And.intro @CS.eq_2 <| And.intro @CS.eq_3 <| And.intro @CS.eq_4 <| And.intro @CS.eq_5 <| And.intro @CS.eq_6 <| And.intro @unA.eq_1 <| And.intro @unA.eq_2 <| And.intro @unA.eq_3 <| And.intro @unA.eq_4 <| And.intro @unA.eq_5 <| And.intro @unA.eq_6 @fD.eq_1
def zI:=And.intro @aA.fP.eq_1 <| And.intro sh <| And.intro sn <| And.intro sl <| And.intro @iT.eq_1 <| And.intro @LG.eq_1 <| And.intro @LG.eq_2 <| And.intro @NQ.eq_1 <| And.intro @NQ.eq_2 <| And.intro Ge <| And.intro Ey <| And.intro @false_implies <| And.intro @implies_true.{0} <| And.intro @implies_true.{1} <| And.intro bDl <| And.intro iz <| And.intro cOl <| And.intro @AV.cells.eq_1 <| And.intro @AV.cells.eq_2 <| And.intro @AV.HO.eq_1 <| And.intro @AV.HO.eq_2 <| And.intro @CS.eq_1 <| And.intro @CS.eq_2 <| And.intro @CS.eq_3 <| And.intro @CS.eq_4 <| And.intro @CS.eq_5 @CS.eq_6
def zD:=And.intro @eJ.fresh.eq_1 <| And.intro @eJ.fresh.eq_2 <| And.intro @eJ.fresh.eq_3 <| And.intro @eJ.fresh.eq_4 <| And.intro @eJ.fresh.eq_5 <| And.intro @eJ.fresh.eq_6 <| And.intro bRu <| And.intro bNa <| And.intro @kv <| And.intro @eJ.dL.eq_1 <| And.intro @eJ.dL.eq_2 <| And.intro @eJ.dL.eq_3 <| And.intro @eJ.dL.eq_4 <| And.intro @eJ.dL.eq_5 <| And.intro @EF.eq_1 <| And.intro @EF.eq_2 <| And.intro @EF.eq_3 <| And.intro @EF.eq_4 <|
 And.intro @false_implies <| And.intro @implies_true.{0} <| And.intro @implies_true.{1} <| And.intro @forall_const.{0} <| And.intro @forall_const.{1} <| And.intro @Ju <| And.intro @and_true <| And.intro @Ci.{0} <| And.intro @Bd.{0} <| And.intro @Fe <| And.intro @false_or <| And.intro @Ap.{0,0} <| And.intro @forall_eq.{1} <| And.intro @forall_eq_or_imp.{1} <| And.intro @forall_eq'.{1} @Aj.{0}
def zR:=And.intro @uN.eq_1 <| And.intro @uN.eq_2 <| And.intro @Sf.eq_1 <| And.intro @Sf.eq_2 <| And.intro zG zI
def zB:=And.intro Nh <| And.intro @ne_eq.{1} @Fo
theorem tB{p q:Prop} [Decidable p] [Decidable q] (h:p↔q):True/\True/\AV.bool (decide p)=AV.bool (decide q):=⟨trivial,trivial,Am AV.bool (Aw.2 h)⟩
theorem Rx{X:List KK}{R:Out->aA->Prop}{f:dD}{H:aA}{vs:List AV}(z:R (.ret (nN vs)) H)(J:uN f H X=some vs:=by(simp only[↓zP,zR,seval];rfl)):RP X R .ret f [] H:=⟨rfl,vs,J,z⟩
def zJ:=And.intro zG zI
def zM:=And.intro sm <| And.intro @List.cons.injEq.{0} @and_true
theorem wI{z y:Int}(h: -2^63<=z/\z<2^63/\z=y):IntKind.i64.wrap z=y:=by grind[wrap_i64]
theorem eL(h:aA)(s t:Nat)(x:List AV):dJ h s (.bJ t s [x])=some [x]:=by simp[dJ]
theorem Dz{P:Program}{g:bL}{n:Nat}{f:dD}{ds:List gX}{H:aA}{Q:FQ}{pairs:List (Nat×Nat)}{rl:List bG}(h:eI P g n pairs H.next 0 0 rl [] [] f H fun u H'=>Q .normal u ds H')(o:rl.countP (·.op.fresh)=0:=by decide):FC P g n (.draw rl pairs) f ds H Q:=Wj o h
structure Kt (P:Program) (g:bL) (n:Nat) (b:bY) (Q:FQ) (f:dD) (ds:List gX) (H:aA):Prop where
 h:FC P g n b f ds H Q
variable{b:bY}
theorem bB{P:Program}{g:bL}{n:Nat}{Q:FQ}{f u:dD}{ds:List gX}{H H':aA}(N:f=u)(A:H=H'):Kt P g n b Q f ds H=Kt P g n b Q u ds H':=by grind
theorem bQ{P:Program}{g:bL}{n:Nat}{Q:FQ}{f:dD}{ds:List gX}{H:aA}(h:FC P g n b f ds H Q):Kt P g n b Q f ds H:=⟨h⟩
theorem bP{P:Program}{g:bL}{n:Nat}{a:bY}{Q:FQ}{f:dD}{ds:List gX}{H:aA}(h:FC P g n a f ds H (iP (Kt P g n b Q) Q)):FC P g n (.seq a b) f ds H Q:=by
 rw[ku];refine lE (fun e f ds H D=>?_) h
 cases e with
 |normal=>exact D.h
 |_=>exact D
theorem fW{P:Program}{g:bL}{n:Nat}{a:bY}{Q:FQ}{f:dD}{ds:List gX}{H:aA}(h:FC P g n a f ds H (iP (Kt P g n b Q) Q)):Kt P g n (.seq a b) Q f ds H:=⟨bP h⟩
section
variable {P:Program} {g:bL} {n:Nat} {f:dD} {H:aA} {d:Nat} {fid:FuncId} {azs:List Arg} {args:List AV} {v:AV} {H':aA}
theorem fC{r:List bG}{ds:List gX}{Q:FQ}(u:Sound P g fid args H (.ret v) H')(h:bT P g n r (kI f d v) ds H' Q)(hd:d<n:=by decide)(I:azs.map (oG g f)=args:=by simp only[sm,Nh,Nat.reduceEqDiff,fD]):
 bT P g n (⟨some d,.call (.const (.func (.func fid) [] [])) azs,none⟩::r) f ds H Q:=Sr hd I u h
theorem gH{pairs:List (Nat×Nat)}{base i k:Nat}{X:List bG}{a:List (Nat×Nat)}{p:List (Nat×aA×aA)}{R:dD->aA->Prop}(u:Sound P g fid args H (.ret v) H')
 (h:eI P g n pairs base (i+1) k X a ((i,H,H')::p) (kI f d v) H' R) (hd:d<n:=by decide) (I:azs.map (oG g f)=args:=by simp only[sm,Nh,ne_eq,Nat.reduceEqDiff,Fo]) (A:H.next<=H'.next:=by exact Ae _)
 (hr:∀x∈a,(x.1,i)∈pairs->H.get x.2=H'.get x.2:=by exact fun _ _ _=>rfl):eI P g n pairs base i k (⟨some d,.call (.const (.func (.func fid) [] [])) azs,none⟩::X) a p f H R:=DF hd I u A hr h
end
theorem Ks{f g A:Nat->AV}{n:Nat}{v:AV}(h:f=g)(e:A n=v)(k:g n=A n:=by simp only[zB,seval]):f n=v:=by grind
theorem zq{a b:AV}(k:a=b:=by simp only[zB,seval]):a=b:=k
variable{q:Prop}
theorem Tz{p:Prop}(h:q)(k:p=q:=by simp only[↓zP,zG,seval];exact rfl):p:=by grind
theorem Ty{p:Prop}(h:q)(k:p=q:=by simp only[↓zP,zJ,seval];exact rfl):p:=by grind
theorem Tx{p:Prop}(h:q)(k:p=q:=by simp only[↓zP,seval];exact rfl):p:=by grind
end
end Go.Av
namespace Go.Av
open Go
section
section
variable {P:Program} {g:bL} {n:Nat} {f:dD} {H:aA} {d:Nat} {fid:FuncId} {azs:List Arg} {args:List AV} {v:AV} {H':aA}
theorem FCx{r:List bG}{ds:List gX}{Q:FQ}(I:azs.map (oG g f)=args)(u:Sound P g fid args H (.ret v) H')(hd:d<n)(h:bT P g n r (kI f d v) ds H' Q):
 bT P g n (⟨some d,.call (.const (.func (.func fid) [] [])) azs,none⟩::r) f ds H Q:=Sr hd I u h
theorem FDx{pairs:List (Nat×Nat)}{base i k:Nat}{X:List bG}{a:List (Nat×Nat)}{p:List (Nat×aA×aA)}{R:dD->aA->Prop}(I:azs.map (oG g f)=args)(u:Sound P g fid args H (.ret v) H')(hd:d<n)
 (h:eI P g n pairs base (i+1) k X a ((i,H,H')::p) (kI f d v) H' R) (A:H.next<=H'.next:=by exact Ae _)
 (hr:∀x∈a,(x.1,i)∈pairs->H.get x.2=H'.get x.2:=by exact fun _ _ _=>rfl):eI P g n pairs base i k (⟨some d,.call (.const (.func (.func fid) [] [])) azs,none⟩::X) a p f H R:=DF hd I u A hr h
end
variable{q:Prop}
theorem Wz{p:Prop}(h:q)(k:q->p:=by
 intro hW
 repeat (first
  |simp only[↓zP,zJ,seval,zD,reduceCtorEq,AR,aD,Bi,Co,Ge,Ey, *,-hW]
  |refine FCx ZaG (by apply_assumption) A1 ?_
  |refine FDx ZaA (by apply_assumption) A1 ?_)
 exact hW):p:=k h
theorem Wy{p:Prop}(h:q)(k:q->p:=by
 intro hW
 repeat (first
  |simp only[↓zP,zJ,seval,zD,reduceCtorEq,AR,aD,Bi,Co,Ge,Ey, *,-hW,-hK]
  |refine FCx ZaG (by apply_assumption) A1 ?_
  |refine FDx ZaA (by apply_assumption) A1 ?_)
 exact hW):p:=k h
theorem Wx{p:Prop}(h:q)(k:q->p:=by
 intro hW
 repeat (first
  |simp only[↓zP,zJ,seval,zD,reduceCtorEq,AR,aD,Bi,Co,Ge,Ey, *,-hW,-cY]
  |refine FCx ZaG (by apply_assumption) A1 ?_
  |refine FDx ZaA (by apply_assumption) A1 ?_)
 exact hW):p:=k h
theorem Ww{p:Prop}(h:q)(k:q->p:=by
 intro hW
 repeat (first
  |simp only[↓zP,zJ,seval,zD,reduceCtorEq,AR,aD,Bi,Co,Ge,Ey, *,-hW,-hK,-cY]
  |refine FCx ZaG (by apply_assumption) A1 ?_
  |refine FDx ZaA (by apply_assumption) A1 ?_)
 exact hW):p:=k h
theorem Kv{A X:aA}{i:Nat}{v:Option eG}(G:A=X)(e:A.get i=v:=by simp only[zI,seval];exact rfl):X.get i=v:=G▸e
theorem Kx{A X:aA}{i:Nat}{v:Option eG}(h:A=X)(e:A.get i=v:=by simp only[zI,seval, *,-hX];exact rfl):X.get i=v:=h▸e
theorem Ku{H X:aA}{r q:Nat}{o p:eG}{w:Option eG}(G:(H.alloc o).set r p=X)(g:H.get q=w)(O:q≠r:=by omega)(Z:q≠H.next:=by omega):X.get q=w:=by rw[<-G,aA.aH,if_neg O,aA.aI,if_neg Z];exact g
theorem Kw{H L X:aA}{r q:Nat}{o p:eG}{w:Option eG}(G:(L.set r o).set r p=X)(e:∀id,L.get id=H.get id)(g:H.get q=w)(O:q≠r:=by omega):X.get q=w:=by rw[<-G,aA.aH,if_neg O,aA.aH,if_neg O,e];exact g
theorem Kz{A X:aA}{r:Nat}{p:eG}(G:A.set r p=X):X.get r=some p:=by rw[<-G,aA.aH,if_pos rfl]
theorem Kf{f g:Nat->AV}{i:Nat}{v:AV}(h:f=g)(e:g i=v:=by simp only[zB,seval];exact rfl):f i=v:=h▸e
theorem Kg{f g:Nat->AV}{i:Nat}{v:AV}(h:f=g)(e:g i=v:=by simp only[zB,seval, *];exact rfl):f i=v:=h▸e
theorem Kj{a b v:AV}(h:a=b)(e:b=v:=by simp only[zB,seval];exact rfl):a=v:=h.trans e
end
section
section
variable {P:Program} {g:bL} {rl:List bG} {pj:Option Nat} {pairs:List (Nat×Nat)} {s0:List AV} {H0:aA} {Hs:Nat->aA} {ss:Nat->List AV} {vs:Nat->AV}
variable {n:Nat} {f:dD} {ds:List gX} {H:aA} {Q:FQ}
end
end
end Go.Av
namespace Go.Proofs.YtogfcjbgeebfkaaGreatDoor
open Go Go.Av
def bNm:Nat->Option (List AV):=fun _=>none
def gv:bL:=Ry Tryz.prog bNm
theorem fit:Fit Tryz.prog gv:=qc (by kernel_rfl)
theorem eE:KS gv:=fun n cs h=>by cases h
abbrev Sg(f:FuncId)(args:List AV)(H:aA)(out:Out)(H':aA):Prop:=Sound Tryz.prog gv f args H out H'
abbrev CW(f:Go.Func):={x:DC // AG Tryz.prog gv false f=some x}
theorem dK {k:FuncId} {f:Go.Func} (h:Tryz.prog.funcs[k]?=some f) (W:CW f) (h2:(f.name== "runtime.NumGoroutine")=false:=by kernel_rfl):iM Tryz.prog gv false k W.1:=dW h h2 W.2
abbrev Fi(k:FuncId){f:Go.Func}(W:CW f):=iM Tryz.prog gv false k W.1
variable{F:DC}
theorem Sp{N:Bool}{k:FuncId}(L:iM Tryz.prog gv N k F){args:List AV}{v:AV}(I:cW args=true)(J:v.free=true)
 (h:FC Tryz.prog gv F.ntmps F.body (fD args) [] ⟨0,.nil⟩ (RP F.results fun o _=>o=.ret v)) (H:aA) (U:args.length<=F.ntmps:=by exact Ai rfl):Sound Tryz.prog gv k args H (.ret v) H:=
 IM fit eE L U I J h H
theorem So{N:Bool}{k:FuncId}(L:iM Tryz.prog gv N k F){args:List AV}{v:AV}(I:cW args=true)
 (h:FC Tryz.prog gv F.ntmps F.body (fD args) [] ⟨0,.nil⟩ (RP F.results fun o _=>o=.ret v)) (H:aA) (J:v.free=true:=by simp only[sf,sfI,bV]) (U:args.length<=F.ntmps:=by exact Ai rfl):Sound Tryz.prog gv k args H (.ret v) H:=
 IM fit eE L U I J h H
variable{fn:Go.Func}
theorem dI{g:bL}{N:Bool}(h:(AG Tryz.prog g N fn).isSome=true:=by kernel_rfl)(C:mkX Tryz.prog g N fn=some F:=by conv=>lhs;cbv):AG Tryz.prog g N fn=some F:=aHb h C
def mkY(P:Program)(g:bL)(N:Bool)(fn:Go.Func)(c:Code):Option DC:=
 match fM P g N c,xE P fn.results.toList with
  |some b,some r=>some ⟨fn.ntmps,r,b⟩
  |_,_=>none
theorem Mh{g:bL}{N:Bool}{b:Code}(X:fn.body=some b:=by exact rfl)(h:(AG Tryz.prog g N fn).isSome=true:=by kernel_rfl)(C:mkY Tryz.prog g N fn b=some F:=by
 conv=>lhs;unfold mkY;simp only[ax]
 (try conv in (occs:= *) nC _ _ _ _ _=>all_goals cbv)
 (try simp only[Ct])
 (try conv in (occs:= *) rF _ _=>all_goals cbv)
 conv=>lhs;cbv):AG Tryz.prog g N fn=some F:=aHb h (by unfold mkX;rw[X];exact C)
theorem oX{f:FuncId}{N:Bool}(L:iM Tryz.prog gv N f F){args:List AV}(I:args.length<=F.ntmps){H H':aA}{out:Out}
 (h:FC Tryz.prog gv F.ntmps F.body (fD args) [] H (RP F.results fun o h=>o=out/\h=H')) (a:F.body.dH=true:=by first|rfl|decide):Sound Tryz.prog gv f args H out H':=by
 obtain⟨_,_,⟨rfl,rfl⟩,u⟩:=dM fit L I h a;exact u
def aUe:CW Tryz.f103:=⟨_,dI⟩
theorem bGf:Fi 103 aUe:=dK Tryz.func103 aUe
def aUg:CW Tryz.f105:=⟨_,dI⟩
theorem bGh:Fi 105 aUg:=dK Tryz.func105 aUg
def W43:CW Tryz.f43:=⟨_,dI⟩
theorem bQk:Fi 43 W43:=dK Tryz.func43 W43
def aUm:CW Tryz.f111:=⟨_,dI⟩
theorem bGn:Fi 111 aUm:=dK Tryz.func111 aUm
def W38:CW Tryz.f38:=⟨_,dI⟩
theorem bQh:Fi 38 W38:=dK Tryz.func38 W38
def W11:CW Tryz.f11:=⟨_,dI⟩
theorem bQb:Fi 11 W11:=dK Tryz.func11 W11
def W35:CW Tryz.f35:=⟨_,dI⟩
theorem bQf:Fi 35 W35:=dK Tryz.func35 W35
def W7:CW Tryz.f7:=⟨_,dI⟩
theorem is7:Fi 7 W7:=dK Tryz.func7 W7
def W39:CW Tryz.f39:=⟨_,Mh⟩
theorem bQi:Fi 39 W39:=dK Tryz.func39 W39
def aXj:CW Tryz.f254:=⟨_,dI⟩
theorem bJo:Fi 254 aXj:=dK Tryz.func254 aXj
def aXn:CW Tryz.f258:=⟨_,dI⟩
theorem bJs:Fi 258 aXn:=dK Tryz.func258 aXn
def aXk:CW Tryz.f255:=⟨_,Mh⟩
theorem bJp:Fi 255 aXk:=dK Tryz.func255 aXk
def aXl:CW Tryz.f256:=⟨_,dI⟩
theorem bJq:Fi 256 aXl:=dK Tryz.func256 aXl
def aXm:CW Tryz.f257:=⟨_,dI⟩
theorem bJr:Fi 257 aXm:=dK Tryz.func257 aXm
def aWa:CW Tryz.f198:=⟨_,dI⟩
theorem bIe:Fi 198 aWa:=dK Tryz.func198 aWa
def aWr:CW Tryz.f229:=⟨_,dI⟩
theorem bIw:Fi 229 aWr:=dK Tryz.func229 aWr
def aXi:CW Tryz.f253:=⟨_,dI⟩
theorem bJn:Fi 253 aXi:=dK Tryz.func253 aXi
end Go.Proofs.YtogfcjbgeebfkaaGreatDoor
