/-
  Part of the proof of statement 5
-/
import Derived.Test.YtbndcmnnbiiobaaGreatDoorA05
import Derived.Test.YtbndcmnnbiiobaaGreatDoorA01
set_option linter.unusedVariables false
set_option linter.unusedSimpArgs false
set_option linter.unusedSectionVars false
namespace Go.Av
open Go
section
def eU (P:Program) (g:bB) (n:Nat) (pairs:List (Nat×Nat)) (base:Nat):Nat->Nat->List bC->List (Nat×Nat)->List (Nat×aA×aA)->cU->aA->(cU->aA->Prop)->Prop
 |_,_,[],_,_,f,H,Q=>Q f H
 |i,k,r::rs,rd,ef,f,H,Q=>
  if fJ f r=true then
  match r.op with
  |.call c azs=>∃v H',FJ P g r f H v H'/\H.next<=H'.next/\(∀x∈rd,(x.1,i)∈pairs->H.get x.2=H'.get x.2)/\
    eU P g n pairs base (i+1) k rs rd ((i,H,H')::ef) (fD n f r.dst v) H' Q
  |.panic _|.jY _ _=>False
  |op=>
   if op.fresh then
    match yQ (mT g f) op with
    |some (ob,val)=>(∀x∈ef,(i,x.1)∈pairs->x.2.1.get (base+k)=x.2.2.get (base+k))/\
     eU P g n pairs base (i+1) (k+1) rs ((i,base+k)::rd) ef (fD n f r.dst (val (base+k))) (H.set (base+k) ob) Q
    |none=>False
   else if op.qE then
    mI (dK (mT g f) H op) fun v H'=>H.next<=H'.next/\(∀x∈rd,(x.1,i)∈pairs->H.get x.2=H'.get x.2)/\
     eU P g n pairs base (i+1) k rs rd ((i,H,H')::ef) (fD n f r.dst v) H' Q
   else
    mI (dK (mT g f) H op) fun v H'=>H'=H/\(∀id,op.cY (mT g f)=some id->∀x∈ef,(i,x.1)∈pairs->x.2.1.get id=x.2.2.get id)/\
     eU P g n pairs base (i+1) k rs (match op.cY (mT g f) with|some id=>(i,id)::rd|none=>rd) ef (fD n f r.dst v) H Q
  else eU P g n pairs base (i+1) (if r.op.fresh then k+1 else k) rs rd ef (fD n f r.dst aD) H Q
section
variable {P:Program} {g:bB} {n:Nat} {pairs:List (Nat×Nat)} {base:Nat}
theorem oN:∀(rl:List bC) (i k:Nat) (rd:List (Nat×Nat)) (ef:List (Nat×aA×aA)) (f:cU) (H:aA) (Q:cU->aA->Prop),eU P g n pairs base i k rl rd ef f H Q->YR P g n pairs base i k rl rd ef f H Q
 |[],i,k,rd,ef,f,H,Q,h=>h
 |r::rs,i,k,rd,ef,f,H,Q,h=>by
  unfold eU at h;unfold YR;split at h
  · rename_i hw;rw[if_pos hw];split at h
    · rename_i c azs fF;obtain⟨v,H',h1,h2,h3,h4⟩:=h;rw[if_neg (by simp[fF,dX.fresh]),if_pos (by simp[fF,dX.qE])];exact⟨v,H',h1,h2,h3,oN rs _ _ _ _ _ _ _ h4⟩
    · exact h.elim
    · exact h.elim
    rename_i n1 n2 n3
    have hq:∀v H',dK (mT g f) H r.op=some (v,H')->FJ P g r f H v H':=by
     intro v H' ha;unfold FJ;split
     · rename_i c azs fF;exact absurd fF (n1 c azs)
     · rename_i x fF;exact absurd fF (n2 x)
     · rename_i c azs fF;exact absurd fF (n3 c azs)
     exact ha
    split at h
    · rename_i hf;rw[if_pos hf];split at h
      · rename_i ob val ho;exact⟨ob,val,ho,h.1,oN rs _ _ _ _ _ _ _ h.2⟩
      exact h.elim
    rename_i hf;rw[if_neg hf];unfold mI at h;split at h
    · rename_i he;rw[if_pos he];split at h
      · rename_i v H' ha;exact⟨v,H',hq v H' ha,h.1,h.2.1,oN rs _ _ _ _ _ _ _ h.2.2⟩
      exact h.elim
    rename_i he;rw[if_neg he];split at h
    · rename_i v H' ha;obtain⟨rfl,h2,h3⟩:=h;exact⟨v,hq v _ ha,h2,oN rs _ _ _ _ _ _ _ h3⟩
    exact h.elim
  rename_i hw;rw[if_neg hw];exact oN rs _ _ _ _ _ _ _ h
variable {ds:List fY} {Q:FQ} {f:cU} {H:aA}
theorem Va {rl:List bC} (h0:rl.countP (·.op.fresh)=0) (h:eU P g n pairs H.next 0 0 rl [] [] f H fun f' H'=>Q .normal f' ds H'):FC P g n (.draw rl pairs) f ds H Q:=by refine .inl ⟨by rw[h0];rfl,?_⟩;rw[h0];exact oN _ _ _ _ _ _ _ _ h
theorem aFg {rl:List bC} (c:Nat) (h0:rl.countP (·.op.fresh)=c) (hf:nZ H c=true) (h:eU P g n pairs H.next 0 0 rl [] [] f {H with next:=H.next+c} fun f' H'=>Q .normal f' ds H'):FC P g n (.draw rl pairs) f ds H Q:=by refine .inl ⟨by rw[h0];exact hf,?_⟩;rw[h0];exact oN _ _ _ _ _ _ _ _ h
theorem nG {rl:List bC} (c:Nat) (h0:rl.countP (·.op.fresh)=c) (hf:nZ H c=true)
 (h:∀H1:aA,H1.next=H.next+c->(∀id,H1.get id=H.get id)->eU P g n pairs H.next 0 0 rl [] [] f H1 fun f' H'=>Q .normal f' ds H'):FC P g n (.draw rl pairs) f ds H Q:=
 aFg c h0 hf (h _ rfl fun _=>rfl)
variable {i k:Nat} {rs:List bC} {rd:List (Nat×Nat)} {ef:List (Nat×aA×aA)} {R:cU->aA->Prop}
theorem de:eU P g n pairs base i k [] rd ef f H R=R f H:=dV id id
theorem kp (d:Nat) (op:dX) (hp:op.plain=true) (hf:op.fresh=false) (he:op.qE=false) (hd:d<n):
 eU P g n pairs base i k (⟨some d,op,none⟩::rs) rd ef f H R=mI (dK (mT g f) H op) fun v H'=>H'=H/\(∀id,op.cY (mT g f)=some id->∀x∈ef,(i,x.1)∈pairs->x.2.1.get id=x.2.2.get id)/\
       eU P g n pairs base (i+1) k rs (match op.cY (mT g f) with|some id=>(i,id)::rd|none=>rd) ef (jG f d v) H R:=by
 have :∀v,fD n f (some d) v=jG f d v:=fun v=>by simp[fD,hd]
 conv=>lhs;unfold eU
 rw[if_pos (by rfl)];simp only[hf,he,this]
 cases op<;>first|rfl|(simp[dX.fresh] at hf;done)|(simp[dX.qE] at he;done)|(simp[dX.plain] at hp;done)
theorem kq (m:Nat) (a x:Arg):
 eU P g n pairs base i k (⟨none,.store m a x,none⟩::rs) rd ef f H R=mI (dK (mT g f) H (.store m a x)) fun v H'=>H.next<=H'.next/\(∀x∈rd,(x.1,i)∈pairs->H.get x.2=H'.get x.2)/\
       eU P g n pairs base (i+1) k rs rd ((i,H,H')::ef) f H' R:=by
 conv=>lhs;unfold eU
 rw[if_pos (by rfl)];simp only[dX.fresh,dX.qE,Bj,Cm,if_true,fD]
theorem ko (d:Nat) (z:List AV) (hd:d<n):
 eU P g n pairs base i k (⟨some d,.alloc z,none⟩::rs) rd ef f H R=((∀x∈ef,(i,x.1)∈pairs->x.2.1.get (base+k)=x.2.2.get (base+k))/\
       eU P g n pairs base (i+1) (k+1) rs ((i,base+k)::rd) ef (jG f d (.ref (base+k) 0)) (H.set (base+k) (.cells z false)) R):=by
 have :∀v,fD n f (some d) v=jG f d v:=fun v=>by simp[fD,hd]
 conv=>lhs;unfold eU
 rw[if_pos (by rfl)];simp only[dX.fresh,if_true,yQ,this]
theorem YQ (d:Nat) (sz bytes:Nat) (mu:Bool) (x y:Arg) (hd:d<n):
 eU P g n pairs base i k (⟨some d,.append sz bytes mu x y,none⟩::rs) rd ef f H R=mI (dK (mT g f) H (.append sz bytes mu x y)) fun v H'=>H.next<=H'.next/\(∀x∈rd,(x.1,i)∈pairs->H.get x.2=H'.get x.2)/\
       eU P g n pairs base (i+1) k rs rd ((i,H,H')::ef) (jG f d v) H' R:=by
 have :∀v,fD n f (some d) v=jG f d v:=fun v=>by simp[fD,hd]
 conv=>lhs;unfold eU
 rw[if_pos (by rfl)];simp only[dX.fresh,dX.qE,Bj,Cm,if_true,this]
theorem HP {d:Nat} {fid:FuncId} {azs:List Arg} {args:List AV} {v:AV} {H':aA} (hd:d<n) (ha:azs.map (mT g f)=args) (hS:Sound P g fid args H (.ret v) H') (hn:H.next<=H'.next)
 (hr:∀x∈rd,(x.1,i)∈pairs->H.get x.2=H'.get x.2)
 (h:eU P g n pairs base (i+1) k rs rd ((i,H,H')::ef) (jG f d v) H' R):eU P g n pairs base i k (⟨some d,.call (.const (.func (.func fid) [] [])) azs,none⟩::rs) rd ef f H R:=by
 have :∀v,fD n f (some d) v=jG f d v:=fun v=>by simp[fD,hd]
 unfold eU;rw[if_pos (by rfl)];simp only[this];refine⟨v,H',?_,hn,hr,h⟩;exact⟨(fid,[],[]),rfl,by simpa [ha] using hS⟩
theorem RG (d:Option Nat) (x:Nat) (b:Bool) (op:dX) (A B:Prop):iW (f x) b A B=if fJ f ⟨d,op,some (x,b)⟩=true then A else B:=by
 by_cases hw:fJ f ⟨d,op,some (x,b)⟩=true
 · rw[if_pos hw];unfold fJ at hw;dsimp only at hw;split at hw
   · rename_i c hc;rw[hc];unfold iW;dsimp only;rw[if_pos (by simpa using hw)]
   cases hw
 rw[if_neg hw];unfold fJ at hw;dsimp only at hw;unfold iW;split
 · rename_i c hc;rw[hc] at hw;rw[if_neg (by simpa using hw)]
 rfl
theorem aVl (d x:Nat) (b:Bool) (op:dX) (hd:d<n):
 eU P g n pairs base i k (⟨some d,op,some (x,b)⟩::rs) rd ef f H R=iW (f x) b (eU P g n pairs base i k (⟨some d,op,none⟩::rs) rd ef f H R) (eU P g n pairs base (i+1) (if op.fresh then k+1 else k) rs rd ef (jG f d aD) H R):=by
 have :∀v,fD n f (some d) v=jG f d v:=fun v=>by simp[fD,hd]
 rw[RG (some d) x b op];by_cases hw:fJ f ⟨some d,op,some (x,b)⟩=true
 · rw[if_pos hw]
   conv=>lhs;unfold eU
   conv=>rhs;unfold eU
   rw[if_pos hw,if_pos (by rfl)];rfl
 rw[if_neg hw]
 conv=>lhs;unfold eU
 rw[if_neg hw,this]
theorem aU {f':cU} {rl:List bC} (h:f=f'):eU P g n pairs base i k rl rd ef f H R=eU P g n pairs base i k rl rd ef f' H R:=by rw[h]
end
theorem bJh (P:Program) (g:bB) (n:Nat):
 (∀(pairs:List (Nat×Nat)) (base i k:Nat) (rs:List bC) (rd:List (Nat×Nat)) (ef:List (Nat×aA×aA)) (f:cU) (H:aA) (R:cU->aA->Prop),eU P g n pairs base i k [] rd ef f H R=R f H)/\
 (∀(pairs:List (Nat×Nat)) (base i k:Nat) (rs:List bC) (rd:List (Nat×Nat)) (ef:List (Nat×aA×aA)) (f:cU) (H:aA) (R:cU->aA->Prop) (m:Nat) (a x:Arg),
   eU P g n pairs base i k (⟨none,.store m a x,none⟩::rs) rd ef f H R=mI (dK (mT g f) H (.store m a x)) fun v H'=>H.next<=H'.next/\(∀x∈rd,(x.1,i)∈pairs->H.get x.2=H'.get x.2)/\
       eU P g n pairs base (i+1) k rs rd ((i,H,H')::ef) f H' R)/\
 (∀(pairs:List (Nat×Nat)) (base i k:Nat) (rs:List bC) (rd:List (Nat×Nat)) (ef:List (Nat×aA×aA)) (f:cU) (H:aA) (R:cU->aA->Prop) (d:Nat) (z:List AV) (hd:d<n),
   eU P g n pairs base i k (⟨some d,.alloc z,none⟩::rs) rd ef f H R=((∀x∈ef,(i,x.1)∈pairs->x.2.1.get (base+k)=x.2.2.get (base+k))/\
       eU P g n pairs base (i+1) (k+1) rs ((i,base+k)::rd) ef (jG f d (.ref (base+k) 0)) (H.set (base+k) (.cells z false)) R))/\
 (∀(pairs:List (Nat×Nat)) (base i k:Nat) (rs:List bC) (rd:List (Nat×Nat)) (ef:List (Nat×aA×aA)) (f:cU) (H:aA) (R:cU->aA->Prop) (d sz bytes:Nat) (mu:Bool) (x y:Arg) (hd:d<n),
   eU P g n pairs base i k (⟨some d,.append sz bytes mu x y,none⟩::rs) rd ef f H R=mI (dK (mT g f) H (.append sz bytes mu x y)) fun v H'=>H.next<=H'.next/\(∀x∈rd,(x.1,i)∈pairs->H.get x.2=H'.get x.2)/\
       eU P g n pairs base (i+1) k rs rd ((i,H,H')::ef) (jG f d v) H' R)/\
 (∀(pairs:List (Nat×Nat)) (base i k:Nat) (rs:List bC) (rd:List (Nat×Nat)) (ef:List (Nat×aA×aA)) (f:cU) (H:aA) (R:cU->aA->Prop) (d x:Nat) (b:Bool) (op:dX) (hd:d<n),
   eU P g n pairs base i k (⟨some d,op,some (x,b)⟩::rs) rd ef f H R=iW (f x) b (eU P g n pairs base i k (⟨some d,op,none⟩::rs) rd ef f H R) (eU P g n pairs base (i+1) (if op.fresh then k+1 else k) rs rd ef (jG f d aD) H R)):=
 ⟨fun _ _ _ _ _ _ _ _ _ _=>de,fun _ _ _ _ _ _ _ _ _ _ m a x=>kq m a x,
  fun _ _ _ _ _ _ _ _ _ _ d z hd=>ko d z hd,fun _ _ _ _ _ _ _ _ _ _ d sz bytes mu x y hd=>YQ d sz bytes mu x y hd,
  fun _ _ _ _ _ _ _ _ _ _ d x b op hd=>aVl d x b op hd⟩
def bq (id cmp ix nx:Nat) (N:Int) (B:bV):bV:=
 .block id (.loop (.seq (.ops [⟨some cmp,.bin .lss (.tmp ix) (.const (.int .i64 N)),none⟩]) (.seq (.cond (.tmp cmp) .skip (.exit id)) (.seq B
  (.ops [⟨some nx,.bin .add (.tmp ix) (.const (.int .i64 1)),none⟩,⟨some ix,.Ni (.tmp nx),none⟩])))))
theorem kl {P:Program} {g:bB} {n:Nat} {id cmp ix nx:Nat} {B:bV} {f:cU} {ds:List fY} {H:aA} {Q:FQ} (J:Nat->cU->aA->Prop) (N:Nat) {N':Int} (hN:(N:Int)<2^63)
 (hNN:N'=(N:Int))
 (hs:cmp<n/\ix<n/\nx<n/\cmp≠ix/\nx≠ix)
 (h1:f ix=.int .i64 0) (h0:J 0 f H)
 (st:∀(i:Nat) (f:cU) (H:aA) (d:Nat) (v:AV),d=cmp\/d=nx\/d=ix->J i f H->J i (jG f d v) H)
 (body:∀(i:Nat) (f:cU) (H:aA),i<N->f ix=.int .i64 i->J i f H->
   FC P g n B f ds H (gC (fun f' fC H'=>fC=ds/\f' ix=.int .i64 i/\J (i+1) f' H') (dO id Q)))
 (done:∀(f:cU) (H:aA),J N f H->Q .normal f ds H):FC P g n (bq id cmp ix nx N' B) f ds H Q:=by
 subst hNN;obtain⟨s1,s2,s3,s4,s7⟩:=hs;refine aH (TQ (fun m f' fC H'=>fC=ds/\∃i:Nat,i<=N/\m=N -i/\f' ix=.int .i64 i/\J i f' H') N ⟨rfl,0,Bb _,by omega,h1,h0⟩ ?_);rintro m f1 pQ H1 ⟨rfl,i,hi,rfl,e1,e3⟩;refine aJ fun K hK=>?_;rw[KY,AO _ _ _ _ s1];simp only[dK,jD,wZ,e1,qF,if_true,Bt,bP,wR,fW];apply hK;clear hK K;have st1:=st i f1 H1 cmp (.bool (decide ((i:Int)<N))) (.inl rfl) e3;refine aJ fun K hK=>CU (decide ((i:Int)<N)) (by rw[jD,sG]) (fun ht=>?_) (fun ht=>?_)
 · rw[NY,fW];apply hK;clear hK K;have eQ:i<N:=by have :=Ea ht;omega
   refine aJ fun K hK=>?_;have hb:=body i _ H1 eQ (by rw[oM _ _ (Ne.symm s4)];exact e1) st1;have mono:∀{c:bV} {f:cU} {ds:List fY} {H:aA} {Q Q':FQ},(∀e f ds H,Q e f ds H->Q' e f ds H)->FC P g n c f ds H Q->FC P g n c f ds H Q':=fun {c f ds H Q Q'} hq h=>jB hq h;refine mono (fun e f2 RD H2 h=>?_) hb
   cases e with
   |normal=>obtain⟨rfl,b1,b3⟩:=h;show K f2 RD H2;apply hK;rw[KY,AO _ _ _ _ s3];have hw:IntKind.i64.wrap ((i:Int)+1)=((i+1:Nat):Int):=(by rw[wrap_i64 (by omega) (by omega)];rfl);simp only[dK,jD,wZ,b1,qF,if_true,Bt,bP];rw[HQ _ _ s2];simp only[dK,jD,bP,wR,fW,sG,hw];exact⟨N -(i+1),by omega,trivial,i+1,by omega,rfl,rfl,st _ _ _ _ _ (.inr (.inr rfl)) (st _ _ _ _ _ (.inr (.inl rfl)) b3)⟩
   |_=>exact h
 rw[NW,oK,oK,rH];have Mg:i=N:=by have :=Ek ht;omega
 subst Mg;exact done _ _ st1
class Pp (op:dX):Prop where
 h:op.plain=true
 f:op.fresh=false
 e:op.qE=false
instance (x:Arg):Pp (.Ni x):=⟨rfl,rfl,rfl⟩
instance (c a b:Arg):Pp (.pick c a b):=⟨rfl,rfl,rfl⟩
instance (z:List AV) (ps:List (Nat×Nat×Arg)):Pp (.build z ps):=⟨rfl,rfl,rfl⟩
instance (sz:Nat) (xs:List Arg):Pp (.Pg sz xs):=⟨rfl,rfl,rfl⟩
instance (agg:Bool) (m:Nat) (a:Arg):Pp (.load agg m a):=⟨rfl,rfl,rfl⟩
instance (o:BinOp) (x y:Arg):Pp (.bin o x y):=⟨rfl,rfl,rfl⟩
instance (neg:Bool) (x y:Arg):Pp (.eqb neg x y):=⟨rfl,rfl,rfl⟩
instance (neg:Bool) (sh:List Sk) (x y:Arg):Pp (.eqf neg sh x y):=⟨rfl,rfl,rfl⟩
instance (neg:Bool) (k:Nk) (lit:Bool) (x y:Arg):Pp (.eqn neg k lit x y):=⟨rfl,rfl,rfl⟩
instance (o:UnOp) (x:Arg):Pp (.un o x):=⟨rfl,rfl,rfl⟩
instance (k:IntKind) (x:Arg):Pp (.OZ k x):=⟨rfl,rfl,rfl⟩
instance (x:Arg):Pp (.EL x):=⟨rfl,rfl,rfl⟩
instance (m:Nat) (x:Arg):Pp (.cj m x):=⟨rfl,rfl,rfl⟩
instance (t:TypeId) (x:Arg):Pp (.Zr t x):=⟨rfl,rfl,rfl⟩
instance (fn:Fn) (a b:List Arg):Pp (.Zq fn a b):=⟨rfl,rfl,rfl⟩
instance (x:Arg) (lo hi:Option Arg):Pp (.QQ x lo hi):=⟨rfl,rfl,rfl⟩
instance (sz:Nat) (x:Arg) (lo hi mx:Option Arg):Pp (.cm sz x lo hi mx):=⟨rfl,rfl,rfl⟩
instance (m sz:Nat) (x:Arg) (lo hi mx:Option Arg):Pp (.FD m sz x lo hi mx):=⟨rfl,rfl,rfl⟩
instance (off:Nat) (x:Arg):Pp (.ZD off x):=⟨rfl,rfl,rfl⟩
instance (arr:Option Nat) (sz:Nat) (x i:Arg):Pp (.UD arr sz x i):=⟨rfl,rfl,rfl⟩
instance (m sz:Nat) (agg:Bool) (x i:Arg):Pp (.idx m sz agg x i):=⟨rfl,rfl,rfl⟩
instance (x i:Arg):Pp (.idxs x i):=⟨rfl,rfl,rfl⟩
instance (t:TypeId) (ok:Bool) (z:AV) (x:Arg):Pp (.cy t ok z x):=⟨rfl,rfl,rfl⟩
instance (x:Arg) (i:Nat):Pp (.ZB x i):=⟨rfl,rfl,rfl⟩
instance (x:Arg):Pp (.lens x):=⟨rfl,rfl,rfl⟩
instance (x:Arg):Pp (.Zi x):=⟨rfl,rfl,rfl⟩
instance (x y:Arg):Pp (.Wy x y):=⟨rfl,rfl,rfl⟩
instance (x y:Arg):Pp (.XA x y):=⟨rfl,rfl,rfl⟩
instance (k:Sk) (z:AV) (ok:Bool) (x i:Arg):Pp (.lookup k z ok x i):=⟨rfl,rfl,rfl⟩
theorem bDo (P:Program) (g:bB) (n:Nat) (pairs:List (Nat×Nat)) (base i0 k0:Nat) (rs:List bC) (rd:List (Nat×Nat)) (ef:List (Nat×aA×aA)) (f:cU) (H:aA) (R:cU->aA->Prop) (d:Nat) (op:dX) [Pp op] (hd:d<n):
 eU P g n pairs base i0 k0 (⟨some d,op,none⟩::rs) rd ef f H R=mI (dK (mT g f) H op) fun v H'=>H'=H/\(∀id,op.cY (mT g f)=some id->∀x∈ef,(i0,x.1)∈pairs->x.2.1.get id=x.2.2.get id)/\
     eU P g n pairs base (i0+1) k0 rs (match op.cY (mT g f) with|some id=>(i0,id)::rd|none=>rd) ef (jG f d v) H R:=
 kp d op Pp.h Pp.f Pp.e hd
end
section
section
variable {P:Program} {g:bB} {n:Nat}
theorem CT {Q:aA->Prop}:∀{ds:List fY} {H:aA},YM P g ds H Q->∃Hf,Q Hf/\YM P g ds H fun H'=>H'=Hf
 |[],H,h=>⟨H,h,rfl⟩
 |.call _ _::ds,H,h=>by obtain⟨H1,h1,h2⟩:=h;obtain⟨Hf,q,h3⟩:=CT h2;exact⟨Hf,q,H1,h1,h3⟩
 |.mark _::ds,H,h=>by obtain⟨h1,h2⟩:=h;obtain⟨Hf,q,h3⟩:=CT h2;exact⟨Hf,q,h1,h3⟩
theorem tV {Q Q':aA->Prop} (hq:∀H,Q H->Q' H):∀{ds:List fY} {H:aA},YM P g ds H Q->YM P g ds H Q'
 |[],H,h=>hq H h
 |.call _ _::ds,H,h=>by obtain⟨H1,h1,h2⟩:=h;exact⟨H1,h1,tV hq h2⟩
 |.mark _::ds,H,h=>⟨h.1,tV hq h.2⟩
def jv (P:Program) (g:bB) (rs:List HM) (R:Out->aA->Prop):FQ
 |.normal,f,ds,H|.ret,f,ds,H=>YM P g ds H fun H1=>∃vs,tA f H1 rs=some vs/\R (.ret (pY vs)) H1
 |.panic v,f,ds,H=>match ds with
  |[]=>R (.CD v) H
  |.mark _::_=>False
  |.call df azs::ds=>∃H1,AU P g df azs (some v) H H1/\YM P g ds H1 fun H2=>∃vs,tA f H2 rs=some vs/\R (.ret (pY vs)) H2
 |.exit _,_,_,_=>False
theorem aFe {F:DY} {args:List AV} (ha:args.length<=F.ntmps) {H:aA} {R:Out->aA->Prop} (h:FC P g F.ntmps F.body (dW args) [] H (jv P g F.results R)):
 AC P g F.body (sW F args) [] H (aMj P g F R):=by
 obtain⟨hb,hl⟩:=xZ ha;unfold sW;rw[<-hl];refine eW (fun e s ds H hq=>?_) (tY F.body _ [] H _ hb h);obtain⟨f,rfl,wN,hq⟩:=hq
 have conv:∀H1,(∃vs,tA f H1 F.results=some vs/\R (.ret (pY vs)) H1)->∃vs,mF (LF F.ntmps f) H1 F.results=some vs/\R (.ret (pY vs)) H1:=fun H1 ⟨vs,h1,h2⟩=>⟨vs,by rw[<-KD wN];exact h1,h2⟩
 cases e with
 |normal=>exact tV conv hq
 |ret=>exact tV conv hq
 |panic v=>
  cases ds with
  |nil=>exact hq
  |cons d ds=>
   cases d with
   |mark _=>exact hq.elim
   |call _ _=>obtain⟨H1,h1,h2⟩:=hq;exact⟨H1,h1,tV conv h2⟩
 |exit id=>exact hq
theorem tD {mu:Bool} (hm:Fit P g) {f:FuncId} {F:DY} (hF:fN P g mu f F) {args:List AV} (ha:args.length<=F.ntmps) {H:aA} {R:Out->aA->Prop}
 (h:FC P g F.ntmps F.body (dW args) [] H (jv P g F.results R)) (hdt:F.body.dL=true:=by first|rfl|decide):∃out H',R out H'/\Sound P g f args H out H':=by
 obtain⟨ae,s,ds,H',q,hA⟩:=HK hdt (aFe ha h)
 have norm:(ae=.normal\/ae=.ret)->(YM P g ds H' fun H1=>∃vs,mF s H1 F.results=some vs/\R (.ret (pY vs)) H1)->∃out H',R out H'/\Sound P g f args H out H':=by
  intro hae q;obtain⟨Hf,⟨vs,h1,h2⟩,h3⟩:=CT q;refine⟨_,Hf,h2,pG hm hF (eW (fun e s1 d hh he=>?_) hA)⟩;obtain⟨rfl,rfl,rfl,rfl⟩:=he;have :YM P g d hh fun H1=>∃vm,mF s1 H1 F.results=some vm/\(Out.ret (pY vm)=Out.ret (pY vs)/\H1=Hf):=tV (fun H1 e=>by subst e;exact⟨vs,h1,rfl,rfl⟩) h3
  rcases hae with rfl|rfl<;>exact this
 cases ae with
 |exit id=>exact q.elim
 |normal=>exact norm (.inl rfl) q
 |ret=>exact norm (.inr rfl) q
 |panic v=>
  cases ds with
  |nil=>refine⟨.CD v,H',q,pG hm hF (eW (fun e s1 d hh he=>?_) hA)⟩;obtain⟨rfl,rfl,rfl,rfl⟩:=he;exact⟨rfl,rfl⟩
  |cons d ds=>
   cases d with
   |mark _=>exact q.elim
   |call _ _=>obtain⟨H1,h1,h2⟩:=q;obtain⟨Hf,⟨vs,q1,q2⟩,q3⟩:=CT h2;refine⟨.ret (pY vs),Hf,q2,pG hm hF (eW (fun e s1 d1 hh he=>?_) hA)⟩;obtain⟨rfl,rfl,rfl,rfl⟩:=he;exact⟨H1,h1,tV (fun H1 e=>by subst e;exact⟨vs,q1,rfl,rfl⟩) q3⟩
theorem HY {mu:Bool} (hm:Fit P g) {f:FuncId} {dst:Option Nat} {rl:List bC} {ac:bV} (hF:xy P g mu f n dst rl ac)
 {args:List AV} (ha:args.length<=n) {md:Option AV} {H H':aA}
 (h:bL P g n rl (fD n (dW args) dst (md.getD .pW)) [] H (gC (fun f ds H=>FC P g n ac f ds H fun e f ds H=>(match e with|.normal=>True|.ret=>True|_=>False)/\ds=[]/\H=H') fun _ _ _ _=>False)):
 AU P g f args md H H':=by
 obtain⟨hb,hl⟩:=xZ ha;refine TX hm hF ?_;rw[<-hl,<-pE];refine Ra (fun e s ds H hq=>?_) (iS rl _ [] H _ (hb.put _ _) h);obtain⟨f,rfl,wN,hq⟩:=hq
 cases e with
 |normal=>refine eW (fun e s ds H hq=>?_) (tY ac f ds H _ wN hq);obtain⟨f,rfl,_,hq⟩:=hq;exact hq
 |_=>exact hq.elim
variable {r:List bC} {f:cU} {ds:List fY} {H:aA} {Q:FQ}
theorem Qu {d:Nat} {fid:FuncId} {az:List Arg} {args:List AV} {v:AV} {H':aA} (ha:az.map (mT g f)=args) (hS:Sound P g fid args H (.CD v) H')
 (h:Q (.panic v) f ds H'):bL P g n (⟨some d,.call (.const (.func (.func fid) [] [])) az,none⟩::r) f ds H Q:=by
 unfold bL;simp only[fJ,if_true];exact⟨.CD v,H',.inl ⟨(fid,[],[]),rfl,by simpa [ha] using hS⟩,h⟩
theorem qJ {x:Arg} {t:TypeId} {v:AV} (hx:mT g f x=.iface t v) (h:Q (.panic (.iface t v)) f ds H):bL P g n (⟨none,.panic x,none⟩::r) f ds H Q:=by unfold bL;simp only[fJ,if_true];exact⟨t,v,hx,h⟩
theorem YS {c:Arg} {az:List Arg} {fid:FuncId} {fs cs args:List AV} (hc:mT g f c=.func (.func fid) fs cs) (ha:fs++az.map (mT g f)++cs=args)
 (h:bL P g n r f (.call fid args::ds) H Q):bL P g n (⟨none,.jY c az,none⟩::r) f ds H Q:=by
 unfold bL;simp only[fJ,if_true,fD];exact⟨(fid,fs,cs),by rw[hc];rfl,by rw[ha];exact h⟩
end
end
section
section
variable {P:Program} {v:Nat->Option (List AV)} {l l':LD->Loop->Prop}
theorem gS:bE ⟨v,l⟩=bE ⟨v,l'⟩:=by funext x;cases x<;>rfl
theorem OL:nX ⟨v,l⟩=nX ⟨v,l'⟩:=by
 funext x
 induction x with
 |nil=>rfl
 |cons a r ih=>simp only[nX];rw[ih,gS (l':=l')]
theorem Zy:nB ⟨v,l⟩=nB ⟨v,l'⟩:=by
 funext x
 cases x with
 |none=>rfl
 |some a=>simp only[nB];rw[gS (l':=l')]
theorem ah (f:Nat->Option (Nat×Nat)):wH ⟨v,l⟩ f=wH ⟨v,l'⟩ f:=by
 funext x
 induction x with
 |nil=>rfl
 |cons a r ih=>simp only[wH];rw[ih,gS (l':=l')]
theorem aCh:∀(n:Nat) (x),JK ⟨v,l⟩ n x=JK ⟨v,l'⟩ n x:=by
 intro n x
 induction x generalizing n with
 |nil=>rfl
 |cons a r ih=>simp only[JK];rw[ih,gS (l':=l')]
theorem Yi (op:BinOp) (t:TypeId) (x y:Operand):qM P ⟨v,l⟩ op t x y=qM P ⟨v,l'⟩ op t x y:=by unfold qM;rw[gS (l':=l')]
theorem Vt (a b:TypeId) (x:Operand):mK P ⟨v,l⟩ a b x=mK P ⟨v,l'⟩ a b x:=by unfold mK;rw[gS (l':=l')]
theorem Td (t:TypeId) (x:Operand) (a b c:Option Operand):jK P ⟨v,l⟩ t x a b c=jK P ⟨v,l'⟩ t x a b c:=by unfold jK;rw[gS (l':=l'),Zy (l':=l')]
theorem Yk (c:Call):qN P ⟨v,l⟩ c=qN P ⟨v,l'⟩ c:=by unfold qN;rw[gS (l':=l')]
theorem Qy (mu:Bool) (c:Call):gT P ⟨v,l⟩ mu c=gT P ⟨v,l'⟩ mu c:=by unfold gT;rw[gS (l':=l')]
theorem Vs (mu:Bool) (c:Call):nM P ⟨v,l⟩ mu c=nM P ⟨v,l'⟩ mu c:=by unfold nM;rw[gS (l':=l'),OL (l':=l'),Yk (l':=l'),Qy (l':=l')]
theorem aGn (mu:Bool) (o:Oper):Oa P ⟨v,l⟩ mu o=Oa P ⟨v,l'⟩ mu o:=by unfold Oa;simp only[gS (v:=v) (l:=l) (l':=l'),OL (v:=v) (l:=l) (l':=l'),ah (v:=v) (l:=l) (l':=l'),aCh (v:=v) (l:=l) (l':=l'),Yi (v:=v) (l:=l) (l':=l'),Vt (v:=v) (l:=l) (l':=l'),Td (v:=v) (l:=l) (l':=l'),Vs (v:=v) (l:=l) (l':=l')]
theorem mw (mu:Bool) (ops:Array Oper) (o:Oper):MN P ⟨v,l⟩ mu ops o=MN P ⟨v,l'⟩ mu ops o:=by unfold MN;rw[aGn (l':=l')]
theorem Ym (mu:Bool) (ops:Array Oper):∀x,gM P ⟨v,l⟩ mu ops x=gM P ⟨v,l'⟩ mu ops x:=by
 intro x
 induction x with
 |nil=>rfl
 |cons a r ih=>simp only[gM];rw[ih,mw (l':=l')]
theorem lh (mu:Bool) (c:Code):eD P ⟨v,l⟩ mu c=eD P ⟨v,l'⟩ mu c:=by
 induction c with
 |region id ops d=>cases d<;>simp only[eD]<;>rw[Ym (l':=l')]
 |seq a b rG uW=>simp only[eD,rG,uW]
 |cond c a b rG uW=>simp only[eD,rG,uW];rw[gS (l':=l')]
 |block id a ih=>simp only[eD,ih]
 |loop a ih=>simp only[eD,ih]
 |scope a ih=>simp only[eD,ih]
 |rangeFunc c ps x y ihx ihy=>simp only[eD,ihx,ihy];rw[gS (l':=l')]
 |_=>rfl
def mkG (P:Program) (v:Nat->Option (List AV)):bB:=
 ⟨v,fun k r=>r.params.toList=k.ps/\∃mu,eD P ⟨v,fun _ _=>False⟩ mu r.assign=some k.MK/\eD P ⟨v,fun _ _=>False⟩ mu r.body=some k.body/\k.MK.nd=true/\k.body.nd=true⟩
theorem ja (hm:P.follows .mixedOrders=true):Fit P (mkG P v) where
 mixed:=hm
 lok:=fun k r=>by unfold mkG;simp only[lh (P:=P) (v:=v) (l':=fun _ _=>False)]
def wP (P:Program) (g:bB) (mu:Bool) (fn:Go.Func):Option DY:=
 match fn.body with
 |none=>none
 |some c=>match eD P g mu c,yJ P fn.results.toList with
  |some b,some r=>some ⟨fn.ntmps,r,b⟩
  |_,_=>none
def dR (P:Program) (g:bB) (mu:Bool):Code->Option bV
 |.skip=>some .skip
 |.label _=>some .skip
 |.region _ ops false=>(gM P g mu ops ops.toList).map .ops
 |.region _ ops true=>(gM P g mu ops ops.toList).map fun rl=>.draw rl (kK rl (Region.before ops).toList)
 |.seq a b=>match dR P g mu a,dR P g mu b with
  |some x,some y=>some (.seq x y)
  |_,_=>none
 |.cond c a b=>match bE g c,dR P g mu a,dR P g mu b with
  |some z,some x,some y=>some (.cond z x y)
  |_,_,_=>none
 |.block id a=>(dR P g mu a).map (.block id)
 |.loop a=>(dR P g mu a).map .loop
 |.scope a=>dR P g mu a
 |.exit id=>some (.exit id)
 |.ret=>some .ret
 |.rangeFunc c ps x y=>match bE g c,dR P g mu x,dR P g mu y with
  |some c',some x',some y'=>some (.oE c' ps.toList x' y')
  |_,_,_=>none
 |_=>none
theorem lg {P:Program} {g:bB} {mu:Bool}:∀{c:Code} {b:bV},eD P g mu c=some b->dR P g mu c=some b:=by
 intro c
 induction c with
 |region k ops d=>
  intro b h
  cases d with
  |false=>exact h
  |true=>
   simp only[eD] at h;simp only[dR];split at h
   · rename_i rl Wf;split at h
     · cases h;rw[Wf];rfl
     cases h
   cases h
 |seq a b rG uW=>
  intro r h;simp only[eD] at h;split at h
  · rename_i x y hx hy;simp only[dR,rG hx,uW hy];exact h
  cases h
 |cond c a b rG uW=>
  intro r h;simp only[eD] at h;split at h
  · rename_i z x y hz hx hy;simp only[dR,hz,rG hx,uW hy];exact h
  cases h
 |block i a rG=>intro r h;simp only[eD,Ag] at h;obtain⟨x,hx,rfl⟩:=h;simp only[dR,rG hx,Bt]
 |loop a rG=>intro r h;simp only[eD,Ag] at h;obtain⟨x,hx,rfl⟩:=h;simp only[dR,rG hx,Bt]
 |scope a rG=>intro r h;simp only[eD] at h;simp only[dR];exact rG h
 |rangeFunc c ps x y ihx ihy=>
  intro r h;simp only[eD] at h;split at h
  · rename_i c' x' y' hc hx hy;split at h
    · simp only[dR,hc,ihx hx,ihy hy];exact h
    cases h
  cases h
 |_=>intro r h;first|exact h|cases h
def mkX (P:Program) (g:bB) (mu:Bool) (fn:Go.Func):Option DY:=
 match fn.body with
 |none=>none
 |some c=>match dR P g mu c,yJ P fn.results.toList with
  |some b,some r=>some ⟨fn.ntmps,r,b⟩
  |_,_=>none
theorem BW {P:Program} {g:bB} {mu:Bool} {fn:Go.Func} {F:DY} (h:(wP P g mu fn).isSome=true) (hx:mkX P g mu fn=some F):wP P g mu fn=some F:=by
 cases hm:wP P g mu fn with
 |none=>rw[hm] at h;cases h
 |some G=>
  have e:mkX P g mu fn=some G:=by
   unfold wP at hm;unfold mkX
   cases hc:fn.body with
   |none=>rw[hc] at hm;cases hm
   |some c=>
    rw[hc] at hm;simp only at hm ⊢;split at hm
    · rename_i b r hb hr;rw[lg hb,hr];exact hm
    cases hm
  rw[e] at hx;exact hx
def sqO:Option bV->Option bV->Option bV
 |some x,some y=>some (.seq x y)
 |_,_=>none
def cdO (c:Option Arg):Option bV->Option bV->Option bV
 |some x,some y=>match c with
  |some z=>some (.cond z x y)
  |none=>none
 |_,_=>none
theorem ax (P:Program) (g:bB) (mu:Bool):(∀a b,dR P g mu (.seq a b)=sqO (dR P g mu a) (dR P g mu b))/\(∀c a b,dR P g mu (.cond c a b)=cdO (bE g c) (dR P g mu a) (dR P g mu b))/\
 (∀i a,dR P g mu (.block i a)=(dR P g mu a).map (.block i))/\(∀a,dR P g mu (.loop a)=(dR P g mu a).map .loop)/\(∀a,dR P g mu (.scope a)=dR P g mu a)/\
 (∀k ops,dR P g mu (.region k ops false)=(gM P g mu ops ops.toList).map .ops)/\(∀k ops,dR P g mu (.region k ops true)=(gM P g mu ops ops.toList).map fun rl=>.draw rl (kK rl (Region.before ops).toList)):=by
 refine⟨fun a b=>?_,fun c a b=>?_,fun i a=>rfl,fun a=>rfl,fun a=>rfl,fun k ops=>rfl,fun k ops=>rfl⟩
 · conv=>lhs;unfold dR
   unfold sqO;cases dR P g mu a<;>cases dR P g mu b<;>rfl
 conv=>lhs;unfold dR
 unfold cdO;cases bE g c<;>cases dR P g mu a<;>cases dR P g mu b<;>rfl
theorem dG {g:bB} {mu:Bool} {f:FuncId} {fn:Go.Func} {F:DY} (h1:P.funcs[f]?=some fn) (h2:(fn.name== "runtime.NumGoroutine")=false) (h:wP P g mu fn=some F):fN P g mu f F:=by
 unfold wP at h;split at h
 · cases h
 rename_i c hc;split at h
 · rename_i b r hb hr;cases h;exact⟨fn,c,h1,hc,h2,hb,rfl,hr⟩
 cases h
end
end
section
def bC.rY (o:bC):Bool:=match o.op with|.jY _ _=>false|_=>true
def bV.rY:bV->Bool
 |.ops rl=>rl.all bC.rY
 |.seq a b|.cond _ a b=>a.rY&&b.rY
 |.block _ a|.loop a=>a.rY
 |.oE _ _ _ _=>false
 |_=>true
def bV.wr:bV->List Nat
 |.ops rl|.draw rl _=>rl.filterMap (·.dst)
 |.seq a b|.cond _ a b=>a.wr++b.wr
 |.block _ a|.loop a=>a.wr
 |_=>[]
def tL (t:Nat):List Nat->Bool
 |[]=>false
 |x::l=>Nat.beq t x||tL t l
theorem Wz {t:Nat}:∀{l:List Nat},tL t l=true↔t∈l
 |[]=>by simp[tL]
 |x::l=>by simp[tL,Wz]
theorem pU {t:Nat} {l:List Nat}:tL t l=false↔t∉l:=by rw[<-Wz];simp
def iZ (W:List Nat) (f0 f:cU):Prop:=∀t,tL t W=false->f t=f0 t
theorem iZ.ud {W:List Nat} {f:cU}:iZ W f f:=fun _ _=>rfl
def Kp (W:List Nat) (f0:cU) (nd:Bool) (ds0:List fY) (f:cU) (ds:List fY):Prop:=iZ W f0 f/\(nd=true->ds=ds0)
theorem iZ.put {W:List Nat} {f0 f:cU} {n:Nat} (h:iZ W f0 f) (dst:Option Nat) (hd:∀d,dst=some d->d∈W) (v:AV):iZ W f0 (fD n f dst v):=by
 cases dst with
 |none=>exact h
 |some d=>
  intro t ht
  have bN:t≠d:=fun e=>by subst e;exact pU.1 ht (hd _ rfl)
  simp only[fD];split
  · rw[oM _ _ bN];exact h t ht
  exact h t ht
section
variable {P:Program} {g:bB} {n:Nat} {W:List Nat} {f0:cU} {nd:Bool} {ds0:List fY}
theorem ku {rl:List bC}:∀{f:cU} {ds:List fY} {H:aA} {Q:FQ},(∀o∈rl,∀d,o.dst=some d->d∈W)->(nd=true->rl.all bC.rY=true)->Kp W f0 nd ds0 f ds->
 bL P g n rl f ds H Q->bL P g n rl f ds H (fun e f' fC H'=>Kp W f0 nd ds0 f' fC/\Q e f' fC H'):=by
 induction rl with
 |nil=>exact fun _ _ hk h=>⟨hk,h⟩
 |cons o r ih=>
  intro f ds H Q hw hn hk h;have jS:=fun o ho=>hw o (Aw _ ho)
  have Mj:nd=true->r.all bC.rY=true:=fun e=>by have :=hn e;simp only[Ik,Am] at this;exact this.2
  have GH:∀v,Kp W f0 nd ds0 (fD n f o.dst v) ds:=fun v=>⟨hk.1.put _ (hw o Au) v,hk.2⟩;unfold bL at h ⊢;split
  · rename_i RR;rw[if_pos RR] at h;split at h
    · obtain⟨out,H',h1,h3⟩:=h;refine⟨out,H',h1,?_⟩
      cases out with
      |ret v=>exact ih jS Mj (GH v) h3
      |CD v=>exact⟨hk,h3⟩
    · obtain⟨t,v,h1,h2⟩:=h;exact⟨t,v,h1,hk,h2⟩
    · rename_i c az fF;obtain⟨p,h1,h2⟩:=h;refine⟨p,h1,ih jS Mj ⟨(GH _).1,fun e=>?_⟩ h2⟩;have :=hn e;simp only[Ik,Am] at this;have h3:=this.1;rw[bC.rY,fF] at h3;cases h3
    · obtain⟨m,es,h1,h2,h3⟩:=h;exact⟨m,es,h1,h2,fun bs c mb k1 k2=>ih jS Mj (GH _) (h3 bs c mb k1 k2)⟩
    · obtain⟨it,m,mb,c,seen,es,bs,h1,h2,h3,h4,h5⟩:=h;exact⟨it,m,mb,c,seen,es,bs,h1,h2,h3,fun k=>ih jS Mj (GH _) (h4 k),fun j k1 k2=>ih jS Mj (GH _) (h5 j k1 k2)⟩
    · obtain⟨it,m,mb,c,seen,es,bs,j,h1,h2,h3,h4,h5⟩:=h;exact⟨it,m,mb,c,seen,es,bs,j,h1,h2,h3,h4,ih jS Mj (GH _) h5⟩
    unfold mI at h ⊢;split at h
    · exact ih jS Mj (GH _) h
    exact h.elim
  rename_i RR;rw[if_neg RR] at h;exact ih jS Mj (GH _) h
theorem Vb {pairs:List (Nat×Nat)} {base:Nat} {rl:List bC}:∀{i k:Nat} {rd:List (Nat×Nat)} {ef:List (Nat×aA×aA)} {f:cU} {H:aA} {Q:cU->aA->Prop},(∀o∈rl,∀d,o.dst=some d->d∈W)->iZ W f0 f->
 YR P g n pairs base i k rl rd ef f H Q->YR P g n pairs base i k rl rd ef f H (fun f' H'=>iZ W f0 f'/\Q f' H'):=by
 induction rl with
 |nil=>exact fun _ hk h=>⟨hk,h⟩
 |cons r rs ih=>
  intro i k rd ef f H Q hw hk h;have jS:=fun o ho=>hw o (Aw _ ho);have GH:∀v,iZ W f0 (fD n f r.dst v):=fun v=>hk.put _ (hw r Au) v;unfold YR at h ⊢;split
  · rename_i RR;rw[if_pos RR] at h;split
    · rename_i hf;rw[if_pos hf] at h;obtain⟨ob,val,h1,h2,h3⟩:=h;exact⟨ob,val,h1,h2,ih jS (GH _) h3⟩
    rename_i hf;rw[if_neg hf] at h;split
    · rename_i he;rw[if_pos he] at h;obtain⟨v,H',h1,h2,h3,h4⟩:=h;exact⟨v,H',h1,h2,h3,ih jS (GH _) h4⟩
    rename_i he;rw[if_neg he] at h;obtain⟨v,h1,h2,h3⟩:=h;exact⟨v,h1,h2,ih jS (GH _) h3⟩
  rename_i RR;rw[if_neg RR] at h;exact ih jS (GH _) h
theorem aCl {rl:List bC} (hw:∀d∈rl.filterMap (·.dst),d∈W):∀o∈rl,∀d,o.dst=some d->d∈W:=fun o ho d hd=>hw d (Hi.2 ⟨o,ho,hd⟩)
theorem xr {c:bV}:∀{f:cU} {ds:List fY} {H:aA} {Q:FQ},(∀d∈c.wr,d∈W)->(nd=true->c.rY=true)->Kp W f0 nd ds0 f ds->FC P g n c f ds H Q->FC P g n c f ds H (fun e f' fC H'=>Kp W f0 nd ds0 f' fC/\Q e f' fC H'):=by
 induction c with
 |skip=>exact fun _ _ hk h=>⟨hk,h⟩
 |ops rl=>exact fun hw hn hk h=>ku (aCl hw) hn hk h
 |draw rl pairs=>exact fun hw _ hk h=>h.imp (fun h=>⟨h.1,Vc (fun _ _ h=>⟨⟨h.1,hk.2⟩,h.2⟩) (Vb (aCl hw) hk.1 h.2)⟩) fun h hb=>let⟨x,f',H',h1,h2,h3,h4⟩:=h hb;⟨x,f',H',h1,h2,h3,⟨fun t ht=>(h3 t fun hm=>pU.1 ht (hw t hm)).trans (hk.1 t ht),hk.2⟩,h4⟩
 |seq a b rG uW=>
  intro f ds H Q hw hn hk h;simp only[bV.wr,As] at hw;simp only[bV.rY,Am] at hn;show FC P g n a f ds H _;refine jB (fun e f ds H h=>?_) (rG (fun d hd=>hw d (.inl hd)) (fun e=>(hn e).1) hk h)
  cases e with
  |normal=>exact uW (fun d hd=>hw d (.inr hd)) (fun e=>(hn e).2) h.1 h.2
  |_=>exact h
 |cond c a b rG uW=>
  intro f ds H Q hw hn hk h;simp only[bV.wr,As] at hw;simp only[bV.rY,Am] at hn;obtain⟨t,h1,h2⟩:=h;refine⟨t,h1,?_⟩
  cases t with
  |true=>exact rG (fun d hd=>hw d (.inl hd)) (fun e=>(hn e).1) hk h2
  |false=>exact uW (fun d hd=>hw d (.inr hd)) (fun e=>(hn e).2) hk h2
 |block id a ih=>
  intro f ds H Q hw hn hk h;show FC P g n a f ds H _;refine jB (fun e f ds H h=>?_) (ih hw hn hk h)
  cases e with
  |exit i=>
   obtain⟨h0,h⟩:=h;simp only[dO] at h ⊢;split
   · rename_i hi;rw[if_pos hi] at h;exact⟨h0,h⟩
   rename_i hi;rw[if_neg hi] at h;exact⟨h0,h⟩
  |_=>exact h
 |loop a ih=>
  intro f ds H Q hw hn hk h;obtain⟨I,m,h0,hI⟩:=h;refine⟨fun m f ds H=>Kp W f0 nd ds0 f ds/\I m f ds H,m,⟨hk,h0⟩,fun m f ds H hi=>jB (fun e f ds H h=>?_) (ih hw hn hi.1 (hI m f ds H hi.2))⟩
  cases e with
  |normal=>obtain⟨h1,k,hk,hi⟩:=h;exact⟨k,hk,h1,hi⟩
  |_=>exact h
 |exit id=>exact fun _ _ hk h=>⟨hk,h⟩
 |ret=>exact fun _ _ hk h=>⟨hk,h⟩
 |oE c ps a b rG uW=>
  intro f ds H Q hw hn hk h;obtain⟨fid,fs,cs,v,He,k',s',st,Hf,h1,h2,h3,h4,h5⟩:=h;have rS:∀pQ,Kp W f0 nd ds0 f pQ:=fun pQ=>⟨hk.1,fun e=>by cases hn e⟩;refine⟨fid,fs,cs,v,He,k',s',st,Hf,h1,h2,h3,h4,?_⟩
  cases st with
  |ready=>exact⟨rS _,h5⟩
  |done e=>cases e<;>exact⟨rS _,h5⟩
  |busy=>exact h5.elim
  |over _=>exact h5.elim
theorem HO {c:bV} {f:cU} {ds:List fY} {H:aA} {Q:FQ} (h:FC P g n c f ds H Q):FC P g n c f ds H (fun e f' fC H'=>iZ c.wr f f'/\(c.rY=true->fC=ds)/\Q e f' fC H'):=
 jB (fun _ _ _ _ h=>⟨h.1.1,h.1.2,h.2⟩) (xr (nd:=c.rY) (ds0:=ds) (fun _ h=>h) id ⟨.ud,fun _=>rfl⟩ h)
theorem iZ.trans {W:List Nat} {f f' Ru:cU} (h:iZ W f f') (h':iZ W f' Ru):iZ W f Ru:=fun t ht=>(h' t ht).trans (h t ht)
theorem iZ.sub {W W':List Nat} {f f':cU} (h:iZ W' f f') (hs:∀d∈W',d∈W):iZ W f f':=fun t ht=>h t (pU.2 fun hm=>pU.1 ht (hs t hm))
theorem fK {a:bV} {f:cU} {ds:List fY} {H:aA} {Q:FQ} (cs:List Nat) (I:Nat->List AV->aA->Prop) (m:Nat) (hn:a.rY=true) (h0:I m (cs.map f) H)
 (h:∀m f' H',iZ a.wr f f'->I m (cs.map f') H'->FC P g n a f' ds H' (gC (fun Ru _ HU=>∃k,k<m/\I k (cs.map Ru) HU) Q)):FC P g n (.loop a) f ds H Q:=by
 refine⟨fun m f' fC H'=>iZ a.wr f f'/\fC=ds/\I m (cs.map f') H',m,⟨.ud,rfl,h0⟩,?_⟩;rintro m f' fC H' ⟨hk,rfl,hi⟩;refine jB (fun e f2 RD H2 hh=>?_) (HO (h m f' H' hk hi));obtain⟨h1,h2,h3⟩:=hh
 cases e with
 |normal=>obtain⟨k,dA,o9⟩:=h3;exact⟨k,dA,hk.trans h1,h2 hn,o9⟩
 |_=>exact h3
def bDl (n cmp ix ln nx:Nat) (cs:List Nat) (B:bV):Bool:=
 Nat.blt cmp n&&Nat.blt ix n&&Nat.blt nx n&& !Nat.beq cmp ix&& !Nat.beq cmp ln&& !Nat.beq nx ix&& !Nat.beq nx ln&& !Nat.beq ix ln&& !tL cmp cs&& !tL ix cs&& !tL nx cs&& !tL ix B.wr&& !tL ln B.wr&&B.rY
theorem JN {cs:List Nat} {f:cU} {d:Nat} {v:AV} (h:tL d cs=false):cs.map (jG f d v)=cs.map f:=
 Ef fun t ht=>oM f v fun e=>pU.1 h (e▸ht)
def VO (cmp ix nx:Nat) (B:bV):List Nat:=cmp::nx::ix::B.wr
theorem bQ {id cmp ix ln nx:Nat} {B:bV} {f:cU} {ds:List fY} {H:aA} {Q:FQ} (cs:List Nat) (J:Nat->List AV->aA->Prop) (N:Nat) (hN:(N:Int)<2^63)
 (hs:bDl n cmp ix ln nx cs B=true) (h1:f ix=.int .i64 0) (h2:f ln=.int .i64 N) (h0:J 0 (cs.map f) H)
 (body:∀(i:Nat) (f':cU) (H':aA),i<N->iZ (VO cmp ix nx B) f f'->f' ix=.int .i64 i->J i (cs.map f') H'->FC P g n B f' ds H' (gC (fun Ru _ HU=>J (i+1) (cs.map Ru) HU) (dO id Q)))
 (done:∀(f':cU) (H':aA),iZ (VO cmp ix nx B) f f'->J N (cs.map f') H'->Q .normal f' ds H'):
 FC P g n (.block id (.loop (.seq (.ops [⟨some cmp,.bin .lss (.tmp ix) (.tmp ln),none⟩]) (.seq (.cond (.tmp cmp) .skip (.exit id)) (.seq B
  (.ops [⟨some nx,.bin .add (.tmp ix) (.const (.int .i64 1)),none⟩,⟨some ix,.Ni (.tmp nx),none⟩])))))) f ds H Q:=by
 simp only[bDl,Am,Ct,Gv] at hs;obtain⟨⟨⟨⟨⟨⟨⟨⟨⟨⟨⟨⟨⟨s1,s2⟩,s3⟩,s4⟩,s5⟩,s6⟩,s7⟩,s8⟩,c1⟩,c2⟩,c3⟩,b1⟩,b2⟩,b3⟩:=hs;have ne:∀{a b:Nat},Nat.beq a b=false->a≠b:=fun h e=>by subst e;simp at h
 have kpU:∀{f':cU} {d:Nat} {v:AV},d∈VO cmp ix nx B->iZ (VO cmp ix nx B) f f'->iZ (VO cmp ix nx B) f (jG f' d v):=fun {f' d v} hd hk t ht=>by have bN:t≠d:=fun e=>pU.1 ht (by rw[e];exact hd);rw[oM _ _ bN];exact hk t ht
 refine xt (id:=id) (cmp:=cmp) (ix:=ix) (ln:=ln) (nx:=nx) (B:=B) (fun i f' H'=>iZ (VO cmp ix nx B) f f'/\J i (cs.map f') H') N hN ⟨s1,s2,s3,ne s4,ne s5,ne s6,ne s7,ne s8⟩ h1 h2 ⟨.ud,h0⟩ ?_ ?_ ?_
 · rintro i f' H' d v hd ⟨hk,hj⟩
   have hm:tL d cs=false/\d∈VO cmp ix nx B:=(by rcases hd with rfl|rfl|rfl<;>simp[c1,c2,c3,VO]);exact⟨kpU hm.2 hk,by rw[JN hm.1];exact hj⟩
 · rintro i f' H' hi e1 e2 ⟨hk,hj⟩;refine jB (fun e f2 RD H2 hh=>?_) (HO (body i f' H' hi hk e1 hj));obtain⟨k1,k2,k3⟩:=hh
   cases e with
   |normal=>exact⟨k2 b3,by rw[k1 _ b1];exact e1,by rw[k1 _ b2];exact e2,hk.trans (k1.sub fun d hd=>by simp[VO,hd]),k3⟩
   |_=>exact k3
 rintro f' H' e2 ⟨hk,hj⟩;exact done f' H' hk hj
def bDi (n cmp ix nx:Nat) (cs:List Nat) (B:bV):Bool:=
 Nat.blt cmp n&&Nat.blt ix n&&Nat.blt nx n&& !Nat.beq cmp ix&& !Nat.beq nx ix&& !tL cmp cs&& !tL ix cs&& !tL nx cs&& !tL ix B.wr&&B.rY
theorem iR {id cmp ix nx:Nat} {N':Int} {B:bV} {f:cU} {ds:List fY} {H:aA} {Q:FQ} (cs:List Nat) (J:Nat->List AV->aA->Prop) (N:Nat) (hN:(N:Int)<2^63) (hNN:N'=(N:Int))
 (hs:bDi n cmp ix nx cs B=true) (h1:f ix=.int .i64 0) (h0:J 0 (cs.map f) H)
 (body:∀(i:Nat) (f':cU) (H':aA),i<N->iZ (VO cmp ix nx B) f f'->f' ix=.int .i64 i->J i (cs.map f') H'->FC P g n B f' ds H' (gC (fun Ru _ HU=>J (i+1) (cs.map Ru) HU) (dO id Q)))
 (done:∀(f':cU) (H':aA),iZ (VO cmp ix nx B) f f'->J N (cs.map f') H'->Q .normal f' ds H'):
 FC P g n (.block id (.loop (.seq (.ops [⟨some cmp,.bin .lss (.tmp ix) (.const (.int .i64 N')),none⟩]) (.seq (.cond (.tmp cmp) .skip (.exit id)) (.seq B
  (.ops [⟨some nx,.bin .add (.tmp ix) (.const (.int .i64 1)),none⟩,⟨some ix,.Ni (.tmp nx),none⟩])))))) f ds H Q:=by
 simp only[bDi,Am,Ct,Gv] at hs;obtain⟨⟨⟨⟨⟨⟨⟨⟨⟨s1,s2⟩,s3⟩,s4⟩,s6⟩,c1⟩,c2⟩,c3⟩,b1⟩,b3⟩:=hs;have ne:∀{a b:Nat},Nat.beq a b=false->a≠b:=fun h e=>by subst e;simp at h
 have kpU:∀{f':cU} {d:Nat} {v:AV},d∈VO cmp ix nx B->iZ (VO cmp ix nx B) f f'->iZ (VO cmp ix nx B) f (jG f' d v):=fun {f' d v} hd hk t ht=>by have bN:t≠d:=fun e=>pU.1 ht (by rw[e];exact hd);rw[oM _ _ bN];exact hk t ht
 refine kl (id:=id) (cmp:=cmp) (ix:=ix) (nx:=nx) (B:=B) (fun i f' H'=>iZ (VO cmp ix nx B) f f'/\J i (cs.map f') H') N hN hNN ⟨s1,s2,s3,ne s4,ne s6⟩ h1 ⟨.ud,h0⟩ ?_ ?_ ?_
 · rintro i f' H' d v hd ⟨hk,hj⟩
   have hm:tL d cs=false/\d∈VO cmp ix nx B:=(by rcases hd with rfl|rfl|rfl<;>simp[c1,c2,c3,VO]);exact⟨kpU hm.2 hk,by rw[JN hm.1];exact hj⟩
 · rintro i f' H' hi e1 ⟨hk,hj⟩;refine jB (fun e f2 RD H2 hh=>?_) (HO (body i f' H' hi hk e1 hj));obtain⟨k1,k2,k3⟩:=hh
   cases e with
   |normal=>exact⟨k2 b3,by rw[k1 _ b1];exact e1,hk.trans (k1.sub fun d hd=>by simp[VO,hd]),k3⟩
   |_=>exact k3
 rintro f' H' ⟨hk,hj⟩;exact done f' H' hk hj
theorem cx {nw tag:Nat} (h:Nat.blt tag 2=true):HE none nw tag=tag:=by
 rw[Gv] at h
 match tag,h with
 |0,_=>rfl
 |1,_=>rfl
theorem oV {H:aA} {nw:Nat} {v:AV} (h:v.free=true):fT H none nw 0 v=some v:=by
 have key:jR H none nw v=some v:=by
  cases v<;>first
   |(simp only[AV.free] at h;cases h;done)
   |(simp only[AV.free,Am] at h;simp only[jR,h.2,cx h.1];done)
   |(simp only[jR,h])
 cases v<;>exact key
theorem dH {mu:Bool} (hm:Fit P g) (hg:HT g) {k:FuncId} {F:DY} (hF:fN P g mu k F) {args:List AV} {v':AV} (hl:args.length<=F.ntmps) (ha:bU args=true)
 (h:FC P g F.ntmps F.body (dW args) [] ⟨0,.nil⟩ (MA F.results fun o H2=>∃v n,o=.ret v/\∀nw,fT H2 none nw n v=some v')) (H:aA):Sound P g k args H (.ret v') H:=by
 refine(yH hm hF (YL hl h)).frame hg ha H fun out H2 hR=>?_;obtain⟨v,n,rfl,hs⟩:=hR;exact⟨none,n,v',fun k hk=>(by cases hk),hs _,rfl,rfl⟩
theorem tz {rs:List HM} {R R':Out->aA->Prop} (h:∀o H,R o H->R' o H) {e:AEx} {f:cU} {ds:List fY} {H:aA} (hr:MA rs R e f ds H):MA rs R' e f ds H:=by
 cases e with
 |normal=>obtain⟨h1,vs,h2,h3⟩:=hr;exact⟨h1,vs,h2,h _ _ h3⟩
 |ret=>obtain⟨h1,vs,h2,h3⟩:=hr;exact⟨h1,vs,h2,h _ _ h3⟩
 |panic v=>obtain⟨h1,h3⟩:=hr;exact⟨h1,h _ _ h3⟩
 |exit _=>exact hr
theorem gH {mu:Bool} (hm:Fit P g) (hg:HT g) {k:FuncId} {F:DY} (hF:fN P g mu k F) {args:List AV} {v:AV} (hl:args.length<=F.ntmps) (ha:bU args=true) (hv:v.free=true)
 (h:FC P g F.ntmps F.body (dW args) [] ⟨0,.nil⟩ (MA F.results fun o _=>o=.ret v)) (H:aA):Sound P g k args H (.ret v) H:=
 dH hm hg hF hl ha (jB (fun _ _ _ _=>tz fun o H2 e=>⟨v,0,e,fun _=>oV hv⟩) h) H
end
end
end Go.Av
namespace Go.mO
def W:Nat:=4294967296
theorem OI:0<W:=by decide
theorem lJ (k:Nat):0<W^k:=Kr OI
def bA (n k:Nat):Nat:=n / W^k%W
theorem gE (n k:Nat):bA n k<W:=De _ OI
theorem mod_succ (n k:Nat):n%W^(k+1)=n%W^k+W^k*bA n k:=Nat.mod_pow_succ
theorem DM {n k:Nat} (h:n<W^k):bA n k=0:=by unfold bA;rw[Eh h];rfl
theorem SX {n m k:Nat} (h:n<W^m) (hk:m<=k):bA n k=0:=
 DM (Cf h (Dq OI hk))
def cr (a b k:Nat):Nat:=(a%W^k+b%W^k) / W^k
theorem aGp (a b:Nat):cr a b 0=0:=by simp[cr,Nat.mod_one]
theorem aGo (a b k:Nat):cr a b (k+1)=(cr a b k+bA a k+bA b k) / W:=by
 unfold cr;rw[mod_succ,mod_succ,Dd,<-Gc];congr 1
 rw[show a%W^k+W^k*bA a k+(b%W^k+W^k*bA b k)=a%W^k+b%W^k+W^k*(bA a k+bA b k) by rw[Ej];omega,
  Hz _ _ (lJ k)]
 omega
theorem aKo (a b k:Nat):cr a b k<=1:=by unfold cr;have h1:=De a (lJ k);have h2:=De b (lJ k);have :(a%W^k+b%W^k) / W^k<2:=(Ed (lJ k)).2 (by omega);omega
theorem Yw (a b k:Nat):(a+b) / W^k=a / W^k+b / W^k+cr a b k:=by
 unfold cr;have h1:=Fh a (W^k);have h2:=Fh b (W^k);have :a+b=a%W^k+b%W^k+W^k*(a / W^k+b / W^k):=by rw[Ej];omega
 rw[this,Hz _ _ (lJ k)];omega
theorem aCe (a b k:Nat):bA (a+b) k=(cr a b k+bA a k+bA b k)%W:=by unfold bA;rw[Yw];simp only[W];omega
theorem aQv {a b k:Nat} (ha:a<W^k) (hb:b<W^k):cr a b k=if a+b<W^k then 0 else 1:=by
 have h:=aKo a b k;unfold cr at *;rw[Cn ha,Cn hb] at *;split
 · rename_i hl;exact Eh hl
 rename_i hl;have :=Nat.div_pos (show W^k<=a+b by omega) (lJ k);omega
def bw (a b k:Nat):Nat:=if a%W^k<b%W^k then 1 else 0
theorem aGg (a b:Nat):bw a b 0=0:=by simp[bw,Nat.mod_one]
theorem aGf (a b k:Nat):bw a b (k+1)=if bA a k<bA b k+bw a b k then 1 else 0:=by
 unfold bw;rw[mod_succ,mod_succ];have h1:=De a (lJ k);have h2:=De b (lJ k);generalize a%W^k=r at *;generalize b%W^k=s at *;generalize bA a k=x;generalize bA b k=y;generalize W^k=P at *
 rcases It x y with h|h|h
 · have :P*(x+1)<=P*y:=Ey P h;rw[Ej,Dl] at this;rw[if_pos (by omega),if_pos (by omega)]
 · subst h;split<;>split<;>(try split at *)<;>omega
 have :P*(y+1)<=P*x:=Ey P h;rw[Ej,Dl] at this;rw[if_neg (by omega),if_neg (by split<;>omega)]
theorem aCf {a b:Nat} (h:b<=a) (k:Nat):(bA (a -b) k:Int)=((bA a k:Int) -bA b k -bw a b k)%(W:Int):=by
 have h1:=Fh a (W^k);have h2:=Fh b (W^k);have l1:=De a (lJ k);have l2:=De b (lJ k)
 have e:((a -b) / W^k:Nat)=a / W^k -b / W^k -bw a b k/\b / W^k+bw a b k<=a / W^k:=by
  unfold bw;generalize a%W^k=r at *;generalize b%W^k=s at *;generalize a / W^k=x at *;generalize b / W^k=y at *;generalize hP:W^k=P at *;have hPp:0<P:=hP▸lJ k
  have hxy:y<=x:=by
   rcases Hg x y with hc|hc
   · have :P*(x+1)<=P*y:=Ey P hc;rw[Ej,Dl] at this;omega
   exact hc
  split
  · rename_i hrs;have bN:y≠x:=fun e=>by subst e;omega
    have hm:P*(x -y -1)=P*x -P*y -P:=(by rw[Nat.mul_sub,Nat.mul_sub,Dl]);have hm2:P*(y+1)<=P*x:=Ey P (by omega);rw[Ej,Dl] at hm2;refine⟨?_,by omega⟩;have :a -b=(r+P -s)+P*(x -y -1):=(by omega);rw[this,Hz _ _ hPp,Eh (by omega)];omega
  have hm:P*(x -y)=P*x -P*y:=Nat.mul_sub ..;have hm2:P*y<=P*x:=Ey P hxy;refine⟨?_,by omega⟩;have :a -b=(r -s)+P*(x -y):=by omega
  rw[this,Hz _ _ hPp,Eh (by omega)];omega
 unfold bA;rw[e.1];have :=e.2;simp only[W] at *;omega
theorem wX (a k:Nat):a / W^k=a / W^(k+1)*W+bA a k:=by unfold bA;rw[Dd,<-Gc];have :=Fh (a / W^k) W;rw[Da] at this;omega
theorem Rs {a b k:Nat} (h:a / W^(k+1)=b / W^(k+1)) (hk:bA a k=bA b k):a / W^k=b / W^k:=by rw[wX a,wX b,h,hk]
theorem Pa {a b k:Nat} (h:a / W^(k+1)=b / W^(k+1)) (hk:bA a k<bA b k):a<b:=by
 have h1:a / W^k<b / W^k:=by rw[wX a,wX b,h];omega
 rcases Hg a b with h2|h2
 · exact h2
 have :=Nat.div_le_div_right (c:=W^k) h2;omega
theorem WI {a b m:Nat} (ha:a<W^m) (hb:b<W^m) (h:∀k,k<m->bA a k=bA b k):a=b:=by
 have :∀j,j<=m->a / W^(m -j)=b / W^(m -j):=by
  intro j
  induction j with
  |zero=>intro _;rw[Ie,Eh ha,Eh hb]
  |succ j ih=>intro hj;refine Rs (k:=m -(j+1)) ?_ (h _ (by omega));rw[show m -(j+1)+1=m -j by omega];exact ih (by omega)
 have :=this m (Ak _);simpa using this
def DO:List Nat->Nat
 |[]=>0
 |x::l=>x+W*DO l
theorem US:∀(l:List Nat),(∀x∈l,x<W)->DO l<W^l.length
 |[],_=>by decide
 |x::l,h=>by have h1:=US l fun y hy=>h y (by simp[hy]);have h2:=h x (by simp);simp only[DO,Ah,Dd];have :W*(DO l+1)<=W*W^l.length:=Ey W h1;rw[Ej,Dl] at this;rw[Da (W^l.length)];omega
theorem JI:∀(l:List Nat) (k:Nat),(∀x∈l,x<W)->bA (DO l) k=l.getD k 0
 |[],k,_=>by simp[DO,bA]
 |x::l,0,h=>by have :=h x (by simp);simp only[DO,bA,Kd,Ku,Ci];rw[Nat.add_mul_mod_self_left,Cn this]
 |x::l,k+1,h=>by have h1:=h x (by simp);have h2:=JI l k fun y hy=>h y (by simp[hy]);rw[Dw,<-h2];simp only[DO,bA];rw[Dd,Da (W^k),<-Gc,Hz _ _ OI,Eh h1,Df]
def aW (m n:Nat):List Nat:=(List.range m).map (bA n)
theorem bW (m n:Nat):(aW m n).length=m:=by simp[aW]
theorem kI {m n k:Nat} (h:k<m):(aW m n).getD k 0=bA n k:=by simp[aW,List.getD,h]
theorem JJ {m n:Nat}:∀x∈aW m n,x<W:=by intro x hx;simp only[aW,Bf] at hx;obtain⟨k,_,rfl⟩:=hx;exact gE _ _
theorem gU {m n:Nat} (h:n<W^m):DO (aW m n)=n:=by
 refine WI (m:=m) ?_ h fun k hk=>?_
 · have :=US (aW m n) JJ
   rwa [bW] at this
 rw[JI _ _ JJ,kI hk]
theorem SY {l:List Nat} (h:∀x∈l,x<W):aW l.length (DO l)=l:=by refine Ge (by simp[aW]) fun k h1 h2=>?_;simp only[aW,Co,Im];rw[JI _ _ h];simp[List.getD,h2]
def j7:Nat->Nat->Nat
 |0,_=>0
 |k+1,a=>if bA a k=0 then j7 k a else k+1
def sz (a:Nat):Nat:=j7 16 a
theorem ct:∀k a,j7 k a<=k
 |0,_=>Ak _
 |k+1,a=>by
  unfold j7;split
  · exact Nat.le_succ_of_le (ct k a)
  exact Ak _
theorem cu:∀k a,a<W^k->a<W^j7 k a
 |0,_,h=>h
 |k+1,a,h=>by
  unfold j7;split
  · rename_i hl;refine cu k a ?_;unfold bA at hl;have h1:a / W^k<W:=by rw[Ed (lJ k),Da,<-Dd];exact h
    rw[Cn h1] at hl
    rcases Hg a (W^k) with h2|h2
    · exact h2
    have :=Nat.div_pos h2 (lJ k);omega
  exact h
theorem Nt:∀k a,j7 k a=0\/bA a (j7 k a -1)≠0
 |0,_=>.inl rfl
 |k+1,a=>by
  unfold j7;split
  · exact Nt k a
  exact .inr (by simpa)
theorem j8 {a:Nat} (h:a<W^16):a<W^sz a:=cu 16 a h
theorem aEo (a:Nat):sz a<=16:=ct 16 a
theorem aJt {a:Nat} (h:a<W^16):sz a=0↔a=0:=by
 constructor
 · intro e;have :=j8 h;rw[e] at this;simpa using this
 rintro rfl;decide
theorem im {a k:Nat} (h:bA a k≠0):W^k<=a:=by
 rcases Hg a (W^k) with h1|h1
 · exact absurd (DM h1) h
 exact h1
theorem bDp {a:Nat} (h:sz a≠0):W^(sz a -1)<=a:=by
 rcases Nt 16 a with h1|h1
 · exact absurd h1 h
 exact im h1
def eX (a:Nat):Nat:=if a=0 then 0 else Nat.log2 a+1
theorem oO {a n:Nat}:eX a<=n↔a<2^n:=by
 unfold eX;split
 · rename_i h;subst h;simp[Kr]
 rename_i h;rw[<-Nat.log2_lt h];omega
theorem l8 {a n:Nat} (h1:a<2^(n+1)) (h2:2^n<=a):eX a=n+1:=by
 have a1:eX a<=n+1:=oO.2 h1;have a2:¬eX a<=n:=fun h=>by have :=oO.1 h;omega
 omega
theorem tE {a k:Nat} (h:a / 2^k≠0):eX a=eX (a / 2^k)+k:=by
 obtain⟨n,hn⟩:∃n,eX (a / 2^k)=n+1:=⟨Nat.log2 (a / 2^k),by unfold eX;rw[if_neg h]⟩;have h1:a / 2^k<2^(n+1):=oO.1 (by omega);have h2:¬a / 2^k<2^n:=fun h=>by have :=oO.2 h;omega
 rw[hn,show n+1+k=(n+k)+1 by omega];refine l8 ?_ ?_
 · rw[Ed (Kr (by decide))] at h1
   rwa [show n+k+1=n+1+k by omega,Ks]
 rw[Ed (Kr (by decide))] at h2;rw[Ks];omega
theorem l9 {a:Nat} (h:a<W^16) (h0:sz a≠0):eX a=32*(sz a -1)+eX (bA a (sz a -1)):=by
 have e:W^(sz a -1)=2^(32*(sz a -1)):=by rw[Nat.pow_mul];rfl
 have h1:=bDp h0;have h2:=j8 h
 have h3:a / W^(sz a -1)<W:=by
  rw[Ed (lJ _),Da,<-Dd]
  rwa [show(sz a -1).succ=sz a by omega]
 have h4:bA a (sz a -1)=a / 2^(32*(sz a -1)):=by unfold bA;rw[Cn h3,e]
 have h5:=Nat.div_pos h1 (lJ (sz a -1));rw[h4,tE (k:=32*(sz a -1)) (by rw[<-e];omega)];omega
theorem Nl:∀(l:List Nat) (j d:Nat),j<l.length->DO (l.set j d)+l.getD j 0*W^j=DO l+d*W^j
 |[],_,_,h=>by simp at h
 |x::l,0,d,_=>by simp[DO];omega
 |x::l,j+1,d,h=>by
  have ih:=Nl l j d (by simpa using h);simp only[List.set_cons_succ,DO,Dw,Dd];have e:∀t,t*(W^j*W)=W*(t*W^j):=fun t=>by rw[Da (W^j),<-Ev,Da t,Ev]
  rw[e,e,Bm,Bm,<-Ej,<-Ej,ih]
theorem aAt {l:List Nat} {j d k:Nat} (h:j<l.length):(l.set j d).getD k 0=if k=j then d else l.getD k 0:=by
 simp only[List.getD,Ht];by_cases e:j=k
 · subst e;simp[h]
 rw[if_neg e,if_neg (Ne.symm e)]
def LW (n:Nat) (l:List Nat):Prop:=l.length=n/\∀d∈l,d<W
theorem LW.set {n:Nat} {l:List Nat} (h:LW n l) (j:Nat) {d:Nat} (hd:d<W):LW n (l.set j d):=⟨by rw[Eg];exact h.1,fun x hx=>by
 rcases Ju hx with h1|h1
 · exact h.2 x h1
 omega⟩
theorem LW.getD {n:Nat} {l:List Nat} (h:LW n l) (j:Nat):l.getD j 0<W:=by
 by_cases hj:j<l.length
 · rw[List.getD,Ab hj];exact h.2 _ (Ai hj)
 rw[List.getD,Bw (by omega)];decide
theorem LW.lt {n:Nat} {l:List Nat} (h:LW n l):DO l<W^n:=by
 have :=US l h.2
 rwa [h.1] at this
theorem LW.eq {n:Nat} {l:List Nat} (h:LW n l):l=aW n (DO l):=by have :=SY h.2;rw[h.1] at this;exact this.symm
theorem LW.bA {n:Nat} {l:List Nat} (h:LW n l) (k:Nat):bA (DO l) k=l.getD k 0:=JI l k h.2
theorem aCm {o:List Nat} {i k c D P b:Nat} (ho:LW 32 o) (hik:i+k<32) (he:DO o+c*W^(i+k)=P+D*W^i*(b%W^k)):
 let t:=c+D*bA b k+o.getD (i+k) 0
 DO (o.set (i+k) (t%W))+t / W*W^(i+(k+1))=P+D*W^i*(b%W^(k+1)):=by
 intro t;have h1:=Nl o (i+k) (t%W) (by rw[ho.1];exact hik)
 have h2:t / W*W^(i+(k+1))+t%W*W^(i+k)=t*W^(i+k):=by rw[show i+(k+1)=(i+k)+1 by omega,Dd,Da (W^(i+k)),<-Ev,<-Ce,Da (t / W)];rw[Fh]
 have h3:b%W^(k+1)=b%W^k+W^k*bA b k:=mod_succ b k
 have h4:D*W^i*(W^k*bA b k)=D*bA b k*W^(i+k):=by rw[Ks];simp only[Da,Nat.mul_left_comm,Ev]
 have h5:t*W^(i+k)=c*W^(i+k)+D*bA b k*W^(i+k)+o.getD (i+k) 0*W^(i+k):=by show(c+D*bA b k+o.getD (i+k) 0)*_=_;rw[Ce,Ce]
 rw[h3,Ej,h4];omega
theorem aHr {o:List Nat} {i m c D a b:Nat} (ho:LW 32 o) (him:i+m<32) (hb:b<W^m) (hD:D=bA a i) (he:DO o+c*W^(i+m)=a%W^i*b+D*W^i*(b%W^m)) (hz:o.getD (i+m) 0=0):
 DO (o.set (i+m) c)=a%W^(i+1)*b:=by
 have h1:=Nl o (i+m) c (by rw[ho.1];exact him);rw[hz,Ic,Di] at h1;rw[h1,he,Cn hb,mod_succ,hD,Ce,Da (bA a i)]
theorem PZ {m n X:Nat} (h:X<W^n) (hz:∀k,m<=k->k<n->bA X k=0):X<W^m:=by
 have h1:=cu n X h;have h2:=ct n X
 rcases Hg m (j7 n X) with h3|h3
 · rcases Nt n X with h4|h4
   · omega
   exact absurd (hz _ (by omega) (by omega)) h4
 exact Cf h1 (Dq OI h3)
theorem Zm {m n X:Nat} (h:m<=n):(aW n X).take m=aW m X:=by unfold aW;rw[<-List.map_take,List.take_range,Jk h]
theorem Zl {X:Nat} (h:X<W^32):X<W^16↔(aW 32 X).drop 16=List.replicate 16 0:=by
 constructor
 · intro hx;refine Ge (by simp[aW]) fun k h1 h2=>?_;simp only[List.getElem_drop,aW,Co,Im,List.getElem_replicate];exact SX hx (by omega)
 intro e;refine PZ h fun k RI dA=>?_;have :((aW 32 X).drop 16).getD (k -16) 0=0:=by rw[e,List.getD,Fz];split<;>rfl
 rw[List.getD,Ft,show 16+(k -16)=k by omega] at this;have h2:=kI (n:=X) dA;rw[List.getD] at h2;omega
end Go.mO
namespace Go.aG
structure V where
 x:Int
 y:Int
 z:Int
deriving DecidableEq,Inhabited
def dot (a b:V):Int:=a.x*b.x+a.y*b.y+a.z*b.z
def aT (a b:V):V:=⟨a.y*b.z -a.z*b.y,a.z*b.x -a.x*b.z,a.x*b.y -a.y*b.x⟩
def sub (a b:V):V:=⟨a.x-b.x,a.y-b.y,a.z-b.z⟩
def add (a b:V):V:=⟨a.x+b.x,a.y+b.y,a.z+b.z⟩
def smul (c:Int) (a:V):V:=⟨c*a.x,c*a.y,c*a.z⟩
def V0:V:=⟨0,0,0⟩
def dL (n a b:V):Int:=dot n (aT a b)
theorem V.ext' {a b:V} (h1:a.x=b.x) (h2:a.y=b.y) (h3:a.z=b.z):a=b:=by cases a;cases b;simp_all
theorem sq_pos {a:Int} (h:a≠0):0<a*a:=by
 rcases Int.lt_or_gt_of_ne h with h|h
 · exact Int.mul_pos_of_neg_of_neg h h
 exact Jj h h
theorem sq_nonneg (a:Int):0<=a*a:=by
 by_cases h:a=0
 · simp[h]
 exact Int.le_of_lt (sq_pos h)
theorem zZ (a:V):0<=dot a a:=by have :=sq_nonneg a.x;have :=sq_nonneg a.y;have :=sq_nonneg a.z;simp only[dot];omega
theorem cW {a:V} (h:a≠V0):0<dot a a:=by
 have h1:=sq_nonneg a.x;have h2:=sq_nonneg a.y;have h3:=sq_nonneg a.z
 rcases Decidable.em (a.x=0) with hx|hx
 · rcases Decidable.em (a.y=0) with hy|hy
   · rcases Decidable.em (a.z=0) with hz|hz
     · exact absurd (V.ext' hx hy hz) h
     have :=sq_pos hz;simp only[dot];omega
   have :=sq_pos hy;simp only[dot];omega
 have :=sq_pos hx;simp only[dot];omega
theorem RC {a:V} (h:dot a a<=0):a=V0:=
 Fs fun hc=>absurd (cW hc) (by omega)
theorem sub_eq_zero {a b:V} (h:sub a b=V0):a=b:=by have h1:a.x -b.x=0:=Ao V.x h;have h2:a.y -b.y=0:=Ao V.y h;have h3:a.z -b.z=0:=Ao V.z h;exact V.ext' (by omega) (by omega) (by omega)
theorem aVg {a b:V} (h:a≠b):sub a b≠V0:=fun e=>h (sub_eq_zero e)
theorem rJ {c a:Int} (hc:0<c) (h:0<=c*a):0<=a:=by
 rcases Fp a 0 with h'|h'|h'
 · have :=Int.mul_neg_of_pos_of_neg hc h';omega
 · omega
 omega
theorem eC {c a:Int} (hc:0<c) (h:c*a=0):a=0:=by rcases Kl.1 h with h|h<;>omega
theorem FU (n u v w t:V):dL u v w*dot n t=dL n v w*dot u t+dL n w u*dot v t+dL n u v*dot w t:=by
 simp only[dL,dot,aT]
 grind
theorem WA {n u v w:V} (hn:n≠V0) (hu:dot n u=0) (hv:dot n v=0) (hw:dot n w=0):dL u v w=0:=by
 have h:=FU n u v w n;have e:∀a:V,dot a n=dot n a:=fun a=>by simp only[dot];grind
 rw[e u,e v,e w,hu,hv,hw] at h;have :=cW hn;simp only[Hk,Int.add_zero] at h
 rcases Kl.1 h with h|h
 · exact h
 omega
theorem three {n u v w:V} (hn:n≠V0) (hu:dot n u=0) (hv:dot n v=0) (hw:dot n w=0):add (add (smul (dL n v w) u) (smul (dL n w u) v)) (smul (dL n u v) w)=V0:=by
 have h:=WA hn hu hv hw;have hx:dL u v w*n.x=dL n v w*u.x+dL n w u*v.x+dL n u v*w.x:=by simp only[dL,dot,aT];grind
 have hy:dL u v w*n.y=dL n v w*u.y+dL n w u*v.y+dL n u v*w.y:=by simp only[dL,dot,aT];grind
 have hz:dL u v w*n.z=dL n v w*u.z+dL n w u*v.z+dL n u v*w.z:=by simp only[dL,dot,aT];grind
 rw[h,Int.zero_mul] at hx hy hz;exact V.ext' (by simp only[add,smul,V0];omega) (by simp only[add,smul,V0];omega) (by simp only[add,smul,V0];omega)
theorem para {n u v:V} (hn:n≠V0) (hu:dot n u=0) (hv:dot n v=0) (h:dL n u v=0):smul (dot u u) v=smul (dot u v) u:=by
 have hp:=cW hn;have e1:dot n n*(aT u v).x=dL n u v*n.x+dot n v*(n.z*u.y -n.y*u.z) -dot n u*(n.z*v.y -n.y*v.z):=by simp only[dL,dot,aT];grind
 have e2:dot n n*(aT u v).y=dL n u v*n.y+dot n v*(n.x*u.z -n.z*u.x) -dot n u*(n.x*v.z -n.z*v.x):=by simp only[dL,dot,aT];grind
 have e3:dot n n*(aT u v).z=dL n u v*n.z+dot n v*(n.y*u.x -n.x*u.y) -dot n u*(n.y*v.x -n.x*v.y):=by simp only[dL,dot,aT];grind
 rw[hu,hv,h] at e1 e2 e3;have c1:=eC hp (by rw[e1];simp);have c2:=eC hp (by rw[e2];simp);have c3:=eC hp (by rw[e3];simp);simp only[aT] at c1 c2 c3;refine V.ext' ?_ ?_ ?_<;>simp only[smul,dot]<;>grind
structure TN (P:V->Prop):Prop where
 add:∀u v,P u->P v->P (add u v)
 smul:∀c u,0<c->P u->P (smul c u)
 zero:¬P V0
theorem smul_zero (u:V):smul 0 u=V0:=by simp[smul,V0]
theorem add_zero (u:V):add u V0=u:=by simp[add,V0]
theorem zero_add (u:V):add V0 u=u:=by simp[add,V0]
theorem TN.comb {P:V->Prop} (h:TN P) {u v w:V} {a b c:Int} (hu:P u) (hv:P v) (hw:P w) (ha:0<=a) (hb:0<=b) (hc:0<=c) (hz:aG.add (aG.add (aG.smul a u) (aG.smul b v)) (aG.smul c w)=V0):a=0/\b=0/\c=0:=by
 have two:∀{u v:V} {a b:Int},P u->P v->0<=a->0<=b->(a=0/\b=0)\/P (aG.add (aG.smul a u) (aG.smul b v)):=by
  intro u v a b hu hv ha hb;by_cases h1:a=0
  · by_cases h2:b=0
    · exact .inl ⟨h1,h2⟩
    right;subst h1;rw[smul_zero,zero_add];exact h.smul _ _ (by omega) hv
  by_cases h2:b=0
  · right;subst h2;rw[smul_zero,add_zero];exact h.smul _ _ (by omega) hu
  right;exact h.add _ _ (h.smul _ _ (by omega) hu) (h.smul _ _ (by omega) hv)
 rcases two hu hv ha hb with ⟨h1,h2⟩|h1
 · refine⟨h1,h2,?_⟩;by_cases h3:c=0
   · exact h3
   exfalso;subst h1 h2;rw[smul_zero,smul_zero,add_zero,zero_add] at hz;exact h.zero (hz▸h.smul _ _ (by omega) hw)
 exfalso;by_cases h3:c=0
 · subst h3;rw[smul_zero,add_zero] at hz;exact h.zero (hz▸h1)
 exact h.zero (hz▸h.add _ _ h1 (h.smul _ _ (by omega) hw))
theorem OX (f g h:V->Int) (hf:∀u v,f (add u v)=f u+f v) (hg:∀u v,g (add u v)=g u+g v) (hh:∀u v,h (add u v)=h u+h v)
 (hf':∀c u,f (smul c u)=c*f u) (hg':∀c u,g (smul c u)=c*g u) (hh':∀c u,h (smul c u)=c*h u):
 TN fun v=>0<f v\/(f v=0/\(0<g v\/(g v=0/\0<h v))) where
 add u v hu hv:=by simp only[hf,hg,hh];omega
 smul c u hc hu:=by
  simp only[hf',hg',hh']
  rcases hu with hu|⟨h1,hu|⟨h2,hu⟩⟩
  · exact .inl (Jj hc hu)
  · exact .inr ⟨by rw[h1];simp,.inl (Jj hc hu)⟩
  exact .inr ⟨by rw[h1];simp,.inr ⟨by rw[h2];simp,Jj hc hu⟩⟩
 zero:=by
  have z:∀(f:V->Int),(∀c u,f (smul c u)=c*f u)->f V0=0:=fun f hf=>by have :=hf 0 V0;rw[smul_zero] at this;omega
  rw[z f hf',z g hg',z h hh'];omega
section
def vec (p:Nat->V) (a b:Nat):V:=sub (p b) (p a)
def Sd (n:V) (p:Nat->V) (on:List Nat) (a b:Nat):Prop:=
 b∈on/\b≠a/\∀k∈on,0<=dL n (vec p a b) (vec p a k)/\
  (dL n (vec p a b) (vec p a k)=0->0<=dot (vec p a k) (vec p a b)/\dot (vec p a k) (vec p a b)<=dot (vec p a b) (vec p a b))
def Crn (p:Nat->V) (on:List Nat) (a:Nat):Prop:=∃P,TN P/\∀k∈on,k≠a->P (vec p a k)
structure Pl (n:V) (p:Nat->V) (on:List Nat):Prop where
 hn:n≠V0
 inj:∀a∈on,∀b∈on,p a=p b->a=b
 pl:∀a∈on,∀b∈on,dot n (vec p a b)=0
theorem Pl.ne {n:V} {p:Nat->V} {on:List Nat} (h:Pl n p on) {a b:Nat} (ha:a∈on) (hb:b∈on) (EC:b≠a):vec p a b≠V0:=
 aVg fun e=>EC (h.inj b hb a ha e)
theorem BE (n u:V):dL n u u=0:=by simp only[dL,dot,aT];grind
theorem BC (n u v:V):dL n v u= -dL n u v:=by simp only[dL,dot,aT];grind
theorem jL (u v:V):dot u v=dot v u:=by simp only[dot];grind
theorem ei (n u v w:V):dL n u (add v w)=dL n u v+dL n u w:=by simp only[dL,dot,aT,add];grind
theorem Vy (n u v:V) (c:Int):dL n u (smul c v)=c*dL n u v:=by simp only[dL,dot,aT,smul];grind
theorem eo (u v w:V):dot u (add v w)=dot u v+dot u w:=by simp only[dot,add];grind
theorem WD (u v:V) (c:Int):dot u (smul c v)=c*dot u v:=by simp only[dot,smul];grind
theorem mh (n e:V):TN fun v=>0<dL n e v\/(dL n e v=0/\0<dot e v):=by have h:=OX (dL n e) (dot e) (fun _=>0) (ei n e) (eo e) (fun _ _=>rfl) (fun c u=>Vy n e u c) (fun c u=>WD e u c) (fun c _=>by simp);simpa using h
theorem Yh (n e:V):TN fun v=>0<dL n e v\/(dL n e v=0/\dot e v<0):=by have h:=OX (dL n e) (fun v=> -dot e v) (fun _=>0) (ei n e) (fun u v=>by rw[eo];omega) (fun _ _=>rfl) (fun c u=>Vy n e u c) (fun c u=>by rw[WD,Int.mul_neg]) (fun c _=>by simp);simpa using h
theorem zt:TN fun v=>0<v.x\/(v.x=0/\(0<v.y\/(v.y=0/\0<v.z))):=
 OX V.x V.y V.z (fun _ _=>rfl) (fun _ _=>rfl) (fun _ _=>rfl) (fun _ _=>rfl) (fun _ _=>rfl) (fun _ _=>rfl)
theorem uS {c:Int} (hc:c≠0) {u v:V} (h:smul c u=smul c v):u=v:=by have h1:c*u.x=c*v.x:=Ao V.x h;have h2:c*u.y=c*v.y:=Ao V.y h;have h3:c*u.z=c*v.z:=Ao V.z h;exact V.ext' (Jv hc h1) (Jv hc h2) (Jv hc h3)
variable {n:V} {p:Nat->V} {on:List Nat}
theorem OY (H:Pl n p on) {P:V->Prop} (hP:TN P) {u v w:V} (hu:dot n u=0) (hv:dot n v=0) (hw:dot n w=0) (pu:P u) (pv:P v) (pw:P w)
 (h1:0<=dL n u v) (h2:0<=dL n v w):0<=dL n u w/\(0<dL n u v\/0<dL n v w->0<dL n u w):=by
 have h:=three H.hn hu hv hw;have a:=BC n u w;by_cases h3:0<dL n u w
 · exact⟨by omega,fun _=>h3⟩
 obtain⟨c1,c2,c3⟩:=hP.comb pu pv pw h2 (by omega) h1 h;exact⟨by omega,fun _=>by omega⟩
theorem Rk (H:Pl n p on) {P:V->Prop} (hP:TN P) {u v:V} (hu:dot n u=0) (hv:dot n v=0) (pu:P u) (pv:P v) (h:dL n u v=0):0<dot u v:=by
 have h1:=para H.hn hu hv h;have hu0:u≠V0:=fun e=>hP.zero (e▸pu);have :=cW hu0;have e1:=Ao V.x h1;have e2:=Ao V.y h1;have e3:=Ao V.z h1;simp only[smul] at e1 e2 e3;by_cases h2:0<dot u v
 · exact h2
 exfalso;have z:=hP.comb (a:=dot u u) (b:= -dot u v) (c:=0) pv pu pu (by omega) (by omega) (by omega) (V.ext' (by simp only[add,smul,V0,Ji];omega) (by simp only[add,smul,V0,Ji];omega) (by simp only[add,smul,V0,Ji];omega));omega
theorem JF (n u v:V) (hu:dot n u=0) (hv:dot n v=0):dot n n*(dot u u*dot v v -dot u v*dot u v)=dL n u v*dL n u v:=by
 simp only[dL,dot,aT] at *
 grind
theorem aQy {n u v:V} (hn:n≠V0) (hu:dot n u=0) (hv:dot n v=0) (h:dL n u v=0) (hl:dot v v<=dot u u):dot u v<=dot u u:=by
 have h1:=JF n u v hu hv;rw[h] at h1;have h2:=eC (cW hn) (by rw[h1];simp);have h3:=zZ u;by_cases h4:dot u v<=dot u u
 · exact h4
 exfalso;have h5:dot u u*dot u v<dot u v*dot u v:=Hw (by omega) (by omega);have h6:dot u u*dot v v<=dot u u*dot u v:=Fb (by omega) h3;omega
theorem Sd.crn (H:Pl n p on) {a b:Nat} (ha:a∈on) (h:Sd n p on a b):Crn p on a:=by
 refine⟨_,mh n (vec p a b),fun k hk Mi=>?_⟩;obtain⟨h1,h2⟩:=h.2.2 k hk
 rcases Fl h1 with h1|h1
 · exact .inl h1
 refine .inr ⟨h1.symm,?_⟩;obtain⟨h3,h4⟩:=h2 h1.symm;rw[jL] at h3
 rcases Fl h3 with h3|h3
 · exact h3
 exfalso;have e:=para H.hn (H.pl a ha b h.1) (H.pl a ha k hk) h1.symm;rw[<-h3,smul_zero] at e;have bN:=cW (H.ne ha h.1 h.2.1);exact H.ne ha hk Mi (uS (c:=dot (vec p a b) (vec p a b)) (by omega) (by rw[e];simp[smul,V0]))
theorem zX (p:Nat->V) (a b k:Nat):vec p b k=sub (vec p a k) (vec p a b):=by simp only[vec,sub];refine V.ext' ?_ ?_ ?_<;>simp only <;>omega
theorem Vz (n u v w:V):dL n u (sub v w)=dL n u v -dL n u w:=by simp only[dL,dot,aT,sub];grind
theorem aAg (u v w:V):dot u (sub v w)=dot u v -dot u w:=by simp only[dot,sub];grind
theorem Sd.next (H:Pl n p on) {a b:Nat} (ha:a∈on) (h:Sd n p on a b):Crn p on b:=by
 refine⟨_,Yh n (vec p a b),fun k hk hkb=>?_⟩;obtain⟨h1,h2⟩:=h.2.2 k hk;rw[zX p a b k,Vz,aAg,BE,jL _ (vec p a k)]
 rcases Fl h1 with h1|h1
 · exact .inl (by omega)
 refine .inr ⟨by omega,?_⟩;obtain⟨h3,h4⟩:=h2 h1.symm
 rcases Fl h4 with h4|h4
 · omega
 exfalso;have e:=para H.hn (H.pl a ha b h.1) (H.pl a ha k hk) h1.symm;rw[jL _ (vec p a k),h4] at e;have bN:=cW (H.ne ha h.1 h.2.1);have :=uS (by omega) e;refine hkb (H.inj k hk b h.1 ?_);simp only[vec,sub,V.mk.injEq] at this;exact V.ext' (by omega) (by omega) (by omega)
theorem Sd.uniq (H:Pl n p on) {a b c:Nat} (ha:a∈on) (h:Sd n p on a b) (h':Sd n p on a c):b=c:=by
 obtain⟨h1,h2⟩:=h.2.2 c h'.1;obtain⟨h3,h4⟩:=h'.2.2 b h.1;rw[BC] at h3;have hz:dL n (vec p a b) (vec p a c)=0:=by omega
 obtain⟨k1,k2⟩:=h2 hz;obtain⟨k3,k4⟩:=h4 (by rw[BC];omega);have e:=para H.hn (H.pl a ha b h.1) (H.pl a ha c h'.1) hz;have hl:=JF n (vec p a b) (vec p a c) (H.pl a ha b h.1) (H.pl a ha c h'.1);rw[hz] at hl;have hl:=eC (cW H.hn) (by rw[hl];simp);have bN:=cW (H.ne ha h.1 h.2.1);have hnc:=cW (H.ne ha h'.1 h'.2.1);rw[jL] at k1 k2;generalize hm:dot (vec p a b) (vec p a c)=m at *;generalize hB:dot (vec p a b) (vec p a b)=B at *;generalize hC:dot (vec p a c) (vec p a c)=C at *
 have e1:m=B:=by
  have q1:B*m<=B*C:=Fb (by omega) (by omega);by_cases hmB:m=B
  · exact hmB
  exfalso;by_cases JA:m=0
  · subst JA;have :=Jj bN hnc;omega
  have :m*m<B*m:=Hw (by omega) (by omega);omega
 rw[e1] at e;have :=uS (by omega) e;refine(H.inj c h'.1 b h.1 ?_).symm;simp only[vec,sub,V.mk.injEq] at this;exact V.ext' (by omega) (by omega) (by omega)
theorem Sd.inj (H:Pl n p on) {a b c:Nat} (ha:a∈on) (hb:b∈on) (h:Sd n p on a c) (h':Sd n p on b c):a=b:=by
 obtain⟨h1,h2⟩:=h.2.2 b hb;obtain⟨h3,h4⟩:=h'.2.2 a ha
 have e:dL n (vec p b c) (vec p b a)= -dL n (vec p a c) (vec p a b):=by simp only[vec,dL,dot,aT,sub];grind
 have hz:dL n (vec p a c) (vec p a b)=0:=by omega
 obtain⟨k1,k2⟩:=h2 hz;obtain⟨k3,k4⟩:=h4 (by omega);have hl:=JF n (vec p a c) (vec p a b) (H.pl a ha c h.1) (H.pl a ha b hb);rw[hz] at hl;have hl:=eC (cW H.hn) (by rw[hl];simp);have hp:=para H.hn (H.pl a ha c h.1) (H.pl a ha b hb) hz;have hE:=cW (H.ne ha h.1 h.2.1)
 have e2:dot (vec p b a) (vec p b c)=dot (vec p a b) (vec p a b) -dot (vec p a b) (vec p a c):=by simp only[vec,dot,sub];grind
 rw[jL (vec p a c) (vec p a b)] at hl hp;generalize hm:dot (vec p a b) (vec p a c)=m at *;generalize hB:dot (vec p a b) (vec p a b)=B at *;generalize hC:dot (vec p a c) (vec p a c)=C at *
 have q:m=0\/m=C:=by
  by_cases JA:m=0
  · exact .inl JA
  right;by_cases hmC:m=C
  · exact hmC
  exfalso;have q1:m*m<C*m:=Hw (by omega) (by omega);have q2:C*m<=C*B:=Fb (by omega) (by omega);omega
 rcases q with q|q
 · rw[q,smul_zero] at hp;have :vec p a b=V0:=uS (c:=C) (by omega) (by rw[hp];simp[smul,V0]);exact(H.inj b hb a ha (sub_eq_zero this)).symm
 rw[q] at hp;have :=uS (c:=C) (by omega) hp;exfalso;refine h'.2.1 (H.inj c h.1 b hb ?_);simp only[vec,sub,V.mk.injEq] at this;exact V.ext' (by omega) (by omega) (by omega)
end
section
variable {n:V} {p:Nat->V} {on:List Nat}
def vO (x:Int):Int:=if x<0 then -1 else if 0<x then 1 else 0
theorem Ur {x:Int}:vO x<0↔x<0:=by unfold vO;split<;>(try split)<;>omega
theorem QN {x:Int}:vO x=0↔x=0:=by unfold vO;split<;>(try split)<;>omega
theorem Uq (x y:Int):vO (x*y)=vO x*vO y:=by
 rcases Fp x 0 with h|h|h
 · rcases Fp y 0 with k|k|k
   · have :=Int.mul_pos_of_neg_of_neg h k;simp only[vO,h,k,if_true,if_neg (show ¬x*y<0 by omega),this];rfl
   · subst k;simp[vO]
   have :=Int.mul_neg_of_neg_of_pos h k;simp only[vO,h,this,k,if_true,if_neg (show ¬y<0 by omega)];rfl
 · subst h;simp[vO]
 rcases Fp y 0 with k|k|k
 · have :=Int.mul_neg_of_pos_of_neg h k;simp only[vO,h,this,k,if_true,if_neg (show ¬x<0 by omega)];rfl
 · subst k;simp[vO]
 have :=Jj h k;simp only[vO,h,this,k,if_true,if_neg (show ¬x<0 by omega),if_neg (show ¬y<0 by omega),if_neg (show ¬x*y<0 by omega)];rfl
theorem jx {x:Int} (h:0<x):vO x=1:=by simp[vO,h,show ¬x<0 by omega]
def sX (n c:V):Int:=if n.x≠0 then vO c.x*vO n.x else if n.y≠0 then vO c.y*vO n.y else if n.z≠0 then vO c.z*vO n.z else 0
theorem Ut {a b:V} (hn:n≠V0) (ha:dot n a=0) (hb:dot n b=0):sX n (aT a b)=vO (dL n a b):=by
 have hp:=cW hn;have e1:dot n n*(aT a b).x=dL n a b*n.x+dot n b*(n.z*a.y -n.y*a.z) -dot n a*(n.z*b.y -n.y*b.z):=by simp only[dL,dot,aT];grind
 have e2:dot n n*(aT a b).y=dL n a b*n.y+dot n b*(n.x*a.z -n.z*a.x) -dot n a*(n.x*b.z -n.z*b.x):=by simp only[dL,dot,aT];grind
 have e3:dot n n*(aT a b).z=dL n a b*n.z+dot n b*(n.y*a.x -n.x*a.y) -dot n a*(n.y*b.x -n.x*b.y):=by simp only[dL,dot,aT];grind
 rw[ha,hb] at e1 e2 e3
 have key:∀c m:Int,m≠0->dot n n*c=dL n a b*m+0*0 -0->vO c*vO m=vO (dL n a b):=by
  intro c m hm e;have h1:vO (dot n n*c*m)=vO (dL n a b*(m*m)):=by rw[e];congr 1;grind
  rw[Uq,Uq,Uq (dL n a b),jx hp,jx (sq_pos hm)] at h1;simpa using h1
 unfold sX;split
 · rename_i h;exact key _ _ h (by omega)
 split
 · rename_i h;exact key _ _ h (by omega)
 split
 · rename_i h;exact key _ _ h (by omega)
 rename_i h1 h2 h3;exact absurd (V.ext' (by simpa [V0] using h1) (by simpa [V0] using h2) (by simpa [V0] using h3)) hn
def better (n:V) (p:Nat->V) (a b k:Nat):Bool:=
 decide (sX n (aT (vec p a b) (vec p a k))<0)||(decide (sX n (aT (vec p a b) (vec p a k))=0)&&decide (dot (vec p a k) (vec p a k)>dot (vec p a b) (vec p a b)))
def gL (n:V) (p:Nat->V) (a:Nat) (yK:Option Nat) (k:Nat):Option Nat:=
 if k=a then yK else match yK with
  |none=>some k
  |some b=>if better n p a b k then some k else some b
def Mu (n:V) (p:Nat->V) (on:List Nat) (a:Nat):Option Nat:=on.foldl (gL n p a) none
theorem uD (H:Pl n p on) {a b k:Nat} (ha:a∈on) (hb:b∈on) (hk:k∈on):
 better n p a b k=true↔dL n (vec p a b) (vec p a k)<0\/(dL n (vec p a b) (vec p a k)=0/\dot (vec p a b) (vec p a b)<dot (vec p a k) (vec p a k)):=by
 unfold better;rw[Ut H.hn (H.pl a ha b hb) (H.pl a ha k hk)];simp only[Dt,Am,Bh,Ur,QN]
theorem qt (H:Pl n p on) {a:Nat} (ha:a∈on) (hc:Crn p on a):∀(l:List Nat) (done:List Nat) (yK:Option Nat),(∀k∈l,k∈on)->(∀k∈done,k∈on)->
 (match yK with|none=>∀k∈done,k=a|some b=>b∈on/\b≠a/\∀k∈done,k≠a->better n p a b k=false)->
 match l.foldl (gL n p a) yK with|none=>∀k∈done++l,k=a|some b=>b∈on/\b≠a/\∀k∈done++l,k≠a->better n p a b k=false:=by
 obtain⟨P,hP,gD⟩:=hc
 have refl:∀k∈on,better n p a k k=false:=fun k hk=>by
  have :=uD H ha hk hk;rw[BE] at this
  cases hb:better n p a k k with
  |false=>rfl
  |true=>have :=this.1 hb;omega
 intro l
 induction l with
 |nil=>intro done yK _ _ h;simpa using h
 |cons k l ih=>
  intro done yK hl hd h;have hk:k∈on:=hl k (by simp);have :=ih (done++[k]) (gL n p a yK k) (fun x hx=>hl x (by simp[hx])) (fun x hx=>by simp only[As,Bq] at hx;exact hx.elim (hd x) fun e=>e▸hk) ?_
  · simpa using this
  unfold gL;by_cases Mi:k=a
  · subst Mi;simp only[if_true]
    cases yK with
    |none=>intro x hx;simp only[As,Bq] at hx;exact hx.elim (h x) id
    |some b=>
     refine⟨h.1,h.2.1,fun x hx YK=>?_⟩;simp only[As,Bq] at hx
     rcases hx with hx|rfl
     · exact h.2.2 x hx YK
     exact absurd rfl YK
  simp only[Mi,Cm]
  cases yK with
  |none=>
   refine⟨hk,Mi,fun x hx YK=>?_⟩;simp only[As,Bq] at hx
   rcases hx with hx|rfl
   · exact absurd (h x hx) YK
   exact refl _ hk
  |some b=>
   obtain⟨hb,hba,ER⟩:=h;dsimp only;by_cases hbk:better n p a b k=true
   · rw[if_pos hbk];refine⟨hk,Mi,fun x hx YK=>?_⟩;simp only[As,Bq] at hx
     rcases hx with hx|rfl
     · have h1:=ER x hx YK;have xd:=hd x hx;have i1:=(uD H ha hb hk).1 hbk
       have i2:¬(dL n (vec p a b) (vec p a x)<0\/(dL n (vec p a b) (vec p a x)=0/\dot (vec p a b) (vec p a b)<dot (vec p a x) (vec p a x))):=fun h=>by rw[(uD H ha hb xd).2 h] at h1;cases h1
       cases hkx:better n p a k x with
       |false=>rfl
       |true=>
        exfalso;have i3:=(uD H ha hk xd).1 hkx;have a1:=BC n (vec p a b) (vec p a k);obtain⟨t1,t2⟩:=OY H hP (H.pl a ha k hk) (H.pl a ha b hb) (H.pl a ha x xd) (gD k hk Mi) (gD b hb hba) (gD x xd YK) (by omega) (by omega);by_cases hz:dL n (vec p a k) (vec p a b)=0
        · by_cases hz2:dL n (vec p a b) (vec p a x)=0
          · omega
          have :=t2 (.inr (by omega));omega
        have :=t2 (.inl (by omega));omega
     exact refl _ hk
   rw[if_neg hbk];refine⟨hb,hba,fun x hx YK=>?_⟩;simp only[As,Bq] at hx
   rcases hx with hx|rfl
   · exact ER x hx YK
   simpa using hbk
theorem XC (H:Pl n p on) {a:Nat} (ha:a∈on) (hc:Crn p on a) (hm:∃k∈on,k≠a):∃b,Mu n p on a=some b/\Sd n p on a b:=by
 have h:=qt H ha hc on [] none (fun _ h=>h) (fun k hk=>by cases hk) (fun k hk=>by cases hk);unfold Mu;split at h
 · obtain⟨k,hk,Mi⟩:=hm;exact absurd (h k (by simpa using hk)) Mi
 rename_i b hb;refine⟨b,hb,h.1,h.2.1,fun k hk=>?_⟩;obtain⟨P,hP,gD⟩:=hc;by_cases Mi:k=a
 · subst Mi;have :vec p k k=V0:=by simp[vec,sub,V0]
   rw[this];have hq:=zZ (vec p k b);constructor
   · simp[dL,dot,aT,V0]
   intro _;constructor<;>simp[dot,V0]<;>simpa [dot] using hq
 have h1:=h.2.2 k (by simpa using hk) Mi
 have i2:¬(dL n (vec p a b) (vec p a k)<0\/(dL n (vec p a b) (vec p a k)=0/\dot (vec p a b) (vec p a b)<dot (vec p a k) (vec p a k))):=fun hh=>by rw[(uD H ha h.1 hk).2 hh] at h1;cases h1
 refine⟨by omega,fun hz=>?_⟩;have q:=Rk H hP (H.pl a ha b h.1) (H.pl a ha k hk) (gD b h.1 h.2.1) (gD k hk Mi) hz;rw[jL];exact⟨by omega,aQy H.hn (H.pl a ha b h.1) (H.pl a ha k hk) hz (by omega)⟩
def NG (n:V) (p:Nat->V) (on:List Nat) (a b:Nat):Bool:=on.all fun k=>!(decide (sX n (aT (vec p a b) (vec p a k))<0)||(decide (sX n (aT (vec p a b) (vec p a k))=0)&&(decide (dot (vec p a k) (vec p a b)<0)||decide (dot (vec p a k) (vec p a b)>dot (vec p a b) (vec p a b)))))
theorem TC (H:Pl n p on) {a b:Nat} (ha:a∈on) (hb:b∈on) (hba:b≠a):NG n p on a b=true↔Sd n p on a b:=by
 unfold NG Sd;simp only[Ba];constructor
 · intro h;refine⟨hb,hba,fun k hk=>?_⟩;have :=h k hk;rw[Ut H.hn (H.pl a ha b hb) (H.pl a ha k hk)] at this;simp only[Ct,Kz,Kn,Cc,Ur,QN] at this;omega
 intro h k hk;have :=h.2.2 k hk;rw[Ut H.hn (H.pl a ha b hb) (H.pl a ha k hk)];simp only[Ct,Kz,Kn,Cc,Ur,QN];omega
def Si (n:V) (p:Nat->V) (on:List Nat) (a:Nat):Option Nat:=on.find? fun k=>decide (k≠a)&&NG n p on a k
theorem aCn (H:Pl n p on) {a b:Nat} (ha:a∈on) (h:Sd n p on a b):Si n p on a=some b:=by
 unfold Si
 cases hf:on.find? fun k=>decide (k≠a)&&NG n p on a k with
 |none=>have :=Io.1 hf b h.1;simp[h.2.1,(TC H ha h.1 h.2.1).2 h] at this
 |some c=>have h1:=List.find?_some hf;have h2:=List.mem_of_find?_eq_some hf;simp only[Am,Bh] at h1;rw[Sd.uniq H ha ((TC H ha h2 h1.1).1 h1.2) h]
end
section
variable {n:V} {p:Nat->V} {on:List Nat}
def iter (f:Nat->Nat):Nat->Nat->Nat
 |0,s=>s
 |i+1,s=>f (iter f i s)
theorem Sj:∀(l on:List Nat),l.Nodup->(∀x∈l,x∈on)->l.length<=on.length
 |[],_,_,_=>Bb _
 |x::l,on,hn,h=>by rw[Kj] at hn;have h1:=Sj l (on.erase x) hn.2 fun y hy=>(List.mem_erase_of_ne fun e=>hn.1 (by rw[<-e];exact hy)).2 (h y (by simp[hy]));have h2:=List.length_erase_of_mem (h x (by simp));have h3:0<on.length:=List.length_pos_of_mem (h x (by simp));simp only[Ah];omega
theorem aVw {A:Nat->Prop} {f:Nat->Nat} (on:List Nat) (hA:∀a,A a->a∈on) (hf:∀a,A a->A (f a)) (hi:∀a b,A a->A b->f a=f b->a=b) {s:Nat} (hs:A s):
 ∃m,0<m/\m<=on.length/\iter f m s=s/\(∀i,0<i->i<m->iter f i s≠s)/\∀i,A (iter f i s):=by
 have dB:∀i,A (iter f i s):=fun i=>by
  induction i with
  |zero=>exact hs
  |succ i ih=>exact hf _ ih
 have back:∀i d,iter f i s=iter f (i+d) s->iter f d s=s:=fun i=>by
  induction i with
  |zero=>intro d h;rw[Df] at h;exact h.symm
  |succ i ih=>intro d h;refine ih d (hi _ _ (dB _) (dB _) ?_);rw[show i+1+d=(i+d)+1 by omega] at h;exact h
 have ex:∃m,0<m/\m<=on.length/\iter f m s=s:=by
  refine Cp fun hc=>?_
  have hd:((List.range (on.length+1)).map fun i=>iter f i s).Nodup:=by rw[List.Nodup,Iv];refine Jw ?_ Kf;intro i j hi hj AE e;simp only[Bi] at hi hj;exact hc ⟨j -i,by omega,by omega,back i (j -i) (by rw[show i+(j -i)=j by omega];exact e)⟩
  have :=Sj _ on hd (fun x hx=>by
   simp only[Bf] at hx;obtain⟨i,_,rfl⟩:=hx
   exact hA _ (dB i))
  simp at this;omega
 have least:∀(k m:Nat),m<=k->0<m->m<=on.length->iter f m s=s->∃m,0<m/\m<=on.length/\iter f m s=s/\∀i,0<i->i<m->iter f i s≠s:=by
  intro k
  induction k with
  |zero=>intro m h1 h2;omega
  |succ k ih=>
   intro m h1 h2 h3 h4;by_cases hc:∃i,0<i/\i<m/\iter f i s=s
   · obtain⟨i,i1,i2,i3⟩:=hc;exact ih i (by omega) i1 (by omega) i3
   exact⟨m,h2,h3,h4,fun i i1 i2 e=>hc ⟨i,i1,i2,e⟩⟩
 obtain⟨m,h1,h2,h3⟩:=ex;obtain⟨m,h1,h2,h3,h4⟩:=least m m (Ak _) h1 h2 h3;exact⟨m,h1,h2,h3,h4,dB⟩
structure Way (n:V) (p:Nat->V) (on:List Nat) (s m:Nat) (f:Nat->Nat):Prop where
 H:Pl n p on
 hs:s∈on
 pos:0<m
 le:m<=on.length
 back:iter f m s=s
 first:∀i,0<i->i<m->iter f i s≠s
 side:∀i,iter f i s∈on/\Sd n p on (iter f i s) (iter f (i+1) s)
def vB (n:V) (p:Nat->V) (on:List Nat) (a:Nat):Nat:=(Mu n p on a).getD 0
theorem way (H:Pl n p on) {s:Nat} (hs:s∈on) (hc:Crn p on s) (hm:∀a∈on,∃k∈on,k≠a):∃m,Way n p on s m (vB n p on):=by
 have hS:∀a,a∈on/\Crn p on a->Sd n p on a (vB n p on a):=fun a ⟨ha,hc⟩=>by obtain⟨b,h1,h2⟩:=XC H ha hc (hm a ha);unfold vB;rw[h1];exact h2
 obtain⟨m,h1,h2,h3,h4,h5⟩:=aVw (A:=fun a=>a∈on/\Crn p on a) (f:=vB n p on) on (fun a h=>h.1) (fun a h=>⟨(hS a h).1,(hS a h).next H h.1⟩)
  (fun a b ha hb e=>Sd.inj H ha.1 hb.1 (hS a ha) (by rw[e];exact hS b hb)) ⟨hs,hc⟩
 exact⟨m,H,hs,h1,h2,h3,h4,fun i=>⟨(h5 i).1,hS _ (h5 i)⟩⟩
theorem Way.cover {s m:Nat} {f:Nat->Nat} (W:Way n p on s m f) {a b:Nat} (ha:a∈on) (h:Sd n p on a b):∃i,i<m/\iter f i s=a:=by
 refine Cp fun hc=>?_
 have bN:∀i,iter f i s≠a:=by
  have :∀i,i<m->iter f i s≠a:=fun i hi e=>hc ⟨i,hi,e⟩
  have per:∀i,∃j,j<m/\iter f i s=iter f j s:=fun i=>by
   induction i with
   |zero=>exact⟨0,W.pos,rfl⟩
   |succ i ih=>
    obtain⟨j,hj,e⟩:=ih;by_cases hjm:j+1<m
    · exact⟨j+1,hjm,by simp only[iter];rw[e]⟩
    refine⟨0,W.pos,?_⟩;have :j+1=m:=(by omega);simp only[iter];rw[e];have h2:=W.back;rw[<-this] at h2;exact h2
  intro i e;obtain⟨j,hj,e2⟩:=per i;exact this j hj (e2.symm.trans e)
 obtain⟨P,hP,gD⟩:=h.crn W.H ha;have hPi:∀i,P (vec p a (iter f i s)):=fun i=>gD _ (W.side i).1 (bN i);have nP:∀i,dot n (vec p a (iter f i s))=0:=fun i=>W.H.pl a ha _ (W.side i).1
 have left:∀i,0<dL n (vec p a (iter f i s)) (vec p a (iter f (i+1) s)):=by
  intro i;obtain⟨hx,hS⟩:=W.side i;generalize hxi:iter f i s=x at *;generalize hyi:iter f (i+1) s=y at *;have e:dL n (vec p x y) (vec p x a)=dL n (vec p a x) (vec p a y):=by simp only[vec,dL,dot,aT,sub];grind
  obtain⟨h1,h2⟩:=hS.2.2 a ha;rw[e] at h1 h2;have YK:x≠a:=by rw[<-hxi];exact bN i
  have hya:y≠a:=by rw[<-hyi];exact bN (i+1)
  rcases Fl h1 with h1|h1
  · exact h1
  exfalso;obtain⟨h3,h4⟩:=h2 h1.symm;have px:P (vec p a x):=gD x hx YK;have py:P (vec p a y):=gD y hS.1 hya;have hd:=Rk W.H hP (W.H.pl a ha x hx) (W.H.pl a ha y hS.1) px py h1.symm;have hp:=para W.H.hn (W.H.pl a ha x hx) (W.H.pl a ha y hS.1) h1.symm;have hu0:=cW (W.H.ne ha hx YK);have e5:dot (vec p x a) (vec p x y)=dot (vec p a x) (vec p a x) -dot (vec p a x) (vec p a y):=by simp only[vec,dot,sub];grind
  have e6:dot (vec p x y) (vec p x y)=dot (vec p a x) (vec p a x) -2*dot (vec p a x) (vec p a y)+dot (vec p a y) (vec p a y):=by simp only[vec,dot,sub];grind
  have hl:=JF n _ _ (W.H.pl a ha x hx) (W.H.pl a ha y hS.1);rw[<-h1] at hl;have hl:=eC (cW W.H.hn) (by rw[hl];simp);rw[e5] at h3 h4;rw[e6] at h4;generalize hA:dot (vec p a x) (vec p a x)=A at *;generalize hB:dot (vec p a x) (vec p a y)=B at *;generalize hC:dot (vec p a y) (vec p a y)=C at *
  have :B=A:=by
   by_cases hBA:B=A
   · exact hBA
   exfalso;have q1:B*B<A*B:=Hw (by omega) hd;have q2:A*B<=A*C:=Fb (by omega) (by omega);omega
  rw[this] at hp;have e7:=uS (c:=A) (by omega) hp;refine hS.2.1 (W.H.inj y hS.1 x hx ?_);simp only[vec,sub,V.mk.injEq] at e7;exact V.ext' (by omega) (by omega) (by omega)
 have chain:∀i,0<dL n (vec p a s) (vec p a (iter f (i+1) s)):=by
  intro i
  induction i with
  |zero=>exact left 0
  |succ i ih=>exact(OY W.H hP (nP 0) (nP (i+1)) (nP (i+2)) (hPi 0) (hPi (i+1)) (hPi (i+2)) (Int.le_of_lt ih) (Int.le_of_lt (left (i+1)))).2 (.inl ih)
 have :=chain (m -1);rw[show m -1+1=m from Nat.succ_pred_eq_of_pos W.pos,W.back,BE] at this;omega
end
section
def jP (p:Nat->V) (N:Nat) (n:V) (d:Int):List Nat:=(List.range N).filter fun k=>decide (dot n (p k)=d)
theorem dN {p:Nat->V} {N:Nat} {n:V} {d:Int} {k:Nat}:k∈jP p N n d↔k<N/\dot n (p k)=d:=by simp[jP]
structure xw (p:Nat->V) (N:Nat) (n:V) (d:Int):Prop where
 hn:n≠V0
 le:∀k,k<N->dot n (p k)<=d
 lt:∃k,k<N/\dot n (p k)<d
 tri:∃a∈jP p N n d,∃b∈jP p N n d,∃c∈jP p N n d,dL n (vec p a b) (vec p a c)≠0
def gW (a b:V):Prop:=a.x<b.x\/(a.x=b.x/\(a.y<b.y\/(a.y=b.y/\a.z<b.z)))
def xk (p:Nat->V) (N:Nat):Prop:=∀i j,i<j->j<N->gW (p i) (p j)
variable {p:Nat->V} {N:Nat} {n:V} {d:Int}
theorem xk.inj (A:xk p N) {i j:Nat} (hi:i<N) (hj:j<N) (h:p i=p j):i=j:=by
 rcases It i j with h1|h1|h1
 · have :=A i j h1 hj;rw[h] at this;unfold gW at this;omega
 · exact h1
 have :=A j i h1 hi;rw[h] at this;unfold gW at this;omega
theorem nN (n:V) (p:Nat->V) (a b:Nat):dot n (vec p a b)=dot n (p b) -dot n (p a):=by simp only[dot,vec,sub];grind
theorem xw.pl (A:xk p N) (F:xw p N n d):Pl n p (jP p N n d) where
 hn:=F.hn
 inj a ha b hb h:=A.inj (dN.1 ha).1 (dN.1 hb).1 h
 pl a ha b hb:=by rw[nN,(dN.1 ha).2,(dN.1 hb).2];omega
theorem xw.more (F:xw p N n d) (a:Nat):∃k∈jP p N n d,k≠a:=by obtain⟨x,hx,y,hy,z,hz,h⟩:=F.tri;refine Cp fun hc=>?_;have e:∀k∈jP p N n d,k=a:=fun k hk=>Cp fun h=>hc ⟨k,hk,h⟩;rw[e x hx,e y hy,e z hz,BE] at h;exact h rfl
theorem xw.head (F:xw p N n d):∃s r,jP p N n d=s::r:=by
 obtain⟨k,hk,_⟩:=F.more 0
 cases h:jP p N n d with
 |nil=>rw[h] at hk;cases hk
 |cons s r=>exact⟨s,r,rfl⟩
theorem Pq (p:Nat->V) (N:Nat) (n:V) (d:Int):(jP p N n d).Pairwise (· < ·):=List.Pairwise.filter _ Kf
theorem rp (A:xk p N) {s:Nat} {r:List Nat} (h:jP p N n d=s::r):Crn p (jP p N n d) s:=by
 refine⟨_,zt,fun k hk hks=>?_⟩;have hs:=Pq p N n d;have hkN:=(dN.1 hk).1;rw[h] at hk hs;simp only[Aq] at hk
 rcases hk with hk|hk
 · exact absurd hk hks
 have h1:=(Cr.1 hs).1 k hk;have :=A s k h1 hkN;unfold gW at this;simp only[vec,sub];omega
theorem xw.way (A:xk p N) (F:xw p N n d) {s:Nat} {r:List Nat} (h:jP p N n d=s::r):∃m,Way n p (jP p N n d) s m (vB n p (jP p N n d)):=
 aG.way (F.pl A) (by rw[h];simp) (rp A h) fun a _=>F.more a
theorem Way.aVq (F:xw p N n d) {s m:Nat} {f:Nat->Nat} (W:Way n p (jP p N n d) s m f) (i:Nat):
 0<dL n (vec p (iter f i s) (iter f (i+1) s)) (vec p (iter f i s) (iter f (i+2) s)):=by
 obtain⟨hx,hS⟩:=W.side i;obtain⟨hy,hT⟩:=W.side (i+1);generalize iter f i s=x at *;generalize iter f (i+1) s=y at *;rw[show i+1+1=i+2 from rfl] at hT;generalize iter f (i+2) s=z at *;obtain⟨h1,h2⟩:=hS.2.2 z hT.1
 rcases Fl h1 with h1|h1
 · exact h1
 exfalso;obtain⟨h3,h4⟩:=h2 h1.symm;have hp:=para W.H.hn (W.H.pl x hx y hS.1) (W.H.pl x hx z hT.1) h1.symm;have hE:=cW (W.H.ne hx hS.1 hS.2.1);rw[jL (vec p x z)] at h3 h4
 have h5:dot (vec p x y) (vec p x z)<dot (vec p x y) (vec p x y):=by
  rcases Fl h4 with h4|h4
  · exact h4
  exfalso;rw[h4] at hp;have e7:=uS (c:=dot (vec p x y) (vec p x y)) (by omega) hp;refine hT.2.1 (W.H.inj z hT.1 y hS.1 ?_);simp only[vec,sub,V.mk.injEq] at e7;exact V.ext' (by omega) (by omega) (by omega)
 have flat:∀k∈jP p N n d,dL n (vec p x y) (vec p x k)=0:=by
  intro k hk;have g1:=(hS.2.2 k hk).1;have g2:=(hT.2.2 k hk).1
  have e1:smul (dot (vec p x y) (vec p x y)) (vec p y z)=smul (dot (vec p x y) (vec p x z) -dot (vec p x y) (vec p x y)) (vec p x y):=by rw[zX p x y z];have a1:=Ao V.x hp;have a2:=Ao V.y hp;have a3:=Ao V.z hp;simp only[smul] at a1 a2 a3;refine V.ext' ?_ ?_ ?_<;>simp only[smul,sub,Int.mul_sub,Int.sub_mul]<;>omega
  have e2:dot (vec p x y) (vec p x y)*dL n (vec p y z) (vec p y k)=(dot (vec p x y) (vec p x z) -dot (vec p x y) (vec p x y))*dL n (vec p x y) (vec p x k):=by
   have l:∀(c:Int) (u v:V),dL n (smul c u) v=c*dL n u v:=fun c u v=>by simp only[dL,dot,aT,smul];grind
   rw[<-l,e1,l,zX p x y k,Vz,BE];simp
  have g3:0<=(dot (vec p x y) (vec p x z) -dot (vec p x y) (vec p x y))*dL n (vec p x y) (vec p x k):=by rw[<-e2];exact Int.mul_nonneg (by omega) g2
  rcases Fl g1 with g1|g1
  · have :=Int.mul_neg_of_neg_of_pos (a:=dot (vec p x y) (vec p x z) -dot (vec p x y) (vec p x y)) (by omega) g1;omega
  exact g1.symm
 obtain⟨a,ha,b,hb,c,hc,h⟩:=F.tri;refine h ?_;have fa:=flat a ha;have fb:=flat b hb;have fc:=flat c hc;rw[zX p x a b,zX p x a c];have e0:=W.H.ne hx hS.1 hS.2.1;have pa:=para W.H.hn (W.H.pl x hx y hS.1) (W.H.pl x hx a ha) fa;have pb:=para W.H.hn (W.H.pl x hx y hS.1) (W.H.pl x hx b hb) fb;have pc:=para W.H.hn (W.H.pl x hx y hS.1) (W.H.pl x hx c hc) fc
 have q:∀k l:Nat,smul (dot (vec p x y) (vec p x y)) (vec p x k)=smul (dot (vec p x y) (vec p x k)) (vec p x y)->dL n (vec p x y) (vec p x l)=0->dL n (vec p x k) (vec p x l)=0:=by
  intro k l hk hl;have l1:∀(c:Int) (u v:V),dL n (smul c u) v=c*dL n u v:=fun c u v=>by simp only[dL,dot,aT,smul];grind
  refine eC hE ?_;rw[<-l1,hk,l1,hl,Hk]
 have r:∀u v w:V,dL n (sub u v) (sub w v)=dL n u w -dL n u v -dL n v w:=fun u v w=>by simp only[dL,dot,aT,sub];grind
 rw[r,q b c pb fc,q b a pb fa,q a c pa fc];rfl
end
section
def fX (v:V):Nat:=Int.gcd v.x (Int.gcd v.y v.z)
def gB (v:V):V:=⟨v.x / fX v,v.y / fX v,v.z / fX v⟩
theorem Lw (v:V):smul (fX v) (gB v)=v:=by have h1:((fX v:Nat):Int)∣v.x:=Gf v.x (Int.gcd v.y v.z);have h0:((fX v:Nat):Int)∣((Int.gcd v.y v.z:Nat):Int):=Eo v.x (Int.gcd v.y v.z);have h2:((fX v:Nat):Int)∣v.y:=Ho h0 (Gf v.y v.z);have h3:((fX v:Nat):Int)∣v.z:=Ho h0 (Eo v.y v.z);exact V.ext' (Ky h1) (Ky h2) (Ky h3)
theorem uU {v:V} (h:v≠V0):0<fX v:=by
 rcases Gi (fX v) with h1|h1
 · exfalso;have :=Lw v;rw[h1] at this;exact h (by rw[<-this];simp[smul,V0])
 exact h1
theorem jr {v:V} (h:v≠V0):gB v≠V0:=fun e=>by have :=Lw v;rw[e] at this;exact h (by rw[<-this];simp[smul,V0])
theorem BF (v w:V):(fX v:Int)*dot (gB v) w=dot v w:=by
 have h:=Lw v;have :dot (smul (fX v) (gB v)) w=(fX v:Int)*dot (gB v) w:=by simp only[dot,smul];grind
 rw[<-this,h]
theorem aAd (v u w:V):(fX v:Int)*dL (gB v) u w=dL v u w:=BF v _
structure qD (p:Nat->V) (N:Nat) (n:V) (d:Int):Prop where
 le:∀k,k<N->dot n (p k)<=d
 lt:∃k,k<N/\dot n (p k)<d
 tri:∃a b c,a<N/\b<N/\c<N/\aT (vec p a b) (vec p a c)≠V0/\n=gB (aT (vec p a b) (vec p a c))/\d=dot n (p a)
variable {p:Nat->V} {N:Nat} {n:V} {d:Int}
theorem qD.fh (F:qD p N n d):xw p N n d:=by
 obtain⟨a,b,c,ha,hb,hc,hw,hn,hd⟩:=F.tri;have hg:=uU hw
 have on:∀k,k<N->dot (aT (vec p a b) (vec p a c)) (vec p a k)=0->k∈jP p N n d:=by intro k hk h;rw[dN];refine⟨hk,?_⟩;rw[<-BF,<-hn] at h;have h2:=eC (by omega) h;rw[nN] at h2;omega
 refine⟨by rw[hn];exact jr hw,F.le,F.lt,a,on a ha (by simp only[dot,vec,sub];grind),b,on b hb ?_,c,on c hc ?_,?_⟩
 · simp only[dot,aT];grind
 · simp only[dot,aT];grind
 intro h;rw[hn] at h;have h2:=aAd (aT (vec p a b) (vec p a c)) (vec p a b) (vec p a c);rw[h] at h2;exact absurd (RC (a:=aT (vec p a b) (vec p a c)) (by simp only[dL] at h2;omega)) hw
theorem qD.uniq (F:qD p N n d) {d':Int} (F':qD p N n d'):d=d':=by obtain⟨a,_,_,ha,_,_,_,_,e⟩:=F.tri;obtain⟨b,_,_,hb,_,_,_,_,e'⟩:=F'.tri;have :=F.le b hb;have :=F'.le a ha;omega
theorem PT (α β:Nat->Int):∀(l:List Nat),l≠[]->(∀k∈l,0<α k)->∃q∈l,∀k∈l,β q*α k<=β k*α q
 |[],h,_=>absurd rfl h
 |[x],_,_=>⟨x,by simp,by simp⟩
 |x::y::l,_,h=>by
  obtain⟨q,hq,hm⟩:=PT α β (y::l) (by simp) fun k hk=>h k (by simp only[Aq] at hk ⊢;exact .inr hk)
  by_cases hx:β q*α x<=β x*α q
  · refine⟨q,Aw _ hq,fun k hk=>?_⟩
    rcases Aq.1 hk with rfl|hk
    · exact hx
    exact hm k hk
  refine⟨x,Au,fun k hk=>?_⟩
  rcases Aq.1 hk with rfl|hk
  · exact Int.le_refl _
  have h1:=hm k hk;have aq:=h q (Aw _ hq);have ax:=h x Au;have ak:=h k (Aw _ hk);refine Int.le_of_mul_le_mul_left (a:=α q) ?_ aq;have e1:α k*(β x*α q)<=α k*(β q*α x):=Fb (by omega) (by omega);have e2:α x*(β q*α k)<=α x*(β k*α q):=Fb h1 (by omega);have r1:α q*(β x*α k)=α k*(β x*α q):=by grind
  have r2:α k*(β q*α x)=α x*(β q*α k):=by grind
  have r3:α x*(β k*α q)=α q*(β k*α x):=by grind
  omega
theorem qD.adj (F:qD p N n d) (A:xk p N) {a b:Nat} (ha:a∈jP p N n d) (h:Sd n p (jP p N n d) a b):
 ∃n' d',qD p N n' d'/\a∈jP p N n' d'/\b∈jP p N n' d'/\Sd n' p (jP p N n' d') b a/\∃q∈jP p N n' d',q∉jP p N n d:=by
 have H:=F.fh.pl A;have hb:=h.1;have hE:=cW (H.ne ha hb h.2.1);have haN:=dN.1 ha;have hbN:=dN.1 hb
 let α:Nat->Int:=fun k=> -dot n (vec p a k)
 let β:Nat->Int:=fun k=>dL n (vec p a b) (vec p a k)
 have hα:∀k,k<N->0<=α k:=fun k hk=>by have :=F.le k hk;show 0<=-dot n (vec p a k);rw[nN];omega
 have hα0:∀k,k<N->α k=0->k∈jP p N n d:=fun k hk e=>by rw[dN];refine⟨hk,?_⟩;have : -dot n (vec p a k)=0:=e;rw[nN] at this;omega
 obtain⟨k0,hk0,bJy⟩:=F.lt
 obtain⟨q,hq,aHh⟩:=PT α β ((List.range N).filter fun k=>decide (0<α k)) (by
  intro e
  have :k0∈(List.range N).filter fun k=>decide (0<α k):=by simp only[Ga,Bi,Bh];refine⟨hk0,?_⟩;show 0< -dot n (vec p a k0);rw[nN];omega
  rw[e] at this;cases this) (fun k hk=>by simp only[Ga,Bh] at hk;exact hk.2)
 simp only[Ga,Bi,Bh] at hq aHh;obtain⟨hqN,hαq⟩:=hq;have bN:dot n (vec p a b)=0:=H.pl a ha b hb
 have key:∀k,dot n n*dot (aT (vec p a b) (vec p a q)) (vec p a k)=β k*α q -β q*α k:=fun k=>by
  have :=FU n (vec p a b) (vec p a q) (vec p a k) n;rw[jL (vec p a b) n,jL (vec p a q) n,jL (vec p a k) n,bN] at this;have e2:dL (vec p a b) (vec p a q) (vec p a k)=dot (aT (vec p a b) (vec p a q)) (vec p a k):=by simp only[dL,dot,aT];grind
  have e3:=BC n (vec p a b) (vec p a k);rw[e2] at this;show _=dL n (vec p a b) (vec p a k)*(-dot n (vec p a q)) -dL n (vec p a b) (vec p a q)*(-dot n (vec p a k));rw[e3] at this
  grind
 have hnn:=cW F.fh.hn
 have side:∀k,k<N->0<=dot (aT (vec p a b) (vec p a q)) (vec p a k):=fun k hk=>by
  refine rJ hnn ?_;rw[key];by_cases hz:0<α k
  · have :=aHh k ⟨hk,hz⟩;omega
  have hz:α k=0:=by have :=hα k hk;omega
  rw[hz,Hk,Int.sub_zero];exact Int.mul_nonneg (h.2.2 k (hα0 k hk hz)).1 (by omega)
 have hN0:aT (vec p a b) (vec p a q)≠V0:=by
  intro e;have h1:dot (aT n (vec p a b)) (aT n (vec p a b))=dot n n*dot (vec p a b) (vec p a b) -dot n (vec p a b)*dot n (vec p a b):=by simp only[dot,aT];grind
  have h2:dot (aT n (vec p a b)) (aT (vec p a b) (vec p a q))=dot n (vec p a b)*dot (vec p a b) (vec p a q) -dot n (vec p a q)*dot (vec p a b) (vec p a b):=by simp only[dot,aT];grind
  rw[e,bN] at h2;have h3:dot (aT n (vec p a b)) V0=0:=by simp[dot,V0]
  have h4:0<α q*dot (vec p a b) (vec p a b):=Jj hαq hE;have h5:α q= -dot n (vec p a q):=rfl;rw[h5,Ji] at h4;omega
 have aXc:aT (vec p a q) (vec p a b)=smul (-1) (aT (vec p a b) (vec p a q)):=by simp only[aT,smul,V.mk.injEq];grind
 have aWe:aT (vec p a q) (vec p a b)≠V0:=fun e=>hN0 (by
  rw[aXc] at e;simp only[smul,V0,V.mk.injEq] at e
  exact V.ext' (by simp only[V0];omega) (by simp only[V0];omega) (by simp only[V0];omega))
 have hg:=uU aWe;generalize Mj:gB (aT (vec p a q) (vec p a b))=n'
 have dn:∀v:V,(fX (aT (vec p a q) (vec p a b)):Int)*dot n' v= -dot (aT (vec p a b) (vec p a q)) v:=fun v=>by rw[<-Mj,BF,aXc];simp only[dot,smul];grind
 have on:∀k,k<N->(k∈jP p N n' (dot n' (p a))↔dot (aT (vec p a b) (vec p a q)) (vec p a k)=0):=fun k hk=>by
  rw[dN];have :=dn (vec p a k);rw[nN n'] at this;constructor
  · rintro⟨_,e⟩;rw[e,Int.sub_self,Hk] at this;omega
  intro e;rw[e] at this;have :=eC (by omega) (show(fX (aT (vec p a q) (vec p a b)):Int)*(dot n' (p k) -dot n' (p a))=0 by omega);exact⟨hk,by omega⟩
 have Ow:∀k,k<N->dot n' (p k)<=dot n' (p a):=fun k hk=>by have h1:=dn (vec p a k);have h2:=side k hk;rw[nN n'] at h1;have h3:=rJ (c:=(fX (aT (vec p a q) (vec p a b)):Int)) (a:= -(dot n' (p k) -dot n' (p a))) (by omega) (by rw[Int.mul_neg];omega);omega
 have ha':a∈jP p N n' (dot n' (p a)):=dN.2 ⟨haN.1,rfl⟩;have wN:b∈jP p N n' (dot n' (p a)):=(on b hbN.1).2 (by simp only[dot,aT];grind);have Tx:q∈jP p N n' (dot n' (p a)):=(on q hqN).2 (by simp only[dot,aT];grind);refine⟨n',dot n' (p a),⟨Ow,?_,a,q,b,haN.1,hqN,hbN.1,aWe,Mj.symm,rfl⟩,ha',wN,⟨ha',fun e=>h.2.1 e.symm,fun k hk=>?_⟩,q,Tx,fun hqo=>?_⟩
 ·
  refine Cp fun hc=>?_
  have all:∀k∈jP p N n d,dL n (vec p a b) (vec p a k)=0:=fun k hk=>by
   have hkN:=dN.1 hk
   have h1:dot n' (p k)=dot n' (p a):=by
    have :=Ow k hkN.1
    rcases Fl this with h|h
    · exact absurd ⟨k,hkN.1,h⟩ hc
    exact h
   have h2:=key k;rw[(on k hkN.1).1 (dN.2 ⟨hkN.1,h1⟩)] at h2;have h3:α k=0:=(by show -dot n (vec p a k)=0;rw[H.pl a ha k hk];rfl);rw[h3,Hk,Hk,Int.sub_zero] at h2;have h4:α q*β k=0:=(by rw[Int.mul_comm];exact h2.symm);exact eC hαq h4
  obtain⟨x,hx,y,hy,z,hz,bGn⟩:=F.fh.tri;refine bGn ?_;have l1:∀(c:Int) (u v:V),dL n (smul c u) v=c*dL n u v:=fun c u v=>by simp only[dL,dot,aT,smul];grind
  have qq:∀k l:Nat,k∈jP p N n d->l∈jP p N n d->dL n (vec p a k) (vec p a l)=0:=by intro k l hk hl;have pk:=para H.hn (H.pl a ha b hb) (H.pl a ha k hk) (all k hk);refine eC hE ?_;rw[<-l1,pk,l1,all l hl,Hk]
  have r:∀u v w:V,dL n (sub u v) (sub w v)=dL n u w -dL n u v -dL n v w:=fun u v w=>by simp only[dL,dot,aT,sub];grind
  rw[zX p a x y,zX p a x z,r,qq y z hy hz,qq y x hy hx,qq x z hx hz];rfl
 ·
  have hkN:=dN.1 hk;have hkz:=(on k hkN.1).1 hk
  have hde:dL (vec p a b) (vec p a q) (vec p a k)=0:=by have e2:dL (vec p a b) (vec p a q) (vec p a k)=dot (aT (vec p a b) (vec p a q)) (vec p a k):=(by simp only[dL,dot,aT];grind);rw[e2,hkz]
  have hnv:dot n (vec p a k)<=0:=by have :=hα k hkN.1;show dot n (vec p a k)<=0;have h5:α k= -dot n (vec p a k):=rfl;omega
  have hnu:dot n (vec p a q)<0:=by have h5:α q= -dot n (vec p a q):=rfl;omega
  have e1:dL n' (vec p b a) (vec p b k)= -dL n' (vec p a b) (vec p a k):=by simp only[vec,dL,dot,aT,sub];grind
  have e2:(fX (aT (vec p a q) (vec p a b)):Int)*dL n' (vec p b a) (vec p b k)=dot (aT (vec p a b) (vec p a q)) (aT (vec p a b) (vec p a k)):=by rw[e1,Int.mul_neg];have :=dn (aT (vec p a b) (vec p a k));simp only[dL];omega
  generalize he:vec p a b=e at *;generalize vec p a q=u at *;generalize hv:vec p a k=v at *
  have c1:dot n u*(aT e v).x=dot n v*(aT e u).x:=by have :dot n u*(aT e v).x=dot n v*(aT e u).x -n.x*dL e u v -(aT v u).x*dot n e:=(by simp only[dL,dot,aT];grind);rw[hde,bN] at this;omega
  have c2:dot n u*(aT e v).y=dot n v*(aT e u).y:=by have :dot n u*(aT e v).y=dot n v*(aT e u).y -n.y*dL e u v -(aT v u).y*dot n e:=(by simp only[dL,dot,aT];grind);rw[hde,bN] at this;omega
  have c3:dot n u*(aT e v).z=dot n v*(aT e u).z:=by have :dot n u*(aT e v).z=dot n v*(aT e u).z -n.z*dL e u v -(aT v u).z*dot n e:=(by simp only[dL,dot,aT];grind);rw[hde,bN] at this;omega
  have hNN:=cW hN0
  have c4:dot n u*dot (aT e u) (aT e v)=dot n v*dot (aT e u) (aT e u):=by
   have :dot n u*dot (aT e u) (aT e v)=(aT e u).x*(dot n u*(aT e v).x)+(aT e u).y*(dot n u*(aT e v).y)+(aT e u).z*(dot n u*(aT e v).z):=by simp only[dot];grind
   rw[this,c1,c2,c3];simp only[dot];grind
  have c5:0<=dot (aT e u) (aT e v):=by refine rJ (c:= -dot n u) (by omega) ?_;rw[Ji,c4,<-Ji];exact Int.mul_nonneg (by omega) (by omega)
  refine⟨rJ (c:=(fX (aT u e):Int)) (by omega) (by rw[e2];exact c5),fun hz=>?_⟩;rw[hz,Hk] at e2;rw[<-e2,Hk] at c4
  have bFq:dot n v=0:=by have :=eC (c:=dot (aT e u) (aT e u)) (a:=dot n v) hNN (by rw[Int.mul_comm];exact c4.symm);exact this
  have VK:k∈jP p N n d:=hα0 k hkN.1 (by show -dot n (vec p a k)=0;rw[hv];omega);rw[bFq,Int.zero_mul] at c1 c2 c3
  have hz':dL n e v=0:=by
   have z:∀c:Int,dot n u*c=0->c=0:=fun c hc=>by rcases Kl.1 hc with h|h<;>omega
   simp only[dL,dot];rw[z _ c1,z _ c2,z _ c3];simp
  have g:=(h.2.2 k VK).2;rw[hv,he] at g;have g:=g hz';have b1:dot (vec p b k) (vec p b a)=dot (vec p a b) (vec p a b) -dot (vec p a k) (vec p a b):=by simp only[vec,dot,sub];grind
  have b2:dot (vec p b a) (vec p b a)=dot (vec p a b) (vec p a b):=by simp only[vec,dot,sub];grind
  rw[b1,b2,hv,he];omega
 have :=dN.1 hqo;have h5:α q= -dot n (vec p a q):=rfl;rw[nN] at h5;omega
theorem GV {n n':V} {d d':Int} (Mj:n'≠V0) {a b c q:Nat} (ha:a∈jP p N n d) (hb:b∈jP p N n d) (hc:c∈jP p N n d) (h:dL n (vec p a b) (vec p a c)≠0)
 (ha':a∈jP p N n' d') (wN:b∈jP p N n' d') (hc':c∈jP p N n' d') (hq:q∈jP p N n' d'):q∈jP p N n d:=by
 have o:∀{n:V} {d:Int} {x y:Nat},x∈jP p N n d->y∈jP p N n d->dot n (vec p x y)=0:=fun {n d x y} hx hy=>by rw[nN,(dN.1 hx).2,(dN.1 hy).2];omega
 have hz:=WA Mj (o ha' wN) (o ha' hc') (o ha' hq);have :=FU n (vec p a b) (vec p a c) (vec p a q) n;rw[hz,jL (vec p a b) n,jL (vec p a c) n,jL (vec p a q) n,o ha hb,o ha hc] at this;have h2:dL n (vec p a b) (vec p a c)*dot n (vec p a q)=0:=by omega
 rcases Kl.1 h2 with h3|h3
 · exact absurd h3 h
 rw[nN] at h3;exact dN.2 ⟨(dN.1 hq).1,by have :=(dN.1 ha).2;omega⟩
theorem qD.four (F:qD p N n d) (A:xk p N):∃n1 d1 n2 d2 n3 d3,qD p N n1 d1/\qD p N n2 d2/\qD p N n3 d3/\n1≠n/\n2≠n/\n3≠n/\n1≠n2/\n1≠n3/\n2≠n3:=by
 obtain⟨s,r,hsr⟩:=F.fh.head;obtain⟨m,W⟩:=F.fh.way A hsr;generalize vB n p (jP p N n d)=f at W;obtain⟨o0,s0⟩:=W.side 0;obtain⟨o1,s1⟩:=W.side 1;obtain⟨o2,s2⟩:=W.side 2;obtain⟨o3,_⟩:=W.side 3;obtain⟨n1,d1,F1,a1,b1,_,q1,hq1,aSg⟩:=F.adj A o0 s0;obtain⟨n2,d2,F2,a2,b2,_,q2,hq2,aXb⟩:=F.adj A o1 s1;obtain⟨n3,d3,F3,a3,b3,_,q3,hq3,bFy⟩:=F.adj A o2 s2;have t0:=W.aVq F.fh 0;have t1:=W.aVq F.fh 1
 have oth:∀{n':V} {d':Int},qD p N n' d'->(∃q∈jP p N n' d',q∉jP p N n d)->n'≠n:=by rintro n' d' F' ⟨q,h1,h2⟩ rfl;rw[F.uniq F'] at h2;exact h2 h1
 refine⟨n1,d1,n2,d2,n3,d3,F1,F2,F3,oth F1 ⟨q1,hq1,aSg⟩,oth F2 ⟨q2,hq2,aXb⟩,oth F3 ⟨q3,hq3,bFy⟩,?_,?_,?_⟩
 · rintro rfl;rw[F2.uniq F1] at a2 b2;exact aSg (GV F1.fh.hn o0 o1 o2 (Jo t0) a1 b1 b2 hq1)
 · rintro rfl;rw[F3.uniq F1] at a3 b3;exact aSg (GV F1.fh.hn o0 o1 o2 (Jo t0) a1 b1 a3 hq1)
 rintro rfl;rw[F3.uniq F2] at a3 b3;exact aXb (GV F2.fh.hn o1 o2 o3 (Jo t1) a2 b2 b3 hq2)
end
section
def neg (a:V):V:=⟨-a.x,-a.y,-a.z⟩
theorem neg_neg (a:V):neg (neg a)=a:=by simp[neg]
theorem UP {a:V} (h:a≠V0):neg a≠V0:=fun e=>h (by
 have :=Ao neg e;rw[neg_neg] at this
 rw[this];rfl)
theorem aFa (a:V):fX (neg a)=fX a:=by simp[fX,neg,Int.gcd]
theorem KA (a:V):gB (neg a)=neg (gB a):=by have d1:(fX a:Int)∣a.x:=Gf ..;have d2:(fX a:Int)∣a.y:=Ho (Eo ..) (Gf ..);have d3:(fX a:Int)∣a.z:=Ho (Eo ..) (Eo ..);unfold gB;rw[aFa];simp only[neg];rw[Lf d1,Lf d2,Lf d3]
theorem pP (a b:V):dot (neg a) b= -dot a b:=by simp only[dot,neg];grind
variable {p:Nat->V} {N:Nat} {n:V} {d:Int}
def wQ (p:Nat->V) (a b c:Nat) (n:V):Prop:=
 aT (vec p a b) (vec p a c)≠V0/\(n=gB (aT (vec p a b) (vec p a c))\/n=neg (gB (aT (vec p a b) (vec p a c))))
theorem Ob (a b c:Nat):aT (vec p a c) (vec p a b)=neg (aT (vec p a b) (vec p a c)):=by simp only[aT,neg];apply V.ext'<;>simp only <;>grind
theorem Yq (a b c:Nat):aT (vec p b a) (vec p b c)=neg (aT (vec p a b) (vec p a c)):=by simp only[aT,neg,vec,sub];apply V.ext'<;>simp only <;>grind
theorem wQ.swap {a b c:Nat} (h:wQ p a b c n):wQ p a c b n:=by unfold wQ at h ⊢;rw[Ob a b c,KA,neg_neg];exact⟨UP h.1,h.2.symm⟩
theorem wQ.sX {a b c:Nat} (h:wQ p a b c n):wQ p b a c n:=by unfold wQ at h ⊢;rw[Yq a b c,KA,neg_neg];exact⟨UP h.1,h.2.symm⟩
theorem wQ.aVy {a b c:Nat} (h:wQ p a b c n):dot n (p b)=dot n (p a)/\dot n (p c)=dot n (p a):=by
 have hg:=uU h.1
 have key:∀k,dot (aT (vec p a b) (vec p a c)) (vec p a k)=0->dot n (p k)=dot n (p a):=by
  intro k hk;rw[<-BF] at hk;have h2:=eC (by omega) hk
  have h3:dot n (vec p a k)=0:=by
   rcases h.2 with rfl|rfl
   · exact h2
   rw[pP,h2];rfl
  rw[nN] at h3;omega
 exact⟨key b (by simp only[dot,aT];grind),key c (by simp only[dot,aT];grind)⟩
theorem wQ.ne {a b c:Nat} (h:wQ p a b c n):a≠b/\a≠c/\b≠c:=by refine⟨?_,?_,?_⟩<;>rintro rfl<;>refine h.1 ?_<;>simp only[aT,vec,sub,V0]<;>apply V.ext'<;>simp only <;>grind
theorem wQ.isF {a b c:Nat} (h:wQ p a b c n) (ha:a<N) (hb:b<N) (hc:c<N) (le:∀k,k<N->dot n (p k)<=d) (lt:∃k,k<N/\dot n (p k)<d) (hd:d=dot n (p a)):qD p N n d:=by
 rcases h.2 with e|e
 · exact⟨le,lt,a,b,c,ha,hb,hc,h.1,e,hd⟩
 refine⟨le,lt,a,c,b,ha,hc,hb,h.swap.1,?_,hd⟩;rw[Ob,KA];exact e
theorem qD.bDx (F:qD p N n d):∃a b c,a<N/\b<N/\c<N/\wQ p a b c n/\d=dot n (p a):=by obtain⟨a,b,c,ha,hb,hc,hw,hn,hd⟩:=F.tri;exact⟨a,b,c,ha,hb,hc,⟨hw,.inl hn⟩,hd⟩
theorem qD.up (F:qD p N n d):∃i j k,i<j/\j<k/\k<N/\wQ p i j k n/\d=dot n (p i):=by
 obtain⟨a,b,c,ha,hb,hc,h,hd⟩:=F.bDx
 have ho:∃a b c,b<c/\a<N/\b<N/\c<N/\wQ p a b c n/\d=dot n (p a):=by
  have hn:=h.ne;by_cases wa:b<c
  · exact⟨a,b,c,wa,ha,hb,hc,h,hd⟩
  exact⟨a,c,b,by omega,ha,hc,hb,h.swap,hd⟩
 obtain⟨a,b,c,wa,ha,hb,hc,h,hd⟩:=ho;have hn:=h.ne;have hs:=h.aVy;by_cases h1:a<b
 · exact⟨a,b,c,h1,wa,hc,h,hd⟩
 by_cases h2:a<c
 · exact⟨b,a,c,by omega,h2,hc,h.sX,by rw[hs.1];exact hd⟩
 exact⟨b,c,a,wa,by omega,ha,h.sX.swap,by rw[hs.1];exact hd⟩
theorem qD.down (F:qD p N n d):∃i j k,k<j/\j<i/\i<N/\wQ p i j k n/\d=dot n (p i):=by obtain⟨i,j,k,h1,h2,h3,h,hd⟩:=F.up;have hs:=h.aVy;exact⟨k,j,i,h1,h2,h3,h.sX.swap.sX,by rw[hs.2];exact hd⟩
theorem gW.qh (a:V):¬gW a a:=by unfold gW;omega
theorem gW.trans {a b c:V} (h:gW a b) (h':gW b c):gW a c:=by unfold gW at *;omega
theorem gW.total {a b:V} (h:a≠b):gW a b\/gW b a:=by refine Cp fun hc=>h ?_;unfold gW at hc;apply V.ext'<;>omega
theorem CL {α:Type} {R:α->α->Prop} (ir:∀a,¬R a a) (tr:∀{a b c},R a b->R b c->R a c):∀{l l':List α},l.Pairwise R->l'.Pairwise R->(∀x,x∈l↔x∈l')->l=l'
 |[],[],_,_,_=>rfl
 |[],y::l',_,_,h=>absurd ((h y).2 Au) (by simp)
 |x::l,[],_,_,h=>absurd ((h x).1 Au) (by simp)
 |x::l,y::l',hl,oS,h=>by
  rw[Cr] at hl oS
  have hxy:x=y:=by
   rcases Aq.1 ((h x).1 Au) with e|e
   · exact e
   rcases Aq.1 ((h y).2 Au) with e'|e'
   · exact e'.symm
   exact absurd (tr (oS.1 x e) (hl.1 y e')) (ir y)
  subst hxy;rw[CL ir tr hl.2 oS.2 fun z=>⟨fun hz=>?_,fun hz=>?_⟩]
  · rcases Aq.1 ((h z).1 (Aw _ hz)) with e|e
    · subst e;exact absurd (hl.1 z hz) (ir z)
    exact e
  rcases Aq.1 ((h z).2 (Aw _ hz)) with e|e
  · subst e;exact absurd (oS.1 z hz) (ir z)
  exact e
structure pD (p:Nat->V) (N:Nat) (L:List (V×Int)):Prop where
 mem:∀q,q∈L↔qD p N q.1 q.2
 TD:L.Pairwise fun a b=>gW a.1 b.1
theorem pD.uniq {L L':List (V×Int)} (h:pD p N L) (h':pD p N L'):L=L':=
 CL (R:=fun a b=>gW a.1 b.1) (fun a=>gW.qh _) (fun {a b c} h h'=>gW.trans (a:=a.1) (b:=b.1) (c:=c.1) h h') h.TD h'.TD fun q=>(h.mem q).trans (h'.mem q).symm
theorem pD.jg {K S:List (V×Int)} (hn:K.Nodup) (hm:∀q,q∈K↔qD p N q.1 q.2) (hp:S.Perm K) (hs:S.Pairwise fun a b=>¬gW b.1 a.1):pD p N S where
 mem:=fun q=>(hp.mem_iff).trans (hm q)
 TD:=by
  have hnS:S.Nodup:=hp.nodup_iff.2 hn;have gD:∀q∈S,qD p N q.1 q.2:=fun q hq=>(hm q).1 (hp.mem_iff.1 hq);have h2:S.Pairwise fun a b=>a≠b/\¬gW b.1 a.1:=List.Pairwise.and hnS hs;refine Jw (fun {a b} ha hb EC=>?_) h2;by_cases he:a.1=b.1
  · have :=(gD a ha).uniq (d':=b.2) (by rw[he];exact gD b hb);exact absurd (Prod.ext he this) EC.1
  exact(gW.total he).resolve_right EC.2
theorem pD.four {L:List (V×Int)} (h:pD p N L) (A:xk p N) (bN:L≠[]):4<=L.length:=by
 cases L with
 |nil=>exact absurd rfl bN
 |cons q r=>
  obtain⟨n1,d1,n2,d2,n3,d3,f1,f2,f3,e1,e2,e3,e4,e5,e6⟩:=((h.mem q).1 Au).four A
  have RM:[q,(n1,d1),(n2,d2),(n3,d3)].Nodup:=by simp only[Kj,Aq,Bx,Em,not_or,Is,Kw,Kq,Aj,not_and];refine⟨⟨fun e=>e1 (by rw[e]),fun e=>e2 (by rw[e]),fun e=>e3 (by rw[e])⟩,⟨fun e=>absurd e e4,fun e=>absurd e e5⟩,fun e=>absurd e e6⟩
  have BP:[q,(n1,d1),(n2,d2),(n3,d3)] ⊆ q::r:=by
   intro x hx;simp only[Aq,Bx,Em] at hx
   rcases hx with rfl|rfl|rfl|rfl
   · exact Au
   · exact(h.mem _).2 f1
   · exact(h.mem _).2 f2
   exact(h.mem _).2 f3
  have :=List.Nodup.length_le_of_subset RM BP;simpa using this
end
section
variable {p:Nat->V} {N:Nat} {n:V} {d:Int}
structure Poly (p:Nat->V) (N:Nat) (n:V) (d:Int) (L:List Nat):Prop where
 ex:∃s r m,jP p N n d=s::r/\Way n p (jP p N n d) s m (vB n p (jP p N n d))/\L=(List.range m).map fun i=>iter (vB n p (jP p N n d)) i s
theorem Poly.exists (A:xk p N) (F:xw p N n d):∃L,Poly p N n d L:=by obtain⟨s,r,h⟩:=F.head;obtain⟨m,W⟩:=F.way A h;exact⟨_,⟨s,r,m,h,W,rfl⟩⟩
theorem Poly.uniq {L L':List Nat} (h:Poly p N n d L) (h':Poly p N n d L'):L=L':=by
 obtain⟨s,r,m,e,W,rfl⟩:=h.ex;obtain⟨s',r',m',e',W',rfl⟩:=h'.ex;rw[e] at e';cases e'
 have :m=m':=by
  rcases It m m' with hl|he|hl
  · exact absurd W.back (W'.first m W.pos hl)
  · exact he
  exact absurd W'.back (W.first m' W'.pos hl)
 rw[this]
def Next (L:List Nat) (a b:Nat):Prop:=∃i,i<L.length/\L[i]?=some a/\L[(i+1)%L.length]?=some b
theorem Poly.mD {L:List Nat} (h:Poly p N n d L) {a b:Nat}:Next L a b↔a∈jP p N n d/\Sd n p (jP p N n d) a b:=by
 obtain⟨s,r,m,e,W,rfl⟩:=h.ex;have hlen:((List.range m).map fun i=>iter (vB n p (jP p N n d)) i s).length=m:=by simp
 have cG:∀i,i<m->((List.range m).map fun i=>iter (vB n p (jP p N n d)) i s)[i]?=some (iter (vB n p (jP p N n d)) i s):=fun i hi=>by rw[Bo,Gw hi];rfl
 have aLm:∀i,i<m->((List.range m).map fun i=>iter (vB n p (jP p N n d)) i s)[(i+1)%m]?=some (iter (vB n p (jP p N n d)) (i+1) s):=fun i hi=>by
  by_cases hm:i+1<m
  · rw[Cn hm,cG _ hm]
  have :i+1=m:=by omega
  rw[this,Nat.mod_self,cG 0 W.pos,W.back];rfl
 unfold Next;rw[hlen];constructor
 · rintro⟨i,hi,h1,h2⟩;rw[cG i hi] at h1;rw[aLm i hi] at h2;cases h1;cases h2;exact W.side i
 rintro⟨ha,hS⟩;obtain⟨i,hi,rfl⟩:=W.cover ha hS;refine⟨i,hi,cG i hi,?_⟩;rw[aLm i hi,(W.side i).2.uniq W.H (W.side i).1 hS]
theorem Poly.back (A:xk p N) (F:qD p N n d) {L:List Nat} (h:Poly p N n d L) {a b:Nat} (hn:Next L a b):
 ∃n' d' L',qD p N n' d'/\Poly p N n' d' L'/\Next L' b a:=by
 obtain⟨ha,hS⟩:=h.mD.1 hn;obtain⟨n',d',F',ha',wN,hS',_⟩:=F.adj A ha hS;obtain⟨L',h'⟩:=Poly.exists A F'.fh;exact⟨n',d',L',F',h',h'.mD.2 ⟨wN,hS'⟩⟩
theorem Poly.aUe {L:List Nat} (h:Poly p N n d L) {k:Nat} (hk:k∈L):k∈jP p N n d:=by obtain⟨s,r,m,e,W,rfl⟩:=h.ex;simp only[Bf,Bi] at hk;obtain⟨i,hi,rfl⟩:=hk;exact(W.side i).1
theorem Poly.Si {L:List Nat} (h:Poly p N n d L) {k:Nat} (hk:k∈L):aG.Si n p (jP p N n d) k=some (vB n p (jP p N n d) k):=by obtain⟨s,r,m,e,W,rfl⟩:=h.ex;simp only[Bf,Bi] at hk;obtain⟨i,hi,rfl⟩:=hk;exact aCn W.H (W.side i).1 (W.side i).2
def cq (n:V) (a b:List V):Prop:=∀u∈a,∀v∈b,dot n u<=dot n v
def Sep (a b:List V) (n:V):Prop:=cq n a b\/cq n b a
theorem Sep.symm {a b:List V}:Sep a b n↔Sep b a n:=Or.comm
theorem Sep.neg {a b:List V}:Sep a b (aG.neg n)↔Sep a b n:=by
 unfold Sep cq;simp only[pP];constructor
 · rintro(h|h)
   · exact .inr fun u hu v hv=>by have :=h v hv u hu;omega
   exact .inl fun u hu v hv=>by have :=h v hv u hu;omega
 rintro(h|h)
 · exact .inr fun u hu v hv=>by have :=h v hv u hu;omega
 exact .inl fun u hu v hv=>by have :=h v hv u hu;omega
theorem Yo (a b:V):aT b a=aG.neg (aT a b):=by simp only[aT,aG.neg];apply V.ext'<;>simp only <;>grind
end
theorem natAbs_tmod (a b:Int):(a.tmod b).natAbs=a.natAbs%b.natAbs:=by
 first
  |exact Int.natAbs_tmod a b
  |(cases a<;>cases b<;>simp only[Int.tmod,Kx,Fk,Int.natAbs_negSucc,Int.ofNat_eq_natCast,Nat.succ_eq_add_one]<;>rfl)
theorem WQ (a b:Int):Int.gcd b (a.tmod b)=Int.gcd a b:=by unfold Int.gcd;rw[natAbs_tmod,Nat.gcd_comm a.natAbs,Nat.gcd_rec b.natAbs a.natAbs];rw[Nat.gcd_comm]
theorem aHb (a:Int):(Int.gcd a 0:Int)=if a< -a then -a else a:=by simp only[Int.gcd_zero_right];split<;>omega
theorem Qd (v:V):Int.gcd (Int.gcd v.x v.y) v.z=fX v:=by unfold fX Int.gcd;simp only[Fk];exact Nat.gcd_assoc _ _ _
theorem aDk {v:V} (h:fX v<=1):gB v=v:=by
 unfold gB
 rcases Hg 0 (fX v) with h0|h0
 · have :fX v=1:=by omega
   rw[this];simp
 have hz:fX v=0:=by omega
 have hv:v=V0:=by refine Cp fun hc=>?_;have :=uU hc;omega
 subst hv;rw[hz];simp[V0]
theorem Ss (v:V):gB v=⟨v.x.tdiv (fX v),v.y.tdiv (fX v),v.z.tdiv (fX v)⟩:=by have d1:(fX v:Int)∣v.x:=Gf ..;have d2:(fX v:Int)∣v.y:=Ho (Eo ..) (Gf ..);have d3:(fX v:Int)∣v.z:=Ho (Eo ..) (Eo ..);unfold gB;rw[Iq d1,Iq d2,Iq d3]
def bM (B:Nat) (v:V):Prop:=v.x.natAbs<=B/\v.y.natAbs<=B/\v.z.natAbs<=B
theorem bO {a b:Int} {A B:Nat} (ha:a.natAbs<=A) (hb:b.natAbs<=B):(a*b).natAbs<=A*B:=by rw[Ha];exact Bv ha hb
theorem pO {a b:V} {A B:Nat} (ha:bM A a) (hb:bM B b):(dot a b).natAbs<=3*(A*B):=by have h1:=bO ha.1 hb.1;have h2:=bO ha.2.1 hb.2.1;have h3:=bO ha.2.2 hb.2.2;unfold dot;omega
theorem jX {a b:V} {A B:Nat} (ha:bM A a) (hb:bM B b):bM (2*(A*B)) (aT a b):=by
 obtain⟨a1,a2,a3⟩:=ha;obtain⟨b1,b2,b3⟩:=hb;refine⟨?_,?_,?_⟩<;>simp only[aT]
 · have h1:=bO a2 b3;have h2:=bO a3 b2;omega
 · have h1:=bO a3 b1;have h2:=bO a1 b3;omega
 have h1:=bO a1 b2;have h2:=bO a2 b1;omega
theorem fM {a b:V} {A B:Nat} (ha:bM A a) (hb:bM B b):bM (A+B) (sub a b):=by obtain⟨a1,a2,a3⟩:=ha;obtain⟨b1,b2,b3⟩:=hb;refine⟨?_,?_,?_⟩<;>simp only[sub]<;>omega
theorem tT {v:V} {B:Nat} (h:bM B v):bM B (gB v):=by
 rw[Ss]
 have key:∀a:Int,a.natAbs<=B->(a.tdiv (fX v)).natAbs<=B:=fun a ha=>by rw[Int.natAbs_tdiv];exact Br (Jl _ _) ha
 exact⟨key _ h.1,key _ h.2.1,key _ h.2.2⟩
theorem JQ {v:V} {B:Nat} (h:bM B v):bM B (neg v):=by obtain⟨a1,a2,a3⟩:=h;refine⟨?_,?_,?_⟩<;>simp only[neg]<;>omega
end Go.aG
namespace Go.Av
open Go Go.mO
def wC (l:List Nat):List AV:=l.map fun(n:Nat)=>AV.int .u32 n
theorem cM (l:List Nat):(wC l).length=l.length:=by simp[wC]
def zs:List Nat:=List.replicate 16 0
theorem aVk:[AV.int .u32 0,.int .u32 0,.int .u32 0,.int .u32 0,.int .u32 0,.int .u32 0,.int .u32 0,.int .u32 0,.int .u32 0,.int .u32 0,.int .u32 0,.int .u32 0,.int .u32 0,.int .u32 0,.int .u32 0,.int .u32 0]=wC zs:=rfl
def TT (l:List Nat):Prop:=l.length=16/\∀d∈l,d<W
theorem TT.zs:TT zs:=⟨rfl,fun d hd=>by rw[Ff hd];decide⟩
theorem TT.aW (n:Nat):TT (aW 16 n):=⟨bW _ _,JJ⟩
theorem aKh {l:List Nat} {n:Nat} (h:l.length<=n):(wC l).take n=wC l:=Bk (by rw[cM];exact h)
theorem aKg {l:List Nat} {n:Nat} (h:l.length<=n):(wC l).drop n=[]:=Bl (by rw[cM];exact h)
theorem vS {l:List Nat} {i:Nat} (h:i<l.length):(wC l).getD i aD=.int .u32 (l.getD i 0):=by unfold wC;rw[Ck,Ck,Bo,Ab h];rfl
theorem yE {l:List Nat} {i:Nat} (h:i<l.length) (x:Nat):gO (wC l) i [.int .u32 (x:Int)]=wC (l.set i x):=by unfold gO wC;rw[List.map_set,Ir,if_pos (by simpa using h)];simp
theorem Rr:∀(a b:List Nat),a.length=b.length->cP (List.replicate a.length .i) (wC a) (wC b)=some (decide (a=b))
 |[],[],_=>rfl
 |[],y::b,h=>by simp at h
 |x::a,[],h=>by simp at h
 |x::a,y::b,h=>by have ih:=Rr a b (by simpa using h);simp only[wC,By,Ah,Dv,cP,if_true] at ih ⊢;rw[ih];by_cases hx:x=y<;>by_cases EC:a=b<;>simp[hx,EC]<;>omega
theorem Rq {a b:List Nat} (ha:a.length=16) (hb:b.length=16):cP [.i,.i,.i,.i,.i,.i,.i,.i,.i,.i,.i,.i,.i,.i,.i,.i] (wC a) (wC b)=some (decide (a=b)):=by
 have :=Rr a b (by omega)
 rwa [ha] at this
def cI (z:Int):List AV:=.bool false::.bool (decide (z<0))::wC (aW 16 z.natAbs)
def wU:List AV:=.bool true::.bool false::wC zs
def cO:Option Int->List AV
 |some z=>cI z
 |none=>wU
def norm (z:Int):Option Int:=if z.natAbs<W^16 then some z else none
def sg (neg:Bool) (n:Nat):Int:=if neg then -(n:Int) else n
def EP (b n:Bool) (l:List Nat):Bool:= !b&&(!n|| !decide (l=zs))
def RZ (b n:Bool) (l:List Nat):Option Int:=if EP b n l then some (sg n (DO l)) else none
def fZ (v:List AV) (x:Option Int):Prop:=∃b n l,TT l/\v=.bool b::.bool n::wC l/\x=RZ b n l
theorem Zt:DO zs=0:=by decide
theorem GJ:aW 16 0=zs:=by decide
theorem jf {l:List Nat} (h:TT l):DO l<W^16:=by
 have :=US l h.2
 rwa [h.1] at this
theorem Lr {l:List Nat} (h:TT l):aW 16 (DO l)=l:=by
 have :=SY h.2
 rwa [h.1] at this
theorem CB {l:List Nat} (h:TT l):DO l=0↔l=zs:=by
 constructor
 · intro e;rw[<-Lr h,e,GJ]
 rintro rfl;exact Zt
theorem lI (n:Bool) (m:Nat):(sg n m).natAbs=m:=by cases n<;>simp[sg]
theorem TG {b n:Bool} {l:List Nat} {z:Int} (h:TT l) (e:RZ b n l=some z):b=false/\n=decide (z<0)/\l=aW 16 z.natAbs/\z.natAbs<W^16:=by
 unfold RZ at e;split at e
 · rename_i hg;obtain rfl:=Aa e;simp only[EP,Am,Ct,Dt,Cc] at hg;refine⟨hg.1,?_,?_,?_⟩
   · cases n with
     |false=>simp[sg]
     |true=>
      have :DO l≠0:=fun e=>by
       rcases hg.2 with h2|h2
       · cases h2
       exact h2 ((CB h).1 e)
      simp[sg];omega
   · rw[lI,Lr h]
   rw[lI];exact jf h
 cases e
theorem fZ.some {v:List AV} {z:Int} (h:fZ v (some z)):v=cI z/\z.natAbs<W^16:=by obtain⟨b,n,l,hl,rfl,hv⟩:=h;obtain⟨rfl,rfl,rfl,h4⟩:=TG hl hv.symm;exact⟨rfl,h4⟩
theorem aEy {z:Int} (h:z.natAbs<W^16):RZ false (decide (z<0)) (aW 16 z.natAbs)=Option.some z:=by
 have :EP false (decide (z<0)) (aW 16 z.natAbs)=true:=by
  simp only[EP,Fv,Cq,Dt,Ct,Cc];by_cases hz:z<0
  · refine .inr fun e=>?_;have :=gU h;rw[e,Zt] at this;omega
  exact .inl hz
 unfold RZ;rw[if_pos this,gU h];congr 1;by_cases hz:z<0<;>simp[sg,hz]<;>omega
theorem fZ.enc {z:Int} (h:z.natAbs<W^16):fZ (cI z) (Option.some z):=⟨false,_,_,.aW _,rfl,(aEy h).symm⟩
theorem fZ.bad:fZ wU none:=⟨true,false,zs,.zs,rfl,rfl⟩
theorem qy {z x:Int} (h:norm z=Option.some x):x=z/\z.natAbs<W^16:=by
 unfold norm at h;split at h
 · rename_i hz;exact⟨(Aa h).symm,hz⟩
 cases h
theorem fZ.norm (z:Int):fZ (cO (Av.norm z)) (Av.norm z):=by
 cases h:Av.norm z with
 |none=>exact .bad
 |some x=>exact .enc (by obtain⟨rfl,h2⟩:=qy h;exact h2)
theorem WN:∀l,bU (wC l)=true
 |[]=>rfl
 |x::l=>by simp only[wC,By,bU,AV.free,Cq];exact WN l
theorem sf:(∀l,bU (wC l)=true)/\(∀b,(AV.bool b).free=true)/\(∀k n,(AV.int k n).free=true)/\(∀s,(AV.str s).free=true)/\(∀cs,(AV.agg cs).free=bU cs)/\(∀cs,(AV.gP cs).free=bU cs)/\
 (∀sz els,(AV.aV 1 sz els).free=dJ els)/\(∀sz els,(AV.aV 0 sz els).free=dJ els)/\(∀x r,bU (x::r)=(x.free&&bU r))/\(bU []=true)/\(∀x r,dJ (x::r)=(bU x&&dJ r))/\(dJ []=true)/\(∀b,(b&&true)=b)/\(∀b,(true&&b)=b)/\
 AV.aS.free=true/\AV.Lv.free=true/\AV.pW.free=true:=
 ⟨WN,fun _=>by simp only[AV.free],fun _ _=>by simp only[AV.free],fun _=>by simp only[AV.free],fun _=>by simp only[AV.free],fun _=>by simp only[AV.free],fun _ _=>by simp[AV.free],fun _ _=>by simp[AV.free],fun _ _=>by simp only[bU],by simp only[bU],fun _ _=>by simp only[dJ],by simp only[dJ],Gd,Cq,by simp only[AV.free],by simp only[AV.free],by simp only[AV.free]⟩
theorem cH (z:Int):bU (cI z)=true:=by simp only[cI,sf]
theorem tG (x:Option Int):bU (cO x)=true:=by cases x<;>simp only[cO,cI,wU,sf]
theorem sfI:bU wU=true/\(∀z,bU (cI z)=true)/\∀x,bU (cO x)=true:=⟨tG none,cH,tG⟩
theorem dF {α:Type} {f:α->List AV} (h:∀x,bU (f x)=true):∀l:List α,dJ (l.map f)=true
 |[]=>by simp only[Iw,dJ]
 |x::l=>by simp only[By,dJ,h,dF h l,Ds]
theorem aB (k:IntKind) (n:Nat):asNat (.int k (n:Int))=some n:=by simp[asNat]
theorem jI:(∀k,asNat (.int k 0)=some 0)/\(∀k,asNat (.int k 1)=some 1)/\(∀k,asNat (.int k 2)=some 2)/\(∀k,asNat (.int k 3)=some 3):=⟨fun _=>rfl,fun _=>rfl,fun _=>rfl,fun _=>rfl⟩
theorem dT {α:Type} {f:α->List AV} {l:List α} {i:Nat} (h:i<l.length):(l.map f).getD i []=f l[i]:=by simp[List.getD,h]
theorem aEr {α:Type} {p:α->Bool} {l:List α} {i:Nat} (h:i<l.length) (ht:(l.take i).all p=true):(l.take (i+1)).all p=p l[i]:=by rw[Ap,Hn,ht];simp[h]
structure AR where
 b:Bool
 n:Bool
 l:List Nat
 hl:TT l
def AR.cells (r:AR):List AV:=.bool r.b::.bool r.n::wC r.l
def AR.ZL (r:AR):Bool:=EP r.b r.n r.l
theorem oe (r:AR):bU r.cells=true:=by simp only[AR.cells,sf]
theorem kJ {a i:Nat} (h:i<16):(wC (aW 16 a)).getD i aD=.int .u32 (bA a i):=by rw[vS (by rw[bW];exact h),kI h]
def LP (a b:Nat):Int:=if a<b then -1 else if b<a then 1 else 0
theorem aGl {a b k:Nat} (h:a / W^(k+1)=b / W^(k+1)) (hk:bA a k≠bA b k):LP a b=LP (bA a k) (bA b k):=by
 unfold LP
 rcases Nat.lt_or_gt_of_ne hk with hc|hc
 · have :=Pa h hc;rw[if_pos this,if_pos hc]
 have :=Pa h.symm hc;rw[if_neg (by omega),if_pos this,if_neg (by omega),if_pos hc]
def Ud (i:Nat) (l:List Nat):List Nat:=l.take i++List.replicate (l.length -i) 0
theorem zL {i:Nat} {l:List Nat}:(Ud i l).length=l.length:=by simp[Ud];omega
theorem aDh (l:List Nat):Ud 0 l=List.replicate l.length 0:=by simp[Ud]
theorem aIw (l:List Nat):Ud l.length l=l:=by simp[Ud]
theorem aIx {i:Nat} {l:List Nat} (h:i<l.length):(Ud i l).set i (l.getD i 0)=Ud (i+1) l:=by
 refine Ge (by simp[zL]) fun k h1 h2=>?_;have hk:k<l.length:=by rw[zL] at h2;exact h2
 rw[List.getElem_set];simp only[Ud,List.getElem_append,Cb,List.getElem_take,List.getElem_replicate];split
 · rename_i e;subst e;rw[dif_pos (by omega)];simp[List.getD,h]
 rename_i e
 split<;>split<;>first|rfl|omega
theorem Py (n:Nat):Ud 0 (aW 16 n)=zs:=by rw[aDh,bW];rfl
theorem Sq (n:Nat):Ud 16 (aW 16 n)=aW 16 n:=by
 have :=aIw (aW 16 n)
 rwa [bW] at this
theorem JY (i n:Nat):(wC (Ud i (aW 16 n))).length=16:=by rw[cM,zL,bW]
theorem sq {i n:Nat} (h:i<16) {x:Int} (hx:x=(bA n i:Nat)):gO (wC (Ud i (aW 16 n))) i [.int .u32 x]=wC (Ud (i+1) (aW 16 n)):=by rw[hx,yE (by rw[zL,bW];exact h),<-aIx (by rw[bW];exact h),kI h]
theorem Px {i n:Nat} (h:i<16) {x:Int} (hx:x=(bA n i:Nat)):(wC (Ud i (aW 16 n))).take i++[AV.int .u32 x]++(wC (Ud i (aW 16 n))).drop (i+1)=wC (Ud (i+1) (aW 16 n)):=sq h hx
theorem Uz (u:Nat):IntKind.u32.wrap (u:Int)=((u%W:Nat):Int):=by simp[IntKind.wrap,IntKind.bits,IntKind.signed,W]
theorem qH {x:Int} {u:Nat} (h:u<2^64) (e:x=u\/x=u -2^64\/x=u+2^64):IntKind.u64.wrap x=u:=by simp only[IntKind.wrap,IntKind.bits,IntKind.signed];simp;omega
theorem Oh (u:Nat):(u:Int).fdiv (2^min (Int.toNat 32) IntKind.u64.bits)=((u / W:Nat):Int):=by show(u:Int).fdiv (2^32)=_;rw[Js _ (by decide)];rfl
def IB:Option Int->Option Int->Option Int
 |some x,some y=>norm (x+y)
 |_,_=>none
def RS:Option Int->Option Int
 |some x=>some (-x)
 |none=>none
theorem fZ.raw {v:List AV} {x:Option Int} (h:fZ v x):∃r:AR,v=r.cells/\x=RZ r.b r.n r.l/\r.ZL=x.isSome:=by obtain⟨b,n,l,hl,rfl,rfl⟩:=h;refine⟨⟨b,n,l,hl⟩,rfl,rfl,?_⟩;simp only[AR.ZL,RZ];split<;>rename_i h<;>simp[h]
theorem fZ.len {v:List AV} {x:Option Int} (h:fZ v x):v.length=18:=by obtain⟨b,n,l,hl,rfl,rfl⟩:=h;simp[cM,hl.1]
theorem fZ.free {v:List AV} {x:Option Int} (h:fZ v x):bU v=true:=by obtain⟨b,n,l,hl,rfl,rfl⟩:=h;simp only[sf]
theorem dE (z:Int):(cI z).length=18:=by simp[cI,cM,bW]
theorem FO (x:Option Int):(cO x).length=18:=by
 cases x
 · simp[cO,wU,cM,zs]
 exact dE _
theorem oL {cs:List AV} {n:Nat} (h:cs.length=n):cs.length=n/\cs.take n=cs/\cs.drop n=[]:=⟨h,Bk (by omega),Bl (by omega)⟩
theorem cOl:(∀x,(cO x).length=18)/\(∀x,(cO x).take 18=cO x)/\(∀x,(cO x).drop 18=[])/\(∀x,(cI x).length=18)/\(∀x,(cI x).take 18=cI x)/\(∀x,(cI x).drop 18=[]):=
 ⟨FO,fun x=>(oL (FO x)).2.1,fun x=>(oL (FO x)).2.2,dE,fun x=>(oL (dE x)).2.1,fun x=>(oL (dE x)).2.2⟩
theorem fZ.add {x y:Option Int}:fZ (cO (IB x y)) (IB x y):=by cases x<;>cases y<;>first|exact .norm _|exact .bad
theorem fZ.neg {x:Option Int} {v:List AV} (h:fZ v x):fZ (cO (RS x)) (RS x):=by
 cases x with
 |none=>exact .bad
 |some z=>exact .enc (by have :=h.some.2;rwa [Kx])
def GL:Option Int->Option Int->Option Int
 |some x,some y=>norm (x*y)
 |_,_=>none
def smO (x y:Nat->Option Int):Nat->Option Int
 |0=>some 0
 |i+1=>IB (smO x y i) (GL (x i) (y i))
theorem fZ.mul {x y:Option Int}:fZ (cO (GL x y)) (GL x y):=by cases x<;>cases y<;>first|exact .norm _|exact .bad
theorem fZ.sm {x y:Nat->Option Int}:∀i,fZ (cO (smO x y i)) (smO x y i)
 |0=>.enc (by decide)
 |i+1=>.add
def Yn (x y:Nat->Option Int) (i:Nat):Option Int:=IB (GL (x ((i+1)%3)) (y ((i+2)%3))) (RS (GL (x ((i+2)%3)) (y ((i+1)%3))))
theorem fZ.fit {v:List AV} {z:Int} (h:fZ v (Option.some z)):z.natAbs<W^16:=h.some.2
theorem iL {l:List Nat} (h:TT l):(wC l).length=16/\l.length=16/\(wC l).take 16=wC l/\(wC l).drop 16=[]/\cP [.i,.i,.i,.i,.i,.i,.i,.i,.i,.i,.i,.i,.i,.i,.i,.i] (wC l) (wC zs)=some (decide (l=zs)):=
 ⟨by rw[cM,h.1],h.1,aKh (by rw[h.1];omega),aKg (by rw[h.1];omega),Rq h.1 rfl⟩
theorem iz:(wC zs).length=16/\(wC zs).take 16=wC zs/\(wC zs).drop 16=[]:=⟨(iL .zs).1,(iL .zs).2.2.1,(iL .zs).2.2.2.1⟩
def c3 (c:Nat->List AV):List AV:=c 0++(c 1++c 2)
theorem fO {c:Nat->List AV} (h:∀i,i<3->(c i).length=18):(c3 c).length=54:=by simp[c3,h 0 (by decide),h 1 (by decide),h 2 (by decide)]
theorem sM {c:Nat->List AV} (h:∀i,i<3->(c i).length=18) {i:Nat} (hi:i<3):((c3 c).drop (i*18)).take 18=c i:=by
 have h0:=h 0 (by decide);have h1:=h 1 (by decide);have h2:=h 2 (by decide)
 match i,hi with
 |0,_=>simp[c3,Je,h0]
 |1,_=>simp[c3,Ih,Je,h0,h1]
 |2,_=>simp[c3,Ih,Je,h0,h1,h2,Bl (show(c 0).length<=36 by omega),Bk (show(c 2).length<=18 by omega)]
theorem ID {c d:Nat->List AV} (h:∀i,i<3->c i=d i):c3 c=c3 d:=by simp only[c3,h 0 (by decide),h 1 (by decide),h 2 (by decide)]
theorem zl {c:Nat->List AV} (h:∀i,i<3->(c i).length=18) {i:Nat} (hi:i<3) {x:List AV} (hx:x.length=18):
 (c3 c).take (i*18)++x++(c3 c).drop (i*18+18)=c3 (fun j=>if j=i then x else c j):=by
 have h0:=h 0 (by decide);have h1:=h 1 (by decide);have h2:=h 2 (by decide)
 match i,hi with
 |0,_=>simp[c3,Ih,h0]
 |1,_=>simp[c3,Ih,Je,h0,h1]
 |2,_=>simp[c3,Ih,Je,h0,h1,h2,Bk (show(c 0).length<=36 by omega),Bl (show(c 0).length<=54 by omega),Bl (show(c 1).length<=36 by omega),Bl (show(c 2).length<=18 by omega)]
theorem jW {c:Nat->List AV} (h:∀i,i<3->bU (c i)=true):bU (c3 c)=true:=by simp[c3,mL,h 0 (by decide),h 1 (by decide),h 2 (by decide)]
theorem aGh:cI 0=.bool false::.bool false::wC zs:=by simp[cI,GJ]
theorem zY: .bool false::.bool false::.int .u32 0::.int .u32 0::.int .u32 0::.int .u32 0::.int .u32 0::.int .u32 0::.int .u32 0::.int .u32 0::.int .u32 0::.int .u32 0::.int .u32 0::.int .u32 0::.int .u32 0::.int .u32 0::.int .u32 0::.int .u32 0::.bool false::.bool false::.int .u32 0::.int .u32 0::.int .u32 0::.int .u32 0::.int .u32 0::.int .u32 0::.int .u32 0::.int .u32 0::.int .u32 0::.int .u32 0::.int .u32 0::.int .u32 0::.int .u32 0::.int .u32 0::.int .u32 0::.int .u32 0::.bool false::.bool false::wC zs=c3 (fun _=>cI 0):=by simp only[aGh];rfl
def _root_.Go.aG.V.at (v:aG.V) (i:Nat):Int:=match i with
 |0=>v.x
 |1=>v.y
 |_=>v.z
def bZ (v:aG.V):List AV:=[.int .i64 v.x,.int .i64 v.y,.int .i64 v.z]
theorem aM (v:aG.V):(bZ v).length=3:=rfl
theorem iM (v:aG.V) {i:Nat} (hi:i<3):(bZ v).getD i aD=.int .i64 (v.at i):=by
 match i,hi with
 |0,_=>rfl
 |1,_=>rfl
 |2,_=>rfl
theorem cC (v:aG.V):bU (bZ v)=true:=by simp only[bZ,sf]
end Go.Av
