/-
  Part of the proof of statement 7
-/
import Derived.Test.YtogfcjbgeebfkaaGreatDoorA05
import Derived.Test.YtogfcjbgeebfkaaGreatDoorA01
set_option linter.unusedVariables false
set_option linter.unusedSimpArgs false
set_option linter.unusedSectionVars false
namespace Go.Av
open Go
section
def eX(P:Program)(g:bF)(n:Nat)(pairs:List (Nat×Nat))(base:Nat):Nat->Nat->List aZ->List (Nat×Nat)->List (Nat×aA×aA)->cW->aA->(cW->aA->Prop)->Prop
 |_,_,[],_,_,f,H,Q=>Q f H
 |i,k,r::rs,rd,ef,f,H,Q=>
  if gQ f r=true then
  match r.op with
  |.call c azs=>∃v H',FF P g r f H v H'/\H.next<=H'.next/\(∀x∈rd,(x.1,i)∈pairs->H.get x.2=H'.get x.2)/\
    eX P g n pairs base (i+1) k rs rd ((i,H,H')::ef) (fM n f r.dst v) H' Q
  |.panic _|.lN _ _=>False
  |op=>
   if op.fresh then
    match yH (nN g f) op with
    |some (ob,val)=>(∀x∈ef,(i,x.1)∈pairs->x.2.1.get (base+k)=x.2.2.get (base+k))/\
     eX P g n pairs base (i+1) (k+1) rs ((i,base+k)::rd) ef (fM n f r.dst (val (base+k))) (H.set (base+k) ob) Q
    |none=>False
   else if op.pJ then
    mP (dE (nN g f) H op) fun v H'=>H.next<=H'.next/\(∀x∈rd,(x.1,i)∈pairs->H.get x.2=H'.get x.2)/\
     eX P g n pairs base (i+1) k rs rd ((i,H,H')::ef) (fM n f r.dst v) H' Q
   else
    mP (dE (nN g f) H op) fun v H'=>H'=H/\(∀id,op.cZ (nN g f)=some id->∀x∈ef,(i,x.1)∈pairs->x.2.1.get id=x.2.2.get id)/\
     eX P g n pairs base (i+1) k rs (match op.cZ (nN g f) with|some id=>(i,id)::rd|none=>rd) ef (fM n f r.dst v) H Q
  else eX P g n pairs base (i+1) (if r.op.fresh then k+1 else k) rs rd ef (fM n f r.dst aB) H Q
section
variable {P:Program} {g:bF} {n:Nat} {pairs:List (Nat×Nat)} {base:Nat}
theorem qC:∀(rl:List aZ) (i k:Nat) (rd:List (Nat×Nat)) (ef:List (Nat×aA×aA)) (f:cW) (H:aA) (Q:cW->aA->Prop),eX P g n pairs base i k rl rd ef f H Q->YC P g n pairs base i k rl rd ef f H Q
 |[],i,k,rd,ef,f,H,Q,h=>h
 |r::rs,i,k,rd,ef,f,H,Q,h=>by
  unfold eX at h;unfold YC;split at h
  . rename_i hw;rw[if_pos hw];split at h
    . rename_i c azs fP;obtain⟨v,H',h1,h2,h3,h4⟩:=h;rw[if_neg (by simp[fP,dY.fresh]),if_pos (by simp[fP,dY.pJ])];exact⟨v,H',h1,h2,h3,qC rs _ _ _ _ _ _ _ h4⟩
    . exact h.elim
    . exact h.elim
    rename_i n1 n2 n3
    have hq:∀v H',dE (nN g f) H r.op=some (v,H')->FF P g r f H v H':=by
     intro v H' ha;unfold FF;split
     . rename_i c azs fP;exact absurd fP (n1 c azs)
     . rename_i x fP;exact absurd fP (n2 x)
     . rename_i c azs fP;exact absurd fP (n3 c azs)
     exact ha
    split at h
    . rename_i hf;rw[if_pos hf];split at h
      . rename_i ob val ho;exact⟨ob,val,ho,h.1,qC rs _ _ _ _ _ _ _ h.2⟩
      exact h.elim
    rename_i hf;rw[if_neg hf];unfold mP at h;split at h
    . rename_i he;rw[if_pos he];split at h
      . rename_i v H' ha;exact⟨v,H',hq v H' ha,h.1,h.2.1,qC rs _ _ _ _ _ _ _ h.2.2⟩
      exact h.elim
    rename_i he;rw[if_neg he];split at h
    . rename_i v H' ha;obtain⟨rfl,h2,h3⟩:=h;exact⟨v,hq v _ ha,h2,qC rs _ _ _ _ _ _ _ h3⟩
    exact h.elim
  rename_i hw;rw[if_neg hw];exact qC rs _ _ _ _ _ _ _ h
variable {ds:List fY} {Q:FQ} {f:cW} {H:aA}
theorem VH{rl:List aZ}(h0:rl.countP (·.op.fresh)=0)(h:eX P g n pairs H.next 0 0 rl [] [] f H fun f' H'=>Q .normal f' ds H'):FC P g n (.draw rl pairs) f ds H Q:=by refine .inl ⟨by rw[h0];rfl,?_⟩;rw[h0];exact qC _ _ _ _ _ _ _ _ h
theorem aFw{rl:List aZ}(c:Nat)(h0:rl.countP (·.op.fresh)=c)(hf:pK H c=true)(h:eX P g n pairs H.next 0 0 rl [] [] f {H with next:=H.next+c} fun f' H'=>Q .normal f' ds H'):FC P g n (.draw rl pairs) f ds H Q:=by refine .inl ⟨by rw[h0];exact hf,?_⟩;rw[h0];exact qC _ _ _ _ _ _ _ _ h
theorem gZ{rl:List aZ}(c:Nat)(h0:rl.countP (·.op.fresh)=c)(hf:pK H c=true)
 (h:∀H1:aA,H1.next=H.next+c->(∀id,H1.get id=H.get id)->eX P g n pairs H.next 0 0 rl [] [] f H1 fun f' H'=>Q .normal f' ds H'):FC P g n (.draw rl pairs) f ds H Q:=
 aFw c h0 hf (h _ rfl fun _=>rfl)
variable {i k:Nat} {rs:List aZ} {rd:List (Nat×Nat)} {ef:List (Nat×aA×aA)} {R:cW->aA->Prop}
theorem b9:eX P g n pairs base i k [] rd ef f H R=R f H:=dZ id id
theorem ki(d:Nat)(op:dY)(hp:op.plain=true)(hf:op.fresh=false)(he:op.pJ=false)(hd:d<n):
 eX P g n pairs base i k (⟨some d,op,none⟩::rs) rd ef f H R=mP (dE (nN g f) H op) fun v H'=>H'=H/\(∀id,op.cZ (nN g f)=some id->∀x∈ef,(i,x.1)∈pairs->x.2.1.get id=x.2.2.get id)/\
       eX P g n pairs base (i+1) k rs (match op.cZ (nN g f) with|some id=>(i,id)::rd|none=>rd) ef (iZ f d v) H R:=by
 have :∀v,fM n f (some d) v=iZ f d v:=fun v=>by simp[fM,hd]
 conv=>lhs;unfold eX
 rw[if_pos (by rfl)];simp only[hf,he,this]
 cases op<;>first|rfl|(simp[dY.fresh] at hf;done)|(simp[dY.pJ] at he;done)|(simp[dY.plain] at hp;done)
theorem kj(m:Nat)(a x:Arg):
 eX P g n pairs base i k (⟨none,.store m a x,none⟩::rs) rd ef f H R=mP (dE (nN g f) H (.store m a x)) fun v H'=>H.next<=H'.next/\(∀x∈rd,(x.1,i)∈pairs->H.get x.2=H'.get x.2)/\
       eX P g n pairs base (i+1) k rs rd ((i,H,H')::ef) f H' R:=by
 conv=>lhs;unfold eX
 rw[if_pos (by rfl)];simp only[dY.fresh,dY.pJ,Au,Ca,if_true,fM]
theorem kh(d:Nat)(z:List AV)(hd:d<n):
 eX P g n pairs base i k (⟨some d,.alloc z,none⟩::rs) rd ef f H R=((∀x∈ef,(i,x.1)∈pairs->x.2.1.get (base+k)=x.2.2.get (base+k))/\
       eX P g n pairs base (i+1) (k+1) rs ((i,base+k)::rd) ef (iZ f d (.ref (base+k) 0)) (H.set (base+k) (.cells z false)) R):=by
 have :∀v,fM n f (some d) v=iZ f d v:=fun v=>by simp[fM,hd]
 conv=>lhs;unfold eX
 rw[if_pos (by rfl)];simp only[dY.fresh,if_true,yH,this]
theorem YB(d:Nat)(sz bytes:Nat)(mu:Bool)(x y:Arg)(hd:d<n):
 eX P g n pairs base i k (⟨some d,.append sz bytes mu x y,none⟩::rs) rd ef f H R=mP (dE (nN g f) H (.append sz bytes mu x y)) fun v H'=>H.next<=H'.next/\(∀x∈rd,(x.1,i)∈pairs->H.get x.2=H'.get x.2)/\
       eX P g n pairs base (i+1) k rs rd ((i,H,H')::ef) (iZ f d v) H' R:=by
 have :∀v,fM n f (some d) v=iZ f d v:=fun v=>by simp[fM,hd]
 conv=>lhs;unfold eX
 rw[if_pos (by rfl)];simp only[dY.fresh,dY.pJ,Au,Ca,if_true,this]
theorem HP{d:Nat}{fid:FuncId}{azs:List Arg}{args:List AV}{v:AV}{H':aA}(hd:d<n)(ha:azs.map (nN g f)=args)(hS:Sound P g fid args H (.ret v) H')(hn:H.next<=H'.next)
 (hr:∀x∈rd,(x.1,i)∈pairs->H.get x.2=H'.get x.2)
 (h:eX P g n pairs base (i+1) k rs rd ((i,H,H')::ef) (iZ f d v) H' R):eX P g n pairs base i k (⟨some d,.call (.const (.func (.func fid) [] [])) azs,none⟩::rs) rd ef f H R:=by
 have :∀v,fM n f (some d) v=iZ f d v:=fun v=>by simp[fM,hd]
 unfold eX;rw[if_pos (by rfl)];simp only[this];refine⟨v,H',?_,hn,hr,h⟩;exact⟨(fid,[],[]),rfl,by simpa [ha] using hS⟩
theorem RD(d:Option Nat)(x:Nat)(b:Bool)(op:dY)(A B:Prop):fD (f x) b A B=if gQ f ⟨d,op,some (x,b)⟩=true then A else B:=by
 by_cases hw:gQ f ⟨d,op,some (x,b)⟩=true
 . rw[if_pos hw];unfold gQ at hw;dsimp only at hw;split at hw
   . rename_i c hc;rw[hc];unfold fD;dsimp only;rw[if_pos (by simpa using hw)]
   cases hw
 rw[if_neg hw];unfold gQ at hw;dsimp only at hw;unfold fD;split
 . rename_i c hc;rw[hc] at hw;rw[if_neg (by simpa using hw)]
 rfl
theorem aXp(d x:Nat)(b:Bool)(op:dY)(hd:d<n):
 eX P g n pairs base i k (⟨some d,op,some (x,b)⟩::rs) rd ef f H R=fD (f x) b (eX P g n pairs base i k (⟨some d,op,none⟩::rs) rd ef f H R) (eX P g n pairs base (i+1) (if op.fresh then k+1 else k) rs rd ef (iZ f d aB) H R):=by
 have :∀v,fM n f (some d) v=iZ f d v:=fun v=>by simp[fM,hd]
 rw[RD (some d) x b op];by_cases hw:gQ f ⟨some d,op,some (x,b)⟩=true
 . rw[if_pos hw]
   conv=>lhs;unfold eX
   conv=>rhs;unfold eX
   rw[if_pos hw,if_pos (by rfl)];rfl
 rw[if_neg hw]
 conv=>lhs;unfold eX
 rw[if_neg hw,this]
theorem aY{f':cW}{rl:List aZ}(h:f=f'):eX P g n pairs base i k rl rd ef f H R=eX P g n pairs base i k rl rd ef f' H R:=by rw[h]
end
theorem bLk(P:Program)(g:bF)(n:Nat):
 (∀(pairs:List (Nat×Nat)) (base i k:Nat) (rs:List aZ) (rd:List (Nat×Nat)) (ef:List (Nat×aA×aA)) (f:cW) (H:aA) (R:cW->aA->Prop),eX P g n pairs base i k [] rd ef f H R=R f H)/\
 (∀(pairs:List (Nat×Nat)) (base i k:Nat) (rs:List aZ) (rd:List (Nat×Nat)) (ef:List (Nat×aA×aA)) (f:cW) (H:aA) (R:cW->aA->Prop) (m:Nat) (a x:Arg),
   eX P g n pairs base i k (⟨none,.store m a x,none⟩::rs) rd ef f H R=mP (dE (nN g f) H (.store m a x)) fun v H'=>H.next<=H'.next/\(∀x∈rd,(x.1,i)∈pairs->H.get x.2=H'.get x.2)/\
       eX P g n pairs base (i+1) k rs rd ((i,H,H')::ef) f H' R)/\
 (∀(pairs:List (Nat×Nat)) (base i k:Nat) (rs:List aZ) (rd:List (Nat×Nat)) (ef:List (Nat×aA×aA)) (f:cW) (H:aA) (R:cW->aA->Prop) (d:Nat) (z:List AV) (hd:d<n),
   eX P g n pairs base i k (⟨some d,.alloc z,none⟩::rs) rd ef f H R=((∀x∈ef,(i,x.1)∈pairs->x.2.1.get (base+k)=x.2.2.get (base+k))/\
       eX P g n pairs base (i+1) (k+1) rs ((i,base+k)::rd) ef (iZ f d (.ref (base+k) 0)) (H.set (base+k) (.cells z false)) R))/\
 (∀(pairs:List (Nat×Nat)) (base i k:Nat) (rs:List aZ) (rd:List (Nat×Nat)) (ef:List (Nat×aA×aA)) (f:cW) (H:aA) (R:cW->aA->Prop) (d sz bytes:Nat) (mu:Bool) (x y:Arg) (hd:d<n),
   eX P g n pairs base i k (⟨some d,.append sz bytes mu x y,none⟩::rs) rd ef f H R=mP (dE (nN g f) H (.append sz bytes mu x y)) fun v H'=>H.next<=H'.next/\(∀x∈rd,(x.1,i)∈pairs->H.get x.2=H'.get x.2)/\
       eX P g n pairs base (i+1) k rs rd ((i,H,H')::ef) (iZ f d v) H' R)/\
 (∀(pairs:List (Nat×Nat)) (base i k:Nat) (rs:List aZ) (rd:List (Nat×Nat)) (ef:List (Nat×aA×aA)) (f:cW) (H:aA) (R:cW->aA->Prop) (d x:Nat) (b:Bool) (op:dY) (hd:d<n),
   eX P g n pairs base i k (⟨some d,op,some (x,b)⟩::rs) rd ef f H R=fD (f x) b (eX P g n pairs base i k (⟨some d,op,none⟩::rs) rd ef f H R) (eX P g n pairs base (i+1) (if op.fresh then k+1 else k) rs rd ef (iZ f d aB) H R)):=
 ⟨fun _ _ _ _ _ _ _ _ _ _=>b9,fun _ _ _ _ _ _ _ _ _ _ m a x=>kj m a x,
  fun _ _ _ _ _ _ _ _ _ _ d z hd=>kh d z hd,fun _ _ _ _ _ _ _ _ _ _ d sz bytes mu x y hd=>YB d sz bytes mu x y hd,
  fun _ _ _ _ _ _ _ _ _ _ d x b op hd=>aXp d x b op hd⟩
def Zs(id cmp ix nx:Nat)(N:Int)(B:bR):bR:=
 .block id (.loop (.seq (.ops [⟨some cmp,.bin .lss (.tmp ix) (.const (.int .i64 N)),none⟩]) (.seq (.cond (.tmp cmp) .skip (.exit id)) (.seq B
  (.ops [⟨some nx,.bin .add (.tmp ix) (.const (.int .i64 1)),none⟩,⟨some ix,.Lu (.tmp nx),none⟩])))))
theorem kf{P:Program}{g:bF}{n:Nat}{id cmp ix nx:Nat}{B:bR}{f:cW}{ds:List fY}{H:aA}{Q:FQ}(J:Nat->cW->aA->Prop)(N:Nat){N':Int}(hN:(N:Int)<2^63)
 (hNN:N'=(N:Int))
 (hs:cmp<n/\ix<n/\nx<n/\cmp≠ix/\nx≠ix)
 (h1:f ix=.int .i64 0) (h0:J 0 f H)
 (st:∀(i:Nat) (f:cW) (H:aA) (d:Nat) (v:AV),d=cmp\/d=nx\/d=ix->J i f H->J i (iZ f d v) H)
 (body:∀(i:Nat) (f:cW) (H:aA),i<N->f ix=.int .i64 i->J i f H->
   FC P g n B f ds H (gI (fun f' fH H'=>fH=ds/\f' ix=.int .i64 i/\J (i+1) f' H') (dO id Q)))
 (done:∀(f:cW) (H:aA),J N f H->Q .normal f ds H):FC P g n (Zs id cmp ix nx N' B) f ds H Q:=by
 subst hNN;obtain⟨s1,s2,s3,s4,s7⟩:=hs;refine aP (TM (fun m f' fH H'=>fH=ds/\∃i:Nat,i<=N/\m=N -i/\f' ix=.int .i64 i/\J i f' H') N ⟨rfl,0,Bp _,by omega,h1,h0⟩ ?_);rintro m f1 pI H1 ⟨rfl,i,hi,rfl,e1,e3⟩;refine aT fun K hK=>?_;rw[KR,AI _ _ _ _ s1];simp only[dE,jK,wP,e1,qD,if_true,Cf,bQ,wH,gE];apply hK;clear hK K;have st1:=st i f1 H1 cmp (.bool (decide ((i:Int)<N))) (.inl rfl) e3;refine aT fun K hK=>HN (decide ((i:Int)<N)) (by rw[jK,rN]) (fun ht=>?_) (fun ht=>?_)
 . rw[Na,gE];apply hK;clear hK K;have dT:i<N:=by have :=Ed ht;omega
   refine aT fun K hK=>?_;have hb:=body i _ H1 dT (by rw[oO _ _ (Ne.symm s4)];exact e1) st1;have mono:∀{c:bR} {f:cW} {ds:List fY} {H:aA} {Q Q':FQ},(∀e f ds H,Q e f ds H->Q' e f ds H)->FC P g n c f ds H Q->FC P g n c f ds H Q':=fun {c f ds H Q Q'} hq h=>jI hq h;refine mono (fun e f2 Qy H2 h=>?_) hb
   cases e with
   |normal=>obtain⟨rfl,b1,b3⟩:=h;show K f2 Qy H2;apply hK;rw[KR,AI _ _ _ _ s3];have hw:IntKind.i64.wrap ((i:Int)+1)=((i+1:Nat):Int):=(by rw[wrap_i64 A0 A0];rfl);simp only[dE,jK,wP,b1,qD,if_true,Cf,bQ];rw[HQ _ _ s2];simp only[dE,jK,bQ,wH,gE,rN,hw];exact⟨N -(i+1),by omega,trivial,i+1,by omega,rfl,rfl,st _ _ _ _ _ (.inr (.inr rfl)) (st _ _ _ _ _ (.inr (.inl rfl)) b3)⟩
   |_=>exact h
 rw[NZ,oN,oN,qV];have KM:i=N:=by have :=Gf ht;omega
 subst KM;exact done _ _ st1
class Pp (op:dY):Prop where
 h:op.plain=true
 f:op.fresh=false
 e:op.pJ=false
instance (x:Arg):Pp (.Lu x):=⟨rfl,rfl,rfl⟩
instance (c a b:Arg):Pp (.pick c a b):=⟨rfl,rfl,rfl⟩
instance (z:List AV) (ps:List (Nat×Nat×Arg)):Pp (.build z ps):=⟨rfl,rfl,rfl⟩
instance (sz:Nat) (xs:List Arg):Pp (.Pb sz xs):=⟨rfl,rfl,rfl⟩
instance (agg:Bool) (m:Nat) (a:Arg):Pp (.load agg m a):=⟨rfl,rfl,rfl⟩
instance (x:Arg):Pp (.Pf x):=⟨rfl,rfl,rfl⟩
instance (o:BinOp) (x y:Arg):Pp (.bin o x y):=⟨rfl,rfl,rfl⟩
instance (neg:Bool) (x y:Arg):Pp (.eqb neg x y):=⟨rfl,rfl,rfl⟩
instance (neg:Bool) (sh:List Sk) (x y:Arg):Pp (.eqf neg sh x y):=⟨rfl,rfl,rfl⟩
instance (neg:Bool) (k:Nk) (lit:Bool) (x y:Arg):Pp (.eqn neg k lit x y):=⟨rfl,rfl,rfl⟩
instance (o:UnOp) (x:Arg):Pp (.un o x):=⟨rfl,rfl,rfl⟩
instance (k:IntKind) (x:Arg):Pp (.OX k x):=⟨rfl,rfl,rfl⟩
instance (x:Arg):Pp (.EI x):=⟨rfl,rfl,rfl⟩
instance (m:Nat) (x:Arg):Pp (.ai m x):=⟨rfl,rfl,rfl⟩
instance (t:TypeId) (x:Arg):Pp (.ZX t x):=⟨rfl,rfl,rfl⟩
instance (fn:Fn) (a b:List Arg):Pp (.ZW fn a b):=⟨rfl,rfl,rfl⟩
instance (x:Arg) (lo hi:Option Arg):Pp (.QM x lo hi):=⟨rfl,rfl,rfl⟩
instance (sz:Nat) (x:Arg) (lo hi mx:Option Arg):Pp (.al sz x lo hi mx):=⟨rfl,rfl,rfl⟩
instance (m sz:Nat) (x:Arg) (lo hi mx:Option Arg):Pp (.EW m sz x lo hi mx):=⟨rfl,rfl,rfl⟩
instance (off:Nat) (x:Arg):Pp (.Yn off x):=⟨rfl,rfl,rfl⟩
instance (arr:Option Nat) (sz:Nat) (x i:Arg):Pp (.UB arr sz x i):=⟨rfl,rfl,rfl⟩
instance (m sz:Nat) (agg:Bool) (x i:Arg):Pp (.idx m sz agg x i):=⟨rfl,rfl,rfl⟩
instance (x i:Arg):Pp (.idxs x i):=⟨rfl,rfl,rfl⟩
instance (t:TypeId) (ok:Bool) (z:AV) (x:Arg):Pp (.bd t ok z x):=⟨rfl,rfl,rfl⟩
instance (x:Arg) (i:Nat):Pp (.Ym x i):=⟨rfl,rfl,rfl⟩
instance (x:Arg):Pp (.lens x):=⟨rfl,rfl,rfl⟩
instance (x:Arg):Pp (.WQ x):=⟨rfl,rfl,rfl⟩
instance (x y:Arg):Pp (.WW x y):=⟨rfl,rfl,rfl⟩
instance (x y:Arg):Pp (.WY x y):=⟨rfl,rfl,rfl⟩
instance (k:Sk) (z:AV) (ok:Bool) (x i:Arg):Pp (.lookup k z ok x i):=⟨rfl,rfl,rfl⟩
theorem bGg(P:Program)(g:bF)(n:Nat)(pairs:List (Nat×Nat))(base i0 k0:Nat)(rs:List aZ)(rd:List (Nat×Nat))(ef:List (Nat×aA×aA))(f:cW)(H:aA)(R:cW->aA->Prop)(d:Nat)(op:dY) [Pp op] (hd:d<n):
 eX P g n pairs base i0 k0 (⟨some d,op,none⟩::rs) rd ef f H R=mP (dE (nN g f) H op) fun v H'=>H'=H/\(∀id,op.cZ (nN g f)=some id->∀x∈ef,(i0,x.1)∈pairs->x.2.1.get id=x.2.2.get id)/\
     eX P g n pairs base (i0+1) k0 rs (match op.cZ (nN g f) with|some id=>(i0,id)::rd|none=>rd) ef (iZ f d v) H R:=
 ki d op Pp.h Pp.f Pp.e hd
end
section
section
variable {P:Program} {g:bF} {n:Nat}
theorem CQ{Q:aA->Prop}:∀{ds:List fY} {H:aA},Xx P g ds H Q->∃Hf,Q Hf/\Xx P g ds H fun H'=>H'=Hf
 |[],H,h=>⟨H,h,rfl⟩
 |.call _ _::ds,H,h=>by obtain⟨H1,h1,h2⟩:=h;obtain⟨Hf,q,h3⟩:=CQ h2;exact⟨Hf,q,H1,h1,h3⟩
 |.mark _::ds,H,h=>by obtain⟨h1,h2⟩:=h;obtain⟨Hf,q,h3⟩:=CQ h2;exact⟨Hf,q,h1,h3⟩
theorem tE{Q Q':aA->Prop}(hq:∀H,Q H->Q' H):∀{ds:List fY} {H:aA},Xx P g ds H Q->Xx P g ds H Q'
 |[],H,h=>hq H h
 |.call _ _::ds,H,h=>by obtain⟨H1,h1,h2⟩:=h;exact⟨H1,h1,tE hq h2⟩
 |.mark _::ds,H,h=>⟨h.1,tE hq h.2⟩
def aOc(P:Program)(g:bF)(rs:List HL)(R:Out->aA->Prop):FQ
 |.normal,f,ds,H|.ret,f,ds,H=>Xx P g ds H fun H1=>∃vs,sJ f H1 rs=some vs/\R (.ret (pA vs)) H1
 |.panic v,f,ds,H=>match ds with
  |[]=>R (.JU v) H
  |.mark _::_=>False
  |.call df azs::ds=>∃H1,FH P g df azs (some v) H H1/\Xx P g ds H1 fun H2=>∃vs,sJ f H2 rs=some vs/\R (.ret (pA vs)) H2
 |.exit _,_,_,_=>False
theorem aFu{F:CR}{args:List AV}(ha:args.length<=F.ntmps){H:aA}{R:Out->aA->Prop}(h:FC P g F.ntmps F.body (fO args) [] H (aOc P g F.results R)):
 AC P g F.body (qP F args) [] H (aOd P g F R):=by
 obtain⟨hb,hl⟩:=xV ha;unfold qP;rw[<-hl];refine eF (fun e s ds H hq=>?_) (tG F.body _ [] H _ hb h);obtain⟨f,rfl,zY,hq⟩:=hq
 have conv:∀H1,(∃vs,sJ f H1 F.results=some vs/\R (.ret (pA vs)) H1)->∃vs,mN (LF F.ntmps f) H1 F.results=some vs/\R (.ret (pA vs)) H1:=fun H1 ⟨vs,h1,h2⟩=>⟨vs,by rw[<-JZ zY];exact h1,h2⟩
 cases e with
 |normal=>exact tE conv hq
 |ret=>exact tE conv hq
 |panic v=>
  cases ds with
  |nil=>exact hq
  |cons d ds=>
   cases d with
   |mark _=>exact hq.elim
   |call _ _=>obtain⟨H1,h1,h2⟩:=hq;exact⟨H1,h1,tE conv h2⟩
 |exit id=>exact hq
theorem yC{mu:Bool}(hm:Fit P g){f:FuncId}{F:CR}(hF:gH P g mu f F){args:List AV}(ha:args.length<=F.ntmps){H:aA}{R:Out->aA->Prop}
 (h:FC P g F.ntmps F.body (fO args) [] H (aOc P g F.results R)) (hdt:F.body.cX=true:=by first|rfl|decide) (htt:F.body.tight=true:=by first|rfl|decide):∃out H',R out H'/\Sound P g f args H out H':=by
 obtain⟨ae,s,ds,H',q,hA⟩:=HJ hdt (aFu ha h);rw[htt] at hA
 replace hA:AC P g F.body (qP F args) [] H (fun e s1 d h=>e=ae/\s1=s/\d=ds/\h=H'):=eF (fun e s1 d h hh=>⟨hh.1,hh.2.1.resolve_right fun h=>(by cases h.1),hh.2.2⟩) hA
 have norm:(ae=.normal\/ae=.ret)->(Xx P g ds H' fun H1=>∃vs,mN s H1 F.results=some vs/\R (.ret (pA vs)) H1)->∃out H',R out H'/\Sound P g f args H out H':=by
  intro hae q;obtain⟨Hf,⟨vs,h1,h2⟩,h3⟩:=CQ q;refine⟨_,Hf,h2,pF hm hF (eF (fun e s1 d hh he=>?_) hA)⟩;obtain⟨rfl,rfl,rfl,rfl⟩:=he;have :Xx P g d hh fun H1=>∃vs',mN s1 H1 F.results=some vs'/\(Out.ret (pA vs')=Out.ret (pA vs)/\H1=Hf):=tE (fun H1 e=>by subst e;exact⟨vs,h1,rfl,rfl⟩) h3
  rcases hae with rfl|rfl<;>exact this
 cases ae with
 |exit id=>exact q.elim
 |normal=>exact norm (.inl rfl) q
 |ret=>exact norm (.inr rfl) q
 |panic v=>
  cases ds with
  |nil=>refine⟨.JU v,H',q,pF hm hF (eF (fun e s1 d hh he=>?_) hA)⟩;obtain⟨rfl,rfl,rfl,rfl⟩:=he;exact⟨rfl,rfl⟩
  |cons d ds=>
   cases d with
   |mark _=>exact q.elim
   |call _ _=>obtain⟨H1,h1,h2⟩:=q;obtain⟨Hf,⟨vs,q1,q2⟩,q3⟩:=CQ h2;refine⟨.ret (pA vs),Hf,q2,pF hm hF (eF (fun e s1 d1 hh he=>?_) hA)⟩;obtain⟨rfl,rfl,rfl,rfl⟩:=he;exact⟨H1,h1,tE (fun H1 e=>by subst e;exact⟨vs,q1,rfl,rfl⟩) q3⟩
theorem TV{mu:Bool}(hm:Fit P g){f:FuncId}{dst:Option Nat}{rl:List aZ}{ac:bR}(hF:xx P g mu f n dst rl ac)
 {args:List AV} (ha:args.length<=n) {md:Option AV} {H H':aA}
 (h:bT P g n rl (fM n (fO args) dst (md.getD .pR)) [] H (gI (fun f ds H=>FC P g n ac f ds H fun e f ds H=>(match e with|.normal=>True|.ret=>True|_=>False)/\ds=[]/\H=H') fun _ _ _ _=>False)):
 FH P g f args md H H':=by
 obtain⟨hb,hl⟩:=xV ha;refine TU hm hF ?_;rw[<-hl,<-pE];refine KP (fun e s ds H hq=>?_) (jB rl _ [] H _ (hb.put _ _) h);obtain⟨f,rfl,zY,hq⟩:=hq
 cases e with
 |normal=>refine eF (fun e s ds H hq=>?_) (tG ac f ds H _ zY hq);obtain⟨f,rfl,_,hq⟩:=hq;exact hq
 |_=>exact hq.elim
variable {r:List aZ} {f:cW} {ds:List fY} {H:aA} {Q:FQ}
end
end
section
section
variable {P:Program} {v:Nat->Option (List AV)} {l l':KT->Loop->Prop}
theorem gX:bJ ⟨v,l⟩=bJ ⟨v,l'⟩:=by funext x;cases x<;>rfl
theorem OM:oE ⟨v,l⟩=oE ⟨v,l'⟩:=by
 funext x
 induction x with
 |nil=>rfl
 |cons a r ih=>simp only[oE];rw[ih,gX (l':=l')]
theorem Zg:nJ ⟨v,l⟩=nJ ⟨v,l'⟩:=by
 funext x
 cases x with
 |none=>rfl
 |some a=>simp only[nJ];rw[gX (l':=l')]
theorem Zk(f:Nat->Option (Nat×Nat)):vT ⟨v,l⟩ f=vT ⟨v,l'⟩ f:=by
 funext x
 induction x with
 |nil=>rfl
 |cons a r ih=>simp only[vT];rw[ih,gX (l':=l')]
theorem aCh:∀(n:Nat) (x),JI ⟨v,l⟩ n x=JI ⟨v,l'⟩ n x:=by
 intro n x
 induction x generalizing n with
 |nil=>rfl
 |cons a r ih=>simp only[JI];rw[ih,gX (l':=l')]
theorem YT(op:BinOp)(t:TypeId)(x y:Operand):qE P ⟨v,l⟩ op t x y=qE P ⟨v,l'⟩ op t x y:=by unfold qE;rw[gX (l':=l')]
theorem VX(a b:TypeId)(x:Operand):mQ P ⟨v,l⟩ a b x=mQ P ⟨v,l'⟩ a b x:=by unfold mQ;rw[gX (l':=l')]
theorem Ta(t:TypeId)(x:Operand)(a b c:Option Operand):jT P ⟨v,l⟩ t x a b c=jT P ⟨v,l'⟩ t x a b c:=by unfold jT;rw[gX (l':=l'),Zg (l':=l')]
theorem YV(c:Call):qF P ⟨v,l⟩ c=qF P ⟨v,l'⟩ c:=by unfold qF;rw[gX (l':=l')]
theorem Qt(mu:Bool)(c:Call):gY P ⟨v,l⟩ mu c=gY P ⟨v,l'⟩ mu c:=by unfold gY;rw[gX (l':=l')]
theorem VW(mu:Bool)(c:Call):nZ P ⟨v,l⟩ mu c=nZ P ⟨v,l'⟩ mu c:=by unfold nZ;rw[gX (l':=l'),OM (l':=l'),YV (l':=l'),Qt (l':=l')]
theorem aHl(mu:Bool)(o:Oper):OY P ⟨v,l⟩ mu o=OY P ⟨v,l'⟩ mu o:=by unfold OY;simp only[gX (v:=v) (l:=l) (l':=l'),OM (v:=v) (l:=l) (l':=l'),Zk (v:=v) (l:=l) (l':=l'),aCh (v:=v) (l:=l) (l':=l'),YT (v:=v) (l:=l) (l':=l'),VX (v:=v) (l:=l) (l':=l'),Ta (v:=v) (l:=l) (l':=l'),VW (v:=v) (l:=l) (l':=l')]
theorem my(mu:Bool)(ops:Array Oper)(o:Oper):MT P ⟨v,l⟩ mu ops o=MT P ⟨v,l'⟩ mu ops o:=by unfold MT;rw[aHl (l':=l')]
theorem YX(mu:Bool)(ops:Array Oper):∀x,lM P ⟨v,l⟩ mu ops x=lM P ⟨v,l'⟩ mu ops x:=by
 intro x
 induction x with
 |nil=>rfl
 |cons a r ih=>simp only[lM];rw[ih,my (l':=l')]
theorem kx(mu:Bool)(c:Code):eK P ⟨v,l⟩ mu c=eK P ⟨v,l'⟩ mu c:=by
 induction c with
 |region id ops d=>cases d<;>simp only[eK]<;>rw[YX (l':=l')]
 |seq a b qU uC=>simp only[eK,qU,uC]
 |cond c a b qU uC=>simp only[eK,qU,uC];rw[gX (l':=l')]
 |block id a ih=>simp only[eK,ih]
 |loop a ih=>simp only[eK,ih]
 |scope a ih=>simp only[eK,ih]
 |rangeFunc c ps x y ihx ihy=>simp only[eK,ihx,ihy];rw[gX (l':=l')]
 |_=>rfl
def Ql(P:Program)(v:Nat->Option (List AV)):bF:=
 ⟨v,fun k r=>r.params.toList=k.ps/\∃mu,eK P ⟨v,fun _ _=>False⟩ mu r.assign=some k.MQ/\eK P ⟨v,fun _ _=>False⟩ mu r.body=some k.body/\k.MQ.nd=true/\k.body.nd=true⟩
theorem ie(hm:P.follows .mixedOrders=true):Fit P (Ql P v) where
 mixed:=hm
 lok:=fun k r=>by unfold Ql;simp only[kx (P:=P) (v:=v) (l':=fun _ _=>False)]
def wE(P:Program)(g:bF)(mu:Bool)(fn:Go.Func):Option CR:=
 match fn.body with
 |none=>none
 |some c=>match eK P g mu c,uP P fn.results.toList with
  |some b,some r=>some ⟨fn.ntmps,r,b⟩
  |_,_=>none
def dU(P:Program)(g:bF)(mu:Bool):Code->Option bR
 |.skip=>some .skip
 |.label _=>some .skip
 |.region _ ops false=>(lM P g mu ops ops.toList).map .ops
 |.region _ ops true=>(lM P g mu ops ops.toList).map fun rl=>.draw rl (pS rl (Region.before ops).toList)
 |.seq a b=>match dU P g mu a,dU P g mu b with
  |some x,some y=>some (.seq x y)
  |_,_=>none
 |.cond c a b=>match bJ g c,dU P g mu a,dU P g mu b with
  |some z,some x,some y=>some (.cond z x y)
  |_,_,_=>none
 |.block id a=>(dU P g mu a).map (.block id)
 |.loop a=>(dU P g mu a).map .loop
 |.scope a=>dU P g mu a
 |.exit id=>some (.exit id)
 |.ret=>some .ret
 |.rangeFunc c ps x y=>match bJ g c,dU P g mu x,dU P g mu y with
  |some c',some x',some y'=>some (.oJ c' ps.toList x' y')
  |_,_,_=>none
 |_=>none
theorem kv{P:Program}{g:bF}{mu:Bool}:∀{c:Code} {b:bR},eK P g mu c=some b->dU P g mu c=some b:=by
 intro c
 induction c with
 |region k ops d=>
  intro b h
  cases d with
  |false=>exact h
  |true=>
   simp only[eK] at h;simp only[dU];split at h
   . rename_i rl Tq;split at h
     . cases h;rw[Tq];rfl
     cases h
   cases h
 |seq a b qU uC=>
  intro r h;simp only[eK] at h;split at h
  . rename_i x y hx hy;simp only[dU,qU hx,uC hy];exact h
  cases h
 |cond c a b qU uC=>
  intro r h;simp only[eK] at h;split at h
  . rename_i z x y hz hx hy;simp only[dU,hz,qU hx,uC hy];exact h
  cases h
 |block i a qU=>intro r h;simp only[eK,Ae] at h;obtain⟨x,hx,rfl⟩:=h;simp only[dU,qU hx,Cf]
 |loop a qU=>intro r h;simp only[eK,Ae] at h;obtain⟨x,hx,rfl⟩:=h;simp only[dU,qU hx,Cf]
 |scope a qU=>intro r h;simp only[eK] at h;simp only[dU];exact qU h
 |rangeFunc c ps x y ihx ihy=>
  intro r h;simp only[eK] at h;split at h
  . rename_i c' x' y' hc hx hy;split at h
    . simp only[dU,hc,ihx hx,ihy hy];exact h
    cases h
  cases h
 |_=>intro r h;first|exact h|cases h
def mkX(P:Program)(g:bF)(mu:Bool)(fn:Go.Func):Option CR:=
 match fn.body with
 |none=>none
 |some c=>match dU P g mu c,uP P fn.results.toList with
  |some b,some r=>some ⟨fn.ntmps,r,b⟩
  |_,_=>none
theorem aCm{P:Program}{g:bF}{mu:Bool}{fn:Go.Func}{F:CR}(h:(wE P g mu fn).isSome=true)(hx:mkX P g mu fn=some F):wE P g mu fn=some F:=by
 cases hm:wE P g mu fn with
 |none=>rw[hm] at h;cases h
 |some G=>
  have e:mkX P g mu fn=some G:=by
   unfold wE at hm;unfold mkX
   cases hc:fn.body with
   |none=>rw[hc] at hm;cases hm
   |some c=>
    rw[hc] at hm;simp only at hm ⊢;split at hm
    . rename_i b r hb hr;rw[kv hb,hr];exact hm
    cases hm
  rw[e] at hx;exact hx
def sqO:Option bR->Option bR->Option bR
 |some x,some y=>some (.seq x y)
 |_,_=>none
def cdO(c:Option Arg):Option bR->Option bR->Option bR
 |some x,some y=>match c with
  |some z=>some (.cond z x y)
  |none=>none
 |_,_=>none
theorem ax(P:Program)(g:bF)(mu:Bool):(∀a b,dU P g mu (.seq a b)=sqO (dU P g mu a) (dU P g mu b))/\(∀c a b,dU P g mu (.cond c a b)=cdO (bJ g c) (dU P g mu a) (dU P g mu b))/\
 (∀i a,dU P g mu (.block i a)=(dU P g mu a).map (.block i))/\(∀a,dU P g mu (.loop a)=(dU P g mu a).map .loop)/\(∀a,dU P g mu (.scope a)=dU P g mu a)/\
 (∀k ops,dU P g mu (.region k ops false)=(lM P g mu ops ops.toList).map .ops)/\(∀k ops,dU P g mu (.region k ops true)=(lM P g mu ops ops.toList).map fun rl=>.draw rl (pS rl (Region.before ops).toList)):=by
 refine⟨fun a b=>?_,fun c a b=>?_,fun i a=>rfl,fun a=>rfl,fun a=>rfl,fun k ops=>rfl,fun k ops=>rfl⟩
 . conv=>lhs;unfold dU
   unfold sqO;cases dU P g mu a<;>cases dU P g mu b<;>rfl
 conv=>lhs;unfold dU
 unfold cdO;cases bJ g c<;>cases dU P g mu a<;>cases dU P g mu b<;>rfl
theorem dQ {g:bF} {mu:Bool} {f:FuncId} {fn:Go.Func} {F:CR} (h1:P.funcs[f]?=some fn) (h2:(fn.name== "runtime.NumGoroutine")=false) (h:wE P g mu fn=some F):gH P g mu f F:=by
 unfold wE at h;split at h
 . cases h
 rename_i c hc;split at h
 . rename_i b r hb hr;cases h;exact⟨fn,c,h1,hc,h2,hb,rfl,hr⟩
 cases h
end
end
section
def aZ.rJ(o:aZ):Bool:=match o.op with|.lN _ _=>false|_=>true
def bR.rJ:bR->Bool
 |.ops rl=>rl.all aZ.rJ
 |.seq a b|.cond _ a b=>a.rJ&&b.rJ
 |.block _ a|.loop a=>a.rJ
 |.oJ _ _ _ _=>false
 |_=>true
def bR.wr:bR->List Nat
 |.ops rl|.draw rl _=>rl.filterMap (·.dst)
 |.seq a b|.cond _ a b=>a.wr++b.wr
 |.block _ a|.loop a=>a.wr
 |_=>[]
def sP(t:Nat):List Nat->Bool
 |[]=>false
 |x::l=>Nat.beq t x||sP t l
theorem WX{t:Nat}:∀{l:List Nat},sP t l=true↔t∈l
 |[]=>by simp[sP]
 |x::l=>by simp[sP,WX]
theorem pQ{t:Nat}{l:List Nat}:sP t l=false↔t∉l:=by rw[<-WX];simp
def jP(W:List Nat)(f0 f:cW):Prop:=∀t,sP t W=false->f t=f0 t
theorem jP.aEd{W:List Nat}{f:cW}:jP W f f:=fun _ _=>rfl
def Kp(W:List Nat)(f0:cW)(nd:Bool)(ds0:List fY)(f:cW)(ds:List fY):Prop:=jP W f0 f/\(nd=true->ds=ds0)
theorem jP.put{W:List Nat}{f0 f:cW}{n:Nat}(h:jP W f0 f)(dst:Option Nat)(hd:∀d,dst=some d->d∈W)(v:AV):jP W f0 (fM n f dst v):=by
 cases dst with
 |none=>exact h
 |some d=>
  intro t ht
  have cG:t≠d:=fun e=>by subst e;exact pQ.1 ht (hd _ rfl)
  simp only[fM];split
  . rw[oO _ _ cG];exact h t ht
  exact h t ht
section
variable {P:Program} {g:bF} {n:Nat} {W:List Nat} {f0:cW} {nd:Bool} {ds0:List fY}
theorem km{rl:List aZ}:∀{f:cW} {ds:List fY} {H:aA} {Q:FQ},(∀o∈rl,∀d,o.dst=some d->d∈W)->(nd=true->rl.all aZ.rJ=true)->Kp W f0 nd ds0 f ds->
 bT P g n rl f ds H Q->bT P g n rl f ds H (fun e f' fH H'=>Kp W f0 nd ds0 f' fH/\Q e f' fH H'):=by
 induction rl with
 |nil=>exact fun _ _ hk h=>⟨hk,h⟩
 |cons o r ih=>
  intro f ds H Q hw hn hk h;have lT:=fun o ho=>hw o (Aw _ ho)
  have IZ:nd=true->r.all aZ.rJ=true:=fun e=>by have :=hn e;simp only[Ll,Ak] at this;exact this.2
  have GI:∀v,Kp W f0 nd ds0 (fM n f o.dst v) ds:=fun v=>⟨hk.1.put _ (hw o Bc) v,hk.2⟩;unfold bT at h ⊢;split
  . rename_i RN;rw[if_pos RN] at h;split at h
    . obtain⟨out,H',h1,h3⟩:=h;refine⟨out,H',h1,?_⟩
      cases out with
      |ret v=>exact ih lT IZ (GI v) h3
      |JU v=>exact⟨hk,h3⟩
    . obtain⟨t,v,h1,h2⟩:=h;exact⟨t,v,h1,hk,h2⟩
    . rename_i c az fP;obtain⟨p,h1,h2⟩:=h;refine⟨p,h1,ih lT IZ ⟨(GI _).1,fun e=>?_⟩ h2⟩;have :=hn e;simp only[Ll,Ak] at this;have h3:=this.1;rw[aZ.rJ,fP] at h3;cases h3
    . obtain⟨m,es,h1,h2,h3⟩:=h;exact⟨m,es,h1,h2,fun bs c mb k1 k2=>ih lT IZ (GI _) (h3 bs c mb k1 k2)⟩
    . obtain⟨it,m,mb,c,seen,es,bs,h1,h2,h3,h4,h5⟩:=h;exact⟨it,m,mb,c,seen,es,bs,h1,h2,h3,fun k=>ih lT IZ (GI _) (h4 k),fun j k1 k2=>ih lT IZ (GI _) (h5 j k1 k2)⟩
    . obtain⟨it,m,mb,c,seen,es,bs,j,h1,h2,h3,h4,h5⟩:=h;exact⟨it,m,mb,c,seen,es,bs,j,h1,h2,h3,h4,ih lT IZ (GI _) h5⟩
    unfold mP at h ⊢;split at h
    . exact ih lT IZ (GI _) h
    exact h.elim
  rename_i RN;rw[if_neg RN] at h;exact ih lT IZ (GI _) h
theorem xt{pairs:List (Nat×Nat)}{base:Nat}{rl:List aZ}:∀{i k:Nat} {rd:List (Nat×Nat)} {ef:List (Nat×aA×aA)} {f:cW} {H:aA} {Q:cW->aA->Prop},(∀o∈rl,∀d,o.dst=some d->d∈W)->jP W f0 f->
 YC P g n pairs base i k rl rd ef f H Q->YC P g n pairs base i k rl rd ef f H (fun f' H'=>jP W f0 f'/\Q f' H'):=by
 induction rl with
 |nil=>exact fun _ hk h=>⟨hk,h⟩
 |cons r rs ih=>
  intro i k rd ef f H Q hw hk h;have lT:=fun o ho=>hw o (Aw _ ho);have GI:∀v,jP W f0 (fM n f r.dst v):=fun v=>hk.put _ (hw r Bc) v;unfold YC at h ⊢;split
  . rename_i RN;rw[if_pos RN] at h;split
    . rename_i hf;rw[if_pos hf] at h;obtain⟨ob,val,h1,h2,h3⟩:=h;exact⟨ob,val,h1,h2,ih lT (GI _) h3⟩
    rename_i hf;rw[if_neg hf] at h;split
    . rename_i he;rw[if_pos he] at h;obtain⟨v,H',h1,h2,h3,h4⟩:=h;exact⟨v,H',h1,h2,h3,ih lT (GI _) h4⟩
    rename_i he;rw[if_neg he] at h;obtain⟨v,h1,h2,h3⟩:=h;exact⟨v,h1,h2,ih lT (GI _) h3⟩
  rename_i RN;rw[if_neg RN] at h;exact ih lT (GI _) h
theorem aCl{rl:List aZ}(hw:∀d∈rl.filterMap (·.dst),d∈W):∀o∈rl,∀d,o.dst=some d->d∈W:=fun o ho d hd=>hw d (Jq.2 ⟨o,ho,hd⟩)
theorem xp{c:bR}:∀{f:cW} {ds:List fY} {H:aA} {Q:FQ},(∀d∈c.wr,d∈W)->(nd=true->c.rJ=true)->Kp W f0 nd ds0 f ds->FC P g n c f ds H Q->FC P g n c f ds H (fun e f' fH H'=>Kp W f0 nd ds0 f' fH/\Q e f' fH H'):=by
 induction c with
 |skip=>exact fun _ _ hk h=>⟨hk,h⟩
 |ops rl=>exact fun hw hn hk h=>km (aCl hw) hn hk h
 |draw rl pairs=>exact fun hw _ hk h=>h.imp (fun h=>⟨h.1,VI (fun _ _ h=>⟨⟨h.1,hk.2⟩,h.2⟩) (xt (aCl hw) hk.1 h.2)⟩) fun h=>h.imp (fun h hb=>let⟨x,f',H',h1,h2,h3,h4⟩:=h hb;⟨x,f',H',h1,h2,h3,⟨fun t ht=>(h3 t fun hm=>pQ.1 ht (hw t hm)).trans (hk.1 t ht),hk.2⟩,h4⟩) fun h hb=>let⟨x,H',h1,h2⟩:=h hb;⟨x,H',h1,fun f' zY ht'=>⟨⟨fun t ht=>(ht' t fun hm=>pQ.1 ht (hw t hm)).trans (hk.1 t ht),hk.2⟩,h2 f' zY ht'⟩⟩
 |seq a b qU uC=>
  intro f ds H Q hw hn hk h;simp only[bR.wr,Aq] at hw;simp only[bR.rJ,Ak] at hn;show FC P g n a f ds H _;refine jI (fun e f ds H h=>?_) (qU (fun d hd=>hw d (.inl hd)) (fun e=>(hn e).1) hk h)
  cases e with
  |normal=>exact uC (fun d hd=>hw d (.inr hd)) (fun e=>(hn e).2) h.1 h.2
  |_=>exact h
 |cond c a b qU uC=>
  intro f ds H Q hw hn hk h;simp only[bR.wr,Aq] at hw;simp only[bR.rJ,Ak] at hn;obtain⟨t,h1,h2⟩:=h;refine⟨t,h1,?_⟩
  cases t with
  |true=>exact qU (fun d hd=>hw d (.inl hd)) (fun e=>(hn e).1) hk h2
  |false=>exact uC (fun d hd=>hw d (.inr hd)) (fun e=>(hn e).2) hk h2
 |block id a ih=>
  intro f ds H Q hw hn hk h;show FC P g n a f ds H _;refine jI (fun e f ds H h=>?_) (ih hw hn hk h)
  cases e with
  |exit i=>
   obtain⟨h0,h⟩:=h;simp only[dO] at h ⊢;split
   . rename_i hi;rw[if_pos hi] at h;exact⟨h0,h⟩
   rename_i hi;rw[if_neg hi] at h;exact⟨h0,h⟩
  |_=>exact h
 |loop a ih=>
  intro f ds H Q hw hn hk h;obtain⟨I,m,h0,hI⟩:=h;refine⟨fun m f ds H=>Kp W f0 nd ds0 f ds/\I m f ds H,m,⟨hk,h0⟩,fun m f ds H hi=>jI (fun e f ds H h=>?_) (ih hw hn hi.1 (hI m f ds H hi.2))⟩
  cases e with
  |normal=>obtain⟨h1,k,hk,hi⟩:=h;exact⟨k,hk,h1,hi⟩
  |_=>exact h
 |exit id=>exact fun _ _ hk h=>⟨hk,h⟩
 |ret=>exact fun _ _ hk h=>⟨hk,h⟩
 |oJ c ps a b qU uC=>
  intro f ds H Q hw hn hk h;obtain⟨fid,fs,cs,v,He,k',s',st,Hf,h1,h2,h3,h4,h5⟩:=h;have rF:∀pI,Kp W f0 nd ds0 f pI:=fun pI=>⟨hk.1,fun e=>by cases hn e⟩;refine⟨fid,fs,cs,v,He,k',s',st,Hf,h1,h2,h3,h4,?_⟩
  cases st with
  |ready=>exact⟨rF _,h5⟩
  |done e=>cases e<;>exact⟨rF _,h5⟩
  |busy=>exact h5.elim
  |over _=>exact h5.elim
theorem HO{c:bR}{f:cW}{ds:List fY}{H:aA}{Q:FQ}(h:FC P g n c f ds H Q):FC P g n c f ds H (fun e f' fH H'=>jP c.wr f f'/\(c.rJ=true->fH=ds)/\Q e f' fH H'):=
 jI (fun _ _ _ _ h=>⟨h.1.1,h.1.2,h.2⟩) (xp (nd:=c.rJ) (ds0:=ds) (fun _ h=>h) id ⟨.aEd,fun _=>rfl⟩ h)
theorem jP.trans{W:List Nat}{f f' DC:cW}(h:jP W f f')(h':jP W f' DC):jP W f DC:=fun t ht=>(h' t ht).trans (h t ht)
theorem jP.sub{W W':List Nat}{f f':cW}(h:jP W' f f')(hs:∀d∈W',d∈W):jP W f f':=fun t ht=>h t (pQ.2 fun hm=>pQ.1 ht (hs t hm))
theorem iA{a:bR}{f:cW}{ds:List fY}{H:aA}{Q:FQ}(cs:List Nat)(I:Nat->List AV->aA->Prop)(m:Nat)(hn:a.rJ=true)(h0:I m (cs.map f) H)
 (h:∀m f' H',jP a.wr f f'->I m (cs.map f') H'->FC P g n a f' ds H' (gI (fun DC _ HU=>∃k,k<m/\I k (cs.map DC) HU) Q)):FC P g n (.loop a) f ds H Q:=by
 refine⟨fun m f' fH H'=>jP a.wr f f'/\fH=ds/\I m (cs.map f') H',m,⟨.aEd,rfl,h0⟩,?_⟩;rintro m f' fH H' ⟨hk,rfl,hi⟩;refine jI (fun e f2 Qy H2 hh=>?_) (HO (h m f' H' hk hi));obtain⟨h1,h2,h3⟩:=hh
 cases e with
 |normal=>obtain⟨k,eW,Vz⟩:=h3;exact⟨k,eW,hk.trans h1,h2 hn,Vz⟩
 |_=>exact h3
def bGd(n cmp ix ln nx:Nat)(cs:List Nat)(B:bR):Bool:=
 Nat.blt cmp n&&Nat.blt ix n&&Nat.blt nx n&& !Nat.beq cmp ix&& !Nat.beq cmp ln&& !Nat.beq nx ix&& !Nat.beq nx ln&& !Nat.beq ix ln&& !sP cmp cs&& !sP ix cs&& !sP nx cs&& !sP ix B.wr&& !sP ln B.wr&&B.rJ
theorem JM{cs:List Nat}{f:cW}{d:Nat}{v:AV}(h:sP d cs=false):cs.map (iZ f d v)=cs.map f:=
 El fun t ht=>oO f v fun e=>pQ.1 h (e▸ht)
def Ux(cmp ix nx:Nat)(B:bR):List Nat:=cmp::nx::ix::B.wr
theorem cC{id cmp ix ln nx:Nat}{B:bR}{f:cW}{ds:List fY}{H:aA}{Q:FQ}(cs:List Nat)(J:Nat->List AV->aA->Prop)(N:Nat)(hN:(N:Int)<2^63)
 (hs:bGd n cmp ix ln nx cs B=true) (h1:f ix=.int .i64 0) (h2:f ln=.int .i64 N) (h0:J 0 (cs.map f) H)
 (body:∀(i:Nat) (f':cW) (H':aA),i<N->jP (Ux cmp ix nx B) f f'->f' ix=.int .i64 i->J i (cs.map f') H'->FC P g n B f' ds H' (gI (fun DC _ HU=>J (i+1) (cs.map DC) HU) (dO id Q)))
 (done:∀(f':cW) (H':aA),jP (Ux cmp ix nx B) f f'->J N (cs.map f') H'->Q .normal f' ds H'):
 FC P g n (.block id (.loop (.seq (.ops [⟨some cmp,.bin .lss (.tmp ix) (.tmp ln),none⟩]) (.seq (.cond (.tmp cmp) .skip (.exit id)) (.seq B
  (.ops [⟨some nx,.bin .add (.tmp ix) (.const (.int .i64 1)),none⟩,⟨some ix,.Lu (.tmp nx),none⟩])))))) f ds H Q:=by
 simp only[bGd,Ak,Cs,Gx] at hs;obtain⟨⟨⟨⟨⟨⟨⟨⟨⟨⟨⟨⟨⟨s1,s2⟩,s3⟩,s4⟩,s5⟩,s6⟩,s7⟩,s8⟩,c1⟩,c2⟩,c3⟩,b1⟩,b2⟩,b3⟩:=hs;have ne:∀{a b:Nat},Nat.beq a b=false->a≠b:=fun h e=>by subst e;simp at h
 have kpU:∀{f':cW} {d:Nat} {v:AV},d∈Ux cmp ix nx B->jP (Ux cmp ix nx B) f f'->jP (Ux cmp ix nx B) f (iZ f' d v):=fun {f' d v} hd hk t ht=>by have cG:t≠d:=fun e=>pQ.1 ht (by rw[e];exact hd);rw[oO _ _ cG];exact hk t ht
 refine xq (id:=id) (cmp:=cmp) (ix:=ix) (ln:=ln) (nx:=nx) (B:=B) (fun i f' H'=>jP (Ux cmp ix nx B) f f'/\J i (cs.map f') H') N hN ⟨s1,s2,s3,ne s4,ne s5,ne s6,ne s7,ne s8⟩ h1 h2 ⟨.aEd,h0⟩ ?_ ?_ ?_
 . rintro i f' H' d v hd ⟨hk,hj⟩
   have hm:sP d cs=false/\d∈Ux cmp ix nx B:=(by rcases hd with rfl|rfl|rfl<;>simp[c1,c2,c3,Ux]);exact⟨kpU hm.2 hk,by rw[JM hm.1];exact hj⟩
 . rintro i f' H' hi e1 e2 ⟨hk,hj⟩;refine jI (fun e f2 Qy H2 hh=>?_) (HO (body i f' H' hi hk e1 hj));obtain⟨k1,k2,k3⟩:=hh
   cases e with
   |normal=>exact⟨k2 b3,by rw[k1 _ b1];exact e1,by rw[k1 _ b2];exact e2,hk.trans (k1.sub fun d hd=>by simp[Ux,hd]),k3⟩
   |_=>exact k3
 rintro f' H' e2 ⟨hk,hj⟩;exact done f' H' hk hj
def bFz(n cmp ix nx:Nat)(cs:List Nat)(B:bR):Bool:=
 Nat.blt cmp n&&Nat.blt ix n&&Nat.blt nx n&& !Nat.beq cmp ix&& !Nat.beq nx ix&& !sP cmp cs&& !sP ix cs&& !sP nx cs&& !sP ix B.wr&&B.rJ
theorem fC{id cmp ix nx:Nat}{N':Int}{B:bR}{f:cW}{ds:List fY}{H:aA}{Q:FQ}(cs:List Nat)(J:Nat->List AV->aA->Prop)(N:Nat)(hN:(N:Int)<2^63)(hNN:N'=(N:Int))
 (hs:bFz n cmp ix nx cs B=true) (h1:f ix=.int .i64 0) (h0:J 0 (cs.map f) H)
 (body:∀(i:Nat) (f':cW) (H':aA),i<N->jP (Ux cmp ix nx B) f f'->f' ix=.int .i64 i->J i (cs.map f') H'->FC P g n B f' ds H' (gI (fun DC _ HU=>J (i+1) (cs.map DC) HU) (dO id Q)))
 (done:∀(f':cW) (H':aA),jP (Ux cmp ix nx B) f f'->J N (cs.map f') H'->Q .normal f' ds H'):
 FC P g n (.block id (.loop (.seq (.ops [⟨some cmp,.bin .lss (.tmp ix) (.const (.int .i64 N')),none⟩]) (.seq (.cond (.tmp cmp) .skip (.exit id)) (.seq B
  (.ops [⟨some nx,.bin .add (.tmp ix) (.const (.int .i64 1)),none⟩,⟨some ix,.Lu (.tmp nx),none⟩])))))) f ds H Q:=by
 simp only[bFz,Ak,Cs,Gx] at hs;obtain⟨⟨⟨⟨⟨⟨⟨⟨⟨s1,s2⟩,s3⟩,s4⟩,s6⟩,c1⟩,c2⟩,c3⟩,b1⟩,b3⟩:=hs;have ne:∀{a b:Nat},Nat.beq a b=false->a≠b:=fun h e=>by subst e;simp at h
 have kpU:∀{f':cW} {d:Nat} {v:AV},d∈Ux cmp ix nx B->jP (Ux cmp ix nx B) f f'->jP (Ux cmp ix nx B) f (iZ f' d v):=fun {f' d v} hd hk t ht=>by have cG:t≠d:=fun e=>pQ.1 ht (by rw[e];exact hd);rw[oO _ _ cG];exact hk t ht
 refine kf (id:=id) (cmp:=cmp) (ix:=ix) (nx:=nx) (B:=B) (fun i f' H'=>jP (Ux cmp ix nx B) f f'/\J i (cs.map f') H') N hN hNN ⟨s1,s2,s3,ne s4,ne s6⟩ h1 ⟨.aEd,h0⟩ ?_ ?_ ?_
 . rintro i f' H' d v hd ⟨hk,hj⟩
   have hm:sP d cs=false/\d∈Ux cmp ix nx B:=(by rcases hd with rfl|rfl|rfl<;>simp[c1,c2,c3,Ux]);exact⟨kpU hm.2 hk,by rw[JM hm.1];exact hj⟩
 . rintro i f' H' hi e1 ⟨hk,hj⟩;refine jI (fun e f2 Qy H2 hh=>?_) (HO (body i f' H' hi hk e1 hj));obtain⟨k1,k2,k3⟩:=hh
   cases e with
   |normal=>exact⟨k2 b3,by rw[k1 _ b1];exact e1,hk.trans (k1.sub fun d hd=>by simp[Ux,hd]),k3⟩
   |_=>exact k3
 rintro f' H' ⟨hk,hj⟩;exact done f' H' hk hj
theorem bc{nw tag:Nat}(h:Nat.blt tag 2=true):ED none nw tag=tag:=by
 rw[Gx] at h
 match tag,h with
 |0,_=>rfl
 |1,_=>rfl
theorem xT{H:aA}{nw:Nat}{v:AV}(h:v.free=true):gT H none nw 0 v=some v:=by
 have key:kT H none nw v=some v:=by
  cases v<;>first
   |(simp only[AV.free] at h;cases h;done)
   |(simp only[AV.free,Ak] at h;simp only[kT,h.2,bc h.1];done)
   |(simp only[kT,h])
 cases v<;>exact key
theorem eS{mu:Bool}(hm:Fit P g)(hg:HT g){k:FuncId}{F:CR}(hF:gH P g mu k F){args:List AV}{v':AV}(hl:args.length<=F.ntmps)(ha:cM args=true)
 (h:FC P g F.ntmps F.body (fO args) [] ⟨0,.nil⟩ (RS F.results fun o H2=>∃v n,o=.ret v/\∀nw,gT H2 none nw n v=some v')) (H:aA):Sound P g k args H (.ret v') H:=by
 refine(HW hm hF (xf hl h)).frame hg ha H fun out H2 hR=>?_;obtain⟨v,n,rfl,hs⟩:=hR;exact⟨none,n,v',fun k hk=>(by cases hk),hs _,rfl,rfl⟩
theorem td{rs:List HL}{R R':Out->aA->Prop}(h:∀o H,R o H->R' o H){e:kd}{f:cW}{ds:List fY}{H:aA}(hr:RS rs R e f ds H):RS rs R' e f ds H:=by
 cases e with
 |normal=>obtain⟨h1,vs,h2,h3⟩:=hr;exact⟨h1,vs,h2,h _ _ h3⟩
 |ret=>obtain⟨h1,vs,h2,h3⟩:=hr;exact⟨h1,vs,h2,h _ _ h3⟩
 |panic v=>obtain⟨h1,h3⟩:=hr;exact⟨h1,h _ _ h3⟩
 |exit _=>exact hr
theorem FI{mu:Bool}(hm:Fit P g)(hg:HT g){k:FuncId}{F:CR}(hF:gH P g mu k F){args:List AV}{v:AV}(hl:args.length<=F.ntmps)(ha:cM args=true)(hv:v.free=true)
 (h:FC P g F.ntmps F.body (fO args) [] ⟨0,.nil⟩ (RS F.results fun o _=>o=.ret v)) (H:aA):Sound P g k args H (.ret v) H:=
 eS hm hg hF hl ha (jI (fun _ _ _ _=>td fun o H2 e=>⟨v,0,e,fun _=>xT hv⟩) h) H
end
end
end Go.Av
namespace Go.lP
def W:Nat:=4294967296
theorem oQ:0<W:=by decide
theorem dR(k:Nat):0<W^k:=Gp oQ
def aJ(n k:Nat):Nat:=n / W^k%W
theorem cU(n k:Nat):aJ n k<W:=Bz _ oQ
theorem mod_succ(n k:Nat):n%W^(k+1)=n%W^k+W^k*aJ n k:=Nat.mod_pow_succ
theorem DI{n k:Nat}(h:n<W^k):aJ n k=0:=by unfold aJ;rw[Dn h];rfl
theorem xG{n m k:Nat}(h:n<W^m)(hk:m<=k):aJ n k=0:=
 DI (Bj h (Ck oQ hk))
def cr(a b k:Nat):Nat:=(a%W^k+b%W^k) / W^k
theorem aHn(a b:Nat):cr a b 0=0:=by simp[cr,Jc]
theorem aHm(a b k:Nat):cr a b (k+1)=(cr a b k+aJ a k+aJ b k) / W:=by
 unfold cr;rw[mod_succ,mod_succ,Cw,<-Dw];congr 1
 rw[show a%W^k+W^k*aJ a k+(b%W^k+W^k*aJ b k)=a%W^k+b%W^k+W^k*(aJ a k+aJ b k) by rw[Da];omega,
  Fx _ _ (dR k)]
 omega
theorem aMc(a b k:Nat):cr a b k<=1:=by unfold cr;have h1:=Bz a (dR k);have h2:=Bz b (dR k);have :(a%W^k+b%W^k) / W^k<2:=(Ch (dR k)).2 A0;omega
theorem Yh(a b k:Nat):(a+b) / W^k=a / W^k+b / W^k+cr a b k:=by
 unfold cr;have h1:=Eh a (W^k);have h2:=Eh b (W^k);have :a+b=a%W^k+b%W^k+W^k*(a / W^k+b / W^k):=by rw[Da];omega
 rw[this,Fx _ _ (dR k)];omega
theorem aCe(a b k:Nat):aJ (a+b) k=(cr a b k+aJ a k+aJ b k)%W:=by unfold aJ;rw[Yh];simp only[W];omega
theorem aTb{a b k:Nat}(ha:a<W^k)(hb:b<W^k):cr a b k=if a+b<W^k then 0 else 1:=by
 have h:=aMc a b k;unfold cr at *;rw[Bn ha,Bn hb] at *;split
 . rename_i hl;exact Dn hl
 rename_i hl;have :=Kc (show W^k<=a+b by omega) (dR k);omega
def bw(a b k:Nat):Nat:=if a%W^k<b%W^k then 1 else 0
theorem aHe(a b:Nat):bw a b 0=0:=by simp[bw,Jc]
theorem aHd(a b k:Nat):bw a b (k+1)=if aJ a k<aJ b k+bw a b k then 1 else 0:=by
 unfold bw;rw[mod_succ,mod_succ];have h1:=Bz a (dR k);have h2:=Bz b (dR k);generalize a%W^k=r at *;generalize b%W^k=s at *;generalize aJ a k=x;generalize aJ b k=y;generalize W^k=P at *
 rcases Kb x y with h|h|h
 . have :P*(x+1)<=P*y:=Dj P h;rw[Da,Dc] at this;rw[if_pos A0,if_pos A0]
 . subst h;split<;>split<;>(try split at *)<;>omega
 have :P*(y+1)<=P*x:=Dj P h;rw[Da,Dc] at this;rw[if_neg A0,if_neg ZaC]
theorem aCf{a b:Nat}(h:b<=a)(k:Nat):(aJ (a -b) k:Int)=((aJ a k:Int) -aJ b k -bw a b k)%(W:Int):=by
 have h1:=Eh a (W^k);have h2:=Eh b (W^k);have l1:=Bz a (dR k);have l2:=Bz b (dR k)
 have e:((a -b) / W^k:Nat)=a / W^k -b / W^k -bw a b k/\b / W^k+bw a b k<=a / W^k:=by
  unfold bw;generalize a%W^k=r at *;generalize b%W^k=s at *;generalize a / W^k=x at *;generalize b / W^k=y at *;generalize hP:W^k=P at *;have hPp:0<P:=hP▸dR k
  have hxy:y<=x:=by
   rcases En x y with hc|hc
   . have :P*(x+1)<=P*y:=Dj P hc;rw[Da,Dc] at this;omega
   exact hc
  split
  . rename_i hrs;have cG:y≠x:=fun e=>by subst e;omega
    have hm:P*(x -y -1)=P*x -P*y -P:=(by rw[Nat.mul_sub,Nat.mul_sub,Dc]);have hm2:P*(y+1)<=P*x:=Dj P A0;rw[Da,Dc] at hm2;refine⟨?_,by omega⟩;have :a -b=(r+P -s)+P*(x -y -1):=A0;rw[this,Fx _ _ hPp,Dn A0];omega
  have hm:P*(x -y)=P*x -P*y:=Nat.mul_sub ..;have hm2:P*y<=P*x:=Dj P hxy;refine⟨?_,by omega⟩;have :a -b=(r -s)+P*(x -y):=by omega
  rw[this,Fx _ _ hPp,Dn A0];omega
 unfold aJ;rw[e.1];have :=e.2;simp only[W] at *;omega
theorem mG(a k:Nat):a / W^k=a / W^(k+1)*W+aJ a k:=by unfold aJ;rw[Cw,<-Dw];have :=Eh (a / W^k) W;rw[Bx] at this;omega
theorem Rq{a b k:Nat}(h:a / W^(k+1)=b / W^(k+1))(hk:aJ a k=aJ b k):a / W^k=b / W^k:=by rw[mG a,mG b,h,hk]
theorem PU{a b k:Nat}(h:a / W^(k+1)=b / W^(k+1))(hk:aJ a k<aJ b k):a<b:=by
 have h1:a / W^k<b / W^k:=by rw[mG a,mG b,h];omega
 rcases En a b with h2|h2
 . exact h2
 have :=Nat.div_le_div_right (c:=W^k) h2;omega
theorem Vj{a b m:Nat}(ha:a<W^m)(hb:b<W^m)(h:∀k,k<m->aJ a k=aJ b k):a=b:=by
 have :∀j,j<=m->a / W^(m -j)=b / W^(m -j):=by
  intro j
  induction j with
  |zero=>intro _;rw[Is,Dn ha,Dn hb]
  |succ j ih=>intro hj;refine Rq (k:=m -(j+1)) ?_ (h _ A0);rw[show m -(j+1)+1=m -j by omega];exact ih A0
 have :=this m (Ag _);simpa using this
def tA:List Nat->Nat
 |[]=>0
 |x::l=>x+W*tA l
theorem UJ:∀(l:List Nat),(∀x∈l,x<W)->tA l<W^l.length
 |[],_=>by decide
 |x::l,h=>by have h1:=UJ l fun y hy=>h y (by simp[hy]);have h2:=h x A2;simp only[tA,As,Cw];have :W*(tA l+1)<=W*W^l.length:=Dj W h1;rw[Da,Dc] at this;rw[Bx (W^l.length)];omega
theorem JH:∀(l:List Nat) (k:Nat),(∀x∈l,x<W)->aJ (tA l) k=l.getD k 0
 |[],k,_=>by simp[tA,aJ]
 |x::l,0,h=>by have :=h x A2;simp only[tA,aJ,Hl,Im,Dk];rw[Nat.add_mul_mod_self_left,Bn this]
 |x::l,k+1,h=>by have h1:=h x A2;have h2:=JH l k fun y hy=>h y (by simp[hy]);rw[Et,<-h2];simp only[tA,aJ];rw[Cw,Bx (W^k),<-Dw,Fx _ _ oQ,Dn h1,Dg]
def aL(m n:Nat):List Nat:=(List.range m).map (aJ n)
theorem bP(m n:Nat):(aL m n).length=m:=by simp[aL]
theorem jD{m n k:Nat}(h:k<m):(aL m n).getD k 0=aJ n k:=by simp[aL,List.getD,h]
theorem BQ{m n:Nat}:∀x∈aL m n,x<W:=by intro x hx;simp only[aL,Bm] at hx;obtain⟨k,_,rfl⟩:=hx;exact cU _ _
theorem eD{m n:Nat}(h:n<W^m):tA (aL m n)=n:=by
 refine Vj (m:=m) ?_ h fun k hk=>?_
 . have :=UJ (aL m n) BQ
   rwa [bP] at this
 rw[JH _ _ BQ,jD hk]
theorem SV{l:List Nat}(h:∀x∈l,x<W):aL l.length (tA l)=l:=by refine Fo (by simp[aL]) fun k h1 h2=>?_;simp only[aL,Dv,Ij];rw[JH _ _ h];simp[List.getD,h2]
def jq:Nat->Nat->Nat
 |0,_=>0
 |k+1,a=>if aJ a k=0 then jq k a else k+1
def sz(a:Nat):Nat:=jq 16 a
theorem aw:∀k a,jq k a<=k
 |0,_=>Ag _
 |k+1,a=>by
  unfold jq;split
  . exact Nat.le_succ_of_le (aw k a)
  exact Ag _
theorem a8:∀k a,a<W^k->a<W^jq k a
 |0,_,h=>h
 |k+1,a,h=>by
  unfold jq;split
  . rename_i hl;refine a8 k a ?_;unfold aJ at hl;have h1:a / W^k<W:=by rw[Ch (dR k),Bx,<-Cw];exact h
    rw[Bn h1] at hl
    rcases En a (W^k) with h2|h2
    . exact h2
    have :=Kc h2 (dR k);omega
  exact h
theorem Nt:∀k a,jq k a=0\/aJ a (jq k a -1)≠0
 |0,_=>.inl rfl
 |k+1,a=>by
  unfold jq;split
  . exact Nt k a
  exact .inr (by simpa)
theorem KH{a:Nat}(h:a<W^16):a<W^sz a:=a8 16 a h
theorem XL(a:Nat):sz a<=16:=aw 16 a
theorem jt{a:Nat}(h:a<W^16):sz a=0↔a=0:=by
 constructor
 . intro e;have :=KH h;rw[e] at this;simpa using this
 rintro rfl;decide
theorem gm{a k:Nat}(h:aJ a k≠0):W^k<=a:=by
 rcases En a (W^k) with h1|h1
 . exact absurd (DI h1) h
 exact h1
theorem jr{a:Nat}(h:sz a≠0):W^(sz a -1)<=a:=by
 rcases Nt 16 a with h1|h1
 . exact absurd h1 h
 exact gm h1
theorem MI{a n:Nat}(h:a<W^16):sz a<=n↔a<W^n:=by
 constructor
 . intro hn;exact Bj (KH h) (Ck oQ hn)
 intro hn
 rcases En n (sz a) with h1|h1
 . have h2:=jr (a:=a) A0;have :=Ck oQ (show n<=sz a -1 by omega);omega
 exact h1
def dG(a:Nat):Nat:=if a=0 then 0 else Nat.log2 a+1
theorem iR{a n:Nat}:dG a<=n↔a<2^n:=by
 unfold dG;split
 . rename_i h;subst h;simp[Gp]
 rename_i h;rw[<-Nat.log2_lt h];omega
theorem l7{a n:Nat}(h1:a<2^(n+1))(h2:2^n<=a):dG a=n+1:=by
 have a1:dG a<=n+1:=iR.2 h1;have a2:¬dG a<=n:=fun h=>by have :=iR.1 h;omega
 omega
theorem sK{a k:Nat}(h:a / 2^k≠0):dG a=dG (a / 2^k)+k:=by
 obtain⟨n,hn⟩:∃n,dG (a / 2^k)=n+1:=⟨Nat.log2 (a / 2^k),by unfold dG;rw[if_neg h]⟩;have h1:a / 2^k<2^(n+1):=iR.1 A0;have h2:¬a / 2^k<2^n:=fun h=>by have :=iR.2 h;omega
 rw[hn,show n+1+k=(n+k)+1 by omega];refine l7 ?_ ?_
 . rw[Ch (Gp A1)] at h1
   rwa [show n+k+1=n+1+k by omega,Ez]
 rw[Ch (Gp A1)] at h2;rw[Ez];omega
theorem l8{a:Nat}(h:a<W^16)(h0:sz a≠0):dG a=32*(sz a -1)+dG (aJ a (sz a -1)):=by
 have e:W^(sz a -1)=2^(32*(sz a -1)):=by rw[Nat.pow_mul];rfl
 have h1:=jr h0;have h2:=KH h
 have h3:a / W^(sz a -1)<W:=by
  rw[Ch (dR _),Bx,<-Cw]
  rwa [show(sz a -1).succ=sz a by omega]
 have h4:aJ a (sz a -1)=a / 2^(32*(sz a -1)):=by unfold aJ;rw[Bn h3,e]
 have h5:=Kc h1 (dR (sz a -1));rw[h4,sK (k:=32*(sz a -1)) (by rw[<-e];omega)];omega
theorem uY:∀(l:List Nat) (j d:Nat),j<l.length->tA (l.set j d)+l.getD j 0*W^j=tA l+d*W^j
 |[],_,_,h=>by simp at h
 |x::l,0,d,_=>by simp[tA];omega
 |x::l,j+1,d,h=>by
  have ih:=uY l j d Zay;simp only[List.set_cons_succ,tA,Et,Cw];have e:∀t,t*(W^j*W)=W*(t*W^j):=fun t=>by rw[Bx (W^j),<-Bv,Bx t,Bv]
  rw[e,e,Bh,Bh,<-Da,<-Da,ih]
theorem Vt{l:List Nat}{j d k:Nat}(h:j<l.length):(l.set j d).getD k 0=if k=j then d else l.getD k 0:=by
 simp only[List.getD,Hw];by_cases e:j=k
 . subst e;simp[h]
 rw[if_neg e,if_neg (Ne.symm e)]
def LW(n:Nat)(l:List Nat):Prop:=l.length=n/\∀d∈l,d<W
theorem LW.set{n:Nat}{l:List Nat}(h:LW n l)(j:Nat){d:Nat}(hd:d<W):LW n (l.set j d):=⟨by rw[Ii];exact h.1,fun x hx=>by
 rcases List.mem_or_eq_of_mem_set hx with h1|h1
 . exact h.2 x h1
 omega⟩
theorem LW.getD{n:Nat}{l:List Nat}(h:LW n l)(j:Nat):l.getD j 0<W:=by
 by_cases hj:j<l.length
 . rw[List.getD,Ac hj];exact h.2 _ (Ah hj)
 rw[List.getD,Bt A0];decide
theorem LW.lt{n:Nat}{l:List Nat}(h:LW n l):tA l<W^n:=by
 have :=UJ l h.2
 rwa [h.1] at this
theorem LW.eq{n:Nat}{l:List Nat}(h:LW n l):l=aL n (tA l):=by have :=SV h.2;rw[h.1] at this;exact this.symm
theorem LW.aJ{n:Nat}{l:List Nat}(h:LW n l)(k:Nat):aJ (tA l) k=l.getD k 0:=JH l k h.2
theorem Pc{o:List Nat}{i k c D P b:Nat}(ho:LW 32 o)(hik:i+k<32)(he:tA o+c*W^(i+k)=P+D*W^i*(b%W^k)):
 let t:=c+D*aJ b k+o.getD (i+k) 0
 tA (o.set (i+k) (t%W))+t / W*W^(i+(k+1))=P+D*W^i*(b%W^(k+1)):=by
 intro t;have h1:=uY o (i+k) (t%W) (by rw[ho.1];exact hik)
 have h2:t / W*W^(i+(k+1))+t%W*W^(i+k)=t*W^(i+k):=by rw[show i+(k+1)=(i+k)+1 by omega,Cw,Bx (W^(i+k)),<-Bv,<-Bi,Bx (t / W)];rw[Eh]
 have h3:b%W^(k+1)=b%W^k+W^k*aJ b k:=mod_succ b k
 have h4:D*W^i*(W^k*aJ b k)=D*aJ b k*W^(i+k):=by rw[Ez];simp only[Bx,It,Bv]
 have h5:t*W^(i+k)=c*W^(i+k)+D*aJ b k*W^(i+k)+o.getD (i+k) 0*W^(i+k):=by show(c+D*aJ b k+o.getD (i+k) 0)*_=_;rw[Bi,Bi]
 rw[h3,Da,h4];omega
theorem aJh{o:List Nat}{i m c D a b:Nat}(ho:LW 32 o)(him:i+m<32)(hb:b<W^m)(hD:D=aJ a i)(he:tA o+c*W^(i+m)=a%W^i*b+D*W^i*(b%W^m))(hz:o.getD (i+m) 0=0):
 tA (o.set (i+m) c)=a%W^(i+1)*b:=by
 have h1:=uY o (i+m) c (by rw[ho.1];exact him);rw[hz,Hk,Dd] at h1;rw[h1,he,Bn hb,mod_succ,hD,Bi,Bx (aJ a i)]
theorem GL{m n X:Nat}(h:X<W^n)(hz:∀k,m<=k->k<n->aJ X k=0):X<W^m:=by
 have h1:=a8 n X h;have h2:=aw n X
 rcases En m (jq n X) with h3|h3
 . rcases Nt n X with h4|h4
   . omega
   exact absurd (hz _ A0 A0) h4
 exact Bj h1 (Ck oQ h3)
theorem PQ{m n X:Nat}(h:m<=n):(aL n X).take m=aL m X:=by unfold aL;rw[<-List.map_take,List.take_range,Ji h]
theorem ZR{X:Nat}(h:X<W^32):X<W^16↔(aL 32 X).drop 16=List.replicate 16 0:=by
 constructor
 . intro hx;refine Fo (by simp[aL]) fun k h1 h2=>?_;simp only[List.getElem_drop,aL,Dv,Ij,List.getElem_replicate];exact xG hx A0
 intro e;refine GL h fun k Xn eW=>?_;have :((aL 32 X).drop 16).getD (k -16) 0=0:=by rw[e,List.getD,Ga];split<;>rfl
 rw[List.getD,Gg,show 16+(k -16)=k by omega] at this;have h2:=jD (n:=X) eW;rw[List.getD] at h2;omega
end Go.lP
namespace Go.aD
structure V where
 x:Int
 y:Int
 z:Int
deriving DecidableEq,Inhabited
def dot(a b:V):Int:=a.x*b.x+a.y*b.y+a.z*b.z
def aU(a b:V):V:=⟨a.y*b.z -a.z*b.y,a.z*b.x -a.x*b.z,a.x*b.y -a.y*b.x⟩
def sub(a b:V):V:=⟨a.x-b.x,a.y-b.y,a.z-b.z⟩
def add(a b:V):V:=⟨a.x+b.x,a.y+b.y,a.z+b.z⟩
def smul(c:Int)(a:V):V:=⟨c*a.x,c*a.y,c*a.z⟩
def V0:V:=⟨0,0,0⟩
def cX(n a b:V):Int:=dot n (aU a b)
theorem V.ext'{a b:V}(h1:a.x=b.x)(h2:a.y=b.y)(h3:a.z=b.z):a=b:=by cases a;cases b;simp_all
theorem sq_pos{a:Int}(h:a≠0):0<a*a:=by
 rcases Jv h with h|h
 . exact Gl h h
 exact Dm h h
theorem sq_nonneg(a:Int):0<=a*a:=by
 by_cases h:a=0
 . simp[h]
 exact Ft (sq_pos h)
theorem zN(a:V):0<=dot a a:=by have :=sq_nonneg a.x;have :=sq_nonneg a.y;have :=sq_nonneg a.z;simp only[dot];omega
theorem cD{a:V}(h:a≠V0):0<dot a a:=by
 have h1:=sq_nonneg a.x;have h2:=sq_nonneg a.y;have h3:=sq_nonneg a.z
 rcases Decidable.em (a.x=0) with hx|hx
 . rcases Decidable.em (a.y=0) with hy|hy
   . rcases Decidable.em (a.z=0) with hz|hz
     . exact absurd (V.ext' hx hy hz) h
     have :=sq_pos hz;simp only[dot];omega
   have :=sq_pos hy;simp only[dot];omega
 have :=sq_pos hx;simp only[dot];omega
theorem Qx{a:V}(h:dot a a<=0):a=V0:=
 Fl fun hc=>absurd (cD hc) A0
theorem sub_eq_zero{a b:V}(h:sub a b=V0):a=b:=by have h1:a.x -b.x=0:=Ao V.x h;have h2:a.y -b.y=0:=Ao V.y h;have h3:a.z -b.z=0:=Ao V.z h;exact V.ext' A0 A0 A0
theorem aXm{a b:V}(h:a≠b):sub a b≠V0:=fun e=>h (sub_eq_zero e)
theorem yW{c a:Int}(hc:0<c)(h:0<c*a):0<a:=by
 rcases Ev a 0 with h'|h'|h'
 . have :=Gm hc h';omega
 . subst h';simp at h
 exact h'
theorem jE{c a:Int}(hc:0<c)(h:0<=c*a):0<=a:=by
 rcases Ev a 0 with h'|h'|h'
 . have :=Gm hc h';omega
 . omega
 omega
theorem eJ{c a:Int}(hc:0<c)(h:c*a=0):a=0:=by rcases Kv.1 h with h|h<;>omega
theorem FR(n u v w t:V):cX u v w*dot n t=cX n v w*dot u t+cX n w u*dot v t+cX n u v*dot w t:=by
 simp only[cX,dot,aU]
 grind
theorem Oc{n u v w:V}(hn:n≠V0)(hu:dot n u=0)(hv:dot n v=0)(hw:dot n w=0):cX u v w=0:=by
 have h:=FR n u v w n;have e:∀a:V,dot a n=dot n a:=fun a=>by simp only[dot];grind
 rw[e u,e v,e w,hu,hv,hw] at h;have :=cD hn;simp only[Gv,Int.add_zero] at h
 rcases Kv.1 h with h|h
 . exact h
 omega
theorem three{n u v w:V}(hn:n≠V0)(hu:dot n u=0)(hv:dot n v=0)(hw:dot n w=0):add (add (smul (cX n v w) u) (smul (cX n w u) v)) (smul (cX n u v) w)=V0:=by
 have h:=Oc hn hu hv hw;have hx:cX u v w*n.x=cX n v w*u.x+cX n w u*v.x+cX n u v*w.x:=by simp only[cX,dot,aU];grind
 have hy:cX u v w*n.y=cX n v w*u.y+cX n w u*v.y+cX n u v*w.y:=by simp only[cX,dot,aU];grind
 have hz:cX u v w*n.z=cX n v w*u.z+cX n w u*v.z+cX n u v*w.z:=by simp only[cX,dot,aU];grind
 rw[h,Kl] at hx hy hz;exact V.ext' (by simp only[add,smul,V0];omega) (by simp only[add,smul,V0];omega) (by simp only[add,smul,V0];omega)
theorem para{n u v:V}(hn:n≠V0)(hu:dot n u=0)(hv:dot n v=0)(h:cX n u v=0):smul (dot u u) v=smul (dot u v) u:=by
 have hp:=cD hn;have e1:dot n n*(aU u v).x=cX n u v*n.x+dot n v*(n.z*u.y -n.y*u.z) -dot n u*(n.z*v.y -n.y*v.z):=by simp only[cX,dot,aU];grind
 have e2:dot n n*(aU u v).y=cX n u v*n.y+dot n v*(n.x*u.z -n.z*u.x) -dot n u*(n.x*v.z -n.z*v.x):=by simp only[cX,dot,aU];grind
 have e3:dot n n*(aU u v).z=cX n u v*n.z+dot n v*(n.y*u.x -n.x*u.y) -dot n u*(n.y*v.x -n.x*v.y):=by simp only[cX,dot,aU];grind
 rw[hu,hv,h] at e1 e2 e3;have c1:=eJ hp (by rw[e1];simp);have c2:=eJ hp (by rw[e2];simp);have c3:=eJ hp (by rw[e3];simp);simp only[aU] at c1 c2 c3;refine V.ext' ?_ ?_ ?_<;>simp only[smul,dot]<;>grind
structure TI (P:V->Prop):Prop where
 add:∀u v,P u->P v->P (add u v)
 smul:∀c u,0<c->P u->P (smul c u)
 zero:¬P V0
theorem smul_zero(u:V):smul 0 u=V0:=by simp[smul,V0]
theorem add_zero(u:V):add u V0=u:=by simp[add,V0]
theorem zero_add(u:V):add V0 u=u:=by simp[add,V0]
theorem TI.comb{P:V->Prop}(h:TI P){u v w:V}{a b c:Int}(hu:P u)(hv:P v)(hw:P w)(ha:0<=a)(hb:0<=b)(hc:0<=c)(hz:aD.add (aD.add (aD.smul a u) (aD.smul b v)) (aD.smul c w)=V0):a=0/\b=0/\c=0:=by
 have two:∀{u v:V} {a b:Int},P u->P v->0<=a->0<=b->(a=0/\b=0)\/P (aD.add (aD.smul a u) (aD.smul b v)):=by
  intro u v a b hu hv ha hb;by_cases h1:a=0
  . by_cases h2:b=0
    . exact .inl ⟨h1,h2⟩
    right;subst h1;rw[smul_zero,zero_add];exact h.smul _ _ A0 hv
  by_cases h2:b=0
  . right;subst h2;rw[smul_zero,add_zero];exact h.smul _ _ A0 hu
  right;exact h.add _ _ (h.smul _ _ A0 hu) (h.smul _ _ A0 hv)
 rcases two hu hv ha hb with ⟨h1,h2⟩|h1
 . refine⟨h1,h2,?_⟩;by_cases h3:c=0
   . exact h3
   exfalso;subst h1 h2;rw[smul_zero,smul_zero,add_zero,zero_add] at hz;exact h.zero (hz▸h.smul _ _ A0 hw)
 exfalso;by_cases h3:c=0
 . subst h3;rw[smul_zero,add_zero] at hz;exact h.zero (hz▸h1)
 exact h.zero (hz▸h.add _ _ h1 (h.smul _ _ A0 hw))
theorem OU(f g h:V->Int)(hf:∀u v,f (add u v)=f u+f v)(hg:∀u v,g (add u v)=g u+g v)(hh:∀u v,h (add u v)=h u+h v)
 (hf':∀c u,f (smul c u)=c*f u) (hg':∀c u,g (smul c u)=c*g u) (hh':∀c u,h (smul c u)=c*h u):
 TI fun v=>0<f v\/(f v=0/\(0<g v\/(g v=0/\0<h v))) where
 add u v hu hv:=by simp only[hf,hg,hh];omega
 smul c u hc hu:=by
  simp only[hf',hg',hh']
  rcases hu with hu|⟨h1,hu|⟨h2,hu⟩⟩
  . exact .inl (Dm hc hu)
  . exact .inr ⟨by rw[h1];simp,.inl (Dm hc hu)⟩
  exact .inr ⟨by rw[h1];simp,.inr ⟨by rw[h2];simp,Dm hc hu⟩⟩
 zero:=by
  have z:∀(f:V->Int),(∀c u,f (smul c u)=c*f u)->f V0=0:=fun f hf=>by have :=hf 0 V0;rw[smul_zero] at this;omega
  rw[z f hf',z g hg',z h hh'];omega
section
def vec(p:Nat->V)(a b:Nat):V:=sub (p b) (p a)
def Sd(n:V)(p:Nat->V)(on:List Nat)(a b:Nat):Prop:=
 b∈on/\b≠a/\∀k∈on,0<=cX n (vec p a b) (vec p a k)/\
  (cX n (vec p a b) (vec p a k)=0->0<=dot (vec p a k) (vec p a b)/\dot (vec p a k) (vec p a b)<=dot (vec p a b) (vec p a b))
def Crn(p:Nat->V)(on:List Nat)(a:Nat):Prop:=∃P,TI P/\∀k∈on,k≠a->P (vec p a k)
structure Pl (n:V) (p:Nat->V) (on:List Nat):Prop where
 hn:n≠V0
 inj:∀a∈on,∀b∈on,p a=p b->a=b
 pl:∀a∈on,∀b∈on,dot n (vec p a b)=0
theorem Pl.ne{n:V}{p:Nat->V}{on:List Nat}(h:Pl n p on){a b:Nat}(ha:a∈on)(hb:b∈on)(wU:b≠a):vec p a b≠V0:=
 aXm fun e=>wU (h.inj b hb a ha e)
theorem AW(n u:V):cX n u u=0:=by simp only[cX,dot,aU];grind
theorem AU(n u v:V):cX n v u= -cX n u v:=by simp only[cX,dot,aU];grind
theorem jU(u v:V):dot u v=dot v u:=by simp only[dot];grind
theorem dp(n u v w:V):cX n u (add v w)=cX n u v+cX n u w:=by simp only[cX,dot,aU,add];grind
theorem Vb(n u v:V)(c:Int):cX n u (smul c v)=c*cX n u v:=by simp only[cX,dot,aU,smul];grind
theorem mR(u v w:V):dot u (add v w)=dot u v+dot u w:=by simp only[dot,add];grind
theorem wN(u v:V)(c:Int):dot u (smul c v)=c*dot u v:=by simp only[dot,smul];grind
theorem mi(n e:V):TI fun v=>0<cX n e v\/(cX n e v=0/\0<dot e v):=by have h:=OU (cX n e) (dot e) (fun _=>0) (dp n e) (mR e) (fun _ _=>rfl) (fun c u=>Vb n e u c) (fun c u=>wN e u c) (fun c _=>by simp);simpa using h
theorem YS(n e:V):TI fun v=>0<cX n e v\/(cX n e v=0/\dot e v<0):=by have h:=OU (cX n e) (fun v=> -dot e v) (fun _=>0) (dp n e) (fun u v=>by rw[mR];omega) (fun _ _=>rfl) (fun c u=>Vb n e u c) (fun c u=>by rw[wN,Jf]) (fun c _=>by simp);simpa using h
theorem aAf:TI fun v=>0<v.x\/(v.x=0/\(0<v.y\/(v.y=0/\0<v.z))):=
 OU V.x V.y V.z (fun _ _=>rfl) (fun _ _=>rfl) (fun _ _=>rfl) (fun _ _=>rfl) (fun _ _=>rfl) (fun _ _=>rfl)
theorem pY{c:Int}(hc:c≠0){u v:V}(h:smul c u=smul c v):u=v:=by have h1:c*u.x=c*v.x:=Ao V.x h;have h2:c*u.y=c*v.y:=Ao V.y h;have h3:c*u.z=c*v.z:=Ao V.z h;exact V.ext' (Ka hc h1) (Ka hc h2) (Ka hc h3)
variable {n:V} {p:Nat->V} {on:List Nat}
theorem OW(H:Pl n p on){P:V->Prop}(hP:TI P){u v w:V}(hu:dot n u=0)(hv:dot n v=0)(hw:dot n w=0)(pu:P u)(pv:P v)(pw:P w)
 (h1:0<=cX n u v) (h2:0<=cX n v w):0<=cX n u w/\(0<cX n u v\/0<cX n v w->0<cX n u w):=by
 have h:=three H.hn hu hv hw;have a:=AU n u w;by_cases h3:0<cX n u w
 . exact⟨by omega,fun _=>h3⟩
 obtain⟨c1,c2,c3⟩:=hP.comb pu pv pw h2 A0 h1 h;exact⟨by omega,fun _=>by omega⟩
theorem Ri(H:Pl n p on){P:V->Prop}(hP:TI P){u v:V}(hu:dot n u=0)(hv:dot n v=0)(pu:P u)(pv:P v)(h:cX n u v=0):0<dot u v:=by
 have h1:=para H.hn hu hv h;have hu0:u≠V0:=fun e=>hP.zero (e▸pu);have :=cD hu0;have e1:=Ao V.x h1;have e2:=Ao V.y h1;have e3:=Ao V.z h1;simp only[smul] at e1 e2 e3;by_cases h2:0<dot u v
 . exact h2
 exfalso;have z:=hP.comb (a:=dot u u) (b:= -dot u v) (c:=0) pv pu pu A0 A0 A0 (V.ext' (by simp only[add,smul,V0,Hh];omega) (by simp only[add,smul,V0,Hh];omega) (by simp only[add,smul,V0,Hh];omega));omega
theorem JE(n u v:V)(hu:dot n u=0)(hv:dot n v=0):dot n n*(dot u u*dot v v -dot u v*dot u v)=cX n u v*cX n u v:=by
 simp only[cX,dot,aU] at *
 grind
theorem aTe{n u v:V}(hn:n≠V0)(hu:dot n u=0)(hv:dot n v=0)(h:cX n u v=0)(hl:dot v v<=dot u u):dot u v<=dot u u:=by
 have h1:=JE n u v hu hv;rw[h] at h1;have h2:=eJ (cD hn) (by rw[h1];simp);have h3:=zN u;by_cases h4:dot u v<=dot u u
 . exact h4
 exfalso;have h5:dot u u*dot u v<dot u v*dot u v:=Fb A0 A0;have h6:dot u u*dot v v<=dot u u*dot u v:=Df A0 h3;omega
theorem Sd.crn(H:Pl n p on){a b:Nat}(ha:a∈on)(h:Sd n p on a b):Crn p on a:=by
 refine⟨_,mi n (vec p a b),fun k hk Mj=>?_⟩;obtain⟨h1,h2⟩:=h.2.2 k hk
 rcases Ey h1 with h1|h1
 . exact .inl h1
 refine .inr ⟨h1.symm,?_⟩;obtain⟨h3,h4⟩:=h2 h1.symm;rw[jU] at h3
 rcases Ey h3 with h3|h3
 . exact h3
 exfalso;have e:=para H.hn (H.pl a ha b h.1) (H.pl a ha k hk) h1.symm;rw[<-h3,smul_zero] at e;have cG:=cD (H.ne ha h.1 h.2.1);exact H.ne ha hk Mj (pY (c:=dot (vec p a b) (vec p a b)) A0 (by rw[e];simp[smul,V0]))
theorem zH(p:Nat->V)(a b k:Nat):vec p b k=sub (vec p a k) (vec p a b):=by simp only[vec,sub];refine V.ext' ?_ ?_ ?_<;>simp only <;>omega
theorem Vc(n u v w:V):cX n u (sub v w)=cX n u v -cX n u w:=by simp only[cX,dot,aU,sub];grind
theorem BA(u v w:V):dot u (sub v w)=dot u v -dot u w:=by simp only[dot,sub];grind
theorem Sd.next(H:Pl n p on){a b:Nat}(ha:a∈on)(h:Sd n p on a b):Crn p on b:=by
 refine⟨_,YS n (vec p a b),fun k hk hkb=>?_⟩;obtain⟨h1,h2⟩:=h.2.2 k hk;rw[zH p a b k,Vc,BA,AW,jU _ (vec p a k)]
 rcases Ey h1 with h1|h1
 . exact .inl A0
 refine .inr ⟨by omega,?_⟩;obtain⟨h3,h4⟩:=h2 h1.symm
 rcases Ey h4 with h4|h4
 . omega
 exfalso;have e:=para H.hn (H.pl a ha b h.1) (H.pl a ha k hk) h1.symm;rw[jU _ (vec p a k),h4] at e;have cG:=cD (H.ne ha h.1 h.2.1);have :=pY A0 e;refine hkb (H.inj k hk b h.1 ?_);simp only[vec,sub,V.mk.injEq] at this;exact V.ext' A0 A0 A0
theorem Sd.uniq(H:Pl n p on){a b c:Nat}(ha:a∈on)(h:Sd n p on a b)(h':Sd n p on a c):b=c:=by
 obtain⟨h1,h2⟩:=h.2.2 c h'.1;obtain⟨h3,h4⟩:=h'.2.2 b h.1;rw[AU] at h3;have hz:cX n (vec p a b) (vec p a c)=0:=by omega
 obtain⟨k1,k2⟩:=h2 hz;obtain⟨k3,k4⟩:=h4 (by rw[AU];omega);have e:=para H.hn (H.pl a ha b h.1) (H.pl a ha c h'.1) hz;have hl:=JE n (vec p a b) (vec p a c) (H.pl a ha b h.1) (H.pl a ha c h'.1);rw[hz] at hl;have hl:=eJ (cD H.hn) (by rw[hl];simp);have cG:=cD (H.ne ha h.1 h.2.1);have hnc:=cD (H.ne ha h'.1 h'.2.1);rw[jU] at k1 k2;generalize hm:dot (vec p a b) (vec p a c)=m at *;generalize hB:dot (vec p a b) (vec p a b)=B at *;generalize hC:dot (vec p a c) (vec p a c)=C at *
 have e1:m=B:=by
  have q1:B*m<=B*C:=Df A0 A0;by_cases hmB:m=B
  . exact hmB
  exfalso;by_cases SL:m=0
  . subst SL;have :=Dm cG hnc;omega
  have :m*m<B*m:=Fb A0 A0;omega
 rw[e1] at e;have :=pY A0 e;refine(H.inj c h'.1 b h.1 ?_).symm;simp only[vec,sub,V.mk.injEq] at this;exact V.ext' A0 A0 A0
theorem Sd.inj(H:Pl n p on){a b c:Nat}(ha:a∈on)(hb:b∈on)(h:Sd n p on a c)(h':Sd n p on b c):a=b:=by
 obtain⟨h1,h2⟩:=h.2.2 b hb;obtain⟨h3,h4⟩:=h'.2.2 a ha
 have e:cX n (vec p b c) (vec p b a)= -cX n (vec p a c) (vec p a b):=by simp only[vec,cX,dot,aU,sub];grind
 have hz:cX n (vec p a c) (vec p a b)=0:=by omega
 obtain⟨k1,k2⟩:=h2 hz;obtain⟨k3,k4⟩:=h4 A0;have hl:=JE n (vec p a c) (vec p a b) (H.pl a ha c h.1) (H.pl a ha b hb);rw[hz] at hl;have hl:=eJ (cD H.hn) (by rw[hl];simp);have hp:=para H.hn (H.pl a ha c h.1) (H.pl a ha b hb) hz;have hE:=cD (H.ne ha h.1 h.2.1)
 have e2:dot (vec p b a) (vec p b c)=dot (vec p a b) (vec p a b) -dot (vec p a b) (vec p a c):=by simp only[vec,dot,sub];grind
 rw[jU (vec p a c) (vec p a b)] at hl hp;generalize hm:dot (vec p a b) (vec p a c)=m at *;generalize hB:dot (vec p a b) (vec p a b)=B at *;generalize hC:dot (vec p a c) (vec p a c)=C at *
 have q:m=0\/m=C:=by
  by_cases SL:m=0
  . exact .inl SL
  right;by_cases hmC:m=C
  . exact hmC
  exfalso;have q1:m*m<C*m:=Fb A0 A0;have q2:C*m<=C*B:=Df A0 A0;omega
 rcases q with q|q
 . rw[q,smul_zero] at hp;have :vec p a b=V0:=pY (c:=C) A0 (by rw[hp];simp[smul,V0]);exact(H.inj b hb a ha (sub_eq_zero this)).symm
 rw[q] at hp;have :=pY (c:=C) A0 hp;exfalso;refine h'.2.1 (H.inj c h.1 b hb ?_);simp only[vec,sub,V.mk.injEq] at this;exact V.ext' A0 A0 A0
end
section
variable {n:V} {p:Nat->V} {on:List Nat}
def vB(x:Int):Int:=if x<0 then -1 else if 0<x then 1 else 0
theorem Ud{x:Int}:vB x<0↔x<0:=by unfold vB;split<;>(try split)<;>omega
theorem QJ{x:Int}:vB x=0↔x=0:=by unfold vB;split<;>(try split)<;>omega
theorem Uc(x y:Int):vB (x*y)=vB x*vB y:=by
 rcases Ev x 0 with h|h|h
 . rcases Ev y 0 with k|k|k
   . have :=Gl h k;simp only[vB,h,k,if_true,if_neg (show ¬x*y<0 by omega),this];rfl
   . subst k;simp[vB]
   have :=Jz h k;simp only[vB,h,this,k,if_true,if_neg (show ¬y<0 by omega)];rfl
 . subst h;simp[vB]
 rcases Ev y 0 with k|k|k
 . have :=Gm h k;simp only[vB,h,this,k,if_true,if_neg (show ¬x<0 by omega)];rfl
 . subst k;simp[vB]
 have :=Dm h k;simp only[vB,h,this,k,if_true,if_neg (show ¬x<0 by omega),if_neg (show ¬y<0 by omega),if_neg (show ¬x*y<0 by omega)];rfl
theorem jk{x:Int}(h:0<x):vB x=1:=by simp[vB,h,show ¬x<0 by omega]
def sD(n c:V):Int:=if n.x≠0 then vB c.x*vB n.x else if n.y≠0 then vB c.y*vB n.y else if n.z≠0 then vB c.z*vB n.z else 0
theorem Uk{a b:V}(hn:n≠V0)(ha:dot n a=0)(hb:dot n b=0):sD n (aU a b)=vB (cX n a b):=by
 have hp:=cD hn;have e1:dot n n*(aU a b).x=cX n a b*n.x+dot n b*(n.z*a.y -n.y*a.z) -dot n a*(n.z*b.y -n.y*b.z):=by simp only[cX,dot,aU];grind
 have e2:dot n n*(aU a b).y=cX n a b*n.y+dot n b*(n.x*a.z -n.z*a.x) -dot n a*(n.x*b.z -n.z*b.x):=by simp only[cX,dot,aU];grind
 have e3:dot n n*(aU a b).z=cX n a b*n.z+dot n b*(n.y*a.x -n.x*a.y) -dot n a*(n.y*b.x -n.x*b.y):=by simp only[cX,dot,aU];grind
 rw[ha,hb] at e1 e2 e3
 have key:∀c m:Int,m≠0->dot n n*c=cX n a b*m+0*0 -0->vB c*vB m=vB (cX n a b):=by
  intro c m hm e;have h1:vB (dot n n*c*m)=vB (cX n a b*(m*m)):=by rw[e];congr 1;grind
  rw[Uc,Uc,Uc (cX n a b),jk hp,jk (sq_pos hm)] at h1;simpa using h1
 unfold sD;split
 . rename_i h;exact key _ _ h A0
 split
 . rename_i h;exact key _ _ h A0
 split
 . rename_i h;exact key _ _ h A0
 rename_i h1 h2 h3;exact absurd (V.ext' (by simpa [V0] using h1) (by simpa [V0] using h2) (by simpa [V0] using h3)) hn
def better(n:V)(p:Nat->V)(a b k:Nat):Bool:=
 decide (sD n (aU (vec p a b) (vec p a k))<0)||(decide (sD n (aU (vec p a b) (vec p a k))=0)&&decide (dot (vec p a k) (vec p a k)>dot (vec p a b) (vec p a b)))
def gO(n:V)(p:Nat->V)(a:Nat)(yD:Option Nat)(k:Nat):Option Nat:=
 if k=a then yD else match yD with
  |none=>some k
  |some b=>if better n p a b k then some k else some b
def Mo(n:V)(p:Nat->V)(on:List Nat)(a:Nat):Option Nat:=on.foldl (gO n p a) none
theorem tM(H:Pl n p on){a b k:Nat}(ha:a∈on)(hb:b∈on)(hk:k∈on):
 better n p a b k=true↔cX n (vec p a b) (vec p a k)<0\/(cX n (vec p a b) (vec p a k)=0/\dot (vec p a b) (vec p a b)<dot (vec p a k) (vec p a k)):=by
 unfold better;rw[Uk H.hn (H.pl a ha b hb) (H.pl a ha k hk)];simp only[Dq,Ak,Bf,Ud,QJ]
theorem qi(H:Pl n p on){a:Nat}(ha:a∈on)(hc:Crn p on a):∀(l:List Nat) (done:List Nat) (yD:Option Nat),(∀k∈l,k∈on)->(∀k∈done,k∈on)->
 (match yD with|none=>∀k∈done,k=a|some b=>b∈on/\b≠a/\∀k∈done,k≠a->better n p a b k=false)->
 match l.foldl (gO n p a) yD with|none=>∀k∈done++l,k=a|some b=>b∈on/\b≠a/\∀k∈done++l,k≠a->better n p a b k=false:=by
 obtain⟨P,hP,iE⟩:=hc
 have refl:∀k∈on,better n p a k k=false:=fun k hk=>by
  have :=tM H ha hk hk;rw[AW] at this
  cases hb:better n p a k k with
  |false=>rfl
  |true=>have :=this.1 hb;omega
 intro l
 induction l with
 |nil=>intro done yD _ _ h;simpa using h
 |cons k l ih=>
  intro done yD hl hd h;have hk:k∈on:=hl k A2;have :=ih (done++[k]) (gO n p a yD k) (fun x hx=>hl x (by simp[hx])) (fun x hx=>by simp only[Aq,Cc] at hx;exact hx.elim (hd x) fun e=>e▸hk) ?_
  . simpa using this
  unfold gO;by_cases Mj:k=a
  . subst Mj;simp only[if_true]
    cases yD with
    |none=>intro x hx;simp only[Aq,Cc] at hx;exact hx.elim (h x) id
    |some b=>
     refine⟨h.1,h.2.1,fun x hx Xu=>?_⟩;simp only[Aq,Cc] at hx
     rcases hx with hx|rfl
     . exact h.2.2 x hx Xu
     exact absurd rfl Xu
  simp only[Mj,Ca]
  cases yD with
  |none=>
   refine⟨hk,Mj,fun x hx Xu=>?_⟩;simp only[Aq,Cc] at hx
   rcases hx with hx|rfl
   . exact absurd (h x hx) Xu
   exact refl _ hk
  |some b=>
   obtain⟨hb,hba,Xh⟩:=h;dsimp only;by_cases hbk:better n p a b k=true
   . rw[if_pos hbk];refine⟨hk,Mj,fun x hx Xu=>?_⟩;simp only[Aq,Cc] at hx
     rcases hx with hx|rfl
     . have h1:=Xh x hx Xu;have wg:=hd x hx;have i1:=(tM H ha hb hk).1 hbk
       have i2:¬(cX n (vec p a b) (vec p a x)<0\/(cX n (vec p a b) (vec p a x)=0/\dot (vec p a b) (vec p a b)<dot (vec p a x) (vec p a x))):=fun h=>by rw[(tM H ha hb wg).2 h] at h1;cases h1
       cases hkx:better n p a k x with
       |false=>rfl
       |true=>
        exfalso;have i3:=(tM H ha hk wg).1 hkx;have a1:=AU n (vec p a b) (vec p a k);obtain⟨t1,t2⟩:=OW H hP (H.pl a ha k hk) (H.pl a ha b hb) (H.pl a ha x wg) (iE k hk Mj) (iE b hb hba) (iE x wg Xu) A0 A0;by_cases hz:cX n (vec p a k) (vec p a b)=0
        . by_cases hz2:cX n (vec p a b) (vec p a x)=0
          . omega
          have :=t2 (.inr A0);omega
        have :=t2 (.inl A0);omega
     exact refl _ hk
   rw[if_neg hbk];refine⟨hb,hba,fun x hx Xu=>?_⟩;simp only[Aq,Cc] at hx
   rcases hx with hx|rfl
   . exact Xh x hx Xu
   simpa using hbk
theorem Wd(H:Pl n p on){a:Nat}(ha:a∈on)(hc:Crn p on a)(hm:∃k∈on,k≠a):∃b,Mo n p on a=some b/\Sd n p on a b:=by
 have h:=qi H ha hc on [] none (fun _ h=>h) (fun k hk=>by cases hk) (fun k hk=>by cases hk);unfold Mo;split at h
 . obtain⟨k,hk,Mj⟩:=hm;exact absurd (h k (by simpa using hk)) Mj
 rename_i b hb;refine⟨b,hb,h.1,h.2.1,fun k hk=>?_⟩;obtain⟨P,hP,iE⟩:=hc;by_cases Mj:k=a
 . subst Mj;have :vec p k k=V0:=by simp[vec,sub,V0]
   rw[this];have hq:=zN (vec p k b);constructor
   . simp[cX,dot,aU,V0]
   intro _;constructor<;>simp[dot,V0]<;>simpa [dot] using hq
 have h1:=h.2.2 k (by simpa using hk) Mj
 have i2:¬(cX n (vec p a b) (vec p a k)<0\/(cX n (vec p a b) (vec p a k)=0/\dot (vec p a b) (vec p a b)<dot (vec p a k) (vec p a k))):=fun hh=>by rw[(tM H ha h.1 hk).2 hh] at h1;cases h1
 refine⟨by omega,fun hz=>?_⟩;have q:=Ri H hP (H.pl a ha b h.1) (H.pl a ha k hk) (iE b h.1 h.2.1) (iE k hk Mj) hz;rw[jU];exact⟨by omega,aTe H.hn (H.pl a ha b h.1) (H.pl a ha k hk) hz A0⟩
def ND(n:V)(p:Nat->V)(on:List Nat)(a b:Nat):Bool:=on.all fun k=>!(decide (sD n (aU (vec p a b) (vec p a k))<0)||(decide (sD n (aU (vec p a b) (vec p a k))=0)&&(decide (dot (vec p a k) (vec p a b)<0)||decide (dot (vec p a k) (vec p a b)>dot (vec p a b) (vec p a b)))))
theorem Sv(H:Pl n p on){a b:Nat}(ha:a∈on)(hb:b∈on)(hba:b≠a):ND n p on a b=true↔Sd n p on a b:=by
 unfold ND Sd;simp only[Bg];constructor
 . intro h;refine⟨hb,hba,fun k hk=>?_⟩;have :=h k hk;rw[Uk H.hn (H.pl a ha b hb) (H.pl a ha k hk)] at this;simp only[Cs,Bool.or_eq_false_iff,Ix,Cb,Ud,QJ] at this;omega
 intro h k hk;have :=h.2.2 k hk;rw[Uk H.hn (H.pl a ha b hb) (H.pl a ha k hk)];simp only[Cs,Bool.or_eq_false_iff,Ix,Cb,Ud,QJ];omega
def Se(n:V)(p:Nat->V)(on:List Nat)(a:Nat):Option Nat:=on.find? fun k=>decide (k≠a)&&ND n p on a k
theorem aCv(H:Pl n p on){a b:Nat}(ha:a∈on)(h:Sd n p on a b):Se n p on a=some b:=by
 unfold Se
 cases hf:on.find? fun k=>decide (k≠a)&&ND n p on a k with
 |none=>have :=Jr.1 hf b h.1;simp[h.2.1,(Sv H ha h.1 h.2.1).2 h] at this
 |some c=>have h1:=List.find?_some hf;have h2:=List.mem_of_find?_eq_some hf;simp only[Ak,Bf] at h1;rw[Sd.uniq H ha ((Sv H ha h2 h1.1).1 h1.2) h]
end
section
variable {n:V} {p:Nat->V} {on:List Nat}
def iter(f:Nat->Nat):Nat->Nat->Nat
 |0,s=>s
 |i+1,s=>f (iter f i s)
theorem Sf:∀(l on:List Nat),l.Nodup->(∀x∈l,x∈on)->l.length<=on.length
 |[],_,_,_=>Bp _
 |x::l,on,hn,h=>by rw[Kq] at hn;have h1:=Sf l (on.erase x) hn.2 fun y hy=>(List.mem_erase_of_ne fun e=>hn.1 (by rw[<-e];exact hy)).2 (h y (by simp[hy]));have h2:=List.length_erase_of_mem (h x A2);have h3:0<on.length:=List.length_pos_of_mem (h x A2);simp only[As];omega
theorem aYb{A:Nat->Prop}{f:Nat->Nat}(on:List Nat)(hA:∀a,A a->a∈on)(hf:∀a,A a->A (f a))(hi:∀a b,A a->A b->f a=f b->a=b){s:Nat}(hs:A s):
 ∃m,0<m/\m<=on.length/\iter f m s=s/\(∀i,0<i->i<m->iter f i s≠s)/\∀i,A (iter f i s):=by
 have fL:∀i,A (iter f i s):=fun i=>by
  induction i with
  |zero=>exact hs
  |succ i ih=>exact hf _ ih
 have back:∀i d,iter f i s=iter f (i+d) s->iter f d s=s:=fun i=>by
  induction i with
  |zero=>intro d h;rw[Dg] at h;exact h.symm
  |succ i ih=>intro d h;refine ih d (hi _ _ (fL _) (fL _) ?_);rw[show i+1+d=(i+d)+1 by omega] at h;exact h
 have ex:∃m,0<m/\m<=on.length/\iter f m s=s:=by
  refine Cj fun hc=>?_
  have hd:((List.range (on.length+1)).map fun i=>iter f i s).Nodup:=by rw[List.Nodup,Ff];refine Gz ?_ Iu;intro i j hi hj uU e;simp only[Az] at hi hj;exact hc ⟨j -i,by omega,by omega,back i (j -i) (by rw[show i+(j -i)=j by omega];exact e)⟩
  have :=Sf _ on hd (fun x hx=>by
   simp only[Bm] at hx;obtain⟨i,_,rfl⟩:=hx
   exact hA _ (fL i))
  simp at this;omega
 have least:∀(k m:Nat),m<=k->0<m->m<=on.length->iter f m s=s->∃m,0<m/\m<=on.length/\iter f m s=s/\∀i,0<i->i<m->iter f i s≠s:=by
  intro k
  induction k with
  |zero=>intro m h1 h2;omega
  |succ k ih=>
   intro m h1 h2 h3 h4;by_cases hc:∃i,0<i/\i<m/\iter f i s=s
   . obtain⟨i,i1,i2,i3⟩:=hc;exact ih i A0 i1 A0 i3
   exact⟨m,h2,h3,h4,fun i i1 i2 e=>hc ⟨i,i1,i2,e⟩⟩
 obtain⟨m,h1,h2,h3⟩:=ex;obtain⟨m,h1,h2,h3,h4⟩:=least m m (Ag _) h1 h2 h3;exact⟨m,h1,h2,h3,h4,fL⟩
structure Way (n:V) (p:Nat->V) (on:List Nat) (s m:Nat) (f:Nat->Nat):Prop where
 H:Pl n p on
 hs:s∈on
 pos:0<m
 le:m<=on.length
 back:iter f m s=s
 first:∀i,0<i->i<m->iter f i s≠s
 side:∀i,iter f i s∈on/\Sd n p on (iter f i s) (iter f (i+1) s)
def sH(n:V)(p:Nat->V)(on:List Nat)(a:Nat):Nat:=(Mo n p on a).getD 0
theorem way(H:Pl n p on){s:Nat}(hs:s∈on)(hc:Crn p on s)(hm:∀a∈on,∃k∈on,k≠a):∃m,Way n p on s m (sH n p on):=by
 have hS:∀a,a∈on/\Crn p on a->Sd n p on a (sH n p on a):=fun a ⟨ha,hc⟩=>by obtain⟨b,h1,h2⟩:=Wd H ha hc (hm a ha);unfold sH;rw[h1];exact h2
 obtain⟨m,h1,h2,h3,h4,h5⟩:=aYb (A:=fun a=>a∈on/\Crn p on a) (f:=sH n p on) on (fun a h=>h.1) (fun a h=>⟨(hS a h).1,(hS a h).next H h.1⟩)
  (fun a b ha hb e=>Sd.inj H ha.1 hb.1 (hS a ha) (by rw[e];exact hS b hb)) ⟨hs,hc⟩
 exact⟨m,H,hs,h1,h2,h3,h4,fun i=>⟨(h5 i).1,hS _ (h5 i)⟩⟩
theorem Way.cover{s m:Nat}{f:Nat->Nat}(W:Way n p on s m f){a b:Nat}(ha:a∈on)(h:Sd n p on a b):∃i,i<m/\iter f i s=a:=by
 refine Cj fun hc=>?_
 have cG:∀i,iter f i s≠a:=by
  have :∀i,i<m->iter f i s≠a:=fun i hi e=>hc ⟨i,hi,e⟩
  have per:∀i,∃j,j<m/\iter f i s=iter f j s:=fun i=>by
   induction i with
   |zero=>exact⟨0,W.pos,rfl⟩
   |succ i ih=>
    obtain⟨j,hj,e⟩:=ih;by_cases hjm:j+1<m
    . exact⟨j+1,hjm,by simp only[iter];rw[e]⟩
    refine⟨0,W.pos,?_⟩;have :j+1=m:=A0;simp only[iter];rw[e];have h2:=W.back;rw[<-this] at h2;exact h2
  intro i e;obtain⟨j,hj,e2⟩:=per i;exact this j hj (e2.symm.trans e)
 obtain⟨P,hP,iE⟩:=h.crn W.H ha;have hPi:∀i,P (vec p a (iter f i s)):=fun i=>iE _ (W.side i).1 (cG i);have DY:∀i,dot n (vec p a (iter f i s))=0:=fun i=>W.H.pl a ha _ (W.side i).1
 have left:∀i,0<cX n (vec p a (iter f i s)) (vec p a (iter f (i+1) s)):=by
  intro i;obtain⟨hx,hS⟩:=W.side i;generalize hxi:iter f i s=x at *;generalize hyi:iter f (i+1) s=y at *;have e:cX n (vec p x y) (vec p x a)=cX n (vec p a x) (vec p a y):=by simp only[vec,cX,dot,aU,sub];grind
  obtain⟨h1,h2⟩:=hS.2.2 a ha;rw[e] at h1 h2;have Xu:x≠a:=by rw[<-hxi];exact cG i
  have hya:y≠a:=by rw[<-hyi];exact cG (i+1)
  rcases Ey h1 with h1|h1
  . exact h1
  exfalso;obtain⟨h3,h4⟩:=h2 h1.symm;have px:P (vec p a x):=iE x hx Xu;have py:P (vec p a y):=iE y hS.1 hya;have hd:=Ri W.H hP (W.H.pl a ha x hx) (W.H.pl a ha y hS.1) px py h1.symm;have hp:=para W.H.hn (W.H.pl a ha x hx) (W.H.pl a ha y hS.1) h1.symm;have hu0:=cD (W.H.ne ha hx Xu);have e5:dot (vec p x a) (vec p x y)=dot (vec p a x) (vec p a x) -dot (vec p a x) (vec p a y):=by simp only[vec,dot,sub];grind
  have e6:dot (vec p x y) (vec p x y)=dot (vec p a x) (vec p a x) -2*dot (vec p a x) (vec p a y)+dot (vec p a y) (vec p a y):=by simp only[vec,dot,sub];grind
  have hl:=JE n _ _ (W.H.pl a ha x hx) (W.H.pl a ha y hS.1);rw[<-h1] at hl;have hl:=eJ (cD W.H.hn) (by rw[hl];simp);rw[e5] at h3 h4;rw[e6] at h4;generalize hA:dot (vec p a x) (vec p a x)=A at *;generalize hB:dot (vec p a x) (vec p a y)=B at *;generalize hC:dot (vec p a y) (vec p a y)=C at *
  have :B=A:=by
   by_cases hBA:B=A
   . exact hBA
   exfalso;have q1:B*B<A*B:=Fb A0 hd;have q2:A*B<=A*C:=Df A0 A0;omega
  rw[this] at hp;have e7:=pY (c:=A) A0 hp;refine hS.2.1 (W.H.inj y hS.1 x hx ?_);simp only[vec,sub,V.mk.injEq] at e7;exact V.ext' A0 A0 A0
 have chain:∀i,0<cX n (vec p a s) (vec p a (iter f (i+1) s)):=by
  intro i
  induction i with
  |zero=>exact left 0
  |succ i ih=>exact(OW W.H hP (DY 0) (DY (i+1)) (DY (i+2)) (hPi 0) (hPi (i+1)) (hPi (i+2)) (Ft ih) (Ft (left (i+1)))).2 (.inl ih)
 have :=chain (m -1);rw[show m -1+1=m from Nat.succ_pred_eq_of_pos W.pos,W.back,AW] at this;omega
end
section
def gC(p:Nat->V)(N:Nat)(n:V)(d:Int):List Nat:=(List.range N).filter fun k=>decide (dot n (p k)=d)
theorem bU{p:Nat->V}{N:Nat}{n:V}{d:Int}{k:Nat}:k∈gC p N n d↔k<N/\dot n (p k)=d:=by simp[gC]
structure xw (p:Nat->V) (N:Nat) (n:V) (d:Int):Prop where
 hn:n≠V0
 le:∀k,k<N->dot n (p k)<=d
 lt:∃k,k<N/\dot n (p k)<d
 Uh:∃a∈gC p N n d,∃b∈gC p N n d,∃c∈gC p N n d,cX n (vec p a b) (vec p a c)≠0
def gV(a b:V):Prop:=a.x<b.x\/(a.x=b.x/\(a.y<b.y\/(a.y=b.y/\a.z<b.z)))
def MM(p:Nat->V)(N:Nat):Prop:=∀i j,i<j->j<N->gV (p i) (p j)
variable {p:Nat->V} {N:Nat} {n:V} {d:Int}
theorem MM.inj(A:MM p N){i j:Nat}(hi:i<N)(hj:j<N)(h:p i=p j):i=j:=by
 rcases Kb i j with h1|h1|h1
 . have :=A i j h1 hj;rw[h] at this;unfold gV at this;omega
 . exact h1
 have :=A j i h1 hi;rw[h] at this;unfold gV at this;omega
theorem iJ(n:V)(p:Nat->V)(a b:Nat):dot n (vec p a b)=dot n (p b) -dot n (p a):=by simp only[dot,vec,sub];grind
theorem xw.pl(A:MM p N)(F:xw p N n d):Pl n p (gC p N n d) where
 hn:=F.hn
 inj a ha b hb h:=A.inj (bU.1 ha).1 (bU.1 hb).1 h
 pl a ha b hb:=by rw[iJ,(bU.1 ha).2,(bU.1 hb).2];omega
theorem xw.more(F:xw p N n d)(a:Nat):∃k∈gC p N n d,k≠a:=by obtain⟨x,hx,y,hy,z,hz,h⟩:=F.Uh;refine Cj fun hc=>?_;have e:∀k∈gC p N n d,k=a:=fun k hk=>Cj fun h=>hc ⟨k,hk,h⟩;rw[e x hx,e y hy,e z hz,AW] at h;exact h rfl
theorem xw.head(F:xw p N n d):∃s r,gC p N n d=s::r:=by
 obtain⟨k,hk,_⟩:=F.more 0
 cases h:gC p N n d with
 |nil=>rw[h] at hk;cases hk
 |cons s r=>exact⟨s,r,rfl⟩
theorem Po(p:Nat->V)(N:Nat)(n:V)(d:Int):(gC p N n d).Pairwise (· < ·):=List.Pairwise.filter _ Iu
theorem qw(A:MM p N){s:Nat}{r:List Nat}(h:gC p N n d=s::r):Crn p (gC p N n d) s:=by
 refine⟨_,aAf,fun k hk hks=>?_⟩;have hs:=Po p N n d;have hkN:=(bU.1 hk).1;rw[h] at hk hs;simp only[Am] at hk
 rcases hk with hk|hk
 . exact absurd hk hks
 have h1:=(Co.1 hs).1 k hk;have :=A s k h1 hkN;unfold gV at this;simp only[vec,sub];omega
theorem xw.way(A:MM p N)(F:xw p N n d){s:Nat}{r:List Nat}(h:gC p N n d=s::r):∃m,Way n p (gC p N n d) s m (sH n p (gC p N n d)):=
 aD.way (F.pl A) (by rw[h];simp) (qw A h) fun a _=>F.more a
theorem Way.VP(F:xw p N n d){s m:Nat}{f:Nat->Nat}(W:Way n p (gC p N n d) s m f)(i:Nat):
 0<cX n (vec p (iter f i s) (iter f (i+1) s)) (vec p (iter f i s) (iter f (i+2) s)):=by
 obtain⟨hx,hS⟩:=W.side i;obtain⟨hy,hT⟩:=W.side (i+1);generalize iter f i s=x at *;generalize iter f (i+1) s=y at *;rw[show i+1+1=i+2 from rfl] at hT;generalize iter f (i+2) s=z at *;obtain⟨h1,h2⟩:=hS.2.2 z hT.1
 rcases Ey h1 with h1|h1
 . exact h1
 exfalso;obtain⟨h3,h4⟩:=h2 h1.symm;have hp:=para W.H.hn (W.H.pl x hx y hS.1) (W.H.pl x hx z hT.1) h1.symm;have hE:=cD (W.H.ne hx hS.1 hS.2.1);rw[jU (vec p x z)] at h3 h4
 have h5:dot (vec p x y) (vec p x z)<dot (vec p x y) (vec p x y):=by
  rcases Ey h4 with h4|h4
  . exact h4
  exfalso;rw[h4] at hp;have e7:=pY (c:=dot (vec p x y) (vec p x y)) A0 hp;refine hT.2.1 (W.H.inj z hT.1 y hS.1 ?_);simp only[vec,sub,V.mk.injEq] at e7;exact V.ext' A0 A0 A0
 have flat:∀k∈gC p N n d,cX n (vec p x y) (vec p x k)=0:=by
  intro k hk;have g1:=(hS.2.2 k hk).1;have g2:=(hT.2.2 k hk).1
  have e1:smul (dot (vec p x y) (vec p x y)) (vec p y z)=smul (dot (vec p x y) (vec p x z) -dot (vec p x y) (vec p x y)) (vec p x y):=by rw[zH p x y z];have a1:=Ao V.x hp;have a2:=Ao V.y hp;have a3:=Ao V.z hp;simp only[smul] at a1 a2 a3;refine V.ext' ?_ ?_ ?_<;>simp only[smul,sub,Int.mul_sub,Int.sub_mul]<;>omega
  have e2:dot (vec p x y) (vec p x y)*cX n (vec p y z) (vec p y k)=(dot (vec p x y) (vec p x z) -dot (vec p x y) (vec p x y))*cX n (vec p x y) (vec p x k):=by
   have l:∀(c:Int) (u v:V),cX n (smul c u) v=c*cX n u v:=fun c u v=>by simp only[cX,dot,aU,smul];grind
   rw[<-l,e1,l,zH p x y k,Vc,AW];simp
  have g3:0<=(dot (vec p x y) (vec p x z) -dot (vec p x y) (vec p x y))*cX n (vec p x y) (vec p x k):=by rw[<-e2];exact Ec A0 g2
  rcases Ey g1 with g1|g1
  . have :=Jz (a:=dot (vec p x y) (vec p x z) -dot (vec p x y) (vec p x y)) A0 g1;omega
  exact g1.symm
 obtain⟨a,ha,b,hb,c,hc,h⟩:=F.Uh;refine h ?_;have fa:=flat a ha;have fb:=flat b hb;have fc:=flat c hc;rw[zH p x a b,zH p x a c];have e0:=W.H.ne hx hS.1 hS.2.1;have pa:=para W.H.hn (W.H.pl x hx y hS.1) (W.H.pl x hx a ha) fa;have pb:=para W.H.hn (W.H.pl x hx y hS.1) (W.H.pl x hx b hb) fb;have pc:=para W.H.hn (W.H.pl x hx y hS.1) (W.H.pl x hx c hc) fc
 have q:∀k l:Nat,smul (dot (vec p x y) (vec p x y)) (vec p x k)=smul (dot (vec p x y) (vec p x k)) (vec p x y)->cX n (vec p x y) (vec p x l)=0->cX n (vec p x k) (vec p x l)=0:=by
  intro k l hk hl;have l1:∀(c:Int) (u v:V),cX n (smul c u) v=c*cX n u v:=fun c u v=>by simp only[cX,dot,aU,smul];grind
  refine eJ hE ?_;rw[<-l1,hk,l1,hl,Gv]
 have r:∀u v w:V,cX n (sub u v) (sub w v)=cX n u w -cX n u v -cX n v w:=fun u v w=>by simp only[cX,dot,aU,sub];grind
 rw[r,q b c pb fc,q b a pb fa,q a c pa fc];rfl
end
section
def fG(v:V):Nat:=Int.gcd v.x (Int.gcd v.y v.z)
def gD(v:V):V:=⟨v.x / fG v,v.y / fG v,v.z / fG v⟩
theorem DL(v:V):smul (fG v) (gD v)=v:=by have h1:((fG v:Nat):Int)∣v.x:=Fa v.x (Int.gcd v.y v.z);have h0:((fG v:Nat):Int)∣((Int.gcd v.y v.z:Nat):Int):=Ea v.x (Int.gcd v.y v.z);have h2:((fG v:Nat):Int)∣v.y:=Hr h0 (Fa v.y v.z);have h3:((fG v:Nat):Int)∣v.z:=Hr h0 (Ea v.y v.z);exact V.ext' (Le h1) (Le h2) (Le h3)
theorem rO{v:V}(h:v≠V0):0<fG v:=by
 rcases Ho (fG v) with h1|h1
 . exfalso;have :=DL v;rw[h1] at this;exact h (by rw[<-this];simp[smul,V0])
 exact h1
theorem jg{v:V}(h:v≠V0):gD v≠V0:=fun e=>by have :=DL v;rw[e] at this;exact h (by rw[<-this];simp[smul,V0])
theorem AZ(v w:V):(fG v:Int)*dot (gD v) w=dot v w:=by
 have h:=DL v;have :dot (smul (fG v) (gD v)) w=(fG v:Int)*dot (gD v) w:=by simp only[dot,smul];grind
 rw[<-this,h]
theorem aAl(v u w:V):(fG v:Int)*cX (gD v) u w=cX v u w:=AZ v _
structure nA (p:Nat->V) (N:Nat) (n:V) (d:Int):Prop where
 le:∀k,k<N->dot n (p k)<=d
 lt:∃k,k<N/\dot n (p k)<d
 Uh:∃a b c,a<N/\b<N/\c<N/\aU (vec p a b) (vec p a c)≠V0/\n=gD (aU (vec p a b) (vec p a c))/\d=dot n (p a)
variable {p:Nat->V} {N:Nat} {n:V} {d:Int}
theorem nA.DE(F:nA p N n d):xw p N n d:=by
 obtain⟨a,b,c,ha,hb,hc,hw,hn,hd⟩:=F.Uh;have hg:=rO hw
 have on:∀k,k<N->dot (aU (vec p a b) (vec p a c)) (vec p a k)=0->k∈gC p N n d:=by intro k hk h;rw[bU];refine⟨hk,?_⟩;rw[<-AZ,<-hn] at h;have h2:=eJ A0 h;rw[iJ] at h2;omega
 refine⟨by rw[hn];exact jg hw,F.le,F.lt,a,on a ha (by simp only[dot,vec,sub];grind),b,on b hb ?_,c,on c hc ?_,?_⟩
 . simp only[dot,aU];grind
 . simp only[dot,aU];grind
 intro h;rw[hn] at h;have h2:=aAl (aU (vec p a b) (vec p a c)) (vec p a b) (vec p a c);rw[h] at h2;exact absurd (Qx (a:=aU (vec p a b) (vec p a c)) (by simp only[cX] at h2;omega)) hw
theorem nA.uniq(F:nA p N n d){d':Int}(F':nA p N n d'):d=d':=by obtain⟨a,_,_,ha,_,_,_,_,e⟩:=F.Uh;obtain⟨b,_,_,hb,_,_,_,_,e'⟩:=F'.Uh;have :=F.le b hb;have :=F'.le a ha;omega
theorem PO(α β:Nat->Int):∀(l:List Nat),l≠[]->(∀k∈l,0<α k)->∃q∈l,∀k∈l,β q*α k<=β k*α q
 |[],h,_=>absurd rfl h
 |[x],_,_=>⟨x,by simp,by simp⟩
 |x::y::l,_,h=>by
  obtain⟨q,hq,hm⟩:=PO α β (y::l) A2 fun k hk=>h k (by simp only[Am] at hk ⊢;exact .inr hk)
  by_cases hx:β q*α x<=β x*α q
  . refine⟨q,Aw _ hq,fun k hk=>?_⟩
    rcases Am.1 hk with rfl|hk
    . exact hx
    exact hm k hk
  refine⟨x,Bc,fun k hk=>?_⟩
  rcases Am.1 hk with rfl|hk
  . exact Ir _
  have h1:=hm k hk;have aq:=h q (Aw _ hq);have ax:=h x Bc;have ak:=h k (Aw _ hk);refine Int.le_of_mul_le_mul_left (a:=α q) ?_ aq;have e1:α k*(β x*α q)<=α k*(β q*α x):=Df A0 A0;have e2:α x*(β q*α k)<=α x*(β k*α q):=Df h1 A0;have r1:α q*(β x*α k)=α k*(β x*α q):=by grind
  have r2:α k*(β q*α x)=α x*(β q*α k):=by grind
  have r3:α x*(β k*α q)=α q*(β k*α x):=by grind
  omega
theorem nA.adj(F:nA p N n d)(A:MM p N){a b:Nat}(ha:a∈gC p N n d)(h:Sd n p (gC p N n d) a b):
 ∃n' d',nA p N n' d'/\a∈gC p N n' d'/\b∈gC p N n' d'/\Sd n' p (gC p N n' d') b a/\∃q∈gC p N n' d',q∉gC p N n d:=by
 have H:=F.DE.pl A;have hb:=h.1;have hE:=cD (H.ne ha hb h.2.1);have haN:=bU.1 ha;have hbN:=bU.1 hb
 let α:Nat->Int:=fun k=> -dot n (vec p a k)
 let β:Nat->Int:=fun k=>cX n (vec p a b) (vec p a k)
 have hα:∀k,k<N->0<=α k:=fun k hk=>by have :=F.le k hk;show 0<=-dot n (vec p a k);rw[iJ];omega
 have hα0:∀k,k<N->α k=0->k∈gC p N n d:=fun k hk e=>by rw[bU];refine⟨hk,?_⟩;have : -dot n (vec p a k)=0:=e;rw[iJ] at this;omega
 obtain⟨k0,hk0,bMb⟩:=F.lt
 obtain⟨q,hq,aIo⟩:=PO α β ((List.range N).filter fun k=>decide (0<α k)) (by
  intro e
  have :k0∈(List.range N).filter fun k=>decide (0<α k):=by simp only[Fk,Az,Bf];refine⟨hk0,?_⟩;show 0< -dot n (vec p a k0);rw[iJ];omega
  rw[e] at this;cases this) (fun k hk=>by simp only[Fk,Bf] at hk;exact hk.2)
 simp only[Fk,Az,Bf] at hq aIo;obtain⟨hqN,hαq⟩:=hq;have cG:dot n (vec p a b)=0:=H.pl a ha b hb
 have key:∀k,dot n n*dot (aU (vec p a b) (vec p a q)) (vec p a k)=β k*α q -β q*α k:=fun k=>by
  have :=FR n (vec p a b) (vec p a q) (vec p a k) n;rw[jU (vec p a b) n,jU (vec p a q) n,jU (vec p a k) n,cG] at this;have e2:cX (vec p a b) (vec p a q) (vec p a k)=dot (aU (vec p a b) (vec p a q)) (vec p a k):=by simp only[cX,dot,aU];grind
  have e3:=AU n (vec p a b) (vec p a k);rw[e2] at this;show _=cX n (vec p a b) (vec p a k)*(-dot n (vec p a q)) -cX n (vec p a b) (vec p a q)*(-dot n (vec p a k));rw[e3] at this
  grind
 have hnn:=cD F.DE.hn
 have side:∀k,k<N->0<=dot (aU (vec p a b) (vec p a q)) (vec p a k):=fun k hk=>by
  refine jE hnn ?_;rw[key];by_cases hz:0<α k
  . have :=aIo k ⟨hk,hz⟩;omega
  have hz:α k=0:=by have :=hα k hk;omega
  rw[hz,Gv,Int.sub_zero];exact Ec (h.2.2 k (hα0 k hk hz)).1 A0
 have hN0:aU (vec p a b) (vec p a q)≠V0:=by
  intro e;have h1:dot (aU n (vec p a b)) (aU n (vec p a b))=dot n n*dot (vec p a b) (vec p a b) -dot n (vec p a b)*dot n (vec p a b):=by simp only[dot,aU];grind
  have h2:dot (aU n (vec p a b)) (aU (vec p a b) (vec p a q))=dot n (vec p a b)*dot (vec p a b) (vec p a q) -dot n (vec p a q)*dot (vec p a b) (vec p a b):=by simp only[dot,aU];grind
  rw[e,cG] at h2;have h3:dot (aU n (vec p a b)) V0=0:=by simp[dot,V0]
  have h4:0<α q*dot (vec p a b) (vec p a b):=Dm hαq hE;have h5:α q= -dot n (vec p a q):=rfl;rw[h5,Hh] at h4;omega
 have aZm:aU (vec p a q) (vec p a b)=smul (-1) (aU (vec p a b) (vec p a q)):=by simp only[aU,smul,V.mk.injEq];grind
 have aYp:aU (vec p a q) (vec p a b)≠V0:=fun e=>hN0 (by
  rw[aZm] at e;simp only[smul,V0,V.mk.injEq] at e
  exact V.ext' (by simp only[V0];omega) (by simp only[V0];omega) (by simp only[V0];omega))
 have hg:=rO aYp;generalize IZ:gD (aU (vec p a q) (vec p a b))=n'
 have dn:∀v:V,(fG (aU (vec p a q) (vec p a b)):Int)*dot n' v= -dot (aU (vec p a b) (vec p a q)) v:=fun v=>by rw[<-IZ,AZ,aZm];simp only[dot,smul];grind
 have on:∀k,k<N->(k∈gC p N n' (dot n' (p a))↔dot (aU (vec p a b) (vec p a q)) (vec p a k)=0):=fun k hk=>by
  rw[bU];have :=dn (vec p a k);rw[iJ n'] at this;constructor
  . rintro⟨_,e⟩;rw[e,Int.sub_self,Gv] at this;omega
  intro e;rw[e] at this;have :=eJ A0 (show(fG (aU (vec p a q) (vec p a b)):Int)*(dot n' (p k) -dot n' (p a))=0 by omega);exact⟨hk,by omega⟩
 have Ou:∀k,k<N->dot n' (p k)<=dot n' (p a):=fun k hk=>by have h1:=dn (vec p a k);have h2:=side k hk;rw[iJ n'] at h1;have h3:=jE (c:=(fG (aU (vec p a q) (vec p a b)):Int)) (a:= -(dot n' (p k) -dot n' (p a))) A0 (by rw[Jf];omega);omega
 have ek:a∈gC p N n' (dot n' (p a)):=bU.2 ⟨haN.1,rfl⟩;have zY:b∈gC p N n' (dot n' (p a)):=(on b hbN.1).2 (by simp only[dot,aU];grind);have Ox:q∈gC p N n' (dot n' (p a)):=(on q hqN).2 (by simp only[dot,aU];grind);refine⟨n',dot n' (p a),⟨Ou,?_,a,q,b,haN.1,hqN,hbN.1,aYp,IZ.symm,rfl⟩,ek,zY,⟨ek,fun e=>h.2.1 e.symm,fun k hk=>?_⟩,q,Ox,fun hqo=>?_⟩
 ·
  refine Cj fun hc=>?_
  have all:∀k∈gC p N n d,cX n (vec p a b) (vec p a k)=0:=fun k hk=>by
   have hkN:=bU.1 hk
   have h1:dot n' (p k)=dot n' (p a):=by
    have :=Ou k hkN.1
    rcases Ey this with h|h
    . exact absurd ⟨k,hkN.1,h⟩ hc
    exact h
   have h2:=key k;rw[(on k hkN.1).1 (bU.2 ⟨hkN.1,h1⟩)] at h2;have h3:α k=0:=(by show -dot n (vec p a k)=0;rw[H.pl a ha k hk];rfl);rw[h3,Gv,Gv,Int.sub_zero] at h2;have h4:α q*β k=0:=(by rw[Dy];exact h2.symm);exact eJ hαq h4
  obtain⟨x,hx,y,hy,z,hz,bJk⟩:=F.DE.Uh;refine bJk ?_;have l1:∀(c:Int) (u v:V),cX n (smul c u) v=c*cX n u v:=fun c u v=>by simp only[cX,dot,aU,smul];grind
  have qq:∀k l:Nat,k∈gC p N n d->l∈gC p N n d->cX n (vec p a k) (vec p a l)=0:=by intro k l hk hl;have pk:=para H.hn (H.pl a ha b hb) (H.pl a ha k hk) (all k hk);refine eJ hE ?_;rw[<-l1,pk,l1,all l hl,Gv]
  have r:∀u v w:V,cX n (sub u v) (sub w v)=cX n u w -cX n u v -cX n v w:=fun u v w=>by simp only[cX,dot,aU,sub];grind
  rw[zH p a x y,zH p a x z,r,qq y z hy hz,qq y x hy hx,qq x z hx hz];rfl
 ·
  have hkN:=bU.1 hk;have hkz:=(on k hkN.1).1 hk
  have hde:cX (vec p a b) (vec p a q) (vec p a k)=0:=by have e2:cX (vec p a b) (vec p a q) (vec p a k)=dot (aU (vec p a b) (vec p a q)) (vec p a k):=(by simp only[cX,dot,aU];grind);rw[e2,hkz]
  have hnv:dot n (vec p a k)<=0:=by have :=hα k hkN.1;show dot n (vec p a k)<=0;have h5:α k= -dot n (vec p a k):=rfl;omega
  have hnu:dot n (vec p a q)<0:=by have h5:α q= -dot n (vec p a q):=rfl;omega
  have e1:cX n' (vec p b a) (vec p b k)= -cX n' (vec p a b) (vec p a k):=by simp only[vec,cX,dot,aU,sub];grind
  have e2:(fG (aU (vec p a q) (vec p a b)):Int)*cX n' (vec p b a) (vec p b k)=dot (aU (vec p a b) (vec p a q)) (aU (vec p a b) (vec p a k)):=by rw[e1,Jf];have :=dn (aU (vec p a b) (vec p a k));simp only[cX];omega
  generalize he:vec p a b=e at *;generalize vec p a q=u at *;generalize hv:vec p a k=v at *
  have c1:dot n u*(aU e v).x=dot n v*(aU e u).x:=by have :dot n u*(aU e v).x=dot n v*(aU e u).x -n.x*cX e u v -(aU v u).x*dot n e:=(by simp only[cX,dot,aU];grind);rw[hde,cG] at this;omega
  have c2:dot n u*(aU e v).y=dot n v*(aU e u).y:=by have :dot n u*(aU e v).y=dot n v*(aU e u).y -n.y*cX e u v -(aU v u).y*dot n e:=(by simp only[cX,dot,aU];grind);rw[hde,cG] at this;omega
  have c3:dot n u*(aU e v).z=dot n v*(aU e u).z:=by have :dot n u*(aU e v).z=dot n v*(aU e u).z -n.z*cX e u v -(aU v u).z*dot n e:=(by simp only[cX,dot,aU];grind);rw[hde,cG] at this;omega
  have hNN:=cD hN0
  have c4:dot n u*dot (aU e u) (aU e v)=dot n v*dot (aU e u) (aU e u):=by
   have :dot n u*dot (aU e u) (aU e v)=(aU e u).x*(dot n u*(aU e v).x)+(aU e u).y*(dot n u*(aU e v).y)+(aU e u).z*(dot n u*(aU e v).z):=by simp only[dot];grind
   rw[this,c1,c2,c3];simp only[dot];grind
  have c5:0<=dot (aU e u) (aU e v):=by refine jE (c:= -dot n u) A0 ?_;rw[Hh,c4,<-Hh];exact Ec A0 A0
  refine⟨jE (c:=(fG (aU u e):Int)) A0 (by rw[e2];exact c5),fun hz=>?_⟩;rw[hz,Gv] at e2;rw[<-e2,Gv] at c4
  have bIn:dot n v=0:=by have :=eJ (c:=dot (aU e u) (aU e u)) (a:=dot n v) hNN (by rw[Dy];exact c4.symm);exact this
  have Us:k∈gC p N n d:=hα0 k hkN.1 (by show -dot n (vec p a k)=0;rw[hv];omega);rw[bIn,Kl] at c1 c2 c3
  have hz':cX n e v=0:=by
   have z:∀c:Int,dot n u*c=0->c=0:=fun c hc=>by rcases Kv.1 hc with h|h<;>omega
   simp only[cX,dot];rw[z _ c1,z _ c2,z _ c3];simp
  have g:=(h.2.2 k Us).2;rw[hv,he] at g;have g:=g hz';have b1:dot (vec p b k) (vec p b a)=dot (vec p a b) (vec p a b) -dot (vec p a k) (vec p a b):=by simp only[vec,dot,sub];grind
  have b2:dot (vec p b a) (vec p b a)=dot (vec p a b) (vec p a b):=by simp only[vec,dot,sub];grind
  rw[b1,b2,hv,he];omega
 have :=bU.1 hqo;have h5:α q= -dot n (vec p a q):=rfl;rw[iJ] at h5;omega
theorem yZ{n n':V}{d d':Int}(IZ:n'≠V0){a b c q:Nat}(ha:a∈gC p N n d)(hb:b∈gC p N n d)(hc:c∈gC p N n d)(h:cX n (vec p a b) (vec p a c)≠0)
 (ek:a∈gC p N n' d') (zY:b∈gC p N n' d') (hc':c∈gC p N n' d') (hq:q∈gC p N n' d'):q∈gC p N n d:=by
 have o:∀{n:V} {d:Int} {x y:Nat},x∈gC p N n d->y∈gC p N n d->dot n (vec p x y)=0:=fun {n d x y} hx hy=>by rw[iJ,(bU.1 hx).2,(bU.1 hy).2];omega
 have hz:=Oc IZ (o ek zY) (o ek hc') (o ek hq);have :=FR n (vec p a b) (vec p a c) (vec p a q) n;rw[hz,jU (vec p a b) n,jU (vec p a c) n,jU (vec p a q) n,o ha hb,o ha hc] at this;have h2:cX n (vec p a b) (vec p a c)*dot n (vec p a q)=0:=by omega
 rcases Kv.1 h2 with h3|h3
 . exact absurd h3 h
 rw[iJ] at h3;exact bU.2 ⟨(bU.1 hq).1,by have :=(bU.1 ha).2;omega⟩
theorem nA.four(F:nA p N n d)(A:MM p N):∃n1 d1 n2 d2 n3 d3,nA p N n1 d1/\nA p N n2 d2/\nA p N n3 d3/\n1≠n/\n2≠n/\n3≠n/\n1≠n2/\n1≠n3/\n2≠n3:=by
 obtain⟨s,r,hsr⟩:=F.DE.head;obtain⟨m,W⟩:=F.DE.way A hsr;generalize sH n p (gC p N n d)=f at W;obtain⟨o0,s0⟩:=W.side 0;obtain⟨o1,s1⟩:=W.side 1;obtain⟨o2,s2⟩:=W.side 2;obtain⟨o3,_⟩:=W.side 3;obtain⟨n1,d1,F1,a1,b1,_,q1,hq1,aUf⟩:=F.adj A o0 s0;obtain⟨n2,d2,F2,a2,b2,_,q2,hq2,aZl⟩:=F.adj A o1 s1;obtain⟨n3,d3,F3,a3,b3,_,q3,hq3,bIx⟩:=F.adj A o2 s2;have t0:=W.VP F.DE 0;have t1:=W.VP F.DE 1
 have oth:∀{n':V} {d':Int},nA p N n' d'->(∃q∈gC p N n' d',q∉gC p N n d)->n'≠n:=by rintro n' d' F' ⟨q,h1,h2⟩ rfl;rw[F.uniq F'] at h2;exact h2 h1
 refine⟨n1,d1,n2,d2,n3,d3,F1,F2,F3,oth F1 ⟨q1,hq1,aUf⟩,oth F2 ⟨q2,hq2,aZl⟩,oth F3 ⟨q3,hq3,bIx⟩,?_,?_,?_⟩
 . rintro rfl;rw[F2.uniq F1] at a2 b2;exact aUf (yZ F1.DE.hn o0 o1 o2 (Jp t0) a1 b1 b2 hq1)
 . rintro rfl;rw[F3.uniq F1] at a3 b3;exact aUf (yZ F1.DE.hn o0 o1 o2 (Jp t0) a1 b1 a3 hq1)
 rintro rfl;rw[F3.uniq F2] at a3 b3;exact aZl (yZ F2.DE.hn o1 o2 o3 (Jp t1) a2 b2 b3 hq2)
end
section
def neg(a:V):V:=⟨-a.x,-a.y,-a.z⟩
theorem neg_neg(a:V):neg (neg a)=a:=by simp[neg]
theorem Pe{a:V}(h:a≠V0):neg a≠V0:=fun e=>h (by
 have :=Ao neg e;rw[neg_neg] at this
 rw[this];rfl)
theorem aFp(a:V):fG (neg a)=fG a:=by simp[fG,neg,Int.gcd]
theorem JW(a:V):gD (neg a)=neg (gD a):=by have d1:(fG a:Int)∣a.x:=Fa ..;have d2:(fG a:Int)∣a.y:=Hr (Ea ..) (Fa ..);have d3:(fG a:Int)∣a.z:=Hr (Ea ..) (Ea ..);unfold gD;rw[aFp];simp only[neg];rw[Lh d1,Lh d2,Lh d3]
theorem mS(a b:V):dot (neg a) b= -dot a b:=by simp only[dot,neg];grind
variable {p:Nat->V} {N:Nat} {n:V} {d:Int}
def wF(p:Nat->V)(a b c:Nat)(n:V):Prop:=
 aU (vec p a b) (vec p a c)≠V0/\(n=gD (aU (vec p a b) (vec p a c))\/n=neg (gD (aU (vec p a b) (vec p a c))))
theorem OZ(a b c:Nat):aU (vec p a c) (vec p a b)=neg (aU (vec p a b) (vec p a c)):=by simp only[aU,neg];apply V.ext'<;>simp only <;>grind
theorem Yb(a b c:Nat):aU (vec p b a) (vec p b c)=neg (aU (vec p a b) (vec p a c)):=by simp only[aU,neg,vec,sub];apply V.ext'<;>simp only <;>grind
theorem wF.swap{a b c:Nat}(h:wF p a b c n):wF p a c b n:=by unfold wF at h ⊢;rw[OZ a b c,JW,neg_neg];exact⟨Pe h.1,h.2.symm⟩
theorem wF.sD{a b c:Nat}(h:wF p a b c n):wF p b a c n:=by unfold wF at h ⊢;rw[Yb a b c,JW,neg_neg];exact⟨Pe h.1,h.2.symm⟩
theorem wF.aYe{a b c:Nat}(h:wF p a b c n):dot n (p b)=dot n (p a)/\dot n (p c)=dot n (p a):=by
 have hg:=rO h.1
 have key:∀k,dot (aU (vec p a b) (vec p a c)) (vec p a k)=0->dot n (p k)=dot n (p a):=by
  intro k hk;rw[<-AZ] at hk;have h2:=eJ A0 hk
  have h3:dot n (vec p a k)=0:=by
   rcases h.2 with rfl|rfl
   . exact h2
   rw[mS,h2];rfl
  rw[iJ] at h3;omega
 exact⟨key b (by simp only[dot,aU];grind),key c (by simp only[dot,aU];grind)⟩
theorem wF.ne{a b c:Nat}(h:wF p a b c n):a≠b/\a≠c/\b≠c:=by refine⟨?_,?_,?_⟩<;>rintro rfl<;>refine h.1 ?_<;>simp only[aU,vec,sub,V0]<;>apply V.ext'<;>simp only <;>grind
theorem wF.pq{a b c:Nat}(h:wF p a b c n)(ha:a<N)(hb:b<N)(hc:c<N)(le:∀k,k<N->dot n (p k)<=d)(lt:∃k,k<N/\dot n (p k)<d)(hd:d=dot n (p a)):nA p N n d:=by
 rcases h.2 with e|e
 . exact⟨le,lt,a,b,c,ha,hb,hc,h.1,e,hd⟩
 refine⟨le,lt,a,c,b,ha,hc,hb,h.swap.1,?_,hd⟩;rw[OZ,JW];exact e
theorem nA.bGm(F:nA p N n d):∃a b c,a<N/\b<N/\c<N/\wF p a b c n/\d=dot n (p a):=by obtain⟨a,b,c,ha,hb,hc,hw,hn,hd⟩:=F.Uh;exact⟨a,b,c,ha,hb,hc,⟨hw,.inl hn⟩,hd⟩
theorem nA.up(F:nA p N n d):∃i j k,i<j/\j<k/\k<N/\wF p i j k n/\d=dot n (p i):=by
 obtain⟨a,b,c,ha,hb,hc,h,hd⟩:=F.bGm
 have ho:∃a b c,b<c/\a<N/\b<N/\c<N/\wF p a b c n/\d=dot n (p a):=by
  have hn:=h.ne;by_cases hbc:b<c
  . exact⟨a,b,c,hbc,ha,hb,hc,h,hd⟩
  exact⟨a,c,b,by omega,ha,hc,hb,h.swap,hd⟩
 obtain⟨a,b,c,hbc,ha,hb,hc,h,hd⟩:=ho;have hn:=h.ne;have hs:=h.aYe;by_cases h1:a<b
 . exact⟨a,b,c,h1,hbc,hc,h,hd⟩
 by_cases h2:a<c
 . exact⟨b,a,c,by omega,h2,hc,h.sD,by rw[hs.1];exact hd⟩
 exact⟨b,c,a,hbc,by omega,ha,h.sD.swap,by rw[hs.1];exact hd⟩
theorem nA.down(F:nA p N n d):∃i j k,k<j/\j<i/\i<N/\wF p i j k n/\d=dot n (p i):=by obtain⟨i,j,k,h1,h2,h3,h,hd⟩:=F.up;have hs:=h.aYe;exact⟨k,j,i,h1,h2,h3,h.sD.swap.sD,by rw[hs.2];exact hd⟩
theorem gV.gd(a:V):¬gV a a:=by unfold gV;omega
theorem gV.trans{a b c:V}(h:gV a b)(h':gV b c):gV a c:=by unfold gV at *;omega
theorem gV.total{a b:V}(h:a≠b):gV a b\/gV b a:=by refine Cj fun hc=>h ?_;unfold gV at hc;apply V.ext'<;>omega
theorem CI{α:Type}{R:α->α->Prop}(ir:∀a,¬R a a)(tr:∀{a b c},R a b->R b c->R a c):∀{l l':List α},l.Pairwise R->l'.Pairwise R->(∀x,x∈l↔x∈l')->l=l'
 |[],[],_,_,_=>rfl
 |[],y::l',_,_,h=>absurd ((h y).2 Bc) A2
 |x::l,[],_,_,h=>absurd ((h x).1 Bc) A2
 |x::l,y::l',hl,nB,h=>by
  rw[Co] at hl nB
  have hxy:x=y:=by
   rcases Am.1 ((h x).1 Bc) with e|e
   . exact e
   rcases Am.1 ((h y).2 Bc) with e'|e'
   . exact e'.symm
   exact absurd (tr (nB.1 x e) (hl.1 y e')) (ir y)
  subst hxy;rw[CI ir tr hl.2 nB.2 fun z=>⟨fun hz=>?_,fun hz=>?_⟩]
  . rcases Am.1 ((h z).1 (Aw _ hz)) with e|e
    . subst e;exact absurd (hl.1 z hz) (ir z)
    exact e
  rcases Am.1 ((h z).2 (Aw _ hz)) with e|e
  . subst e;exact absurd (nB.1 z hz) (ir z)
  exact e
structure oP (p:Nat->V) (N:Nat) (L:List (V×Int)):Prop where
 mem:∀q,q∈L↔nA p N q.1 q.2
 RV:L.Pairwise fun a b=>gV a.1 b.1
theorem oP.uniq{L L':List (V×Int)}(h:oP p N L)(h':oP p N L'):L=L':=
 CI (R:=fun a b=>gV a.1 b.1) (fun a=>gV.gd _) (fun {a b c} h h'=>gV.trans (a:=a.1) (b:=b.1) (c:=c.1) h h') h.RV h'.RV fun q=>(h.mem q).trans (h'.mem q).symm
theorem oP.iy{K S:List (V×Int)}(hn:K.Nodup)(hm:∀q,q∈K↔nA p N q.1 q.2)(hp:S.Perm K)(hs:S.Pairwise fun a b=>¬gV b.1 a.1):oP p N S where
 mem:=fun q=>(hp.mem_iff).trans (hm q)
 RV:=by
  have hnS:S.Nodup:=hp.nodup_iff.2 hn;have iE:∀q∈S,nA p N q.1 q.2:=fun q hq=>(hm q).1 (hp.mem_iff.1 hq);have h2:S.Pairwise fun a b=>a≠b/\¬gV b.1 a.1:=List.Pairwise.and hnS hs;refine Gz (fun {a b} ha hb wU=>?_) h2;by_cases he:a.1=b.1
  . have :=(iE a ha).uniq (d':=b.2) (by rw[he];exact iE b hb);exact absurd (Prod.ext he this) wU.1
  exact(gV.total he).resolve_right wU.2
theorem oP.four{L:List (V×Int)}(h:oP p N L)(A:MM p N)(cG:L≠[]):4<=L.length:=by
 cases L with
 |nil=>exact absurd rfl cG
 |cons q r=>
  obtain⟨n1,d1,n2,d2,n3,d3,f1,f2,f3,e1,e2,e3,e4,e5,e6⟩:=((h.mem q).1 Bc).four A
  have RH:[q,(n1,d1),(n2,d2),(n3,d3)].Nodup:=by simp only[Kq,Am,Cu,Fu,not_or,Fz,Lc,Ki,Af,not_and];refine⟨⟨fun e=>e1 (by rw[e]),fun e=>e2 (by rw[e]),fun e=>e3 (by rw[e])⟩,⟨fun e=>absurd e e4,fun e=>absurd e e5⟩,fun e=>absurd e e6⟩
  have BM:[q,(n1,d1),(n2,d2),(n3,d3)] ⊆ q::r:=by
   intro x hx;simp only[Am,Cu,Fu] at hx
   rcases hx with rfl|rfl|rfl|rfl
   . exact Bc
   . exact(h.mem _).2 f1
   . exact(h.mem _).2 f2
   exact(h.mem _).2 f3
  have :=List.Nodup.length_le_of_subset RH BM;simpa using this
end
section
variable {p:Nat->V} {N:Nat} {n:V} {d:Int}
structure Poly (p:Nat->V) (N:Nat) (n:V) (d:Int) (L:List Nat):Prop where
 ex:∃s r m,gC p N n d=s::r/\Way n p (gC p N n d) s m (sH n p (gC p N n d))/\L=(List.range m).map fun i=>iter (sH n p (gC p N n d)) i s
theorem Poly.exists(A:MM p N)(F:xw p N n d):∃L,Poly p N n d L:=by obtain⟨s,r,h⟩:=F.head;obtain⟨m,W⟩:=F.way A h;exact⟨_,⟨s,r,m,h,W,rfl⟩⟩
theorem Poly.uniq{L L':List Nat}(h:Poly p N n d L)(h':Poly p N n d L'):L=L':=by
 obtain⟨s,r,m,e,W,rfl⟩:=h.ex;obtain⟨s',r',m',e',W',rfl⟩:=h'.ex;rw[e] at e';cases e'
 have :m=m':=by
  rcases Kb m m' with hl|he|hl
  . exact absurd W.back (W'.first m W.pos hl)
  . exact he
  exact absurd W'.back (W.first m' W'.pos hl)
 rw[this]
theorem WK{f:Nat->Nat}{s m:Nat}(hb:iter f m s=s)(i:Nat):iter f (i+m) s=iter f i s:=by
 induction i with
 |zero=>rw[Dg];exact hb
 |succ i ih=>rw[Nat.succ_add];show f _=f _;rw[ih]
def Next(L:List Nat)(a b:Nat):Prop:=∃i,i<L.length/\L[i]?=some a/\L[(i+1)%L.length]?=some b
theorem Poly.jX{L:List Nat}(h:Poly p N n d L){a b:Nat}:Next L a b↔a∈gC p N n d/\Sd n p (gC p N n d) a b:=by
 obtain⟨s,r,m,e,W,rfl⟩:=h.ex;have hlen:((List.range m).map fun i=>iter (sH n p (gC p N n d)) i s).length=m:=by simp
 have cS:∀i,i<m->((List.range m).map fun i=>iter (sH n p (gC p N n d)) i s)[i]?=some (iter (sH n p (gC p N n d)) i s):=fun i hi=>by rw[Ci,Ie hi];rfl
 have aMx:∀i,i<m->((List.range m).map fun i=>iter (sH n p (gC p N n d)) i s)[(i+1)%m]?=some (iter (sH n p (gC p N n d)) (i+1) s):=fun i hi=>by
  by_cases hm:i+1<m
  . rw[Bn hm,cS _ hm]
  have :i+1=m:=by omega
  rw[this,Nat.mod_self,cS 0 W.pos,W.back];rfl
 unfold Next;rw[hlen];constructor
 . rintro⟨i,hi,h1,h2⟩;rw[cS i hi] at h1;rw[aMx i hi] at h2;cases h1;cases h2;exact W.side i
 rintro⟨ha,hS⟩;obtain⟨i,hi,rfl⟩:=W.cover ha hS;refine⟨i,hi,cS i hi,?_⟩;rw[aMx i hi,(W.side i).2.uniq W.H (W.side i).1 hS]
theorem Poly.back(A:MM p N)(F:nA p N n d){L:List Nat}(h:Poly p N n d L){a b:Nat}(hn:Next L a b):
 ∃n' d' L',nA p N n' d'/\Poly p N n' d' L'/\Next L' b a:=by
 obtain⟨ha,hS⟩:=h.jX.1 hn;obtain⟨n',d',F',ek,zY,hS',_⟩:=F.adj A ha hS;obtain⟨L',h'⟩:=Poly.exists A F'.DE;exact⟨n',d',L',F',h',h'.jX.2 ⟨zY,hS'⟩⟩
theorem Poly.aCk{L:List Nat}(h:Poly p N n d L){k:Nat}(hk:k∈L):k∈gC p N n d:=by obtain⟨s,r,m,e,W,rfl⟩:=h.ex;simp only[Bm,Az] at hk;obtain⟨i,hi,rfl⟩:=hk;exact(W.side i).1
theorem Poly.Se{L:List Nat}(h:Poly p N n d L){k:Nat}(hk:k∈L):aD.Se n p (gC p N n d) k=some (sH n p (gC p N n d) k):=by obtain⟨s,r,m,e,W,rfl⟩:=h.ex;simp only[Bm,Az] at hk;obtain⟨i,hi,rfl⟩:=hk;exact aCv W.H (W.side i).1 (W.side i).2
def MG(n:V)(a b:List V):Prop:=∀u∈a,∀v∈b,dot n u<=dot n v
def Sep(a b:List V)(n:V):Prop:=MG n a b\/MG n b a
theorem Sep.symm{a b:List V}:Sep a b n↔Sep b a n:=Or.comm
theorem Sep.neg{a b:List V}:Sep a b (aD.neg n)↔Sep a b n:=by
 unfold Sep MG;simp only[mS];constructor
 . rintro(h|h)
   . exact .inr fun u hu v hv=>by have :=h v hv u hu;omega
   exact .inl fun u hu v hv=>by have :=h v hv u hu;omega
 rintro(h|h)
 . exact .inr fun u hu v hv=>by have :=h v hv u hu;omega
 exact .inl fun u hu v hv=>by have :=h v hv u hu;omega
theorem YZ(a b:V):aU b a=aD.neg (aU a b):=by simp only[aU,aD.neg];apply V.ext'<;>simp only <;>grind
end
theorem natAbs_tmod(a b:Int):(a.tmod b).natAbs=a.natAbs%b.natAbs:=by
 first
  |exact Int.natAbs_tmod a b
  |(cases a<;>cases b<;>simp only[Int.tmod,Ld,Cy,Int.natAbs_negSucc,Int.ofNat_eq_natCast,Nat.succ_eq_add_one]<;>rfl)
theorem Vs(a b:Int):Int.gcd b (a.tmod b)=Int.gcd a b:=by unfold Int.gcd;rw[natAbs_tmod,Jn a.natAbs,Nat.gcd_rec b.natAbs a.natAbs];rw[Jn]
theorem aIg(a:Int):(Int.gcd a 0:Int)=if a< -a then -a else a:=by simp only[Int.gcd_zero_right];split<;>omega
theorem QW(v:V):Int.gcd (Int.gcd v.x v.y) v.z=fG v:=by unfold fG Int.gcd;simp only[Cy];exact Nat.gcd_assoc _ _ _
theorem aDq{v:V}(h:fG v<=1):gD v=v:=by
 unfold gD
 rcases En 0 (fG v) with h0|h0
 . have :fG v=1:=by omega
   rw[this];simp
 have hz:fG v=0:=by omega
 have hv:v=V0:=by refine Cj fun hc=>?_;have :=rO hc;omega
 subst hv;rw[hz];simp[V0]
theorem Si(v:V):gD v=⟨v.x.tdiv (fG v),v.y.tdiv (fG v),v.z.tdiv (fG v)⟩:=by have d1:(fG v:Int)∣v.x:=Fa ..;have d2:(fG v:Int)∣v.y:=Hr (Ea ..) (Fa ..);have d3:(fG v:Int)∣v.z:=Hr (Ea ..) (Ea ..);unfold gD;rw[Iq d1,Iq d2,Iq d3]
def bL(B:Nat)(v:V):Prop:=v.x.natAbs<=B/\v.y.natAbs<=B/\v.z.natAbs<=B
theorem bS{a b:Int}{A B:Nat}(ha:a.natAbs<=A)(hb:b.natAbs<=B):(a*b).natAbs<=A*B:=by rw[Ex];exact Ba ha hb
theorem mH{a b:V}{A B:Nat}(ha:bL A a)(hb:bL B b):(dot a b).natAbs<=3*(A*B):=by have h1:=bS ha.1 hb.1;have h2:=bS ha.2.1 hb.2.1;have h3:=bS ha.2.2 hb.2.2;unfold dot;omega
theorem iD{a b:V}{A B:Nat}(ha:bL A a)(hb:bL B b):bL (2*(A*B)) (aU a b):=by
 obtain⟨a1,a2,a3⟩:=ha;obtain⟨b1,b2,b3⟩:=hb;refine⟨?_,?_,?_⟩<;>simp only[aU]
 . have h1:=bS a2 b3;have h2:=bS a3 b2;omega
 . have h1:=bS a3 b1;have h2:=bS a1 b3;omega
 have h1:=bS a1 b2;have h2:=bS a2 b1;omega
theorem fW{a b:V}{A B:Nat}(ha:bL A a)(hb:bL B b):bL (A+B) (sub a b):=by obtain⟨a1,a2,a3⟩:=ha;obtain⟨b1,b2,b3⟩:=hb;refine⟨?_,?_,?_⟩<;>simp only[sub]<;>omega
theorem tC{v:V}{B:Nat}(h:bL B v):bL B (gD v):=by
 rw[Si]
 have key:∀a:Int,a.natAbs<=B->(a.tdiv (fG v)).natAbs<=B:=fun a ha=>by rw[Int.natAbs_tdiv];exact By (Gn _ _) ha
 exact⟨key _ h.1,key _ h.2.1,key _ h.2.2⟩
theorem JP{v:V}{B:Nat}(h:bL B v):bL B (neg v):=by obtain⟨a1,a2,a3⟩:=h;refine⟨?_,?_,?_⟩<;>simp only[neg]<;>omega
end Go.aD
namespace Go.Av
open Go Go.lP
def wC(l:List Nat):List AV:=l.map fun(n:Nat)=>AV.int .u32 n
theorem bW(l:List Nat):(wC l).length=l.length:=by simp[wC]
def zs:List Nat:=List.replicate 16 0
theorem aXo:[AV.int .u32 0,.int .u32 0,.int .u32 0,.int .u32 0,.int .u32 0,.int .u32 0,.int .u32 0,.int .u32 0,.int .u32 0,.int .u32 0,.int .u32 0,.int .u32 0,.int .u32 0,.int .u32 0,.int .u32 0,.int .u32 0]=wC zs:=rfl
def TQ(l:List Nat):Prop:=l.length=16/\∀d∈l,d<W
theorem TQ.zs:TQ zs:=⟨rfl,fun d hd=>by rw[Gy hd];decide⟩
theorem TQ.aL(n:Nat):TQ (aL 16 n):=⟨bP _ _,BQ⟩
theorem aLu{l:List Nat}{n:Nat}(h:l.length<=n):(wC l).take n=wC l:=Bb (by rw[bW];exact h)
theorem aLt{l:List Nat}{n:Nat}(h:l.length<=n):(wC l).drop n=[]:=Bo (by rw[bW];exact h)
theorem mZ{l:List Nat}{i:Nat}(h:i<l.length):(wC l).getD i aB=.int .u32 (l.getD i 0):=by unfold wC;rw[Cl,Cl,Ci,Ac h];rfl
theorem tD{l:List Nat}{i:Nat}(h:i<l.length)(x:Nat):gK (wC l) i [.int .u32 (x:Int)]=wC (l.set i x):=by unfold gK wC;rw[List.map_set,List.set_eq_take_append_cons_drop,if_pos Zay];simp
theorem Rp:∀(a b:List Nat),a.length=b.length->cT (List.replicate a.length .i) (wC a) (wC b)=some (decide (a=b))
 |[],[],_=>rfl
 |[],y::b,h=>by simp at h
 |x::a,[],h=>by simp at h
 |x::a,y::b,h=>by have ih:=Rp a b Zay;simp only[wC,Cq,As,Fj,cT,if_true] at ih ⊢;rw[ih];by_cases hx:x=y<;>by_cases wU:a=b<;>simp[hx,wU]<;>omega
theorem LL{a b:List Nat}(ha:a.length=16)(hb:b.length=16):cT [.i,.i,.i,.i,.i,.i,.i,.i,.i,.i,.i,.i,.i,.i,.i,.i] (wC a) (wC b)=some (decide (a=b)):=by
 have :=Rp a b A0
 rwa [ha] at this
def cI(z:Int):List AV:=.bool false::.bool (decide (z<0))::wC (aL 16 z.natAbs)
def uD:List AV:=.bool true::.bool false::wC zs
def cO:Option Int->List AV
 |some z=>cI z
 |none=>uD
def norm(z:Int):Option Int:=if z.natAbs<W^16 then some z else none
def sg(neg:Bool)(n:Nat):Int:=if neg then -(n:Int) else n
def BG(b n:Bool)(l:List Nat):Bool:= !b&&(!n|| !decide (l=zs))
def RX(b n:Bool)(l:List Nat):Option Int:=if BG b n l then some (sg n (tA l)) else none
def dS(v:List AV)(x:Option Int):Prop:=∃b n l,TQ l/\v=.bool b::.bool n::wC l/\x=RX b n l
theorem Zc:tA zs=0:=by decide
theorem tT:aL 16 0=zs:=by decide
theorem iu{l:List Nat}(h:TQ l):tA l<W^16:=by
 have :=UJ l h.2
 rwa [h.1] at this
theorem Lp{l:List Nat}(h:TQ l):aL 16 (tA l)=l:=by
 have :=SV h.2
 rwa [h.1] at this
theorem BY{l:List Nat}(h:TQ l):tA l=0↔l=zs:=by
 constructor
 . intro e;rw[<-Lp h,e,tT]
 rintro rfl;exact Zc
theorem iS(n:Bool)(m:Nat):(sg n m).natAbs=m:=by cases n<;>simp[sg]
theorem TA{b n:Bool}{l:List Nat}{z:Int}(h:TQ l)(e:RX b n l=some z):b=false/\n=decide (z<0)/\l=aL 16 z.natAbs/\z.natAbs<W^16:=by
 unfold RX at e;split at e
 . rename_i hg;obtain rfl:=Aa e;simp only[BG,Ak,Cs,Dq,Cb] at hg;refine⟨hg.1,?_,?_,?_⟩
   . cases n with
     |false=>simp[sg]
     |true=>
      have :tA l≠0:=fun e=>by
       rcases hg.2 with h2|h2
       . cases h2
       exact h2 ((BY h).1 e)
      simp[sg];omega
   . rw[iS,Lp h]
   rw[iS];exact iu h
 cases e
theorem dS.some{v:List AV}{z:Int}(h:dS v (some z)):v=cI z/\z.natAbs<W^16:=by obtain⟨b,n,l,hl,rfl,hv⟩:=h;obtain⟨rfl,rfl,rfl,h4⟩:=TA hl hv.symm;exact⟨rfl,h4⟩
theorem aFl{z:Int}(h:z.natAbs<W^16):RX false (decide (z<0)) (aL 16 z.natAbs)=Option.some z:=by
 have :BG false (decide (z<0)) (aL 16 z.natAbs)=true:=by
  simp only[BG,Fy,Ct,Dq,Cs,Cb];by_cases hz:z<0
  . refine .inr fun e=>?_;have :=eD h;rw[e,Zc] at this;omega
  exact .inl hz
 unfold RX;rw[if_pos this,eD h];congr 1;by_cases hz:z<0<;>simp[sg,hz]<;>omega
theorem dS.enc{z:Int}(h:z.natAbs<W^16):dS (cI z) (Option.some z):=⟨false,_,_,.aL _,rfl,(aFl h).symm⟩
theorem dS.bad:dS uD none:=⟨true,false,zs,.zs,rfl,rfl⟩
theorem Lx{z x:Int}(h:norm z=Option.some x):x=z/\z.natAbs<W^16:=by
 unfold norm at h;split at h
 . rename_i hz;exact⟨(Aa h).symm,hz⟩
 cases h
theorem dS.norm(z:Int):dS (cO (Av.norm z)) (Av.norm z):=by
 cases h:Av.norm z with
 |none=>exact .bad
 |some x=>exact .enc (by obtain⟨rfl,h2⟩:=Lx h;exact h2)
theorem Vq:∀l,cM (wC l)=true
 |[]=>rfl
 |x::l=>by simp only[wC,Cq,cM,AV.free,Ct];exact Vq l
theorem sf:(∀l,cM (wC l)=true)/\(∀b,(AV.bool b).free=true)/\(∀k n,(AV.int k n).free=true)/\(∀s,(AV.str s).free=true)/\(∀cs,(AV.agg cs).free=cM cs)/\(∀cs,(AV.jZ cs).free=cM cs)/\
 (∀sz els,(AV.bC 1 sz els).free=eI els)/\(∀sz els,(AV.bC 0 sz els).free=eI els)/\(∀x r,cM (x::r)=(x.free&&cM r))/\(cM []=true)/\(∀x r,eI (x::r)=(cM x&&eI r))/\(eI []=true)/\(∀b,(b&&true)=b)/\(∀b,(true&&b)=b)/\
 AV.bB.free=true/\AV.Lw.free=true/\AV.pR.free=true:=
 ⟨Vq,fun _=>by simp only[AV.free],fun _ _=>by simp only[AV.free],fun _=>by simp only[AV.free],fun _=>by simp only[AV.free],fun _=>by simp only[AV.free],fun _ _=>by simp[AV.free],fun _ _=>by simp[AV.free],fun _ _=>by simp only[cM],by simp only[cM],fun _ _=>by simp only[eI],by simp only[eI],Kg,Ct,by simp only[AV.free],by simp only[AV.free],by simp only[AV.free]⟩
theorem cK(z:Int):cM (cI z)=true:=by simp only[cI,sf]
theorem IJ(x:Option Int):cM (cO x)=true:=by cases x<;>simp only[cO,cI,uD,sf]
theorem sfI:cM uD=true/\(∀z,cM (cI z)=true)/\∀x,cM (cO x)=true:=⟨IJ none,cK,IJ⟩
theorem dN{α:Type}{f:α->List AV}(h:∀x,cM (f x)=true):∀l:List α,eI (l.map f)=true
 |[]=>by simp only[Jo,eI]
 |x::l=>by simp only[Cq,eI,h,dN h l,Du]
theorem aG(k:IntKind)(n:Nat):asNat (.int k (n:Int))=some n:=by simp[asNat]
theorem pZ:(∀k,asNat (.int k 0)=some 0)/\(∀k,asNat (.int k 1)=some 1)/\(∀k,asNat (.int k 2)=some 2)/\(∀k,asNat (.int k 3)=some 3):=⟨fun _=>rfl,fun _=>rfl,fun _=>rfl,fun _=>rfl⟩
theorem fB{α:Type}{f:α->List AV}{l:List α}{i:Nat}(h:i<l.length):(l.map f).getD i []=f l[i]:=by simp[List.getD,h]
theorem aEz{α:Type}{p:α->Bool}{l:List α}{i:Nat}(h:i<l.length)(ht:(l.take i).all p=true):(l.take (i+1)).all p=p l[i]:=by rw[Ax,List.all_append,ht];simp[h]
structure vH where
 b:Bool
 n:Bool
 l:List Nat
 hl:TQ l
def vH.cells(r:vH):List AV:=.bool r.b::.bool r.n::wC r.l
def vH.Vu(r:vH):Bool:=BG r.b r.n r.l
theorem oa(r:vH):cM r.cells=true:=by simp only[vH.cells,sf]
theorem fN{a i:Nat}(h:i<16):(wC (aL 16 a)).getD i aB=.int .u32 (aJ a i):=by rw[mZ (by rw[bP];exact h),jD h]
def FN(a b:Nat):Int:=if a<b then -1 else if b<a then 1 else 0
theorem aHj{a b k:Nat}(h:a / W^(k+1)=b / W^(k+1))(hk:aJ a k≠aJ b k):FN a b=FN (aJ a k) (aJ b k):=by
 unfold FN
 rcases Nat.lt_or_gt_of_ne hk with hc|hc
 . have :=PU h hc;rw[if_pos this,if_pos hc]
 have :=PU h.symm hc;rw[if_neg A0,if_pos this,if_neg A0,if_pos hc]
def RO(i:Nat)(l:List Nat):List Nat:=l.take i++List.replicate (l.length -i) 0
theorem yV{i:Nat}{l:List Nat}:(RO i l).length=l.length:=by simp[RO];omega
theorem aDn(l:List Nat):RO 0 l=List.replicate l.length 0:=by simp[RO]
theorem aKk(l:List Nat):RO l.length l=l:=by simp[RO]
theorem aKl{i:Nat}{l:List Nat}(h:i<l.length):(RO i l).set i (l.getD i 0)=RO (i+1) l:=by
 refine Fo (by simp[yV]) fun k h1 h2=>?_;have hk:k<l.length:=by rw[yV] at h2;exact h2
 rw[List.getElem_set];simp only[RO,List.getElem_append,Dp,List.getElem_take,List.getElem_replicate];split
 . rename_i e;subst e;rw[dif_pos A0];simp[List.getD,h]
 rename_i e
 split<;>split<;>first|rfl|omega
theorem yU(n:Nat):RO 0 (aL 16 n)=zs:=by rw[aDn,bP];rfl
theorem DK(n:Nat):RO 16 (aL 16 n)=aL 16 n:=by
 have :=aKk (aL 16 n)
 rwa [bP] at this
theorem sT(i n:Nat):(wC (RO i (aL 16 n))).length=16:=by rw[bW,yV,bP]
theorem rp{i n:Nat}(h:i<16){x:Int}(hx:x=(aJ n i:Nat)):gK (wC (RO i (aL 16 n))) i [.int .u32 x]=wC (RO (i+1) (aL 16 n)):=by rw[hx,tD (by rw[yV,bP];exact h),<-aKl (by rw[bP];exact h),jD h]
theorem yT{i n:Nat}(h:i<16){x:Int}(hx:x=(aJ n i:Nat)):(wC (RO i (aL 16 n))).take i++[AV.int .u32 x]++(wC (RO i (aL 16 n))).drop (i+1)=wC (RO (i+1) (aL 16 n)):=rp h hx
theorem AA(u:Nat):IntKind.u32.wrap (u:Int)=((u%W:Nat):Int):=by simp[IntKind.wrap,IntKind.bits,IntKind.signed,W]
theorem gR{x:Int}{u:Nat}(h:u<2^64)(e:x=u\/x=u -2^64\/x=u+2^64):IntKind.u64.wrap x=u:=by simp only[IntKind.wrap,IntKind.bits,IntKind.signed];simp;omega
theorem LQ(u:Nat):(u:Int).fdiv (2^min (Int.toNat 32) IntKind.u64.bits)=((u / W:Nat):Int):=by show(u:Int).fdiv (2^32)=_;rw[Jw _ A1];rfl
def vJ:Option Int->Option Int->Option Int
 |some x,some y=>norm (x+y)
 |_,_=>none
def NR:Option Int->Option Int
 |some x=>some (-x)
 |none=>none
theorem dS.raw{v:List AV}{x:Option Int}(h:dS v x):∃r:vH,v=r.cells/\x=RX r.b r.n r.l/\r.Vu=x.isSome:=by obtain⟨b,n,l,hl,rfl,rfl⟩:=h;refine⟨⟨b,n,l,hl⟩,rfl,rfl,?_⟩;simp only[vH.Vu,RX];split<;>rename_i h<;>simp[h]
theorem dS.len{v:List AV}{x:Option Int}(h:dS v x):v.length=18:=by obtain⟨b,n,l,hl,rfl,rfl⟩:=h;simp[bW,hl.1]
theorem dS.free{v:List AV}{x:Option Int}(h:dS v x):cM v=true:=by obtain⟨b,n,l,hl,rfl,rfl⟩:=h;simp only[sf]
theorem cJ(z:Int):(cI z).length=18:=by simp[cI,bW,bP]
theorem mC(x:Option Int):(cO x).length=18:=by
 cases x
 . simp[cO,uD,bW,zs]
 exact cJ _
theorem oL{cs:List AV}{n:Nat}(h:cs.length=n):cs.length=n/\cs.take n=cs/\cs.drop n=[]:=⟨h,Bb A0,Bo A0⟩
theorem cOl:(∀x,(cO x).length=18)/\(∀x,(cO x).take 18=cO x)/\(∀x,(cO x).drop 18=[])/\(∀x,(cI x).length=18)/\(∀x,(cI x).take 18=cI x)/\(∀x,(cI x).drop 18=[]):=
 ⟨mC,fun x=>(oL (mC x)).2.1,fun x=>(oL (mC x)).2.2,cJ,fun x=>(oL (cJ x)).2.1,fun x=>(oL (cJ x)).2.2⟩
theorem dS.add{x y:Option Int}:dS (cO (vJ x y)) (vJ x y):=by cases x<;>cases y<;>first|exact .norm _|exact .bad
theorem dS.neg{x:Option Int}{v:List AV}(h:dS v x):dS (cO (NR x)) (NR x):=by
 cases x with
 |none=>exact .bad
 |some z=>exact .enc (by have :=h.some.2;rwa [Ld])
def lO:Option Int->Option Int->Option Int
 |some x,some y=>norm (x*y)
 |_,_=>none
def smO(x y:Nat->Option Int):Nat->Option Int
 |0=>some 0
 |i+1=>vJ (smO x y i) (lO (x i) (y i))
theorem dS.mul{x y:Option Int}:dS (cO (lO x y)) (lO x y):=by cases x<;>cases y<;>first|exact .norm _|exact .bad
theorem dS.sm{x y:Nat->Option Int}:∀i,dS (cO (smO x y i)) (smO x y i)
 |0=>.enc A1
 |i+1=>.add
def YY(x y:Nat->Option Int)(i:Nat):Option Int:=vJ (lO (x ((i+1)%3)) (y ((i+2)%3))) (NR (lO (x ((i+2)%3)) (y ((i+1)%3))))
theorem dS.fit{v:List AV}{z:Int}(h:dS v (Option.some z)):z.natAbs<W^16:=h.some.2
theorem iL{l:List Nat}(h:TQ l):(wC l).length=16/\l.length=16/\(wC l).take 16=wC l/\(wC l).drop 16=[]/\cT [.i,.i,.i,.i,.i,.i,.i,.i,.i,.i,.i,.i,.i,.i,.i,.i] (wC l) (wC zs)=some (decide (l=zs)):=
 ⟨by rw[bW,h.1],h.1,aLu (by rw[h.1];omega),aLt (by rw[h.1];omega),LL h.1 rfl⟩
theorem iz:(wC zs).length=16/\(wC zs).take 16=wC zs/\(wC zs).drop 16=[]:=⟨(iL .zs).1,(iL .zs).2.2.1,(iL .zs).2.2.2.1⟩
def c3(c:Nat->List AV):List AV:=c 0++(c 1++c 2)
theorem fI{c:Nat->List AV}(h:∀i,i<3->(c i).length=18):(c3 c).length=54:=by simp[c3,h 0 A1,h 1 A1,h 2 A1]
theorem pG{c:Nat->List AV}(h:∀i,i<3->(c i).length=18){i:Nat}(hi:i<3):((c3 c).drop (i*18)).take 18=c i:=by
 have h0:=h 0 A1;have h1:=h 1 A1;have h2:=h 2 A1
 match i,hi with
 |0,_=>simp[c3,Ia,h0]
 |1,_=>simp[c3,Fq,Ia,h0,h1]
 |2,_=>simp[c3,Fq,Ia,h0,h1,h2,Bo (show(c 0).length<=36 by omega),Bb (show(c 2).length<=18 by omega)]
theorem rA{c d:Nat->List AV}(h:∀i,i<3->c i=d i):c3 c=c3 d:=by simp only[c3,h 0 A1,h 1 A1,h 2 A1]
theorem YP{c:Nat->List AV}(h:∀i,i<3->(c i).length=18){i:Nat}(hi:i<3){x:List AV}(hx:x.length=18):
 (c3 c).take (i*18)++x++(c3 c).drop (i*18+18)=c3 (fun j=>if j=i then x else c j):=by
 have h0:=h 0 A1;have h1:=h 1 A1;have h2:=h 2 A1
 match i,hi with
 |0,_=>simp[c3,Fq,h0]
 |1,_=>simp[c3,Fq,Ia,h0,h1]
 |2,_=>simp[c3,Fq,Ia,h0,h1,h2,Bb (show(c 0).length<=36 by omega),Bo (show(c 0).length<=54 by omega),Bo (show(c 1).length<=36 by omega),Bo (show(c 2).length<=18 by omega)]
theorem iI{c:Nat->List AV}(h:∀i,i<3->cM (c i)=true):cM (c3 c)=true:=by simp[c3,iV,h 0 A1,h 1 A1,h 2 A1]
theorem aHf:cI 0=.bool false::.bool false::wC zs:=by simp[cI,tT]
theorem vF: .bool false::.bool false::.int .u32 0::.int .u32 0::.int .u32 0::.int .u32 0::.int .u32 0::.int .u32 0::.int .u32 0::.int .u32 0::.int .u32 0::.int .u32 0::.int .u32 0::.int .u32 0::.int .u32 0::.int .u32 0::.int .u32 0::.int .u32 0::.bool false::.bool false::.int .u32 0::.int .u32 0::.int .u32 0::.int .u32 0::.int .u32 0::.int .u32 0::.int .u32 0::.int .u32 0::.int .u32 0::.int .u32 0::.int .u32 0::.int .u32 0::.int .u32 0::.int .u32 0::.int .u32 0::.int .u32 0::.bool false::.bool false::wC zs=c3 (fun _=>cI 0):=by simp only[aHf];rfl
def _root_.Go.aD.V.at(v:aD.V)(i:Nat):Int:=match i with
 |0=>v.x
 |1=>v.y
 |_=>v.z
def cE(v:aD.V):List AV:=[.int .i64 v.x,.int .i64 v.y,.int .i64 v.z]
theorem aM(v:aD.V):(cE v).length=3:=rfl
theorem jL(v:aD.V){i:Nat}(hi:i<3):(cE v).getD i aB=.int .i64 (v.at i):=by
 match i,hi with
 |0,_=>rfl
 |1,_=>rfl
 |2,_=>rfl
theorem bV(v:aD.V):cM (cE v)=true:=by simp only[cE,sf]
end Go.Av
