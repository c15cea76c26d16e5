/-
  Part of the proof of statement 14
-/
import Derived.Test.YtgggiembljfnhaaGreatDoorC05
import Derived.Test.YtgggiembljfnhaaGreatDoorC01
set_option linter.unusedVariables false
set_option linter.unusedSimpArgs false
set_option linter.unusedSimpArgs false
set_option linter.unusedSectionVars false
namespace Go.Av
open Go
section
def dX (P:Program) (g:aT) (n:Nat) (pairs:List (Nat×Nat)) (base:Nat):Nat->Nat->List aN->List (Nat×Nat)->List (Nat×aA×aA)->cQ->aA->(cQ->aA->Prop)->Prop
 |_,_,[],_,_,f,H,Q=>Q f H
 |i,k,r::rs,rd,ef,f,H,Q=>
  if eJ f r=true then
  match r.op with
  |.call c azs=>∃v H',yO P g r f H v H'/\H.next<=H'.next/\(∀x∈rd,(x.1,i)∈pairs->H.get x.2=H'.get x.2)/\
    dX P g n pairs base (i+1) k rs rd ((i,H,H')::ef) (eF n f r.dst v) H' Q
  |.panic _|.iH _ _=>False
  |op=>
   if op.fresh then
    match tL (jD g f) op with
    |some (ob,val)=>(∀x∈ef,(i,x.1)∈pairs->x.2.1.get (base+k)=x.2.2.get (base+k))/\
     dX P g n pairs base (i+1) (k+1) rs ((i,base+k)::rd) ef (eF n f r.dst (val (base+k))) (H.set (base+k) ob) Q
    |none=>False
   else if op.mE then
    jV (cD (jD g f) H op) fun v H'=>H.next<=H'.next/\(∀x∈rd,(x.1,i)∈pairs->H.get x.2=H'.get x.2)/\
     dX P g n pairs base (i+1) k rs rd ((i,H,H')::ef) (eF n f r.dst v) H' Q
   else
    jV (cD (jD g f) H op) fun v H'=>H'=H/\(∀id,op.cG (jD g f)=some id->∀x∈ef,(i,x.1)∈pairs->x.2.1.get id=x.2.2.get id)/\
     dX P g n pairs base (i+1) k rs (match op.cG (jD g f) with|some id=>(i,id)::rd|none=>rd) ef (eF n f r.dst v) H Q
  else dX P g n pairs base (i+1) (if r.op.fresh then k+1 else k) rs rd ef (eF n f r.dst aC) H Q
section
variable {P:Program} {g:aT} {n:Nat} {pairs:List (Nat×Nat)} {base:Nat}
theorem lR:∀(rl:List aN) (i k:Nat) (rd:List (Nat×Nat)) (ef:List (Nat×aA×aA)) (f:cQ) (H:aA) (Q:cQ->aA->Prop),dX P g n pairs base i k rl rd ef f H Q->RK P g n pairs base i k rl rd ef f H Q
 |[],i,k,rd,ef,f,H,Q,h=>h
 |r::rs,i,k,rd,ef,f,H,Q,h=>by
  unfold dX at h;unfold RK;split at h
  . rename_i hw;rw[if_pos hw];split at h
    . rename_i c azs eK;obtain⟨v,H',h1,h2,h3,h4⟩:=h;rw[if_neg (by simp[eK,cZ.fresh]),if_pos (by simp[eK,cZ.mE])];exact⟨v,H',h1,h2,h3,lR rs _ _ _ _ _ _ _ h4⟩
    . exact h.elim
    . exact h.elim
    rename_i n1 n2 n3
    have hq:∀v H',cD (jD g f) H r.op=some (v,H')->yO P g r f H v H':=by
     intro v H' ha;unfold yO;split
     . rename_i c azs eK;exact absurd eK (n1 c azs)
     . rename_i x eK;exact absurd eK (n2 x)
     . rename_i c azs eK;exact absurd eK (n3 c azs)
     exact ha
    split at h
    . rename_i hf;rw[if_pos hf];split at h
      . rename_i ob val ho;exact⟨ob,val,ho,h.1,lR rs _ _ _ _ _ _ _ h.2⟩
      exact h.elim
    rename_i hf;rw[if_neg hf];unfold jV at h;split at h
    . rename_i he;rw[if_pos he];split at h
      . rename_i v H' ha;exact⟨v,H',hq v H' ha,h.1,h.2.1,lR rs _ _ _ _ _ _ _ h.2.2⟩
      exact h.elim
    rename_i he;rw[if_neg he];split at h
    . rename_i v H' ha;obtain⟨rfl,h2,h3⟩:=h;exact⟨v,hq v _ ha,h2,lR rs _ _ _ _ _ _ _ h3⟩
    exact h.elim
  rename_i hw;rw[if_neg hw];exact lR rs _ _ _ _ _ _ _ h
variable {ds:List eX} {Q:FQ} {f:cQ} {H:aA}
theorem bK {rl:List aN} (h0:rl.countP (·.op.fresh)=0) (h:dX P g n pairs H.next 0 0 rl [] [] f H fun f' H'=>Q .normal f' ds H'):FC P g n (.draw rl pairs) f ds H Q:=by refine .inl ⟨by rw[h0];rfl,?_⟩;rw[h0];exact lR _ _ _ _ _ _ _ _ h
theorem bq {rl:List aN} (c:Nat) (h0:rl.countP (·.op.fresh)=c) (hf:mQ H c=true) (h:dX P g n pairs H.next 0 0 rl [] [] f {H with next:=H.next+c} fun f' H'=>Q .normal f' ds H'):FC P g n (.draw rl pairs) f ds H Q:=by refine .inl ⟨by rw[h0];exact hf,?_⟩;rw[h0];exact lR _ _ _ _ _ _ _ _ h
theorem II {rl:List aN} (c:Nat) (h0:rl.countP (·.op.fresh)=c) (hf:mQ H c=true)
 (h:∀H1:aA,H1.next=H.next+c->(∀id,H1.get id=H.get id)->dX P g n pairs H.next 0 0 rl [] [] f H1 fun f' H'=>Q .normal f' ds H'):FC P g n (.draw rl pairs) f ds H Q:=
 bq c h0 hf (h _ rfl fun _=>rfl)
variable {i k:Nat} {rs:List aN} {rd:List (Nat×Nat)} {ef:List (Nat×aA×aA)} {R:cQ->aA->Prop}
theorem TQ:dX P g n pairs base i k [] rd ef f H R=R f H:=dB id id
theorem Ul (d:Nat) (op:cZ) (hp:op.plain=true) (hf:op.fresh=false) (he:op.mE=false) (hd:d<n):
 dX P g n pairs base i k (⟨some d,op,none⟩::rs) rd ef f H R=jV (cD (jD g f) H op) fun v H'=>H'=H/\(∀id,op.cG (jD g f)=some id->∀x∈ef,(i,x.1)∈pairs->x.2.1.get id=x.2.2.get id)/\
       dX P g n pairs base (i+1) k rs (match op.cG (jD g f) with|some id=>(i,id)::rd|none=>rd) ef (iA f d v) H R:=by
 have :∀v,eF n f (some d) v=iA f d v:=fun v=>by simp[eF,hd]
 conv=>lhs;unfold dX
 rw[if_pos (by rfl)];simp only[hf,he,this]
 cases op<;>first|rfl|(simp[cZ.fresh] at hf;done)|(simp[cZ.mE] at he;done)|(simp[cZ.plain] at hp;done)
theorem Um (m:Nat) (a x:Arg):
 dX P g n pairs base i k (⟨none,.store m a x,none⟩::rs) rd ef f H R=jV (cD (jD g f) H (.store m a x)) fun v H'=>H.next<=H'.next/\(∀x∈rd,(x.1,i)∈pairs->H.get x.2=H'.get x.2)/\
       dX P g n pairs base (i+1) k rs rd ((i,H,H')::ef) f H' R:=by
 conv=>lhs;unfold dX
 rw[if_pos (by rfl)];simp only[cZ.fresh,cZ.mE,Ay,Bu,if_true,eF]
theorem Uk (d:Nat) (z:List AV) (hd:d<n):
 dX P g n pairs base i k (⟨some d,.alloc z,none⟩::rs) rd ef f H R=((∀x∈ef,(i,x.1)∈pairs->x.2.1.get (base+k)=x.2.2.get (base+k))/\
       dX P g n pairs base (i+1) (k+1) rs ((i,base+k)::rd) ef (iA f d (.ref (base+k) 0)) (H.set (base+k) (.cells z false)) R):=by
 have :∀v,eF n f (some d) v=iA f d v:=fun v=>by simp[eF,hd]
 conv=>lhs;unfold dX
 rw[if_pos (by rfl)];simp only[cZ.fresh,if_true,tL,this]
theorem RJ (d:Nat) (sz bytes:Nat) (mu:Bool) (x y:Arg) (hd:d<n):
 dX P g n pairs base i k (⟨some d,.append sz bytes mu x y,none⟩::rs) rd ef f H R=jV (cD (jD g f) H (.append sz bytes mu x y)) fun v H'=>H.next<=H'.next/\(∀x∈rd,(x.1,i)∈pairs->H.get x.2=H'.get x.2)/\
       dX P g n pairs base (i+1) k rs rd ((i,H,H')::ef) (iA f d v) H' R:=by
 have :∀v,eF n f (some d) v=iA f d v:=fun v=>by simp[eF,hd]
 conv=>lhs;unfold dX
 rw[if_pos (by rfl)];simp only[cZ.fresh,cZ.mE,Ay,Bu,if_true,this]
theorem cL {d:Nat} {fid:FuncId} {azs:List Arg} {args:List AV} {v:AV} {H':aA} (hd:d<n) (ha:azs.map (jD g f)=args) (hS:Sound P g fid args H (.ret v) H') (hn:H.next<=H'.next)
 (hr:∀x∈rd,(x.1,i)∈pairs->H.get x.2=H'.get x.2)
 (h:dX P g n pairs base (i+1) k rs rd ((i,H,H')::ef) (iA f d v) H' R):dX P g n pairs base i k (⟨some d,.call (.const (.func (.func fid) [] [])) azs,none⟩::rs) rd ef f H R:=by
 have :∀v,eF n f (some d) v=iA f d v:=fun v=>by simp[eF,hd]
 unfold dX;rw[if_pos (by rfl)];simp only[this];refine⟨v,H',?_,hn,hr,h⟩;exact⟨(fid,[],[]),rfl,by simpa [ha] using hS⟩
theorem LS (d:Option Nat) (x:Nat) (b:Bool) (op:cZ) (A B:Prop):gS (f x) b A B=if eJ f ⟨d,op,some (x,b)⟩=true then A else B:=by
 by_cases hw:eJ f ⟨d,op,some (x,b)⟩=true
 . rw[if_pos hw];unfold eJ at hw;dsimp only at hw;split at hw
   . rename_i c hc;rw[hc];unfold gS;dsimp only;rw[if_pos (by simpa using hw)]
   cases hw
 rw[if_neg hw];unfold eJ at hw;dsimp only at hw;unfold gS;split
 . rename_i c hc;rw[hc] at hw;rw[if_neg (by simpa using hw)]
 rfl
theorem aCw (d x:Nat) (b:Bool) (op:cZ) (hd:d<n):
 dX P g n pairs base i k (⟨some d,op,some (x,b)⟩::rs) rd ef f H R=gS (f x) b (dX P g n pairs base i k (⟨some d,op,none⟩::rs) rd ef f H R) (dX P g n pairs base (i+1) (if op.fresh then k+1 else k) rs rd ef (iA f d aC) H R):=by
 have :∀v,eF n f (some d) v=iA f d v:=fun v=>by simp[eF,hd]
 rw[LS (some d) x b op];by_cases hw:eJ f ⟨some d,op,some (x,b)⟩=true
 . rw[if_pos hw]
   conv=>lhs;unfold dX
   conv=>rhs;unfold dX
   rw[if_pos hw,if_pos (by rfl)];rfl
 rw[if_neg hw]
 conv=>lhs;unfold dX
 rw[if_neg hw,this]
theorem aP {f':cQ} {rl:List aN} (h:f=f'):dX P g n pairs base i k rl rd ef f H R=dX P g n pairs base i k rl rd ef f' H R:=by rw[h]
end
theorem aOg (P:Program) (g:aT) (n:Nat):
 (∀(pairs:List (Nat×Nat)) (base i k:Nat) (rs:List aN) (rd:List (Nat×Nat)) (ef:List (Nat×aA×aA)) (f:cQ) (H:aA) (R:cQ->aA->Prop),dX P g n pairs base i k [] rd ef f H R=R f H)/\
 (∀(pairs:List (Nat×Nat)) (base i k:Nat) (rs:List aN) (rd:List (Nat×Nat)) (ef:List (Nat×aA×aA)) (f:cQ) (H:aA) (R:cQ->aA->Prop) (m:Nat) (a x:Arg),
   dX P g n pairs base i k (⟨none,.store m a x,none⟩::rs) rd ef f H R=jV (cD (jD g f) H (.store m a x)) fun v H'=>H.next<=H'.next/\(∀x∈rd,(x.1,i)∈pairs->H.get x.2=H'.get x.2)/\
       dX P g n pairs base (i+1) k rs rd ((i,H,H')::ef) f H' R)/\
 (∀(pairs:List (Nat×Nat)) (base i k:Nat) (rs:List aN) (rd:List (Nat×Nat)) (ef:List (Nat×aA×aA)) (f:cQ) (H:aA) (R:cQ->aA->Prop) (d:Nat) (z:List AV) (hd:d<n),
   dX P g n pairs base i k (⟨some d,.alloc z,none⟩::rs) rd ef f H R=((∀x∈ef,(i,x.1)∈pairs->x.2.1.get (base+k)=x.2.2.get (base+k))/\
       dX P g n pairs base (i+1) (k+1) rs ((i,base+k)::rd) ef (iA f d (.ref (base+k) 0)) (H.set (base+k) (.cells z false)) R))/\
 (∀(pairs:List (Nat×Nat)) (base i k:Nat) (rs:List aN) (rd:List (Nat×Nat)) (ef:List (Nat×aA×aA)) (f:cQ) (H:aA) (R:cQ->aA->Prop) (d sz bytes:Nat) (mu:Bool) (x y:Arg) (hd:d<n),
   dX P g n pairs base i k (⟨some d,.append sz bytes mu x y,none⟩::rs) rd ef f H R=jV (cD (jD g f) H (.append sz bytes mu x y)) fun v H'=>H.next<=H'.next/\(∀x∈rd,(x.1,i)∈pairs->H.get x.2=H'.get x.2)/\
       dX P g n pairs base (i+1) k rs rd ((i,H,H')::ef) (iA f d v) H' R)/\
 (∀(pairs:List (Nat×Nat)) (base i k:Nat) (rs:List aN) (rd:List (Nat×Nat)) (ef:List (Nat×aA×aA)) (f:cQ) (H:aA) (R:cQ->aA->Prop) (d x:Nat) (b:Bool) (op:cZ) (hd:d<n),
   dX P g n pairs base i k (⟨some d,op,some (x,b)⟩::rs) rd ef f H R=gS (f x) b (dX P g n pairs base i k (⟨some d,op,none⟩::rs) rd ef f H R) (dX P g n pairs base (i+1) (if op.fresh then k+1 else k) rs rd ef (iA f d aC) H R)):=
 ⟨fun _ _ _ _ _ _ _ _ _ _=>TQ,fun _ _ _ _ _ _ _ _ _ _ m a x=>Um m a x,
  fun _ _ _ _ _ _ _ _ _ _ d z hd=>Uk d z hd,fun _ _ _ _ _ _ _ _ _ _ d sz bytes mu x y hd=>RJ d sz bytes mu x y hd,
  fun _ _ _ _ _ _ _ _ _ _ d x b op hd=>aCw d x b op hd⟩
def St (id cmp ix nx:Nat) (N:Int) (B:bP):bP:=
 .block id (.loop (.seq (.ops [⟨some cmp,.bin .lss (.tmp ix) (.const (.int .i64 N)),none⟩]) (.seq (.cond (.tmp cmp) .skip (.exit id)) (.seq B
  (.ops [⟨some nx,.bin .add (.tmp ix) (.const (.int .i64 1)),none⟩,⟨some ix,.CI (.tmp nx),none⟩])))))
theorem Ui {P:Program} {g:aT} {n:Nat} {id cmp ix nx:Nat} {B:bP} {f:cQ} {ds:List eX} {H:aA} {Q:FQ} (J:Nat->cQ->aA->Prop) (N:Nat) {N':Int} (hN:(N:Int)<2^63)
 (hNN:N'=(N:Int))
 (hs:cmp<n/\ix<n/\nx<n/\cmp≠ix/\nx≠ix)
 (h1:f ix=.int .i64 0) (h0:J 0 f H)
 (st:∀(i:Nat) (f:cQ) (H:aA) (d:Nat) (v:AV),d=cmp\/d=nx\/d=ix->J i f H->J i (iA f d v) H)
 (body:∀(i:Nat) (f:cQ) (H:aA),i<N->f ix=.int .i64 i->J i f H->
   FC P g n B f ds H (gI (fun f' eC H'=>eC=ds/\f' ix=.int .i64 i/\J (i+1) f' H') (cW id Q)))
 (done:∀(f:cQ) (H:aA),J N f H->Q .normal f ds H):FC P g n (St id cmp ix nx N' B) f ds H Q:=by
 subst hNN;obtain⟨s1,s2,s3,s4,s7⟩:=hs;refine aS (NC (fun m f' eC H'=>eC=ds/\∃i:Nat,i<=N/\m=N -i/\f' ix=.int .i64 i/\J i f' H') N ⟨rfl,0,Cs _,by omega,h1,h0⟩ ?_);rintro m f1 oR H1 ⟨rfl,i,hi,rfl,e1,e3⟩;refine aB fun K hK=>?_;rw[DJ,uV _ _ _ _ s1];simp only[cD,fA,rY,e1,jX,if_true,Bi,dI,oG,fE];apply hK;clear hK K;have st1:=st i f1 H1 cmp (.bool (decide ((i:Int)<N))) (.inl rfl) e3;refine aB fun K hK=>TO (decide ((i:Int)<N)) (by rw[fA,oQ]) (fun ht=>?_) (fun ht=>?_)
 . rw[HI,fE];apply hK;clear hK K;have eW:i<N:=by have :=Dq ht;omega
   refine aB fun K hK=>?_;have hb:=body i _ H1 eW (by rw[lP _ _ (Ne.symm s4)];exact e1) st1;have mono:∀{c:bP} {f:cQ} {ds:List eX} {H:aA} {Q Q':FQ},(∀e f ds H,Q e f ds H->Q' e f ds H)->FC P g n c f ds H Q->FC P g n c f ds H Q':=fun {c f ds H Q Q'} hq h=>iX hq h;refine mono (fun e f2 NS H2 h=>?_) hb
   cases e with
   |normal=>obtain⟨rfl,b1,b3⟩:=h;show K f2 NS H2;apply hK;rw[DJ,uV _ _ _ _ s3];have hw:IntKind.i64.wrap ((i:Int)+1)=((i+1:Nat):Int):=(by rw[wrap_i64 (by omega) (by omega)];rfl);simp only[cD,fA,rY,b1,jX,if_true,Bi,dI];rw[AR _ _ s2];simp only[cD,fA,dI,oG,fE,oQ,hw];exact⟨N -(i+1),by omega,trivial,i+1,by omega,rfl,rfl,st _ _ _ _ _ (.inr (.inr rfl)) (st _ _ _ _ _ (.inr (.inl rfl)) b3)⟩
   |_=>exact h
 rw[HH,lO,lO,nZ];have xB:i=N:=by have :=of_decide_eq_false ht;omega
 subst xB;exact done _ _ st1
class Pp (op:cZ):Prop where
 h:op.plain=true
 f:op.fresh=false
 e:op.mE=false
instance (x:Arg):Pp (.CI x):=⟨rfl,rfl,rfl⟩
instance (c a b:Arg):Pp (.pick c a b):=⟨rfl,rfl,rfl⟩
instance (z:List AV) (ps:List (Nat×Nat×Arg)):Pp (.build z ps):=⟨rfl,rfl,rfl⟩
instance (sz:Nat) (xs:List Arg):Pp (.KK sz xs):=⟨rfl,rfl,rfl⟩
instance (agg:Bool) (m:Nat) (a:Arg):Pp (.load agg m a):=⟨rfl,rfl,rfl⟩
instance (x:Arg):Pp (.KM x):=⟨rfl,rfl,rfl⟩
instance (o:BinOp) (x y:Arg):Pp (.bin o x y):=⟨rfl,rfl,rfl⟩
instance (neg:Bool) (x y:Arg):Pp (.eqb neg x y):=⟨rfl,rfl,rfl⟩
instance (neg:Bool) (sh:List Sk) (x y:Arg):Pp (.eqf neg sh x y):=⟨rfl,rfl,rfl⟩
instance (neg:Bool) (k:Nk) (lit:Bool) (x y:Arg):Pp (.Xp neg k lit x y):=⟨rfl,rfl,rfl⟩
instance (o:UnOp) (x:Arg):Pp (.un o x):=⟨rfl,rfl,rfl⟩
instance (k:IntKind) (x:Arg):Pp (.JH k x):=⟨rfl,rfl,rfl⟩
instance (x:Arg):Pp (.yA x):=⟨rfl,rfl,rfl⟩
instance (m:Nat) (x:Arg):Pp (.Sw m x):=⟨rfl,rfl,rfl⟩
instance (t:TypeId) (x:Arg):Pp (.SV t x):=⟨rfl,rfl,rfl⟩
instance (fn:Fn) (a b:List Arg):Pp (.SU fn a b):=⟨rfl,rfl,rfl⟩
instance (x:Arg) (lo hi:Option Arg):Pp (.Kn x lo hi):=⟨rfl,rfl,rfl⟩
instance (sz:Nat) (x:Arg) (lo hi mx:Option Arg):Pp (.Sx sz x lo hi mx):=⟨rfl,rfl,rfl⟩
instance (m sz:Nat) (x:Arg) (lo hi mx:Option Arg):Pp (.yJ m sz x lo hi mx):=⟨rfl,rfl,rfl⟩
instance (off:Nat) (x:Arg):Pp (.Ru off x):=⟨rfl,rfl,rfl⟩
instance (arr:Option Nat) (sz:Nat) (x i:Arg):Pp (.Nl arr sz x i):=⟨rfl,rfl,rfl⟩
instance (m sz:Nat) (agg:Bool) (x i:Arg):Pp (.idx m sz agg x i):=⟨rfl,rfl,rfl⟩
instance (x i:Arg):Pp (.idxs x i):=⟨rfl,rfl,rfl⟩
instance (t:TypeId) (ok:Bool) (z:AV) (x:Arg):Pp (.TE t ok z x):=⟨rfl,rfl,rfl⟩
instance (x:Arg) (i:Nat):Pp (.Rr x i):=⟨rfl,rfl,rfl⟩
instance (x:Arg):Pp (.lens x):=⟨rfl,rfl,rfl⟩
instance (x:Arg):Pp (.GU x):=⟨rfl,rfl,rfl⟩
instance (x y:Arg):Pp (.QA x y):=⟨rfl,rfl,rfl⟩
instance (x y:Arg):Pp (.QC x y):=⟨rfl,rfl,rfl⟩
instance (k:Sk) (z:AV) (ok:Bool) (x i:Arg):Pp (.lookup k z ok x i):=⟨rfl,rfl,rfl⟩
theorem aJl (P:Program) (g:aT) (n:Nat) (pairs:List (Nat×Nat)) (base i0 k0:Nat) (rs:List aN) (rd:List (Nat×Nat)) (ef:List (Nat×aA×aA)) (f:cQ) (H:aA) (R:cQ->aA->Prop) (d:Nat) (op:cZ) [Pp op] (hd:d<n):
 dX P g n pairs base i0 k0 (⟨some d,op,none⟩::rs) rd ef f H R=jV (cD (jD g f) H op) fun v H'=>H'=H/\(∀id,op.cG (jD g f)=some id->∀x∈ef,(i0,x.1)∈pairs->x.2.1.get id=x.2.2.get id)/\
     dX P g n pairs base (i0+1) k0 rs (match op.cG (jD g f) with|some id=>(i0,id)::rd|none=>rd) ef (iA f d v) H R:=
 Ul d op Pp.h Pp.f Pp.e hd
end
section
section
variable {P:Program} {g:aT} {n:Nat}
theorem wQ {Q:aA->Prop}:∀{ds:List eX} {H:aA},RF P g ds H Q->∃Hf,Q Hf/\RF P g ds H fun H'=>H'=Hf
 |[],H,h=>⟨H,h,rfl⟩
 |.call _ _::ds,H,h=>by obtain⟨H1,h1,h2⟩:=h;obtain⟨Hf,q,h3⟩:=wQ h2;exact⟨Hf,q,H1,h1,h3⟩
 |.mark _::ds,H,h=>by obtain⟨h1,h2⟩:=h;obtain⟨Hf,q,h3⟩:=wQ h2;exact⟨Hf,q,h1,h3⟩
theorem pX {Q Q':aA->Prop} (hq:∀H,Q H->Q' H):∀{ds:List eX} {H:aA},RF P g ds H Q->RF P g ds H Q'
 |[],H,h=>hq H h
 |.call _ _::ds,H,h=>by obtain⟨H1,h1,h2⟩:=h;exact⟨H1,h1,pX hq h2⟩
 |.mark _::ds,H,h=>⟨h.1,pX hq h.2⟩
def tf (P:Program) (g:aT) (rs:List AO) (R:Out->aA->Prop):FQ
 |.normal,f,ds,H|.ret,f,ds,H=>RF P g ds H fun H1=>∃vs,mZ f H1 rs=some vs/\R (.ret (iW vs)) H1
 |.panic v,f,ds,H=>match ds with
  |[]=>R (.pA v) H
  |.mark _::_=>False
  |.call df azs::ds=>∃H1,uZ P g df azs (some v) H H1/\RF P g ds H1 fun H2=>∃vs,mZ f H2 rs=some vs/\R (.ret (iW vs)) H2
 |.exit _,_,_,_=>False
theorem bk {F:wR} {args:List AV} (ha:args.length<=F.ntmps) {H:aA} {R:Out->aA->Prop} (h:FC P g F.ntmps F.body (dW args) [] H (tf P g F.results R)):
 AC P g F.body (nC F args) [] H (th P g F R):=by
 obtain⟨hb,hl⟩:=xN ha;unfold nC;rw[<-hl];refine dP (fun e s ds H hq=>?_) (uU F.body _ [] H _ hb h);obtain⟨f,rfl,vR,hq⟩:=hq
 have conv:∀H1,(∃vs,mZ f H1 F.results=some vs/\R (.ret (iW vs)) H1)->∃vs,jU (LF F.ntmps f) H1 F.results=some vs/\R (.ret (iW vs)) H1:=fun H1 ⟨vs,h1,h2⟩=>⟨vs,by rw[<-CR vR];exact h1,h2⟩
 cases e with
 |normal=>exact pX conv hq
 |ret=>exact pX conv hq
 |panic v=>
  cases ds with
  |nil=>exact hq
  |cons d ds=>
   cases d with
   |mark _=>exact hq.elim
   |call _ _=>obtain⟨H1,h1,h2⟩:=hq;exact⟨H1,h1,pX conv h2⟩
 |exit id=>exact hq
theorem tD {mu:Bool} (hm:Fit P g) {f:FuncId} {F:wR} (hF:iM P g mu f F) {args:List AV} (ha:args.length<=F.ntmps) {H:aA} {R:Out->aA->Prop}
 (h:FC P g F.ntmps F.body (dW args) [] H (tf P g F.results R)) (hdt:F.body.dE=true:=by first|rfl|decide) (htt:F.body.tight=true:=by first|rfl|decide):∃out H',R out H'/\Sound P g f args H out H':=by
 obtain⟨ae,s,ds,H',q,hA⟩:=Oa hdt (bk ha h);rw[htt] at hA
 replace hA:AC P g F.body (nC F args) [] H (fun e s1 d h=>e=ae/\s1=s/\d=ds/\h=H'):=dP (fun e s1 d h hh=>⟨hh.1,hh.2.1.resolve_right fun h=>(by cases h.1),hh.2.2⟩) hA
 have norm:(ae=.normal\/ae=.ret)->(RF P g ds H' fun H1=>∃vs,jU s H1 F.results=some vs/\R (.ret (iW vs)) H1)->∃out H',R out H'/\Sound P g f args H out H':=by
  intro hae q;obtain⟨Hf,⟨vs,h1,h2⟩,h3⟩:=wQ q;refine⟨_,Hf,h2,mL hm hF (dP (fun e s1 d hh he=>?_) hA)⟩;obtain⟨rfl,rfl,rfl,rfl⟩:=he;have :RF P g d hh fun H1=>∃mq,jU s1 H1 F.results=some mq/\(Out.ret (iW mq)=Out.ret (iW vs)/\H1=Hf):=pX (fun H1 e=>by subst e;exact⟨vs,h1,rfl,rfl⟩) h3
  rcases hae with rfl|rfl<;>exact this
 cases ae with
 |exit id=>exact q.elim
 |normal=>exact norm (.inl rfl) q
 |ret=>exact norm (.inr rfl) q
 |panic v=>
  cases ds with
  |nil=>refine⟨.pA v,H',q,mL hm hF (dP (fun e s1 d hh he=>?_) hA)⟩;obtain⟨rfl,rfl,rfl,rfl⟩:=he;exact⟨rfl,rfl⟩
  |cons d ds=>
   cases d with
   |mark _=>exact q.elim
   |call _ _=>obtain⟨H1,h1,h2⟩:=q;obtain⟨Hf,⟨vs,q1,q2⟩,q3⟩:=wQ h2;refine⟨.ret (iW vs),Hf,q2,mL hm hF (dP (fun e s1 d1 hh he=>?_) hA)⟩;obtain⟨rfl,rfl,rfl,rfl⟩:=he;exact⟨H1,h1,pX (fun H1 e=>by subst e;exact⟨vs,q1,rfl,rfl⟩) q3⟩
theorem AT {mu:Bool} (hm:Fit P g) {f:FuncId} {dst:Option Nat} {rl:List aN} {ac:bP} (hF:XG P g mu f n dst rl ac)
 {args:List AV} (ha:args.length<=n) {md:Option AV} {H H':aA}
 (h:bM P g n rl (eF n (dW args) dst (md.getD .lZ)) [] H (gI (fun f ds H=>FC P g n ac f ds H fun e f ds H=>(match e with|.normal=>True|.ret=>True|_=>False)/\ds=[]/\H=H') fun _ _ _ _=>False)):
 uZ P g f args md H H':=by
 obtain⟨hb,hl⟩:=xN ha;refine NH hm hF ?_;rw[<-hl,<-mK];refine DI (fun e s ds H hq=>?_) (gD rl _ [] H _ (hb.put _ _) h);obtain⟨f,rfl,vR,hq⟩:=hq
 cases e with
 |normal=>refine dP (fun e s ds H hq=>?_) (uU ac f ds H _ vR hq);obtain⟨f,rfl,_,hq⟩:=hq;exact hq
 |_=>exact hq.elim
variable {r:List aN} {f:cQ} {ds:List eX} {H:aA} {Q:FQ}
theorem eU {d:Nat} {fid:FuncId} {az:List Arg} {args:List AV} {v:AV} {H':aA} (ha:az.map (jD g f)=args) (hS:Sound P g fid args H (.pA v) H')
 (h:Q (.panic v) f ds H'):bM P g n (⟨some d,.call (.const (.func (.func fid) [] [])) az,none⟩::r) f ds H Q:=by
 unfold bM;simp only[eJ,if_true];exact⟨.pA v,H',.inl ⟨(fid,[],[]),rfl,by simpa [ha] using hS⟩,h⟩
theorem jJ {x:Arg} {t:TypeId} {v:AV} (hx:jD g f x=.iface t v) (h:Q (.panic (.iface t v)) f ds H):bM P g n (⟨none,.panic x,none⟩::r) f ds H Q:=by unfold bM;simp only[eJ,if_true];exact⟨t,v,hx,h⟩
theorem RM {c:Arg} {az:List Arg} {fid:FuncId} {fs cs args:List AV} (hc:jD g f c=.func (.func fid) fs cs) (ha:fs++az.map (jD g f)++cs=args)
 (h:bM P g n r f (.call fid args::ds) H Q):bM P g n (⟨none,.iH c az,none⟩::r) f ds H Q:=by
 unfold bM;simp only[eJ,if_true,eF];exact⟨(fid,fs,cs),by rw[hc];rfl,by rw[ha];exact h⟩
end
end
section
section
variable {P:Program} {v:Nat->Option (List AV)} {l l':IP->Loop->Prop}
theorem fK:aX ⟨v,l⟩=aX ⟨v,l'⟩:=by funext x;cases x<;>rfl
theorem IZ:lH ⟨v,l⟩=lH ⟨v,l'⟩:=by
 funext x
 induction x with
 |nil=>rfl
 |cons a r ih=>simp only[lH];rw[ih,fK (l':=l')]
theorem Si:kL ⟨v,l⟩=kL ⟨v,l'⟩:=by
 funext x
 cases x with
 |none=>rfl
 |some a=>simp only[kL];rw[fK (l':=l')]
theorem Sm (f:Nat->Option (Nat×Nat)):rG ⟨v,l⟩ f=rG ⟨v,l'⟩ f:=by
 funext x
 induction x with
 |nil=>rfl
 |cons a r ih=>simp only[rG];rw[ih,fK (l':=l')]
theorem Yg:∀(n:Nat) (x),CD ⟨v,l⟩ n x=CD ⟨v,l'⟩ n x:=by
 intro n x
 induction x generalizing n with
 |nil=>rfl
 |cons a r ih=>simp only[CD];rw[ih,fK (l':=l')]
theorem Rc (op:BinOp) (t:TypeId) (x y:Operand):nK P ⟨v,l⟩ op t x y=nK P ⟨v,l'⟩ op t x y:=by unfold nK;rw[fK (l':=l')]
theorem PE (a b:TypeId) (x:Operand):jY P ⟨v,l⟩ a b x=jY P ⟨v,l'⟩ a b x:=by unfold jY;rw[fK (l':=l')]
theorem NP (t:TypeId) (x:Operand) (a b c:Option Operand):gR P ⟨v,l⟩ t x a b c=gR P ⟨v,l'⟩ t x a b c:=by unfold gR;rw[fK (l':=l'),Si (l':=l')]
theorem Rf (c:Call):nL P ⟨v,l⟩ c=nL P ⟨v,l'⟩ c:=by unfold nL;rw[fK (l':=l')]
theorem LM (mu:Bool) (c:Call):fM P ⟨v,l⟩ mu c=fM P ⟨v,l'⟩ mu c:=by unfold fM;rw[fK (l':=l')]
theorem PD (mu:Bool) (c:Call):lA P ⟨v,l⟩ mu c=lA P ⟨v,l'⟩ mu c:=by unfold lA;rw[fK (l':=l'),IZ (l':=l'),Rf (l':=l'),LM (l':=l')]
theorem eh (mu:Bool) (o:Oper):JI P ⟨v,l⟩ mu o=JI P ⟨v,l'⟩ mu o:=by unfold JI;simp only[fK (v:=v) (l:=l) (l':=l'),IZ (v:=v) (l:=l) (l':=l'),Sm (v:=v) (l:=l) (l':=l'),Yg (v:=v) (l:=l) (l':=l'),Rc (v:=v) (l:=l) (l':=l'),PE (v:=v) (l:=l) (l':=l'),NP (v:=v) (l:=l) (l':=l'),PD (v:=v) (l:=l) (l':=l')]
theorem VO (mu:Bool) (ops:Array Oper) (o:Oper):FH P ⟨v,l⟩ mu ops o=FH P ⟨v,l'⟩ mu ops o:=by unfold FH;rw[eh (l':=l')]
theorem Rh (mu:Bool) (ops:Array Oper):∀x,iU P ⟨v,l⟩ mu ops x=iU P ⟨v,l'⟩ mu ops x:=by
 intro x
 induction x with
 |nil=>rfl
 |cons a r ih=>simp only[iU];rw[ih,VO (l':=l')]
theorem Uy (mu:Bool) (c:Code):dK P ⟨v,l⟩ mu c=dK P ⟨v,l'⟩ mu c:=by
 induction c with
 |region id ops d=>cases d<;>simp only[dK]<;>rw[Rh (l':=l')]
 |seq a b oY qS=>simp only[dK,oY,qS]
 |cond c a b oY qS=>simp only[dK,oY,qS];rw[fK (l':=l')]
 |block id a ih=>simp only[dK,ih]
 |loop a ih=>simp only[dK,ih]
 |scope a ih=>simp only[dK,ih]
 |rangeFunc c ps x y qw qx=>simp only[dK,qw,qx];rw[fK (l':=l')]
 |_=>rfl
def mkG (P:Program) (v:Nat->Option (List AV)):aT:=
 ⟨v,fun k r=>r.params.toList=k.ps/\∃mu,dK P ⟨v,fun _ _=>False⟩ mu r.assign=some k.LB/\dK P ⟨v,fun _ _=>False⟩ mu r.body=some k.body/\k.LB.nd=true/\k.body.nd=true⟩
theorem UI (hm:P.follows .mixedOrders=true):Fit P (mkG P v) where
 mixed:=hm
 lok:=fun k r=>by unfold mkG;simp only[Uy (P:=P) (v:=v) (l':=fun _ _=>False)]
def GB (P:Program) (g:aT) (mu:Bool) (fn:Go.Func):Option wR:=
 match fn.body with
 |none=>none
 |some c=>match dK P g mu c,qQ P fn.results.toList with
  |some b,some r=>some ⟨fn.ntmps,r,b⟩
  |_,_=>none
def cY (P:Program) (g:aT) (mu:Bool):Code->Option bP
 |.skip=>some .skip
 |.label _=>some .skip
 |.region _ ops false=>(iU P g mu ops ops.toList).map .ops
 |.region _ ops true=>(iU P g mu ops ops.toList).map fun rl=>.draw rl (mY rl (Region.before ops).toList)
 |.seq a b=>match cY P g mu a,cY P g mu b with
  |some x,some y=>some (.seq x y)
  |_,_=>none
 |.cond c a b=>match aX g c,cY P g mu a,cY P g mu b with
  |some z,some x,some y=>some (.cond z x y)
  |_,_,_=>none
 |.block id a=>(cY P g mu a).map (.block id)
 |.loop a=>(cY P g mu a).map .loop
 |.scope a=>cY P g mu a
 |.exit id=>some (.exit id)
 |.ret=>some .ret
 |.rangeFunc c ps x y=>match aX g c,cY P g mu x,cY P g mu y with
  |some c',some x',some y'=>some (.lK c' ps.toList x' y')
  |_,_,_=>none
 |_=>none
theorem Ux {P:Program} {g:aT} {mu:Bool}:∀{c:Code} {b:bP},dK P g mu c=some b->cY P g mu c=some b:=by
 intro c
 induction c with
 |region k ops d=>
  intro b h
  cases d with
  |false=>exact h
  |true=>
   simp only[dK] at h;simp only[cY];split at h
   . rename_i rl Ty;split at h
     . cases h;rw[Ty];rfl
     cases h
   cases h
 |seq a b oY qS=>
  intro r h;simp only[dK] at h;split at h
  . rename_i x y hx hy;simp only[cY,oY hx,qS hy];exact h
  cases h
 |cond c a b oY qS=>
  intro r h;simp only[dK] at h;split at h
  . rename_i z x y hz hx hy;simp only[cY,hz,oY hx,qS hy];exact h
  cases h
 |block i a oY=>intro r h;simp only[dK,Af] at h;obtain⟨x,hx,rfl⟩:=h;simp only[cY,oY hx,Bi]
 |loop a oY=>intro r h;simp only[dK,Af] at h;obtain⟨x,hx,rfl⟩:=h;simp only[cY,oY hx,Bi]
 |scope a oY=>intro r h;simp only[dK] at h;simp only[cY];exact oY h
 |rangeFunc c ps x y qw qx=>
  intro r h;simp only[dK] at h;split at h
  . rename_i c' x' y' hc hx hy;split at h
    . simp only[cY,hc,qw hx,qx hy];exact h
    cases h
  cases h
 |_=>intro r h;first|exact h|cases h
def mkX (P:Program) (g:aT) (mu:Bool) (fn:Go.Func):Option wR:=
 match fn.body with
 |none=>none
 |some c=>match cY P g mu c,qQ P fn.results.toList with
  |some b,some r=>some ⟨fn.ntmps,r,b⟩
  |_,_=>none
theorem Yj {P:Program} {g:aT} {mu:Bool} {fn:Go.Func} {F:wR} (h:(GB P g mu fn).isSome=true) (hx:mkX P g mu fn=some F):GB P g mu fn=some F:=by
 cases hm:GB P g mu fn with
 |none=>rw[hm] at h;cases h
 |some G=>
  have e:mkX P g mu fn=some G:=by
   unfold GB at hm;unfold mkX
   cases hc:fn.body with
   |none=>rw[hc] at hm;cases hm
   |some c=>
    rw[hc] at hm;simp only at hm ⊢;split at hm
    . rename_i b r hb hr;rw[Ux hb,hr];exact hm
    cases hm
  rw[e] at hx;exact hx
def sqO:Option bP->Option bP->Option bP
 |some x,some y=>some (.seq x y)
 |_,_=>none
def cdO (c:Option Arg):Option bP->Option bP->Option bP
 |some x,some y=>match c with
  |some z=>some (.cond z x y)
  |none=>none
 |_,_=>none
theorem ax (P:Program) (g:aT) (mu:Bool):(∀a b,cY P g mu (.seq a b)=sqO (cY P g mu a) (cY P g mu b))/\(∀c a b,cY P g mu (.cond c a b)=cdO (aX g c) (cY P g mu a) (cY P g mu b))/\
 (∀i a,cY P g mu (.block i a)=(cY P g mu a).map (.block i))/\(∀a,cY P g mu (.loop a)=(cY P g mu a).map .loop)/\(∀a,cY P g mu (.scope a)=cY P g mu a)/\
 (∀k ops,cY P g mu (.region k ops false)=(iU P g mu ops ops.toList).map .ops)/\(∀k ops,cY P g mu (.region k ops true)=(iU P g mu ops ops.toList).map fun rl=>.draw rl (mY rl (Region.before ops).toList)):=by
 refine⟨fun a b=>?_,fun c a b=>?_,fun i a=>rfl,fun a=>rfl,fun a=>rfl,fun k ops=>rfl,fun k ops=>rfl⟩
 . conv=>lhs;unfold cY
   unfold sqO;cases cY P g mu a<;>cases cY P g mu b<;>rfl
 conv=>lhs;unfold cY
 unfold cdO;cases aX g c<;>cases cY P g mu a<;>cases cY P g mu b<;>rfl
theorem gJ {g:aT} {mu:Bool} {f:FuncId} {fn:Go.Func} {F:wR} (h1:P.funcs[f]?=some fn) (h2:(fn.name== "runtime.NumGoroutine")=false) (h:GB P g mu fn=some F):iM P g mu f F:=by
 unfold GB at h;split at h
 . cases h
 rename_i c hc;split at h
 . rename_i b r hb hr;cases h;exact⟨fn,c,h1,hc,h2,hb,rfl,hr⟩
 cases h
end
end
section
def aN.oN (o:aN):Bool:=match o.op with|.iH _ _=>false|_=>true
def bP.oN:bP->Bool
 |.ops rl=>rl.all aN.oN
 |.seq a b|.cond _ a b=>a.oN&&b.oN
 |.block _ a|.loop a=>a.oN
 |.lK _ _ _ _=>false
 |_=>true
def bP.wr:bP->List Nat
 |.ops rl|.draw rl _=>rl.filterMap (·.dst)
 |.seq a b|.cond _ a b=>a.wr++b.wr
 |.block _ a|.loop a=>a.wr
 |_=>[]
def pR (t:Nat):List Nat->Bool
 |[]=>false
 |x::l=>Nat.beq t x||pR t l
theorem QB {t:Nat}:∀{l:List Nat},pR t l=true↔t∈l
 |[]=>by simp[pR]
 |x::l=>by simp[pR,QB]
theorem mX {t:Nat} {l:List Nat}:pR t l=false↔t∉l:=by rw[<-QB];simp
def iF (W:List Nat) (f0 f:cQ):Prop:=∀t,pR t W=false->f t=f0 t
theorem iF.WM {W:List Nat} {f:cQ}:iF W f f:=fun _ _=>rfl
def Kp (W:List Nat) (f0:cQ) (nd:Bool) (ds0:List eX) (f:cQ) (ds:List eX):Prop:=iF W f0 f/\(nd=true->ds=ds0)
theorem iF.put {W:List Nat} {f0 f:cQ} {n:Nat} (h:iF W f0 f) (dst:Option Nat) (hd:∀d,dst=some d->d∈W) (v:AV):iF W f0 (eF n f dst v):=by
 cases dst with
 |none=>exact h
 |some d=>
  intro t ht
  have cF:t≠d:=fun e=>by subst e;exact mX.1 ht (hd _ rfl)
  simp only[eF];split
  . rw[lP _ _ cF];exact h t ht
  exact h t ht
section
variable {P:Program} {g:aT} {n:Nat} {W:List Nat} {f0:cQ} {nd:Bool} {ds0:List eX}
theorem Uo {rl:List aN}:∀{f:cQ} {ds:List eX} {H:aA} {Q:FQ},(∀o∈rl,∀d,o.dst=some d->d∈W)->(nd=true->rl.all aN.oN=true)->Kp W f0 nd ds0 f ds->
 bM P g n rl f ds H Q->bM P g n rl f ds H (fun e f' eC H'=>Kp W f0 nd ds0 f' eC/\Q e f' eC H'):=by
 induction rl with
 |nil=>exact fun _ _ hk h=>⟨hk,h⟩
 |cons o r ih=>
  intro f ds H Q hw hn hk h;have jG:=fun o ho=>hw o (Ao _ ho)
  have LX:nd=true->r.all aN.oN=true:=fun e=>by have :=hn e;simp only[Hg,Aj] at this;exact this.2
  have zQ:∀v,Kp W f0 nd ds0 (eF n f o.dst v) ds:=fun v=>⟨hk.1.put _ (hw o Aq) v,hk.2⟩;unfold bM at h ⊢;split
  . rename_i La;rw[if_pos La] at h;split at h
    . obtain⟨out,H',h1,h3⟩:=h;refine⟨out,H',h1,?_⟩
      cases out with
      |ret v=>exact ih jG LX (zQ v) h3
      |pA v=>exact⟨hk,h3⟩
    . obtain⟨t,v,h1,h2⟩:=h;exact⟨t,v,h1,hk,h2⟩
    . rename_i c az eK;obtain⟨p,h1,h2⟩:=h;refine⟨p,h1,ih jG LX ⟨(zQ _).1,fun e=>?_⟩ h2⟩;have :=hn e;simp only[Hg,Aj] at this;have h3:=this.1;rw[aN.oN,eK] at h3;cases h3
    . obtain⟨m,es,h1,h2,h3⟩:=h;exact⟨m,es,h1,h2,fun bs c mb k1 k2=>ih jG LX (zQ _) (h3 bs c mb k1 k2)⟩
    . obtain⟨it,m,mb,c,seen,es,bs,h1,h2,h3,h4,h5⟩:=h;exact⟨it,m,mb,c,seen,es,bs,h1,h2,h3,fun k=>ih jG LX (zQ _) (h4 k),fun j k1 k2=>ih jG LX (zQ _) (h5 j k1 k2)⟩
    . obtain⟨it,m,mb,c,seen,es,bs,j,h1,h2,h3,h4,h5⟩:=h;exact⟨it,m,mb,c,seen,es,bs,j,h1,h2,h3,h4,ih jG LX (zQ _) h5⟩
    unfold jV at h ⊢;split at h
    . exact ih jG LX (zQ _) h
    exact h.elim
  rename_i La;rw[if_neg La] at h;exact ih jG LX (zQ _) h
theorem Oi {pairs:List (Nat×Nat)} {base:Nat} {rl:List aN}:∀{i k:Nat} {rd:List (Nat×Nat)} {ef:List (Nat×aA×aA)} {f:cQ} {H:aA} {Q:cQ->aA->Prop},(∀o∈rl,∀d,o.dst=some d->d∈W)->iF W f0 f->
 RK P g n pairs base i k rl rd ef f H Q->RK P g n pairs base i k rl rd ef f H (fun f' H'=>iF W f0 f'/\Q f' H'):=by
 induction rl with
 |nil=>exact fun _ hk h=>⟨hk,h⟩
 |cons r rs ih=>
  intro i k rd ef f H Q hw hk h;have jG:=fun o ho=>hw o (Ao _ ho);have zQ:∀v,iF W f0 (eF n f r.dst v):=fun v=>hk.put _ (hw r Aq) v;unfold RK at h ⊢;split
  . rename_i La;rw[if_pos La] at h;split
    . rename_i hf;rw[if_pos hf] at h;obtain⟨ob,val,h1,h2,h3⟩:=h;exact⟨ob,val,h1,h2,ih jG (zQ _) h3⟩
    rename_i hf;rw[if_neg hf] at h;split
    . rename_i he;rw[if_pos he] at h;obtain⟨v,H',h1,h2,h3,h4⟩:=h;exact⟨v,H',h1,h2,h3,ih jG (zQ _) h4⟩
    rename_i he;rw[if_neg he] at h;obtain⟨v,h1,h2,h3⟩:=h;exact⟨v,h1,h2,ih jG (zQ _) h3⟩
  rename_i La;rw[if_neg La] at h;exact ih jG (zQ _) h
theorem Yi {rl:List aN} (hw:∀d∈rl.filterMap (·.dst),d∈W):∀o∈rl,∀d,o.dst=some d->d∈W:=fun o ho d hd=>hw d (List.mem_filterMap.2 ⟨o,ho,hd⟩)
theorem XD {c:bP}:∀{f:cQ} {ds:List eX} {H:aA} {Q:FQ},(∀d∈c.wr,d∈W)->(nd=true->c.oN=true)->Kp W f0 nd ds0 f ds->FC P g n c f ds H Q->FC P g n c f ds H (fun e f' eC H'=>Kp W f0 nd ds0 f' eC/\Q e f' eC H'):=by
 induction c with
 |skip=>exact fun _ _ hk h=>⟨hk,h⟩
 |ops rl=>exact fun hw hn hk h=>Uo (Yi hw) hn hk h
 |draw rl pairs=>exact fun hw _ hk h=>h.imp (fun h=>⟨h.1,Oj (fun _ _ h=>⟨⟨h.1,hk.2⟩,h.2⟩) (Oi (Yi hw) hk.1 h.2)⟩) fun h=>h.imp (fun h hb=>let⟨x,f',H',h1,h2,h3,h4⟩:=h hb;⟨x,f',H',h1,h2,h3,⟨fun t ht=>(h3 t fun hm=>mX.1 ht (hw t hm)).trans (hk.1 t ht),hk.2⟩,h4⟩) fun h hb=>let⟨x,H',h1,h2⟩:=h hb;⟨x,H',h1,fun f' vR ht'=>⟨⟨fun t ht=>(ht' t fun hm=>mX.1 ht (hw t hm)).trans (hk.1 t ht),hk.2⟩,h2 f' vR ht'⟩⟩
 |seq a b oY qS=>
  intro f ds H Q hw hn hk h;simp only[bP.wr,Az] at hw;simp only[bP.oN,Aj] at hn;show FC P g n a f ds H _;refine iX (fun e f ds H h=>?_) (oY (fun d hd=>hw d (.inl hd)) (fun e=>(hn e).1) hk h)
  cases e with
  |normal=>exact qS (fun d hd=>hw d (.inr hd)) (fun e=>(hn e).2) h.1 h.2
  |_=>exact h
 |cond c a b oY qS=>
  intro f ds H Q hw hn hk h;simp only[bP.wr,Az] at hw;simp only[bP.oN,Aj] at hn;obtain⟨t,h1,h2⟩:=h;refine⟨t,h1,?_⟩
  cases t with
  |true=>exact oY (fun d hd=>hw d (.inl hd)) (fun e=>(hn e).1) hk h2
  |false=>exact qS (fun d hd=>hw d (.inr hd)) (fun e=>(hn e).2) hk h2
 |block id a ih=>
  intro f ds H Q hw hn hk h;show FC P g n a f ds H _;refine iX (fun e f ds H h=>?_) (ih hw hn hk h)
  cases e with
  |exit i=>
   obtain⟨h0,h⟩:=h;simp only[cW] at h ⊢;split
   . rename_i hi;rw[if_pos hi] at h;exact⟨h0,h⟩
   rename_i hi;rw[if_neg hi] at h;exact⟨h0,h⟩
  |_=>exact h
 |loop a ih=>
  intro f ds H Q hw hn hk h;obtain⟨I,m,h0,hI⟩:=h;refine⟨fun m f ds H=>Kp W f0 nd ds0 f ds/\I m f ds H,m,⟨hk,h0⟩,fun m f ds H hi=>iX (fun e f ds H h=>?_) (ih hw hn hi.1 (hI m f ds H hi.2))⟩
  cases e with
  |normal=>obtain⟨h1,k,hk,hi⟩:=h;exact⟨k,hk,h1,hi⟩
  |_=>exact h
 |exit id=>exact fun _ _ hk h=>⟨hk,h⟩
 |ret=>exact fun _ _ hk h=>⟨hk,h⟩
 |lK c ps a b oY qS=>
  intro f ds H Q hw hn hk h;obtain⟨fid,fs,cs,v,He,k',s',st,Hf,h1,h2,h3,h4,h5⟩:=h;have SD:∀oR,Kp W f0 nd ds0 f oR:=fun oR=>⟨hk.1,fun e=>by cases hn e⟩;refine⟨fid,fs,cs,v,He,k',s',st,Hf,h1,h2,h3,h4,?_⟩
  cases st with
  |ready=>exact⟨SD _,h5⟩
  |done e=>cases e<;>exact⟨SD _,h5⟩
  |busy=>exact h5.elim
  |over _=>exact h5.elim
theorem AP {c:bP} {f:cQ} {ds:List eX} {H:aA} {Q:FQ} (h:FC P g n c f ds H Q):FC P g n c f ds H (fun e f' eC H'=>iF c.wr f f'/\(c.oN=true->eC=ds)/\Q e f' eC H'):=
 iX (fun _ _ _ _ h=>⟨h.1.1,h.1.2,h.2⟩) (XD (nd:=c.oN) (ds0:=ds) (fun _ h=>h) id ⟨.WM,fun _=>rfl⟩ h)
theorem iF.trans {W:List Nat} {f f' Lz:cQ} (h:iF W f f') (h':iF W f' Lz):iF W f Lz:=fun t ht=>(h' t ht).trans (h t ht)
theorem iF.sub {W W':List Nat} {f f':cQ} (h:iF W' f f') (hs:∀d∈W',d∈W):iF W f f':=fun t ht=>h t (mX.2 fun hm=>mX.1 ht (hs t hm))
theorem jI {a:bP} {f:cQ} {ds:List eX} {H:aA} {Q:FQ} (cs:List Nat) (I:Nat->List AV->aA->Prop) (m:Nat) (hn:a.oN=true) (h0:I m (cs.map f) H)
 (h:∀m f' H',iF a.wr f f'->I m (cs.map f') H'->FC P g n a f' ds H' (gI (fun Lz _ GN=>∃k,k<m/\I k (cs.map Lz) GN) Q)):FC P g n (.loop a) f ds H Q:=by
 refine⟨fun m f' eC H'=>iF a.wr f f'/\eC=ds/\I m (cs.map f') H',m,⟨.WM,rfl,h0⟩,?_⟩;rintro m f' eC H' ⟨hk,rfl,hi⟩;refine iX (fun e f2 NS H2 hh=>?_) (AP (h m f' H' hk hi));obtain⟨h1,h2,h3⟩:=hh
 cases e with
 |normal=>obtain⟨k,kP,gp⟩:=h3;exact⟨k,kP,hk.trans h1,h2 hn,gp⟩
 |_=>exact h3
def aJi (n cmp ix ln nx:Nat) (cs:List Nat) (B:bP):Bool:=
 Nat.blt cmp n&&Nat.blt ix n&&Nat.blt nx n&& !Nat.beq cmp ix&& !Nat.beq cmp ln&& !Nat.beq nx ix&& !Nat.beq nx ln&& !Nat.beq ix ln&& !pR cmp cs&& !pR ix cs&& !pR nx cs&& !pR ix B.wr&& !pR ln B.wr&&B.oN
theorem CG {cs:List Nat} {f:cQ} {d:Nat} {v:AV} (h:pR d cs=false):cs.map (iA f d v)=cs.map f:=
 Er fun t ht=>lP f v fun e=>mX.1 h (e▸ht)
def OY (cmp ix nx:Nat) (B:bP):List Nat:=cmp::nx::ix::B.wr
theorem bV {id cmp ix ln nx:Nat} {B:bP} {f:cQ} {ds:List eX} {H:aA} {Q:FQ} (cs:List Nat) (J:Nat->List AV->aA->Prop) (N:Nat) (hN:(N:Int)<2^63)
 (hs:aJi n cmp ix ln nx cs B=true) (h1:f ix=.int .i64 0) (h2:f ln=.int .i64 N) (h0:J 0 (cs.map f) H)
 (body:∀(i:Nat) (f':cQ) (H':aA),i<N->iF (OY cmp ix nx B) f f'->f' ix=.int .i64 i->J i (cs.map f') H'->FC P g n B f' ds H' (gI (fun Lz _ GN=>J (i+1) (cs.map Lz) GN) (cW id Q)))
 (done:∀(f':cQ) (H':aA),iF (OY cmp ix nx B) f f'->J N (cs.map f') H'->Q .normal f' ds H'):
 FC P g n (.block id (.loop (.seq (.ops [⟨some cmp,.bin .lss (.tmp ix) (.tmp ln),none⟩]) (.seq (.cond (.tmp cmp) .skip (.exit id)) (.seq B
  (.ops [⟨some nx,.bin .add (.tmp ix) (.const (.int .i64 1)),none⟩,⟨some ix,.CI (.tmp nx),none⟩])))))) f ds H Q:=by
 simp only[aJi,Aj,Cr,Eb] at hs;obtain⟨⟨⟨⟨⟨⟨⟨⟨⟨⟨⟨⟨⟨s1,s2⟩,s3⟩,s4⟩,s5⟩,s6⟩,s7⟩,s8⟩,c1⟩,c2⟩,c3⟩,b1⟩,b2⟩,b3⟩:=hs;have ne:∀{a b:Nat},Nat.beq a b=false->a≠b:=fun h e=>by subst e;simp at h
 have kpU:∀{f':cQ} {d:Nat} {v:AV},d∈OY cmp ix nx B->iF (OY cmp ix nx B) f f'->iF (OY cmp ix nx B) f (iA f' d v):=fun {f' d v} hd hk t ht=>by have cF:t≠d:=fun e=>mX.1 ht (by rw[e];exact hd);rw[lP _ _ cF];exact hk t ht
 refine IJ (id:=id) (cmp:=cmp) (ix:=ix) (ln:=ln) (nx:=nx) (B:=B) (fun i f' H'=>iF (OY cmp ix nx B) f f'/\J i (cs.map f') H') N hN ⟨s1,s2,s3,ne s4,ne s5,ne s6,ne s7,ne s8⟩ h1 h2 ⟨.WM,h0⟩ ?_ ?_ ?_
 . rintro i f' H' d v hd ⟨hk,hj⟩
   have hm:pR d cs=false/\d∈OY cmp ix nx B:=(by rcases hd with rfl|rfl|rfl<;>simp[c1,c2,c3,OY]);exact⟨kpU hm.2 hk,by rw[CG hm.1];exact hj⟩
 . rintro i f' H' hi e1 e2 ⟨hk,hj⟩;refine iX (fun e f2 NS H2 hh=>?_) (AP (body i f' H' hi hk e1 hj));obtain⟨k1,k2,k3⟩:=hh
   cases e with
   |normal=>exact⟨k2 b3,by rw[k1 _ b1];exact e1,by rw[k1 _ b2];exact e2,hk.trans (k1.sub fun d hd=>by simp[OY,hd]),k3⟩
   |_=>exact k3
 rintro f' H' e2 ⟨hk,hj⟩;exact done f' H' hk hj
def aJh (n cmp ix nx:Nat) (cs:List Nat) (B:bP):Bool:=
 Nat.blt cmp n&&Nat.blt ix n&&Nat.blt nx n&& !Nat.beq cmp ix&& !Nat.beq nx ix&& !pR cmp cs&& !pR ix cs&& !pR nx cs&& !pR ix B.wr&&B.oN
theorem lE {id cmp ix nx:Nat} {N':Int} {B:bP} {f:cQ} {ds:List eX} {H:aA} {Q:FQ} (cs:List Nat) (J:Nat->List AV->aA->Prop) (N:Nat) (hN:(N:Int)<2^63) (hNN:N'=(N:Int))
 (hs:aJh n cmp ix nx cs B=true) (h1:f ix=.int .i64 0) (h0:J 0 (cs.map f) H)
 (body:∀(i:Nat) (f':cQ) (H':aA),i<N->iF (OY cmp ix nx B) f f'->f' ix=.int .i64 i->J i (cs.map f') H'->FC P g n B f' ds H' (gI (fun Lz _ GN=>J (i+1) (cs.map Lz) GN) (cW id Q)))
 (done:∀(f':cQ) (H':aA),iF (OY cmp ix nx B) f f'->J N (cs.map f') H'->Q .normal f' ds H'):
 FC P g n (.block id (.loop (.seq (.ops [⟨some cmp,.bin .lss (.tmp ix) (.const (.int .i64 N')),none⟩]) (.seq (.cond (.tmp cmp) .skip (.exit id)) (.seq B
  (.ops [⟨some nx,.bin .add (.tmp ix) (.const (.int .i64 1)),none⟩,⟨some ix,.CI (.tmp nx),none⟩])))))) f ds H Q:=by
 simp only[aJh,Aj,Cr,Eb] at hs;obtain⟨⟨⟨⟨⟨⟨⟨⟨⟨s1,s2⟩,s3⟩,s4⟩,s6⟩,c1⟩,c2⟩,c3⟩,b1⟩,b3⟩:=hs;have ne:∀{a b:Nat},Nat.beq a b=false->a≠b:=fun h e=>by subst e;simp at h
 have kpU:∀{f':cQ} {d:Nat} {v:AV},d∈OY cmp ix nx B->iF (OY cmp ix nx B) f f'->iF (OY cmp ix nx B) f (iA f' d v):=fun {f' d v} hd hk t ht=>by have cF:t≠d:=fun e=>mX.1 ht (by rw[e];exact hd);rw[lP _ _ cF];exact hk t ht
 refine Ui (id:=id) (cmp:=cmp) (ix:=ix) (nx:=nx) (B:=B) (fun i f' H'=>iF (OY cmp ix nx B) f f'/\J i (cs.map f') H') N hN hNN ⟨s1,s2,s3,ne s4,ne s6⟩ h1 ⟨.WM,h0⟩ ?_ ?_ ?_
 . rintro i f' H' d v hd ⟨hk,hj⟩
   have hm:pR d cs=false/\d∈OY cmp ix nx B:=(by rcases hd with rfl|rfl|rfl<;>simp[c1,c2,c3,OY]);exact⟨kpU hm.2 hk,by rw[CG hm.1];exact hj⟩
 . rintro i f' H' hi e1 ⟨hk,hj⟩;refine iX (fun e f2 NS H2 hh=>?_) (AP (body i f' H' hi hk e1 hj));obtain⟨k1,k2,k3⟩:=hh
   cases e with
   |normal=>exact⟨k2 b3,by rw[k1 _ b1];exact e1,hk.trans (k1.sub fun d hd=>by simp[OY,hd]),k3⟩
   |_=>exact k3
 rintro f' H' ⟨hk,hj⟩;exact done f' H' hk hj
theorem TD {nw tag:Nat} (h:Nat.blt tag 2=true):OI none nw tag=tag:=by
 rw[Eb] at h
 match tag,h with
 |0,_=>rfl
 |1,_=>rfl
theorem Mk {H:aA} {nw:Nat} {v:AV} (h:v.free=true):fG H none nw 0 v=some v:=by
 have key:hY H none nw v=some v:=by
  cases v<;>first
   |(simp only[AV.free] at h;cases h;done)
   |(simp only[AV.free,Aj] at h;simp only[hY,h.2,TD h.1];done)
   |(simp only[hY,h])
 cases v<;>exact key
theorem fV {mu:Bool} (hm:Fit P g) (hg:uW g) {k:FuncId} {F:wR} (hF:iM P g mu k F) {args:List AV} {v':AV} (hl:args.length<=F.ntmps) (ha:bN args=true)
 (h:FC P g F.ntmps F.body (dW args) [] ⟨0,.nil⟩ (GX F.results fun o H2=>∃v n,o=.ret v/\∀nw,fG H2 none nw n v=some v')) (H:aA):Sound P g k args H (.ret v') H:=by
 refine(AU hm hF (Wz hl h)).frame hg ha H fun out H2 hR=>?_;obtain⟨v,n,rfl,hs⟩:=hR;exact⟨none,n,v',fun k hk=>(by cases hk),hs _,rfl,rfl⟩
theorem WL {rs:List AO} {R R':Out->aA->Prop} (h:∀o H,R o H->R' o H) {e:Uf} {f:cQ} {ds:List eX} {H:aA} (hr:GX rs R e f ds H):GX rs R' e f ds H:=by
 cases e with
 |normal=>obtain⟨h1,vs,h2,h3⟩:=hr;exact⟨h1,vs,h2,h _ _ h3⟩
 |ret=>obtain⟨h1,vs,h2,h3⟩:=hr;exact⟨h1,vs,h2,h _ _ h3⟩
 |panic v=>obtain⟨h1,h3⟩:=hr;exact⟨h1,h _ _ h3⟩
 |exit _=>exact hr
theorem yP {mu:Bool} (hm:Fit P g) (hg:uW g) {k:FuncId} {F:wR} (hF:iM P g mu k F) {args:List AV} {v:AV} (hl:args.length<=F.ntmps) (ha:bN args=true) (hv:v.free=true)
 (h:FC P g F.ntmps F.body (dW args) [] ⟨0,.nil⟩ (GX F.results fun o _=>o=.ret v)) (H:aA):Sound P g k args H (.ret v) H:=
 fV hm hg hF hl ha (iX (fun _ _ _ _=>WL fun o H2 e=>⟨v,0,e,fun _=>Mk hv⟩) h) H
end
end
end Go.Av
namespace Go.DL
def W:Nat:=4294967296
theorem IW:0<W:=by decide
theorem kH (k:Nat):0<W^k:=Iw IW
def bG (n k:Nat):Nat:=n / W^k%W
theorem iJ (n k:Nat):bG n k<W:=Dp _ IW
theorem mod_succ (n k:Nat):n%W^(k+1)=n%W^k+W^k*bG n k:=Nat.mod_pow_succ
theorem EJ {n k:Nat} (h:n<W^k):bG n k=0:=by unfold bG;rw[Dh h];rfl
theorem MR {n m k:Nat} (h:n<W^m) (hk:m<=k):bG n k=0:=
 EJ (Aw h (Fa IW hk))
def cr (a b k:Nat):Nat:=(a%W^k+b%W^k) / W^k
theorem ek (a b:Nat):cr a b 0=0:=by simp[cr,Nat.mod_one]
theorem ei (a b k:Nat):cr a b (k+1)=(cr a b k+bG a k+bG b k) / W:=by
 unfold cr;rw[mod_succ,mod_succ,Dm,<-Gs];congr 1
 rw[show a%W^k+W^k*bG a k+(b%W^k+W^k*bG b k)=a%W^k+b%W^k+W^k*(bG a k+bG b k) by rw[Fb];omega,
  Fx _ _ (kH k)]
 omega
theorem nt (a b k:Nat):cr a b k<=1:=by unfold cr;have h1:=Dp a (kH k);have h2:=Dp b (kH k);have :(a%W^k+b%W^k) / W^k<2:=(Dz (kH k)).2 (by omega);omega
theorem Rk (a b k:Nat):(a+b) / W^k=a / W^k+b / W^k+cr a b k:=by
 unfold cr;have h1:=Em a (W^k);have h2:=Em b (W^k);have :a+b=a%W^k+b%W^k+W^k*(a / W^k+b / W^k):=by rw[Fb];omega
 rw[this,Fx _ _ (kH k)];omega
theorem Yd (a b k:Nat):bG (a+b) k=(cr a b k+bG a k+bG b k)%W:=by unfold bG;rw[Rk];simp only[W];omega
theorem zy {a b k:Nat} (ha:a<W^k) (hb:b<W^k):cr a b k=if a+b<W^k then 0 else 1:=by
 have h:=nt a b k;unfold cr at *;rw[Bz ha,Bz hb] at *;split
 . rename_i hl;exact Dh hl
 rename_i hl;have :=Nat.div_pos (show W^k<=a+b by omega) (kH k);omega
def bw (a b k:Nat):Nat:=if a%W^k<b%W^k then 1 else 0
theorem dp (a b:Nat):bw a b 0=0:=by simp[bw,Nat.mod_one]
theorem dm (a b k:Nat):bw a b (k+1)=if bG a k<bG b k+bw a b k then 1 else 0:=by
 unfold bw;rw[mod_succ,mod_succ];have h1:=Dp a (kH k);have h2:=Dp b (kH k);generalize a%W^k=r at *;generalize b%W^k=s at *;generalize bG a k=x;generalize bG b k=y;generalize W^k=P at *
 rcases Ic x y with h|h|h
 . have :P*(x+1)<=P*y:=Eo P h;rw[Fb,Dk] at this;rw[if_pos (by omega),if_pos (by omega)]
 . subst h;split<;>split<;>(try split at *)<;>omega
 have :P*(y+1)<=P*x:=Eo P h;rw[Fb,Dk] at this;rw[if_neg (by omega),if_neg (by split<;>omega)]
theorem Ye {a b:Nat} (h:b<=a) (k:Nat):(bG (a -b) k:Int)=((bG a k:Int) -bG b k -bw a b k)%(W:Int):=by
 have h1:=Em a (W^k);have h2:=Em b (W^k);have l1:=Dp a (kH k);have l2:=Dp b (kH k)
 have e:((a -b) / W^k:Nat)=a / W^k -b / W^k -bw a b k/\b / W^k+bw a b k<=a / W^k:=by
  unfold bw;generalize a%W^k=r at *;generalize b%W^k=s at *;generalize a / W^k=x at *;generalize b / W^k=y at *;generalize hP:W^k=P at *;have hPp:0<P:=hP▸kH k
  have hxy:y<=x:=by
   rcases Dt x y with hc|hc
   . have :P*(x+1)<=P*y:=Eo P hc;rw[Fb,Dk] at this;omega
   exact hc
  split
  . rename_i qk;have cF:y≠x:=fun e=>by subst e;omega
    have hm:P*(x -y -1)=P*x -P*y -P:=(by rw[Nat.mul_sub,Nat.mul_sub,Dk]);have hm2:P*(y+1)<=P*x:=Eo P (by omega);rw[Fb,Dk] at hm2;refine⟨?_,by omega⟩;have :a -b=(r+P -s)+P*(x -y -1):=(by omega);rw[this,Fx _ _ hPp,Dh (by omega)];omega
  have hm:P*(x -y)=P*x -P*y:=Nat.mul_sub ..;have hm2:P*y<=P*x:=Eo P hxy;refine⟨?_,by omega⟩;have :a -b=(r -s)+P*(x -y):=by omega
  rw[this,Fx _ _ hPp,Dh (by omega)];omega
 unfold bG;rw[e.1];have :=e.2;simp only[W] at *;omega
theorem BA (a k:Nat):a / W^k=a / W^(k+1)*W+bG a k:=by unfold bG;rw[Dm,<-Gs];have :=Em (a / W^k) W;rw[Cn] at this;omega
theorem Lx {a b k:Nat} (h:a / W^(k+1)=b / W^(k+1)) (hk:bG a k=bG b k):a / W^k=b / W^k:=by rw[BA a,BA b,h,hk]
theorem KF {a b k:Nat} (h:a / W^(k+1)=b / W^(k+1)) (hk:bG a k<bG b k):a<b:=by
 have h1:a / W^k<b / W^k:=by rw[BA a,BA b,h];omega
 rcases Dt a b with h2|h2
 . exact h2
 have :=Nat.div_le_div_right (c:=W^k) h2;omega
theorem PR {a b m:Nat} (ha:a<W^m) (hb:b<W^m) (h:∀k,k<m->bG a k=bG b k):a=b:=by
 have :∀j,j<=m->a / W^(m -j)=b / W^(m -j):=by
  intro j
  induction j with
  |zero=>intro _;rw[Gq,Dh ha,Dh hb]
  |succ j ih=>intro hj;refine Lx (k:=m -(j+1)) ?_ (h _ (by omega));rw[show m -(j+1)+1=m -j by omega];exact ih (by omega)
 have :=this m (Ai _);simpa using this
def zZ:List Nat->Nat
 |[]=>0
 |x::l=>x+W*zZ l
theorem Nq:∀(l:List Nat),(∀x∈l,x<W)->zZ l<W^l.length
 |[],_=>by decide
 |x::l,h=>by have h1:=Nq l fun y hy=>h y (by simp[hy]);have h2:=h x (by simp);simp only[zZ,Ak,Dm];have :W*(zZ l+1)<=W*W^l.length:=Eo W h1;rw[Fb,Dk] at this;rw[Cn (W^l.length)];omega
theorem CB:∀(l:List Nat) (k:Nat),(∀x∈l,x<W)->bG (zZ l) k=l.getD k 0
 |[],k,_=>by simp[zZ,bG]
 |x::l,0,h=>by have :=h x (by simp);simp only[zZ,bG,Nat.pow_zero,Nat.div_one,Di];rw[Nat.add_mul_mod_self_left,Bz this]
 |x::l,k+1,h=>by have h1:=h x (by simp);have h2:=CB l k fun y hy=>h y (by simp[hy]);rw[Es,<-h2];simp only[zZ,bG];rw[Dm,Cn (W^k),<-Gs,Fx _ _ IW,Dh h1,Cc]
def aZ (m n:Nat):List Nat:=(List.range m).map (bG n)
theorem fC (m n:Nat):(aZ m n).length=m:=by simp[aZ]
theorem tW {m n k:Nat} (h:k<m):(aZ m n).getD k 0=bG n k:=by simp[aZ,List.getD,h]
theorem KA {m n:Nat}:∀x∈aZ m n,x<W:=by intro x hx;simp only[aZ,Bq] at hx;obtain⟨k,_,rfl⟩:=hx;exact iJ _ _
theorem pV {m n:Nat} (h:n<W^m):zZ (aZ m n)=n:=by
 refine PR (m:=m) ?_ h fun k hk=>?_
 . have :=Nq (aZ m n) KA
   rwa [fC] at this
 rw[CB _ _ KA,tW hk]
theorem MS {l:List Nat} (h:∀x∈l,x<W):aZ l.length (zZ l)=l:=by refine Fk (by simp[aZ]) fun k h1 h2=>?_;simp only[aZ,Ha,Gl];rw[CB _ _ h];simp[List.getD,h2]
def UW:Nat->Nat->Nat
 |0,_=>0
 |k+1,a=>if bG a k=0 then UW k a else k+1
def sz (a:Nat):Nat:=UW 16 a
theorem TB:∀k a,UW k a<=k
 |0,_=>Ai _
 |k+1,a=>by
  unfold UW;split
  . exact Nat.le_succ_of_le (TB k a)
  exact Ai _
theorem TC:∀k a,a<W^k->a<W^UW k a
 |0,_,h=>h
 |k+1,a,h=>by
  unfold UW;split
  . rename_i hl;refine TC k a ?_;unfold bG at hl;have h1:a / W^k<W:=by rw[Dz (kH k),Cn,<-Dm];exact h
    rw[Bz h1] at hl
    rcases Dt a (W^k) with h2|h2
    . exact h2
    have :=Nat.div_pos h2 (kH k);omega
  exact h
theorem IA:∀k a,UW k a=0\/bG a (UW k a -1)≠0
 |0,_=>.inl rfl
 |k+1,a=>by
  unfold UW;split
  . exact IA k a
  exact .inr (by simpa)
theorem UX {a:Nat} (h:a<W^16):a<W^sz a:=TC 16 a h
theorem Zg (a:Nat):sz a<=16:=TB 16 a
theorem ma {a:Nat} (h:a<W^16):sz a=0↔a=0:=by
 constructor
 . intro e;have :=UX h;rw[e] at this;simpa using this
 rintro rfl;decide
theorem jq {a k:Nat} (h:bG a k≠0):W^k<=a:=by
 rcases Dt a (W^k) with h1|h1
 . exact absurd (EJ h1) h
 exact h1
theorem aJm {a:Nat} (h:sz a≠0):W^(sz a -1)<=a:=by
 rcases IA 16 a with h1|h1
 . exact absurd h1 h
 exact jq h1
def eD (a:Nat):Nat:=if a=0 then 0 else Nat.log2 a+1
theorem lT {a n:Nat}:eD a<=n↔a<2^n:=by
 unfold eD;split
 . rename_i h;subst h;simp[Iw]
 rename_i h;rw[<-Nat.log2_lt h];omega
theorem VC {a n:Nat} (h1:a<2^(n+1)) (h2:2^n<=a):eD a=n+1:=by
 have a1:eD a<=n+1:=lT.2 h1;have a2:¬eD a<=n:=fun h=>by have :=lT.1 h;omega
 omega
theorem pK {a k:Nat} (h:a / 2^k≠0):eD a=eD (a / 2^k)+k:=by
 obtain⟨n,hn⟩:∃n,eD (a / 2^k)=n+1:=⟨Nat.log2 (a / 2^k),by unfold eD;rw[if_neg h]⟩;have h1:a / 2^k<2^(n+1):=lT.1 (by omega);have h2:¬a / 2^k<2^n:=fun h=>by have :=lT.2 h;omega
 rw[hn,show n+1+k=(n+k)+1 by omega];refine VC ?_ ?_
 . rw[Dz (Iw (by decide))] at h1
   rwa [show n+k+1=n+1+k by omega,Ib]
 rw[Dz (Iw (by decide))] at h2;rw[Ib];omega
theorem VD {a:Nat} (h:a<W^16) (h0:sz a≠0):eD a=32*(sz a -1)+eD (bG a (sz a -1)):=by
 have e:W^(sz a -1)=2^(32*(sz a -1)):=by rw[Nat.pow_mul];rfl
 have h1:=aJm h0;have h2:=UX h
 have h3:a / W^(sz a -1)<W:=by
  rw[Dz (kH _),Cn,<-Dm]
  rwa [show(sz a -1).succ=sz a by omega]
 have h4:bG a (sz a -1)=a / 2^(32*(sz a -1)):=by unfold bG;rw[Bz h3,e]
 have h5:=Nat.div_pos h1 (kH (sz a -1));rw[h4,pK (k:=32*(sz a -1)) (by rw[<-e];omega)];omega
theorem Nr:∀(l:List Nat) (j d:Nat),j<l.length->zZ (l.set j d)+l.getD j 0*W^j=zZ l+d*W^j
 |[],_,_,h=>by simp at h
 |x::l,0,d,_=>by simp[zZ];omega
 |x::l,j+1,d,h=>by
  have ih:=Nr l j d (by simpa using h);simp only[List.set_cons_succ,zZ,Es,Dm];have e:∀t,t*(W^j*W)=W*(t*W^j):=fun t=>by rw[Cn (W^j),<-Fp,Cn t,Fp]
  rw[e,e,Bd,Bd,<-Fb,<-Fb,ih]
theorem YA {l:List Nat} {j d k:Nat} (h:j<l.length):(l.set j d).getD k 0=if k=j then d else l.getD k 0:=by
 simp only[List.getD,Eh];by_cases e:j=k
 . subst e;simp[h]
 rw[if_neg e,if_neg (Ne.symm e)]
def LW (n:Nat) (l:List Nat):Prop:=l.length=n/\∀d∈l,d<W
theorem LW.set {n:Nat} {l:List Nat} (h:LW n l) (j:Nat) {d:Nat} (hd:d<W):LW n (l.set j d):=⟨by rw[Ho];exact h.1,fun x hx=>by
 rcases List.mem_or_eq_of_mem_set hx with h1|h1
 . exact h.2 x h1
 omega⟩
theorem LW.getD {n:Nat} {l:List Nat} (h:LW n l) (j:Nat):l.getD j 0<W:=by
 by_cases hj:j<l.length
 . rw[List.getD,Ac hj];exact h.2 _ (Ap hj)
 rw[List.getD,Bp (by omega)];decide
theorem LW.lt {n:Nat} {l:List Nat} (h:LW n l):zZ l<W^n:=by
 have :=Nq l h.2
 rwa [h.1] at this
theorem LW.eq {n:Nat} {l:List Nat} (h:LW n l):l=aZ n (zZ l):=by have :=MS h.2;rw[h.1] at this;exact this.symm
theorem LW.bG {n:Nat} {l:List Nat} (h:LW n l) (k:Nat):bG (zZ l) k=l.getD k 0:=CB l k h.2
theorem Yk {o:List Nat} {i k c D P b:Nat} (ho:LW 32 o) (hik:i+k<32) (he:zZ o+c*W^(i+k)=P+D*W^i*(b%W^k)):
 let t:=c+D*bG b k+o.getD (i+k) 0
 zZ (o.set (i+k) (t%W))+t / W*W^(i+(k+1))=P+D*W^i*(b%W^(k+1)):=by
 intro t;have h1:=Nr o (i+k) (t%W) (by rw[ho.1];exact hik)
 have h2:t / W*W^(i+(k+1))+t%W*W^(i+k)=t*W^(i+k):=by rw[show i+(k+1)=(i+k)+1 by omega,Dm,Cn (W^(i+k)),<-Fp,<-Ce,Cn (t / W)];rw[Em]
 have h3:b%W^(k+1)=b%W^k+W^k*bG b k:=mod_succ b k
 have h4:D*W^i*(W^k*bG b k)=D*bG b k*W^(i+k):=by rw[Ib];simp only[Cn,Nat.mul_left_comm,Fp]
 have h5:t*W^(i+k)=c*W^(i+k)+D*bG b k*W^(i+k)+o.getD (i+k) 0*W^(i+k):=by show(c+D*bG b k+o.getD (i+k) 0)*_=_;rw[Ce,Ce]
 rw[h3,Fb,h4];omega
theorem ju {o:List Nat} {i m c D a b:Nat} (ho:LW 32 o) (him:i+m<32) (hb:b<W^m) (hD:D=bG a i) (he:zZ o+c*W^(i+m)=a%W^i*b+D*W^i*(b%W^m)) (hz:o.getD (i+m) 0=0):
 zZ (o.set (i+m) c)=a%W^(i+1)*b:=by
 have h1:=Nr o (i+m) c (by rw[ho.1];exact him);rw[hz,Hr,Cp] at h1;rw[h1,he,Bz hb,mod_succ,hD,Ce,Cn (bG a i)]
theorem SQ {m n X:Nat} (h:X<W^n) (hz:∀k,m<=k->k<n->bG X k=0):X<W^m:=by
 have h1:=TC n X h;have h2:=TB n X
 rcases Dt m (UW n X) with h3|h3
 . rcases IA n X with h4|h4
   . omega
   exact absurd (hz _ (by omega) (by omega)) h4
 exact Aw h1 (Fa IW h3)
theorem SO {m n X:Nat} (h:m<=n):(aZ n X).take m=aZ m X:=by unfold aZ;rw[<-Jf,List.take_range,Nat.min_eq_left h]
theorem SN {X:Nat} (h:X<W^32):X<W^16↔(aZ 32 X).drop 16=List.replicate 16 0:=by
 constructor
 . intro hx;refine Fk (by simp[aZ]) fun k h1 h2=>?_;simp only[List.getElem_drop,aZ,Ha,Gl,List.getElem_replicate];exact MR hx (by omega)
 intro e;refine SQ h fun k gw kP=>?_;have :((aZ 32 X).drop 16).getD (k -16) 0=0:=by rw[e,List.getD,Ei];split<;>rfl
 rw[List.getD,Ed,show 16+(k -16)=k by omega] at this;have h2:=tW (n:=X) kP;rw[List.getD] at h2;omega
end Go.DL
namespace Go.aY
structure V where
 x:Int
 y:Int
 z:Int
deriving DecidableEq,Inhabited
def dot (a b:V):Int:=a.x*b.x+a.y*b.y+a.z*b.z
def aV (a b:V):V:=⟨a.y*b.z -a.z*b.y,a.z*b.x -a.x*b.z,a.x*b.y -a.y*b.x⟩
def sub (a b:V):V:=⟨a.x-b.x,a.y-b.y,a.z-b.z⟩
def add (a b:V):V:=⟨a.x+b.x,a.y+b.y,a.z+b.z⟩
def smul (c:Int) (a:V):V:=⟨c*a.x,c*a.y,c*a.z⟩
def V0:V:=⟨0,0,0⟩
def dE (n a b:V):Int:=dot n (aV a b)
theorem V.ext' {a b:V} (h1:a.x=b.x) (h2:a.y=b.y) (h3:a.z=b.z):a=b:=by cases a;cases b;simp_all
theorem sq_pos {a:Int} (h:a≠0):0<a*a:=by
 rcases Int.lt_or_gt_of_ne h with h|h
 . exact Int.mul_pos_of_neg_of_neg h h
 exact Hl h h
theorem sq_nonneg (a:Int):0<=a*a:=by
 by_cases h:a=0
 . simp[h]
 exact Int.le_of_lt (sq_pos h)
theorem uF (a:V):0<=dot a a:=by have :=sq_nonneg a.x;have :=sq_nonneg a.y;have :=sq_nonneg a.z;simp only[dot];omega
theorem cH {a:V} (h:a≠V0):0<dot a a:=by
 have h1:=sq_nonneg a.x;have h2:=sq_nonneg a.y;have h3:=sq_nonneg a.z
 rcases Ip (a.x=0) with hx|hx
 . rcases Ip (a.y=0) with hy|hy
   . rcases Ip (a.z=0) with hz|hz
     . exact absurd (V.ext' hx hy hz) h
     have :=sq_pos hz;simp only[dot];omega
   have :=sq_pos hy;simp only[dot];omega
 have :=sq_pos hx;simp only[dot];omega
theorem LP {a:V} (h:dot a a<=0):a=V0:=
 Hz fun hc=>absurd (cH hc) (by omega)
theorem sub_eq_zero {a b:V} (h:sub a b=V0):a=b:=by have h1:a.x -b.x=0:=Bt V.x h;have h2:a.y -b.y=0:=Bt V.y h;have h3:a.z -b.z=0:=Bt V.z h;exact V.ext' (by omega) (by omega) (by omega)
theorem aCo {a b:V} (h:a≠b):sub a b≠V0:=fun e=>h (sub_eq_zero e)
theorem oD {c a:Int} (hc:0<c) (h:0<=c*a):0<=a:=by
 rcases Fe a 0 with h'|h'|h'
 . have :=Int.mul_neg_of_pos_of_neg hc h';omega
 . omega
 omega
theorem dR {c a:Int} (hc:0<c) (h:c*a=0):a=0:=by rcases Int.mul_eq_zero.1 h with h|h<;>omega
theorem JJ (n u v w t:V):dE u v w*dot n t=dE n v w*dot u t+dE n w u*dot v t+dE n u v*dot w t:=by
 simp only[dE,dot,aV]
 grind
theorem Xg {n u v w:V} (hn:n≠V0) (hu:dot n u=0) (hv:dot n v=0) (hw:dot n w=0):dE u v w=0:=by
 have h:=JJ n u v w n;have e:∀a:V,dot a n=dot n a:=fun a=>by simp only[dot];grind
 rw[e u,e v,e w,hu,hv,hw] at h;have :=cH hn;simp only[Gd,Int.add_zero] at h
 rcases Int.mul_eq_zero.1 h with h|h
 . exact h
 omega
theorem three {n u v w:V} (hn:n≠V0) (hu:dot n u=0) (hv:dot n v=0) (hw:dot n w=0):add (add (smul (dE n v w) u) (smul (dE n w u) v)) (smul (dE n u v) w)=V0:=by
 have h:=Xg hn hu hv hw;have hx:dE u v w*n.x=dE n v w*u.x+dE n w u*v.x+dE n u v*w.x:=by simp only[dE,dot,aV];grind
 have hy:dE u v w*n.y=dE n v w*u.y+dE n w u*v.y+dE n u v*w.y:=by simp only[dE,dot,aV];grind
 have hz:dE u v w*n.z=dE n v w*u.z+dE n w u*v.z+dE n u v*w.z:=by simp only[dE,dot,aV];grind
 rw[h,Int.zero_mul] at hx hy hz;exact V.ext' (by simp only[add,smul,V0];omega) (by simp only[add,smul,V0];omega) (by simp only[add,smul,V0];omega)
theorem para {n u v:V} (hn:n≠V0) (hu:dot n u=0) (hv:dot n v=0) (h:dE n u v=0):smul (dot u u) v=smul (dot u v) u:=by
 have hp:=cH hn;have e1:dot n n*(aV u v).x=dE n u v*n.x+dot n v*(n.z*u.y -n.y*u.z) -dot n u*(n.z*v.y -n.y*v.z):=by simp only[dE,dot,aV];grind
 have e2:dot n n*(aV u v).y=dE n u v*n.y+dot n v*(n.x*u.z -n.z*u.x) -dot n u*(n.x*v.z -n.z*v.x):=by simp only[dE,dot,aV];grind
 have e3:dot n n*(aV u v).z=dE n u v*n.z+dot n v*(n.y*u.x -n.x*u.y) -dot n u*(n.y*v.x -n.x*v.y):=by simp only[dE,dot,aV];grind
 rw[hu,hv,h] at e1 e2 e3;have c1:=dR hp (by rw[e1];simp);have c2:=dR hp (by rw[e2];simp);have c3:=dR hp (by rw[e3];simp);simp only[aV] at c1 c2 c3;refine V.ext' ?_ ?_ ?_<;>simp only[smul,dot]<;>grind
structure Mx (P:V->Prop):Prop where
 add:∀u v,P u->P v->P (add u v)
 smul:∀c u,0<c->P u->P (smul c u)
 zero:¬P V0
theorem smul_zero (u:V):smul 0 u=V0:=by simp[smul,V0]
theorem add_zero (u:V):add u V0=u:=by simp[add,V0]
theorem zero_add (u:V):add V0 u=u:=by simp[add,V0]
theorem Mx.comb {P:V->Prop} (h:Mx P) {u v w:V} {a b c:Int} (hu:P u) (hv:P v) (hw:P w) (ha:0<=a) (hb:0<=b) (hc:0<=c) (hz:aY.add (aY.add (aY.smul a u) (aY.smul b v)) (aY.smul c w)=V0):a=0/\b=0/\c=0:=by
 have two:∀{u v:V} {a b:Int},P u->P v->0<=a->0<=b->(a=0/\b=0)\/P (aY.add (aY.smul a u) (aY.smul b v)):=by
  intro u v a b hu hv ha hb;by_cases h1:a=0
  . by_cases h2:b=0
    . exact .inl ⟨h1,h2⟩
    right;subst h1;rw[smul_zero,zero_add];exact h.smul _ _ (by omega) hv
  by_cases h2:b=0
  . right;subst h2;rw[smul_zero,add_zero];exact h.smul _ _ (by omega) hu
  right;exact h.add _ _ (h.smul _ _ (by omega) hu) (h.smul _ _ (by omega) hv)
 rcases two hu hv ha hb with ⟨h1,h2⟩|h1
 . refine⟨h1,h2,?_⟩;by_cases h3:c=0
   . exact h3
   exfalso;subst h1 h2;rw[smul_zero,smul_zero,add_zero,zero_add] at hz;exact h.zero (hz▸h.smul _ _ (by omega) hw)
 exfalso;by_cases h3:c=0
 . subst h3;rw[smul_zero,add_zero] at hz;exact h.zero (hz▸h1)
 exact h.zero (hz▸h.add _ _ h1 (h.smul _ _ (by omega) hw))
theorem JF (f g h:V->Int) (hf:∀u v,f (add u v)=f u+f v) (hg:∀u v,g (add u v)=g u+g v) (hh:∀u v,h (add u v)=h u+h v)
 (pd:∀c u,f (smul c u)=c*f u) (hg':∀c u,g (smul c u)=c*g u) (hh':∀c u,h (smul c u)=c*h u):
 Mx fun v=>0<f v\/(f v=0/\(0<g v\/(g v=0/\0<h v))) where
 add u v hu hv:=by simp only[hf,hg,hh];omega
 smul c u hc hu:=by
  simp only[pd,hg',hh']
  rcases hu with hu|⟨h1,hu|⟨h2,hu⟩⟩
  . exact .inl (Hl hc hu)
  . exact .inr ⟨by rw[h1];simp,.inl (Hl hc hu)⟩
  exact .inr ⟨by rw[h1];simp,.inr ⟨by rw[h2];simp,Hl hc hu⟩⟩
 zero:=by
  have z:∀(f:V->Int),(∀c u,f (smul c u)=c*f u)->f V0=0:=fun f hf=>by have :=hf 0 V0;rw[smul_zero] at this;omega
  rw[z f pd,z g hg',z h hh'];omega
section
def vec (p:Nat->V) (a b:Nat):V:=sub (p b) (p a)
def Sd (n:V) (p:Nat->V) (on:List Nat) (a b:Nat):Prop:=
 b∈on/\b≠a/\∀k∈on,0<=dE n (vec p a b) (vec p a k)/\
  (dE n (vec p a b) (vec p a k)=0->0<=dot (vec p a k) (vec p a b)/\dot (vec p a k) (vec p a b)<=dot (vec p a b) (vec p a b))
def nm (p:Nat->V) (on:List Nat) (a:Nat):Prop:=∃P,Mx P/\∀k∈on,k≠a->P (vec p a k)
structure Pl (n:V) (p:Nat->V) (on:List Nat):Prop where
 hn:n≠V0
 inj:∀a∈on,∀b∈on,p a=p b->a=b
 pl:∀a∈on,∀b∈on,dot n (vec p a b)=0
theorem Pl.ne {n:V} {p:Nat->V} {on:List Nat} (h:Pl n p on) {a b:Nat} (ha:a∈on) (hb:b∈on) (Qx:b≠a):vec p a b≠V0:=
 aCo fun e=>Qx (h.inj b hb a ha e)
theorem AZ (n u:V):dE n u u=0:=by simp only[dE,dot,aV];grind
theorem vK (n u v:V):dE n v u= -dE n u v:=by simp only[dE,dot,aV];grind
theorem mP (u v:V):dot u v=dot v u:=by simp only[dot];grind
theorem Ta (n u v w:V):dE n u (add v w)=dE n u v+dE n u w:=by simp only[dE,dot,aV,add];grind
theorem PJ (n u v:V) (c:Int):dE n u (smul c v)=c*dE n u v:=by simp only[dE,dot,aV,smul];grind
theorem Tb (u v w:V):dot u (add v w)=dot u v+dot u w:=by simp only[dot,add];grind
theorem PL (u v:V) (c:Int):dot u (smul c v)=c*dot u v:=by simp only[dot,smul];grind
theorem VH (n e:V):Mx fun v=>0<dE n e v\/(dE n e v=0/\0<dot e v):=by have h:=JF (dE n e) (dot e) (fun _=>0) (Ta n e) (Tb e) (fun _ _=>rfl) (fun c u=>PJ n e u c) (fun c u=>PL e u c) (fun c _=>by simp);simpa using h
theorem Rb (n e:V):Mx fun v=>0<dE n e v\/(dE n e v=0/\dot e v<0):=by have h:=JF (dE n e) (fun v=> -dot e v) (fun _=>0) (Ta n e) (fun u v=>by rw[Tb];omega) (fun _ _=>rfl) (fun c u=>PJ n e u c) (fun c u=>by rw[PL,Int.mul_neg]) (fun c _=>by simp);simpa using h
theorem XZ:Mx fun v=>0<v.x\/(v.x=0/\(0<v.y\/(v.y=0/\0<v.z))):=
 JF V.x V.y V.z (fun _ _=>rfl) (fun _ _=>rfl) (fun _ _=>rfl) (fun _ _=>rfl) (fun _ _=>rfl) (fun _ _=>rfl)
theorem sZ {c:Int} (hc:c≠0) {u v:V} (h:smul c u=smul c v):u=v:=by have h1:c*u.x=c*v.x:=Bt V.x h;have h2:c*u.y=c*v.y:=Bt V.y h;have h3:c*u.z=c*v.z:=Bt V.z h;exact V.ext' (Hy hc h1) (Hy hc h2) (Hy hc h3)
variable {n:V} {p:Nat->V} {on:List Nat}
theorem JG (H:Pl n p on) {P:V->Prop} (hP:Mx P) {u v w:V} (hu:dot n u=0) (hv:dot n v=0) (hw:dot n w=0) (pu:P u) (pv:P v) (pw:P w)
 (h1:0<=dE n u v) (h2:0<=dE n v w):0<=dE n u w/\(0<dE n u v\/0<dE n v w->0<dE n u w):=by
 have h:=three H.hn hu hv hw;have a:=vK n u w;by_cases h3:0<dE n u w
 . exact⟨by omega,fun _=>h3⟩
 obtain⟨c1,c2,c3⟩:=hP.comb pu pv pw h2 (by omega) h1 h;exact⟨by omega,fun _=>by omega⟩
theorem Lr (H:Pl n p on) {P:V->Prop} (hP:Mx P) {u v:V} (hu:dot n u=0) (hv:dot n v=0) (pu:P u) (pv:P v) (h:dE n u v=0):0<dot u v:=by
 have h1:=para H.hn hu hv h;have hu0:u≠V0:=fun e=>hP.zero (e▸pu);have :=cH hu0;have e1:=Bt V.x h1;have e2:=Bt V.y h1;have e3:=Bt V.z h1;simp only[smul] at e1 e2 e3;by_cases h2:0<dot u v
 . exact h2
 exfalso;have z:=hP.comb (a:=dot u u) (b:= -dot u v) (c:=0) pv pu pu (by omega) (by omega) (by omega) (V.ext' (by simp only[add,smul,V0,Hj];omega) (by simp only[add,smul,V0,Hj];omega) (by simp only[add,smul,V0,Hj];omega));omega
theorem BY (n u v:V) (hu:dot n u=0) (hv:dot n v=0):dot n n*(dot u u*dot v v -dot u v*dot u v)=dE n u v*dE n u v:=by
 simp only[dE,dot,aV] at *
 grind
theorem aAd {n u v:V} (hn:n≠V0) (hu:dot n u=0) (hv:dot n v=0) (h:dE n u v=0) (hl:dot v v<=dot u u):dot u v<=dot u u:=by
 have h1:=BY n u v hu hv;rw[h] at h1;have h2:=dR (cH hn) (by rw[h1];simp);have h3:=uF u;by_cases h4:dot u v<=dot u u
 . exact h4
 exfalso;have h5:dot u u*dot u v<dot u v*dot u v:=Fu (by omega) (by omega);have h6:dot u u*dot v v<=dot u u*dot u v:=Dl (by omega) h3;omega
theorem Sd.crn (H:Pl n p on) {a b:Nat} (ha:a∈on) (h:Sd n p on a b):nm p on a:=by
 refine⟨_,VH n (vec p a b),fun k hk LD=>?_⟩;obtain⟨h1,h2⟩:=h.2.2 k hk
 rcases Fo h1 with h1|h1
 . exact .inl h1
 refine .inr ⟨h1.symm,?_⟩;obtain⟨h3,h4⟩:=h2 h1.symm;rw[mP] at h3
 rcases Fo h3 with h3|h3
 . exact h3
 exfalso;have e:=para H.hn (H.pl a ha b h.1) (H.pl a ha k hk) h1.symm;rw[<-h3,smul_zero] at e;have cF:=cH (H.ne ha h.1 h.2.1);exact H.ne ha hk LD (sZ (c:=dot (vec p a b) (vec p a b)) (by omega) (by rw[e];simp[smul,V0]))
theorem OM (p:Nat->V) (a b k:Nat):vec p b k=sub (vec p a k) (vec p a b):=by simp only[vec,sub];refine V.ext' ?_ ?_ ?_<;>simp only <;>omega
theorem Xf (n u v w:V):dE n u (sub v w)=dE n u v -dE n u w:=by simp only[dE,dot,aV,sub];grind
theorem Xi (u v w:V):dot u (sub v w)=dot u v -dot u w:=by simp only[dot,sub];grind
theorem Sd.next (H:Pl n p on) {a b:Nat} (ha:a∈on) (h:Sd n p on a b):nm p on b:=by
 refine⟨_,Rb n (vec p a b),fun k hk hkb=>?_⟩;obtain⟨h1,h2⟩:=h.2.2 k hk;rw[OM p a b k,Xf,Xi,AZ,mP _ (vec p a k)]
 rcases Fo h1 with h1|h1
 . exact .inl (by omega)
 refine .inr ⟨by omega,?_⟩;obtain⟨h3,h4⟩:=h2 h1.symm
 rcases Fo h4 with h4|h4
 . omega
 exfalso;have e:=para H.hn (H.pl a ha b h.1) (H.pl a ha k hk) h1.symm;rw[mP _ (vec p a k),h4] at e;have cF:=cH (H.ne ha h.1 h.2.1);have :=sZ (by omega) e;refine hkb (H.inj k hk b h.1 ?_);simp only[vec,sub,V.mk.injEq] at this;exact V.ext' (by omega) (by omega) (by omega)
theorem Sd.uniq (H:Pl n p on) {a b c:Nat} (ha:a∈on) (h:Sd n p on a b) (h':Sd n p on a c):b=c:=by
 obtain⟨h1,h2⟩:=h.2.2 c h'.1;obtain⟨h3,h4⟩:=h'.2.2 b h.1;rw[vK] at h3;have hz:dE n (vec p a b) (vec p a c)=0:=by omega
 obtain⟨k1,k2⟩:=h2 hz;obtain⟨k3,k4⟩:=h4 (by rw[vK];omega);have e:=para H.hn (H.pl a ha b h.1) (H.pl a ha c h'.1) hz;have hl:=BY n (vec p a b) (vec p a c) (H.pl a ha b h.1) (H.pl a ha c h'.1);rw[hz] at hl;have hl:=dR (cH H.hn) (by rw[hl];simp);have cF:=cH (H.ne ha h.1 h.2.1);have hnc:=cH (H.ne ha h'.1 h'.2.1);rw[mP] at k1 k2;generalize hm:dot (vec p a b) (vec p a c)=m at *;generalize hB:dot (vec p a b) (vec p a b)=B at *;generalize hC:dot (vec p a c) (vec p a c)=C at *
 have e1:m=B:=by
  have q1:B*m<=B*C:=Dl (by omega) (by omega);by_cases hmB:m=B
  . exact hmB
  exfalso;by_cases Vl:m=0
  . subst Vl;have :=Hl cF hnc;omega
  have :m*m<B*m:=Fu (by omega) (by omega);omega
 rw[e1] at e;have :=sZ (by omega) e;refine(H.inj c h'.1 b h.1 ?_).symm;simp only[vec,sub,V.mk.injEq] at this;exact V.ext' (by omega) (by omega) (by omega)
theorem Sd.inj (H:Pl n p on) {a b c:Nat} (ha:a∈on) (hb:b∈on) (h:Sd n p on a c) (h':Sd n p on b c):a=b:=by
 obtain⟨h1,h2⟩:=h.2.2 b hb;obtain⟨h3,h4⟩:=h'.2.2 a ha
 have e:dE n (vec p b c) (vec p b a)= -dE n (vec p a c) (vec p a b):=by simp only[vec,dE,dot,aV,sub];grind
 have hz:dE n (vec p a c) (vec p a b)=0:=by omega
 obtain⟨k1,k2⟩:=h2 hz;obtain⟨k3,k4⟩:=h4 (by omega);have hl:=BY n (vec p a c) (vec p a b) (H.pl a ha c h.1) (H.pl a ha b hb);rw[hz] at hl;have hl:=dR (cH H.hn) (by rw[hl];simp);have hp:=para H.hn (H.pl a ha c h.1) (H.pl a ha b hb) hz;have hE:=cH (H.ne ha h.1 h.2.1)
 have e2:dot (vec p b a) (vec p b c)=dot (vec p a b) (vec p a b) -dot (vec p a b) (vec p a c):=by simp only[vec,dot,sub];grind
 rw[mP (vec p a c) (vec p a b)] at hl hp;generalize hm:dot (vec p a b) (vec p a c)=m at *;generalize hB:dot (vec p a b) (vec p a b)=B at *;generalize hC:dot (vec p a c) (vec p a c)=C at *
 have q:m=0\/m=C:=by
  by_cases Vl:m=0
  . exact .inl Vl
  right;by_cases hmC:m=C
  . exact hmC
  exfalso;have q1:m*m<C*m:=Fu (by omega) (by omega);have q2:C*m<=C*B:=Dl (by omega) (by omega);omega
 rcases q with q|q
 . rw[q,smul_zero] at hp;have :vec p a b=V0:=sZ (c:=C) (by omega) (by rw[hp];simp[smul,V0]);exact(H.inj b hb a ha (sub_eq_zero this)).symm
 rw[q] at hp;have :=sZ (c:=C) (by omega) hp;exfalso;refine h'.2.1 (H.inj c h.1 b hb ?_);simp only[vec,sub,V.mk.injEq] at this;exact V.ext' (by omega) (by omega) (by omega)
end
section
variable {n:V} {p:Nat->V} {on:List Nat}
def uL (x:Int):Int:=if x<0 then -1 else if 0<x then 1 else 0
theorem lu {x:Int}:uL x<0↔x<0:=by unfold uL;split<;>(try split)<;>omega
theorem ZV {x:Int}:uL x=0↔x=0:=by unfold uL;split<;>(try split)<;>omega
theorem OG (x y:Int):uL (x*y)=uL x*uL y:=by
 rcases Fe x 0 with h|h|h
 . rcases Fe y 0 with k|k|k
   . have :=Int.mul_pos_of_neg_of_neg h k;simp only[uL,h,k,if_true,if_neg (show ¬x*y<0 by omega),this];rfl
   . subst k;simp[uL]
   have :=Int.mul_neg_of_neg_of_pos h k;simp only[uL,h,this,k,if_true,if_neg (show ¬y<0 by omega)];rfl
 . subst h;simp[uL]
 rcases Fe y 0 with k|k|k
 . have :=Int.mul_neg_of_pos_of_neg h k;simp only[uL,h,this,k,if_true,if_neg (show ¬x<0 by omega)];rfl
 . subst k;simp[uL]
 have :=Hl h k;simp only[uL,h,this,k,if_true,if_neg (show ¬x<0 by omega),if_neg (show ¬y<0 by omega),if_neg (show ¬x*y<0 by omega)];rfl
theorem UT {x:Int} (h:0<x):uL x=1:=by simp[uL,h,show ¬x<0 by omega]
def wN (n c:V):Int:=if n.x≠0 then uL c.x*uL n.x else if n.y≠0 then uL c.y*uL n.y else if n.z≠0 then uL c.z*uL n.z else 0
theorem mg {a b:V} (hn:n≠V0) (ha:dot n a=0) (hb:dot n b=0):wN n (aV a b)=uL (dE n a b):=by
 have hp:=cH hn;have e1:dot n n*(aV a b).x=dE n a b*n.x+dot n b*(n.z*a.y -n.y*a.z) -dot n a*(n.z*b.y -n.y*b.z):=by simp only[dE,dot,aV];grind
 have e2:dot n n*(aV a b).y=dE n a b*n.y+dot n b*(n.x*a.z -n.z*a.x) -dot n a*(n.x*b.z -n.z*b.x):=by simp only[dE,dot,aV];grind
 have e3:dot n n*(aV a b).z=dE n a b*n.z+dot n b*(n.y*a.x -n.x*a.y) -dot n a*(n.y*b.x -n.x*b.y):=by simp only[dE,dot,aV];grind
 rw[ha,hb] at e1 e2 e3
 have key:∀c m:Int,m≠0->dot n n*c=dE n a b*m+0*0 -0->uL c*uL m=uL (dE n a b):=by
  intro c m hm e;have h1:uL (dot n n*c*m)=uL (dE n a b*(m*m)):=by rw[e];congr 1;grind
  rw[OG,OG,OG (dE n a b),UT hp,UT (sq_pos hm)] at h1;simpa using h1
 unfold wN;split
 . rename_i h;exact key _ _ h (by omega)
 split
 . rename_i h;exact key _ _ h (by omega)
 split
 . rename_i h;exact key _ _ h (by omega)
 rename_i h1 h2 h3;exact absurd (V.ext' (by simpa [V0] using h1) (by simpa [V0] using h2) (by simpa [V0] using h3)) hn
def better (n:V) (p:Nat->V) (a b k:Nat):Bool:=
 decide (wN n (aV (vec p a b) (vec p a k))<0)||(decide (wN n (aV (vec p a b) (vec p a k))=0)&&decide (dot (vec p a k) (vec p a k)>dot (vec p a b) (vec p a b)))
def eY (n:V) (p:Nat->V) (a:Nat) (tE:Option Nat) (k:Nat):Option Nat:=
 if k=a then tE else match tE with
  |none=>some k
  |some b=>if better n p a b k then some k else some b
def GC (n:V) (p:Nat->V) (on:List Nat) (a:Nat):Option Nat:=on.foldl (eY n p a) none
theorem qC (H:Pl n p on) {a b k:Nat} (ha:a∈on) (hb:b∈on) (hk:k∈on):
 better n p a b k=true↔dE n (vec p a b) (vec p a k)<0\/(dE n (vec p a b) (vec p a k)=0/\dot (vec p a b) (vec p a b)<dot (vec p a k) (vec p a k)):=by
 unfold better;rw[mg H.hn (H.pl a ha b hb) (H.pl a ha k hk)];simp only[Dg,Aj,Bj,lu,ZV]
theorem Vq (H:Pl n p on) {a:Nat} (ha:a∈on) (hc:nm p on a):∀(l:List Nat) (done:List Nat) (tE:Option Nat),(∀k∈l,k∈on)->(∀k∈done,k∈on)->
 (match tE with|none=>∀k∈done,k=a|some b=>b∈on/\b≠a/\∀k∈done,k≠a->better n p a b k=false)->
 match l.foldl (eY n p a) tE with|none=>∀k∈done++l,k=a|some b=>b∈on/\b≠a/\∀k∈done++l,k≠a->better n p a b k=false:=by
 obtain⟨P,hP,gU⟩:=hc
 have refl:∀k∈on,better n p a k k=false:=fun k hk=>by
  have :=qC H ha hk hk;rw[AZ] at this
  cases hb:better n p a k k with
  |false=>rfl
  |true=>have :=this.1 hb;omega
 intro l
 induction l with
 |nil=>intro done tE _ _ h;simpa using h
 |cons k l ih=>
  intro done tE hl hd h;have hk:k∈on:=hl k (by simp);have :=ih (done++[k]) (eY n p a tE k) (fun x hx=>hl x (by simp[hx])) (fun x hx=>by simp only[Az,Dc] at hx;exact hx.elim (hd x) fun e=>e▸hk) ?_
  . simpa using this
  unfold eY;by_cases LD:k=a
  . subst LD;simp only[if_true]
    cases tE with
    |none=>intro x hx;simp only[Az,Dc] at hx;exact hx.elim (h x) id
    |some b=>
     refine⟨h.1,h.2.1,fun x hx Wv=>?_⟩;simp only[Az,Dc] at hx
     rcases hx with hx|rfl
     . exact h.2.2 x hx Wv
     exact absurd rfl Wv
  simp only[LD,Bu]
  cases tE with
  |none=>
   refine⟨hk,LD,fun x hx Wv=>?_⟩;simp only[Az,Dc] at hx
   rcases hx with hx|rfl
   . exact absurd (h x hx) Wv
   exact refl _ hk
  |some b=>
   obtain⟨hb,hba,Tn⟩:=h;dsimp only;by_cases hbk:better n p a b k=true
   . rw[if_pos hbk];refine⟨hk,LD,fun x hx Wv=>?_⟩;simp only[Az,Dc] at hx
     rcases hx with hx|rfl
     . have h1:=Tn x hx Wv;have hxo:=hd x hx;have i1:=(qC H ha hb hk).1 hbk
       have i2:¬(dE n (vec p a b) (vec p a x)<0\/(dE n (vec p a b) (vec p a x)=0/\dot (vec p a b) (vec p a b)<dot (vec p a x) (vec p a x))):=fun h=>by rw[(qC H ha hb hxo).2 h] at h1;cases h1
       cases hkx:better n p a k x with
       |false=>rfl
       |true=>
        exfalso;have i3:=(qC H ha hk hxo).1 hkx;have a1:=vK n (vec p a b) (vec p a k);obtain⟨t1,t2⟩:=JG H hP (H.pl a ha k hk) (H.pl a ha b hb) (H.pl a ha x hxo) (gU k hk LD) (gU b hb hba) (gU x hxo Wv) (by omega) (by omega);by_cases hz:dE n (vec p a k) (vec p a b)=0
        . by_cases hz2:dE n (vec p a b) (vec p a x)=0
          . omega
          have :=t2 (.inr (by omega));omega
        have :=t2 (.inl (by omega));omega
     exact refl _ hk
   rw[if_neg hbk];refine⟨hb,hba,fun x hx Wv=>?_⟩;simp only[Az,Dc] at hx
   rcases hx with hx|rfl
   . exact Tn x hx Wv
   simpa using hbk
theorem QE (H:Pl n p on) {a:Nat} (ha:a∈on) (hc:nm p on a) (hm:∃k∈on,k≠a):∃b,GC n p on a=some b/\Sd n p on a b:=by
 have h:=Vq H ha hc on [] none (fun _ h=>h) (fun k hk=>by cases hk) (fun k hk=>by cases hk);unfold GC;split at h
 . obtain⟨k,hk,LD⟩:=hm;exact absurd (h k (by simpa using hk)) LD
 rename_i b hb;refine⟨b,hb,h.1,h.2.1,fun k hk=>?_⟩;obtain⟨P,hP,gU⟩:=hc;by_cases LD:k=a
 . subst LD;have :vec p k k=V0:=by simp[vec,sub,V0]
   rw[this];have hq:=uF (vec p k b);constructor
   . simp[dE,dot,aV,V0]
   intro _;constructor<;>simp[dot,V0]<;>simpa [dot] using hq
 have h1:=h.2.2 k (by simpa using hk) LD
 have i2:¬(dE n (vec p a b) (vec p a k)<0\/(dE n (vec p a b) (vec p a k)=0/\dot (vec p a b) (vec p a b)<dot (vec p a k) (vec p a k))):=fun hh=>by rw[(qC H ha h.1 hk).2 hh] at h1;cases h1
 refine⟨by omega,fun hz=>?_⟩;have q:=Lr H hP (H.pl a ha b h.1) (H.pl a ha k hk) (gU b h.1 h.2.1) (gU k hk LD) hz;rw[mP];exact⟨by omega,aAd H.hn (H.pl a ha b h.1) (H.pl a ha k hk) hz (by omega)⟩
end
section
variable {n:V} {p:Nat->V} {on:List Nat}
def iter (f:Nat->Nat):Nat->Nat->Nat
 |0,s=>s
 |i+1,s=>f (iter f i s)
theorem MX:∀(l on:List Nat),l.Nodup->(∀x∈l,x∈on)->l.length<=on.length
 |[],_,_,_=>Cs _
 |x::l,on,hn,h=>by rw[List.nodup_cons] at hn;have h1:=MX l (on.erase x) hn.2 fun y hy=>(List.mem_erase_of_ne fun e=>hn.1 (by rw[<-e];exact hy)).2 (h y (by simp[hy]));have h2:=List.length_erase_of_mem (h x (by simp));have h3:0<on.length:=List.length_pos_of_mem (h x (by simp));simp only[Ak];omega
theorem aDc {A:Nat->Prop} {f:Nat->Nat} (on:List Nat) (hA:∀a,A a->a∈on) (hf:∀a,A a->A (f a)) (hi:∀a b,A a->A b->f a=f b->a=b) {s:Nat} (hs:A s):
 ∃m,0<m/\m<=on.length/\iter f m s=s/\(∀i,0<i->i<m->iter f i s≠s)/\∀i,A (iter f i s):=by
 have nQ:∀i,A (iter f i s):=fun i=>by
  induction i with
  |zero=>exact hs
  |succ i ih=>exact hf _ ih
 have back:∀i d,iter f i s=iter f (i+d) s->iter f d s=s:=fun i=>by
  induction i with
  |zero=>intro d h;rw[Cc] at h;exact h.symm
  |succ i ih=>intro d h;refine ih d (hi _ _ (nQ _) (nQ _) ?_);rw[show i+1+d=(i+d)+1 by omega] at h;exact h
 have ex:∃m,0<m/\m<=on.length/\iter f m s=s:=by
  refine Ct fun hc=>?_
  have hd:((List.range (on.length+1)).map fun i=>iter f i s).Nodup:=by rw[List.Nodup,Ie];refine Ig ?_ Im;intro i j hi hj rP e;simp only[Bn] at hi hj;exact hc ⟨j -i,by omega,by omega,back i (j -i) (by rw[show i+(j -i)=j by omega];exact e)⟩
  have :=MX _ on hd (fun x hx=>by
   simp only[Bq] at hx;obtain⟨i,_,rfl⟩:=hx
   exact hA _ (nQ i))
  simp at this;omega
 have least:∀(k m:Nat),m<=k->0<m->m<=on.length->iter f m s=s->∃m,0<m/\m<=on.length/\iter f m s=s/\∀i,0<i->i<m->iter f i s≠s:=by
  intro k
  induction k with
  |zero=>intro m h1 h2;omega
  |succ k ih=>
   intro m h1 h2 h3 h4;by_cases hc:∃i,0<i/\i<m/\iter f i s=s
   . obtain⟨i,i1,i2,i3⟩:=hc;exact ih i (by omega) i1 (by omega) i3
   exact⟨m,h2,h3,h4,fun i i1 i2 e=>hc ⟨i,i1,i2,e⟩⟩
 obtain⟨m,h1,h2,h3⟩:=ex;obtain⟨m,h1,h2,h3,h4⟩:=least m m (Ai _) h1 h2 h3;exact⟨m,h1,h2,h3,h4,nQ⟩
structure Way (n:V) (p:Nat->V) (on:List Nat) (s m:Nat) (f:Nat->Nat):Prop where
 H:Pl n p on
 hs:s∈on
 pos:0<m
 le:m<=on.length
 back:iter f m s=s
 first:∀i,0<i->i<m->iter f i s≠s
 side:∀i,iter f i s∈on/\Sd n p on (iter f i s) (iter f (i+1) s)
def tA (n:V) (p:Nat->V) (on:List Nat) (a:Nat):Nat:=(GC n p on a).getD 0
theorem way (H:Pl n p on) {s:Nat} (hs:s∈on) (hc:nm p on s) (hm:∀a∈on,∃k∈on,k≠a):∃m,Way n p on s m (tA n p on):=by
 have hS:∀a,a∈on/\nm p on a->Sd n p on a (tA n p on a):=fun a ⟨ha,hc⟩=>by obtain⟨b,h1,h2⟩:=QE H ha hc (hm a ha);unfold tA;rw[h1];exact h2
 obtain⟨m,h1,h2,h3,h4,h5⟩:=aDc (A:=fun a=>a∈on/\nm p on a) (f:=tA n p on) on (fun a h=>h.1) (fun a h=>⟨(hS a h).1,(hS a h).next H h.1⟩)
  (fun a b ha hb e=>Sd.inj H ha.1 hb.1 (hS a ha) (by rw[e];exact hS b hb)) ⟨hs,hc⟩
 exact⟨m,H,hs,h1,h2,h3,h4,fun i=>⟨(h5 i).1,hS _ (h5 i)⟩⟩
theorem Way.cover {s m:Nat} {f:Nat->Nat} (W:Way n p on s m f) {a b:Nat} (ha:a∈on) (h:Sd n p on a b):∃i,i<m/\iter f i s=a:=by
 refine Ct fun hc=>?_
 have cF:∀i,iter f i s≠a:=by
  have :∀i,i<m->iter f i s≠a:=fun i hi e=>hc ⟨i,hi,e⟩
  have per:∀i,∃j,j<m/\iter f i s=iter f j s:=fun i=>by
   induction i with
   |zero=>exact⟨0,W.pos,rfl⟩
   |succ i ih=>
    obtain⟨j,hj,e⟩:=ih;by_cases hjm:j+1<m
    . exact⟨j+1,hjm,by simp only[iter];rw[e]⟩
    refine⟨0,W.pos,?_⟩;have :j+1=m:=(by omega);simp only[iter];rw[e];have h2:=W.back;rw[<-this] at h2;exact h2
  intro i e;obtain⟨j,hj,e2⟩:=per i;exact this j hj (e2.symm.trans e)
 obtain⟨P,hP,gU⟩:=h.crn W.H ha;have hPi:∀i,P (vec p a (iter f i s)):=fun i=>gU _ (W.side i).1 (cF i);have BS:∀i,dot n (vec p a (iter f i s))=0:=fun i=>W.H.pl a ha _ (W.side i).1
 have left:∀i,0<dE n (vec p a (iter f i s)) (vec p a (iter f (i+1) s)):=by
  intro i;obtain⟨hx,hS⟩:=W.side i;generalize hxi:iter f i s=x at *;generalize qt:iter f (i+1) s=y at *;have e:dE n (vec p x y) (vec p x a)=dE n (vec p a x) (vec p a y):=by simp only[vec,dE,dot,aV,sub];grind
  obtain⟨h1,h2⟩:=hS.2.2 a ha;rw[e] at h1 h2;have Wv:x≠a:=by rw[<-hxi];exact cF i
  have hya:y≠a:=by rw[<-qt];exact cF (i+1)
  rcases Fo h1 with h1|h1
  . exact h1
  exfalso;obtain⟨h3,h4⟩:=h2 h1.symm;have px:P (vec p a x):=gU x hx Wv;have py:P (vec p a y):=gU y hS.1 hya;have hd:=Lr W.H hP (W.H.pl a ha x hx) (W.H.pl a ha y hS.1) px py h1.symm;have hp:=para W.H.hn (W.H.pl a ha x hx) (W.H.pl a ha y hS.1) h1.symm;have hu0:=cH (W.H.ne ha hx Wv);have e5:dot (vec p x a) (vec p x y)=dot (vec p a x) (vec p a x) -dot (vec p a x) (vec p a y):=by simp only[vec,dot,sub];grind
  have e6:dot (vec p x y) (vec p x y)=dot (vec p a x) (vec p a x) -2*dot (vec p a x) (vec p a y)+dot (vec p a y) (vec p a y):=by simp only[vec,dot,sub];grind
  have hl:=BY n _ _ (W.H.pl a ha x hx) (W.H.pl a ha y hS.1);rw[<-h1] at hl;have hl:=dR (cH W.H.hn) (by rw[hl];simp);rw[e5] at h3 h4;rw[e6] at h4;generalize hA:dot (vec p a x) (vec p a x)=A at *;generalize hB:dot (vec p a x) (vec p a y)=B at *;generalize hC:dot (vec p a y) (vec p a y)=C at *
  have :B=A:=by
   by_cases hBA:B=A
   . exact hBA
   exfalso;have q1:B*B<A*B:=Fu (by omega) hd;have q2:A*B<=A*C:=Dl (by omega) (by omega);omega
  rw[this] at hp;have e7:=sZ (c:=A) (by omega) hp;refine hS.2.1 (W.H.inj y hS.1 x hx ?_);simp only[vec,sub,V.mk.injEq] at e7;exact V.ext' (by omega) (by omega) (by omega)
 have chain:∀i,0<dE n (vec p a s) (vec p a (iter f (i+1) s)):=by
  intro i
  induction i with
  |zero=>exact left 0
  |succ i ih=>exact(JG W.H hP (BS 0) (BS (i+1)) (BS (i+2)) (hPi 0) (hPi (i+1)) (hPi (i+2)) (Int.le_of_lt ih) (Int.le_of_lt (left (i+1)))).2 (.inl ih)
 have :=chain (m -1);rw[show m -1+1=m from Nat.succ_pred_eq_of_pos W.pos,W.back,AZ] at this;omega
end
section
def nT (p:Nat->V) (N:Nat) (n:V) (d:Int):List Nat:=(List.range N).filter fun k=>decide (dot n (p k)=d)
theorem fT {p:Nat->V} {N:Nat} {n:V} {d:Int} {k:Nat}:k∈nT p N n d↔k<N/\dot n (p k)=d:=by simp[nT]
structure af (p:Nat->V) (N:Nat) (n:V) (d:Int):Prop where
 hn:n≠V0
 le:∀k,k<N->dot n (p k)<=d
 lt:∃k,k<N/\dot n (p k)<d
 tri:∃a∈nT p N n d,∃b∈nT p N n d,∃c∈nT p N n d,dE n (vec p a b) (vec p a c)≠0
def kO (a b:V):Prop:=a.x<b.x\/(a.x=b.x/\(a.y<b.y\/(a.y=b.y/\a.z<b.z)))
def bm (p:Nat->V) (N:Nat):Prop:=∀i j,i<j->j<N->kO (p i) (p j)
variable {p:Nat->V} {N:Nat} {n:V} {d:Int}
theorem bm.inj (A:bm p N) {i j:Nat} (hi:i<N) (hj:j<N) (h:p i=p j):i=j:=by
 rcases Ic i j with h1|h1|h1
 . have :=A i j h1 hj;rw[h] at this;unfold kO at this;omega
 . exact h1
 have :=A j i h1 hi;rw[h] at this;unfold kO at this;omega
theorem nX (n:V) (p:Nat->V) (a b:Nat):dot n (vec p a b)=dot n (p b) -dot n (p a):=by simp only[dot,vec,sub];grind
theorem af.pl (A:bm p N) (F:af p N n d):Pl n p (nT p N n d) where
 hn:=F.hn
 inj a ha b hb h:=A.inj (fT.1 ha).1 (fT.1 hb).1 h
 pl a ha b hb:=by rw[nX,(fT.1 ha).2,(fT.1 hb).2];omega
theorem af.more (F:af p N n d) (a:Nat):∃k∈nT p N n d,k≠a:=by obtain⟨x,hx,y,hy,z,hz,h⟩:=F.tri;refine Ct fun hc=>?_;have e:∀k∈nT p N n d,k=a:=fun k hk=>Ct fun h=>hc ⟨k,hk,h⟩;rw[e x hx,e y hy,e z hz,AZ] at h;exact h rfl
theorem af.head (F:af p N n d):∃s r,nT p N n d=s::r:=by
 obtain⟨k,hk,_⟩:=F.more 0
 cases h:nT p N n d with
 |nil=>rw[h] at hk;cases hk
 |cons s r=>exact⟨s,r,rfl⟩
theorem Sg (p:Nat->V) (N:Nat) (n:V) (d:Int):(nT p N n d).Pairwise (· < ·):=List.Pairwise.filter _ Im
theorem Vx (A:bm p N) {s:Nat} {r:List Nat} (h:nT p N n d=s::r):nm p (nT p N n d) s:=by
 refine⟨_,XZ,fun k hk hks=>?_⟩;have hs:=Sg p N n d;have an:=(fT.1 hk).1;rw[h] at hk hs;simp only[Ah] at hk
 rcases hk with hk|hk
 . exact absurd hk hks
 have h1:=(Ec.1 hs).1 k hk;have :=A s k h1 an;unfold kO at this;simp only[vec,sub];omega
theorem af.way (A:bm p N) (F:af p N n d) {s:Nat} {r:List Nat} (h:nT p N n d=s::r):∃m,Way n p (nT p N n d) s m (tA n p (nT p N n d)):=
 aY.way (F.pl A) (by rw[h];simp) (Vx A h) fun a _=>F.more a
end
section
def gE (v:V):Nat:=Int.gcd v.x (Int.gcd v.y v.z)
def kX (v:V):V:=⟨v.x / gE v,v.y / gE v,v.z / gE v⟩
theorem EO (v:V):smul (gE v) (kX v)=v:=by have h1:((gE v:Nat):Int)∣v.x:=Ge v.x (Int.gcd v.y v.z);have h0:((gE v:Nat):Int)∣((Int.gcd v.y v.z:Nat):Int):=Ek v.x (Int.gcd v.y v.z);have h2:((gE v:Nat):Int)∣v.y:=Hh h0 (Ge v.y v.z);have h3:((gE v:Nat):Int)∣v.z:=Hh h0 (Ek v.y v.z);exact V.ext' (Iz h1) (Iz h2) (Iz h3)
theorem wO {v:V} (h:v≠V0):0<gE v:=by
 rcases Nat.eq_zero_or_pos (gE v) with h1|h1
 . exfalso;have :=EO v;rw[h1] at this;exact h (by rw[<-this];simp[smul,V0])
 exact h1
theorem UQ {v:V} (h:v≠V0):kX v≠V0:=fun e=>by have :=EO v;rw[e] at this;exact h (by rw[<-this];simp[smul,V0])
theorem vL (v w:V):(gE v:Int)*dot (kX v) w=dot v w:=by
 have h:=EO v;have :dot (smul (gE v) (kX v)) w=(gE v:Int)*dot (kX v) w:=by simp only[dot,smul];grind
 rw[<-this,h]
theorem Xe (v u w:V):(gE v:Int)*dE (kX v) u w=dE v u w:=vL v _
structure uN (p:Nat->V) (N:Nat) (n:V) (d:Int):Prop where
 le:∀k,k<N->dot n (p k)<=d
 lt:∃k,k<N/\dot n (p k)<d
 tri:∃a b c,a<N/\b<N/\c<N/\aV (vec p a b) (vec p a c)≠V0/\n=kX (aV (vec p a b) (vec p a c))/\d=dot n (p a)
variable {p:Nat->V} {N:Nat} {n:V} {d:Int}
theorem uN.fct (F:uN p N n d):af p N n d:=by
 obtain⟨a,b,c,ha,hb,hc,hw,hn,hd⟩:=F.tri;have hg:=wO hw
 have on:∀k,k<N->dot (aV (vec p a b) (vec p a c)) (vec p a k)=0->k∈nT p N n d:=by intro k hk h;rw[fT];refine⟨hk,?_⟩;rw[<-vL,<-hn] at h;have h2:=dR (by omega) h;rw[nX] at h2;omega
 refine⟨by rw[hn];exact UQ hw,F.le,F.lt,a,on a ha (by simp only[dot,vec,sub];grind),b,on b hb ?_,c,on c hc ?_,?_⟩
 . simp only[dot,aV];grind
 . simp only[dot,aV];grind
 intro h;rw[hn] at h;have h2:=Xe (aV (vec p a b) (vec p a c)) (vec p a b) (vec p a c);rw[h] at h2;exact absurd (LP (a:=aV (vec p a b) (vec p a c)) (by simp only[dE] at h2;omega)) hw
theorem uN.uniq (F:uN p N n d) {d':Int} (F':uN p N n d'):d=d':=by obtain⟨a,_,_,ha,_,_,_,_,e⟩:=F.tri;obtain⟨b,_,_,hb,_,_,_,_,e'⟩:=F'.tri;have :=F.le b hb;have :=F'.le a ha;omega
theorem Jz (α β:Nat->Int):∀(l:List Nat),l≠[]->(∀k∈l,0<α k)->∃q∈l,∀k∈l,β q*α k<=β k*α q
 |[],h,_=>absurd rfl h
 |[x],_,_=>⟨x,by simp,by simp⟩
 |x::y::l,_,h=>by
  obtain⟨q,hq,hm⟩:=Jz α β (y::l) (by simp) fun k hk=>h k (by simp only[Ah] at hk ⊢;exact .inr hk)
  by_cases hx:β q*α x<=β x*α q
  . refine⟨q,Ao _ hq,fun k hk=>?_⟩
    rcases Ah.1 hk with rfl|hk
    . exact hx
    exact hm k hk
  refine⟨x,Aq,fun k hk=>?_⟩
  rcases Ah.1 hk with rfl|hk
  . exact Int.le_refl _
  have h1:=hm k hk;have aq:=h q (Ao _ hq);have ax:=h x Aq;have ak:=h k (Ao _ hk);refine Int.le_of_mul_le_mul_left (a:=α q) ?_ aq;have e1:α k*(β x*α q)<=α k*(β q*α x):=Dl (by omega) (by omega);have e2:α x*(β q*α k)<=α x*(β k*α q):=Dl h1 (by omega);have r1:α q*(β x*α k)=α k*(β x*α q):=by grind
  have r2:α k*(β q*α x)=α x*(β q*α k):=by grind
  have r3:α x*(β k*α q)=α q*(β k*α x):=by grind
  omega
theorem uN.adj (F:uN p N n d) (A:bm p N) {a b:Nat} (ha:a∈nT p N n d) (h:Sd n p (nT p N n d) a b):
 ∃n' d',uN p N n' d'/\a∈nT p N n' d'/\b∈nT p N n' d'/\Sd n' p (nT p N n' d') b a/\∃q∈nT p N n' d',q∉nT p N n d:=by
 have H:=F.fct.pl A;have hb:=h.1;have hE:=cH (H.ne ha hb h.2.1);have haN:=fT.1 ha;have hbN:=fT.1 hb
 let α:Nat->Int:=fun k=> -dot n (vec p a k)
 let β:Nat->Int:=fun k=>dE n (vec p a b) (vec p a k)
 have hα:∀k,k<N->0<=α k:=fun k hk=>by have :=F.le k hk;show 0<=-dot n (vec p a k);rw[nX];omega
 have hα0:∀k,k<N->α k=0->k∈nT p N n d:=fun k hk e=>by rw[fT];refine⟨hk,?_⟩;have : -dot n (vec p a k)=0:=e;rw[nX] at this;omega
 obtain⟨k0,hk0,aOt⟩:=F.lt
 obtain⟨q,hq,aDv⟩:=Jz α β ((List.range N).filter fun k=>decide (0<α k)) (by
  intro e
  have :k0∈(List.range N).filter fun k=>decide (0<α k):=by simp only[Dn,Bn,Bj];refine⟨hk0,?_⟩;show 0< -dot n (vec p a k0);rw[nX];omega
  rw[e] at this;cases this) (fun k hk=>by simp only[Dn,Bj] at hk;exact hk.2)
 simp only[Dn,Bn,Bj] at hq aDv;obtain⟨hqN,hαq⟩:=hq;have cF:dot n (vec p a b)=0:=H.pl a ha b hb
 have key:∀k,dot n n*dot (aV (vec p a b) (vec p a q)) (vec p a k)=β k*α q -β q*α k:=fun k=>by
  have :=JJ n (vec p a b) (vec p a q) (vec p a k) n;rw[mP (vec p a b) n,mP (vec p a q) n,mP (vec p a k) n,cF] at this;have e2:dE (vec p a b) (vec p a q) (vec p a k)=dot (aV (vec p a b) (vec p a q)) (vec p a k):=by simp only[dE,dot,aV];grind
  have e3:=vK n (vec p a b) (vec p a k);rw[e2] at this;show _=dE n (vec p a b) (vec p a k)*(-dot n (vec p a q)) -dE n (vec p a b) (vec p a q)*(-dot n (vec p a k));rw[e3] at this
  grind
 have hnn:=cH F.fct.hn
 have side:∀k,k<N->0<=dot (aV (vec p a b) (vec p a q)) (vec p a k):=fun k hk=>by
  refine oD hnn ?_;rw[key];by_cases hz:0<α k
  . have :=aDv k ⟨hk,hz⟩;omega
  have hz:α k=0:=by have :=hα k hk;omega
  rw[hz,Gd,Int.sub_zero];exact Int.mul_nonneg (h.2.2 k (hα0 k hk hz)).1 (by omega)
 have hN0:aV (vec p a b) (vec p a q)≠V0:=by
  intro e;have h1:dot (aV n (vec p a b)) (aV n (vec p a b))=dot n n*dot (vec p a b) (vec p a b) -dot n (vec p a b)*dot n (vec p a b):=by simp only[dot,aV];grind
  have h2:dot (aV n (vec p a b)) (aV (vec p a b) (vec p a q))=dot n (vec p a b)*dot (vec p a b) (vec p a q) -dot n (vec p a q)*dot (vec p a b) (vec p a b):=by simp only[dot,aV];grind
  rw[e,cF] at h2;have h3:dot (aV n (vec p a b)) V0=0:=by simp[dot,V0]
  have h4:0<α q*dot (vec p a b) (vec p a b):=Hl hαq hE;have h5:α q= -dot n (vec p a q):=rfl;rw[h5,Hj] at h4;omega
 have aEb:aV (vec p a q) (vec p a b)=smul (-1) (aV (vec p a b) (vec p a q)):=by simp only[aV,smul,V.mk.injEq];grind
 have aDi:aV (vec p a q) (vec p a b)≠V0:=fun e=>hN0 (by
  rw[aEb] at e;simp only[smul,V0,V.mk.injEq] at e
  exact V.ext' (by simp only[V0];omega) (by simp only[V0];omega) (by simp only[V0];omega))
 have hg:=wO aDi;generalize LX:kX (aV (vec p a q) (vec p a b))=n'
 have dn:∀v:V,(gE (aV (vec p a q) (vec p a b)):Int)*dot n' v= -dot (aV (vec p a b) (vec p a q)) v:=fun v=>by rw[<-LX,vL,aEb];simp only[dot,smul];grind
 have on:∀k,k<N->(k∈nT p N n' (dot n' (p a))↔dot (aV (vec p a b) (vec p a q)) (vec p a k)=0):=fun k hk=>by
  rw[fT];have :=dn (vec p a k);rw[nX n'] at this;constructor
  . rintro⟨_,e⟩;rw[e,Int.sub_self,Gd] at this;omega
  intro e;rw[e] at this;have :=dR (by omega) (show(gE (aV (vec p a q) (vec p a b)):Int)*(dot n' (p k) -dot n' (p a))=0 by omega);exact⟨hk,by omega⟩
 have hd0:∀k,k<N->dot n' (p k)<=dot n' (p a):=fun k hk=>by have h1:=dn (vec p a k);have h2:=side k hk;rw[nX n'] at h1;have h3:=oD (c:=(gE (aV (vec p a q) (vec p a b)):Int)) (a:= -(dot n' (p k) -dot n' (p a))) (by omega) (by rw[Int.mul_neg];omega);omega
 have ha':a∈nT p N n' (dot n' (p a)):=fT.2 ⟨haN.1,rfl⟩;have vR:b∈nT p N n' (dot n' (p a)):=(on b hbN.1).2 (by simp only[dot,aV];grind);have Wu:q∈nT p N n' (dot n' (p a)):=(on q hqN).2 (by simp only[dot,aV];grind);refine⟨n',dot n' (p a),⟨hd0,?_,a,q,b,haN.1,hqN,hbN.1,aDi,LX.symm,rfl⟩,ha',vR,⟨ha',fun e=>h.2.1 e.symm,fun k hk=>?_⟩,q,Wu,fun hqo=>?_⟩
 ·
  refine Ct fun hc=>?_
  have all:∀k∈nT p N n d,dE n (vec p a b) (vec p a k)=0:=fun k hk=>by
   have an:=fT.1 hk
   have h1:dot n' (p k)=dot n' (p a):=by
    have :=hd0 k an.1
    rcases Fo this with h|h
    . exact absurd ⟨k,an.1,h⟩ hc
    exact h
   have h2:=key k;rw[(on k an.1).1 (fT.2 ⟨an.1,h1⟩)] at h2;have h3:α k=0:=(by show -dot n (vec p a k)=0;rw[H.pl a ha k hk];rfl);rw[h3,Gd,Gd,Int.sub_zero] at h2;have h4:α q*β k=0:=(by rw[Int.mul_comm];exact h2.symm);exact dR hαq h4
  obtain⟨x,hx,y,hy,z,hz,aLm⟩:=F.fct.tri;refine aLm ?_;have l1:∀(c:Int) (u v:V),dE n (smul c u) v=c*dE n u v:=fun c u v=>by simp only[dE,dot,aV,smul];grind
  have qq:∀k l:Nat,k∈nT p N n d->l∈nT p N n d->dE n (vec p a k) (vec p a l)=0:=by intro k l hk hl;have pk:=para H.hn (H.pl a ha b hb) (H.pl a ha k hk) (all k hk);refine dR hE ?_;rw[<-l1,pk,l1,all l hl,Gd]
  have r:∀u v w:V,dE n (sub u v) (sub w v)=dE n u w -dE n u v -dE n v w:=fun u v w=>by simp only[dE,dot,aV,sub];grind
  rw[OM p a x y,OM p a x z,r,qq y z hy hz,qq y x hy hx,qq x z hx hz];rfl
 ·
  have an:=fT.1 hk;have hkz:=(on k an.1).1 hk
  have hde:dE (vec p a b) (vec p a q) (vec p a k)=0:=by have e2:dE (vec p a b) (vec p a q) (vec p a k)=dot (aV (vec p a b) (vec p a q)) (vec p a k):=(by simp only[dE,dot,aV];grind);rw[e2,hkz]
  have hnv:dot n (vec p a k)<=0:=by have :=hα k an.1;show dot n (vec p a k)<=0;have h5:α k= -dot n (vec p a k):=rfl;omega
  have hnu:dot n (vec p a q)<0:=by have h5:α q= -dot n (vec p a q):=rfl;omega
  have e1:dE n' (vec p b a) (vec p b k)= -dE n' (vec p a b) (vec p a k):=by simp only[vec,dE,dot,aV,sub];grind
  have e2:(gE (aV (vec p a q) (vec p a b)):Int)*dE n' (vec p b a) (vec p b k)=dot (aV (vec p a b) (vec p a q)) (aV (vec p a b) (vec p a k)):=by rw[e1,Int.mul_neg];have :=dn (aV (vec p a b) (vec p a k));simp only[dE];omega
  generalize he:vec p a b=e at *;generalize vec p a q=u at *;generalize hv:vec p a k=v at *
  have c1:dot n u*(aV e v).x=dot n v*(aV e u).x:=by have :dot n u*(aV e v).x=dot n v*(aV e u).x -n.x*dE e u v -(aV v u).x*dot n e:=(by simp only[dE,dot,aV];grind);rw[hde,cF] at this;omega
  have c2:dot n u*(aV e v).y=dot n v*(aV e u).y:=by have :dot n u*(aV e v).y=dot n v*(aV e u).y -n.y*dE e u v -(aV v u).y*dot n e:=(by simp only[dE,dot,aV];grind);rw[hde,cF] at this;omega
  have c3:dot n u*(aV e v).z=dot n v*(aV e u).z:=by have :dot n u*(aV e v).z=dot n v*(aV e u).z -n.z*dE e u v -(aV v u).z*dot n e:=(by simp only[dE,dot,aV];grind);rw[hde,cF] at this;omega
  have hNN:=cH hN0
  have c4:dot n u*dot (aV e u) (aV e v)=dot n v*dot (aV e u) (aV e u):=by
   have :dot n u*dot (aV e u) (aV e v)=(aV e u).x*(dot n u*(aV e v).x)+(aV e u).y*(dot n u*(aV e v).y)+(aV e u).z*(dot n u*(aV e v).z):=by simp only[dot];grind
   rw[this,c1,c2,c3];simp only[dot];grind
  have c5:0<=dot (aV e u) (aV e v):=by refine oD (c:= -dot n u) (by omega) ?_;rw[Hj,c4,<-Hj];exact Int.mul_nonneg (by omega) (by omega)
  refine⟨oD (c:=(gE (aV u e):Int)) (by omega) (by rw[e2];exact c5),fun hz=>?_⟩;rw[hz,Gd] at e2;rw[<-e2,Gd] at c4
  have aLa:dot n v=0:=by have :=dR (c:=dot (aV e u) (aV e u)) (a:=dot n v) hNN (by rw[Int.mul_comm];exact c4.symm);exact this
  have hko:k∈nT p N n d:=hα0 k an.1 (by show -dot n (vec p a k)=0;rw[hv];omega);rw[aLa,Int.zero_mul] at c1 c2 c3
  have hz':dE n e v=0:=by
   have z:∀c:Int,dot n u*c=0->c=0:=fun c hc=>by rcases Int.mul_eq_zero.1 hc with h|h<;>omega
   simp only[dE,dot];rw[z _ c1,z _ c2,z _ c3];simp
  have g:=(h.2.2 k hko).2;rw[hv,he] at g;have g:=g hz';have b1:dot (vec p b k) (vec p b a)=dot (vec p a b) (vec p a b) -dot (vec p a k) (vec p a b):=by simp only[vec,dot,sub];grind
  have b2:dot (vec p b a) (vec p b a)=dot (vec p a b) (vec p a b):=by simp only[vec,dot,sub];grind
  rw[b1,b2,hv,he];omega
 have :=fT.1 hqo;have h5:α q= -dot n (vec p a q):=rfl;rw[nX] at h5;omega
end
section
def neg (a:V):V:=⟨-a.x,-a.y,-a.z⟩
theorem neg_neg (a:V):neg (neg a)=a:=by simp[neg]
theorem Yl {a:V} (h:a≠V0):neg a≠V0:=fun e=>h (by
 have :=Bt neg e;rw[neg_neg] at this
 rw[this];rfl)
theorem Zu (a:V):gE (neg a)=gE a:=by simp[gE,neg,Int.gcd]
theorem CO (a:V):kX (neg a)=neg (kX a):=by have d1:(gE a:Int)∣a.x:=Ge ..;have d2:(gE a:Int)∣a.y:=Hh (Ek ..) (Ge ..);have d3:(gE a:Int)∣a.z:=Hh (Ek ..) (Ek ..);unfold kX;rw[Zu];simp only[neg];rw[Jb d1,Jb d2,Jb d3]
theorem BB (a b:V):dot (neg a) b= -dot a b:=by simp only[dot,neg];grind
variable {p:Nat->V} {N:Nat} {n:V} {d:Int}
def rQ (p:Nat->V) (a b c:Nat) (n:V):Prop:=
 aV (vec p a b) (vec p a c)≠V0/\(n=kX (aV (vec p a b) (vec p a c))\/n=neg (kX (aV (vec p a b) (vec p a c))))
theorem JK (a b c:Nat):aV (vec p a c) (vec p a b)=neg (aV (vec p a b) (vec p a c)):=by simp only[aV,neg];apply V.ext'<;>simp only <;>grind
theorem Ri (a b c:Nat):aV (vec p b a) (vec p b c)=neg (aV (vec p a b) (vec p a c)):=by simp only[aV,neg,vec,sub];apply V.ext'<;>simp only <;>grind
theorem rQ.swap {a b c:Nat} (h:rQ p a b c n):rQ p a c b n:=by unfold rQ at h ⊢;rw[JK a b c,CO,neg_neg];exact⟨Yl h.1,h.2.symm⟩
theorem rQ.wN {a b c:Nat} (h:rQ p a b c n):rQ p b a c n:=by unfold rQ at h ⊢;rw[Ri a b c,CO,neg_neg];exact⟨Yl h.1,h.2.symm⟩
theorem rQ.aDe {a b c:Nat} (h:rQ p a b c n):dot n (p b)=dot n (p a)/\dot n (p c)=dot n (p a):=by
 have hg:=wO h.1
 have key:∀k,dot (aV (vec p a b) (vec p a c)) (vec p a k)=0->dot n (p k)=dot n (p a):=by
  intro k hk;rw[<-vL] at hk;have h2:=dR (by omega) hk
  have h3:dot n (vec p a k)=0:=by
   rcases h.2 with rfl|rfl
   . exact h2
   rw[BB,h2];rfl
  rw[nX] at h3;omega
 exact⟨key b (by simp only[dot,aV];grind),key c (by simp only[dot,aV];grind)⟩
theorem rQ.ne {a b c:Nat} (h:rQ p a b c n):a≠b/\a≠c/\b≠c:=by refine⟨?_,?_,?_⟩<;>rintro rfl<;>refine h.1 ?_<;>simp only[aV,vec,sub,V0]<;>apply V.ext'<;>simp only <;>grind
theorem rQ.isF {a b c:Nat} (h:rQ p a b c n) (ha:a<N) (hb:b<N) (hc:c<N) (le:∀k,k<N->dot n (p k)<=d) (lt:∃k,k<N/\dot n (p k)<d) (hd:d=dot n (p a)):uN p N n d:=by
 rcases h.2 with e|e
 . exact⟨le,lt,a,b,c,ha,hb,hc,h.1,e,hd⟩
 refine⟨le,lt,a,c,b,ha,hc,hb,h.swap.1,?_,hd⟩;rw[JK,CO];exact e
theorem uN.aJv (F:uN p N n d):∃a b c,a<N/\b<N/\c<N/\rQ p a b c n/\d=dot n (p a):=by obtain⟨a,b,c,ha,hb,hc,hw,hn,hd⟩:=F.tri;exact⟨a,b,c,ha,hb,hc,⟨hw,.inl hn⟩,hd⟩
theorem uN.up (F:uN p N n d):∃i j k,i<j/\j<k/\k<N/\rQ p i j k n/\d=dot n (p i):=by
 obtain⟨a,b,c,ha,hb,hc,h,hd⟩:=F.aJv
 have ho:∃a b c,b<c/\a<N/\b<N/\c<N/\rQ p a b c n/\d=dot n (p a):=by
  have hn:=h.ne;by_cases hbc:b<c
  . exact⟨a,b,c,hbc,ha,hb,hc,h,hd⟩
  exact⟨a,c,b,by omega,ha,hc,hb,h.swap,hd⟩
 obtain⟨a,b,c,hbc,ha,hb,hc,h,hd⟩:=ho;have hn:=h.ne;have hs:=h.aDe;by_cases h1:a<b
 . exact⟨a,b,c,h1,hbc,hc,h,hd⟩
 by_cases h2:a<c
 . exact⟨b,a,c,by omega,h2,hc,h.wN,by rw[hs.1];exact hd⟩
 exact⟨b,c,a,hbc,by omega,ha,h.wN.swap,by rw[hs.1];exact hd⟩
theorem uN.down (F:uN p N n d):∃i j k,k<j/\j<i/\i<N/\rQ p i j k n/\d=dot n (p i):=by obtain⟨i,j,k,h1,h2,h3,h,hd⟩:=F.up;have hs:=h.aDe;exact⟨k,j,i,h1,h2,h3,h.wN.swap.wN,by rw[hs.2];exact hd⟩
theorem kO.irr (a:V):¬kO a a:=by unfold kO;omega
theorem kO.trans {a b c:V} (h:kO a b) (h':kO b c):kO a c:=by unfold kO at *;omega
theorem kO.total {a b:V} (h:a≠b):kO a b\/kO b a:=by refine Ct fun hc=>h ?_;unfold kO at hc;apply V.ext'<;>omega
theorem wL {α:Type} {R:α->α->Prop} (ir:∀a,¬R a a) (tr:∀{a b c},R a b->R b c->R a c):∀{l l':List α},l.Pairwise R->l'.Pairwise R->(∀x,x∈l↔x∈l')->l=l'
 |[],[],_,_,_=>rfl
 |[],y::l',_,_,h=>absurd ((h y).2 Aq) (by simp)
 |x::l,[],_,_,h=>absurd ((h x).1 Aq) (by simp)
 |x::l,y::l',hl,lY,h=>by
  rw[Ec] at hl lY
  have hxy:x=y:=by
   rcases Ah.1 ((h x).1 Aq) with e|e
   . exact e
   rcases Ah.1 ((h y).2 Aq) with e'|e'
   . exact e'.symm
   exact absurd (tr (lY.1 x e) (hl.1 y e')) (ir y)
  subst hxy;rw[wL ir tr hl.2 lY.2 fun z=>⟨fun hz=>?_,fun hz=>?_⟩]
  . rcases Ah.1 ((h z).1 (Ao _ hz)) with e|e
    . subst e;exact absurd (hl.1 z hz) (ir z)
    exact e
  rcases Ah.1 ((h z).2 (Ao _ hz)) with e|e
  . subst e;exact absurd (lY.1 z hz) (ir z)
  exact e
structure pE (p:Nat->V) (N:Nat) (L:List (V×Int)):Prop where
 mem:∀q,q∈L↔uN p N q.1 q.2
 Zd:L.Pairwise fun a b=>kO a.1 b.1
theorem pE.uniq {L L':List (V×Int)} (h:pE p N L) (h':pE p N L'):L=L':=
 wL (R:=fun a b=>kO a.1 b.1) (fun a=>kO.irr _) (fun {a b c} h h'=>kO.trans (a:=a.1) (b:=b.1) (c:=c.1) h h') h.Zd h'.Zd fun q=>(h.mem q).trans (h'.mem q).symm
theorem pE.UM {K S:List (V×Int)} (hn:K.Nodup) (hm:∀q,q∈K↔uN p N q.1 q.2) (hp:S.Perm K) (hs:S.Pairwise fun a b=>¬kO b.1 a.1):pE p N S where
 mem:=fun q=>(hp.mem_iff).trans (hm q)
 Zd:=by
  have hnS:S.Nodup:=hp.nodup_iff.2 hn;have gU:∀q∈S,uN p N q.1 q.2:=fun q hq=>(hm q).1 (hp.mem_iff.1 hq);have h2:S.Pairwise fun a b=>a≠b/\¬kO b.1 a.1:=List.Pairwise.and hnS hs;refine Ig (fun {a b} ha hb Qx=>?_) h2;by_cases he:a.1=b.1
  . have :=(gU a ha).uniq (d':=b.2) (by rw[he];exact gU b hb);exact absurd (Prod.ext he this) Qx.1
  exact(kO.total he).resolve_right Qx.2
end
section
variable {p:Nat->V} {N:Nat} {n:V} {d:Int}
structure Poly (p:Nat->V) (N:Nat) (n:V) (d:Int) (L:List Nat):Prop where
 ex:∃s r m,nT p N n d=s::r/\Way n p (nT p N n d) s m (tA n p (nT p N n d))/\L=(List.range m).map fun i=>iter (tA n p (nT p N n d)) i s
theorem Poly.exists (A:bm p N) (F:af p N n d):∃L,Poly p N n d L:=by obtain⟨s,r,h⟩:=F.head;obtain⟨m,W⟩:=F.way A h;exact⟨_,⟨s,r,m,h,W,rfl⟩⟩
theorem Poly.uniq {L L':List Nat} (h:Poly p N n d L) (h':Poly p N n d L'):L=L':=by
 obtain⟨s,r,m,e,W,rfl⟩:=h.ex;obtain⟨s',r',m',e',W',rfl⟩:=h'.ex;rw[e] at e';cases e'
 have :m=m':=by
  rcases Ic m m' with hl|he|hl
  . exact absurd W.back (W'.first m W.pos hl)
  . exact he
  exact absurd W'.back (W.first m' W'.pos hl)
 rw[this]
def Next (L:List Nat) (a b:Nat):Prop:=∃i,i<L.length/\L[i]?=some a/\L[(i+1)%L.length]?=some b
theorem Poly.QF {L:List Nat} (h:Poly p N n d L) {a b:Nat}:Next L a b↔a∈nT p N n d/\Sd n p (nT p N n d) a b:=by
 obtain⟨s,r,m,e,W,rfl⟩:=h.ex;have hlen:((List.range m).map fun i=>iter (tA n p (nT p N n d)) i s).length=m:=by simp
 have cJ:∀i,i<m->((List.range m).map fun i=>iter (tA n p (nT p N n d)) i s)[i]?=some (iter (tA n p (nT p N n d)) i s):=fun i hi=>by rw[Cj,Hq hi];rfl
 have ql:∀i,i<m->((List.range m).map fun i=>iter (tA n p (nT p N n d)) i s)[(i+1)%m]?=some (iter (tA n p (nT p N n d)) (i+1) s):=fun i hi=>by
  by_cases hm:i+1<m
  . rw[Bz hm,cJ _ hm]
  have :i+1=m:=by omega
  rw[this,Nat.mod_self,cJ 0 W.pos,W.back];rfl
 unfold Next;rw[hlen];constructor
 . rintro⟨i,hi,h1,h2⟩;rw[cJ i hi] at h1;rw[ql i hi] at h2;cases h1;cases h2;exact W.side i
 rintro⟨ha,hS⟩;obtain⟨i,hi,rfl⟩:=W.cover ha hS;refine⟨i,hi,cJ i hi,?_⟩;rw[ql i hi,(W.side i).2.uniq W.H (W.side i).1 hS]
theorem Poly.back (A:bm p N) (F:uN p N n d) {L:List Nat} (h:Poly p N n d L) {a b:Nat} (hn:Next L a b):
 ∃n' d' L',uN p N n' d'/\Poly p N n' d' L'/\Next L' b a:=by
 obtain⟨ha,hS⟩:=h.QF.1 hn;obtain⟨n',d',F',ha',vR,hS',_⟩:=F.adj A ha hS;obtain⟨L',h'⟩:=Poly.exists A F'.fct;exact⟨n',d',L',F',h',h'.QF.2 ⟨vR,hS'⟩⟩
theorem Poly.aBt {L:List Nat} (h:Poly p N n d L) {k:Nat} (hk:k∈L):k∈nT p N n d:=by obtain⟨s,r,m,e,W,rfl⟩:=h.ex;simp only[Bq,Bn] at hk;obtain⟨i,hi,rfl⟩:=hk;exact(W.side i).1
def Sz (n:V) (a b:List V):Prop:=∀u∈a,∀v∈b,dot n u<=dot n v
def Sep (a b:List V) (n:V):Prop:=Sz n a b\/Sz n b a
theorem Sep.symm {a b:List V}:Sep a b n↔Sep b a n:=Or.comm
theorem Sep.neg {a b:List V}:Sep a b (aY.neg n)↔Sep a b n:=by
 unfold Sep Sz;simp only[BB];constructor
 . rintro(h|h)
   . exact .inr fun u hu v hv=>by have :=h v hv u hu;omega
   exact .inl fun u hu v hv=>by have :=h v hv u hu;omega
 rintro(h|h)
 . exact .inr fun u hu v hv=>by have :=h v hv u hu;omega
 exact .inl fun u hu v hv=>by have :=h v hv u hu;omega
end
theorem natAbs_tmod (a b:Int):(a.tmod b).natAbs=a.natAbs%b.natAbs:=by
 first
  |exact Int.natAbs_tmod a b
  |(cases a<;>cases b<;>simp only[Int.tmod,Int.natAbs_neg,Int.natAbs_natCast,Int.natAbs_negSucc,Int.ofNat_eq_natCast,Nat.succ_eq_add_one]<;>rfl)
theorem Xy (a b:Int):Int.gcd b (a.tmod b)=Int.gcd a b:=by unfold Int.gcd;rw[natAbs_tmod,Nat.gcd_comm a.natAbs,Nat.gcd_rec b.natAbs a.natAbs];rw[Nat.gcd_comm]
theorem fq (a:Int):(Int.gcd a 0:Int)=if a< -a then -a else a:=by simp only[Int.gcd_zero_right];split<;>omega
theorem TI (v:V):Int.gcd (Int.gcd v.x v.y) v.z=gE v:=by unfold gE Int.gcd;simp only[Int.natAbs_natCast];exact Nat.gcd_assoc _ _ _
theorem ZF {v:V} (h:gE v<=1):kX v=v:=by
 unfold kX
 rcases Dt 0 (gE v) with h0|h0
 . have :gE v=1:=by omega
   rw[this];simp
 have hz:gE v=0:=by omega
 have hv:v=V0:=by refine Ct fun hc=>?_;have :=wO hc;omega
 subst hv;rw[hz];simp[V0]
theorem Mb (v:V):kX v=⟨v.x.tdiv (gE v),v.y.tdiv (gE v),v.z.tdiv (gE v)⟩:=by have d1:(gE v:Int)∣v.x:=Ge ..;have d2:(gE v:Int)∣v.y:=Hh (Ek ..) (Ge ..);have d3:(gE v:Int)∣v.z:=Hh (Ek ..) (Ek ..);unfold kX;rw[Ij d1,Ij d2,Ij d3]
def fI (B:Nat) (v:V):Prop:=v.x.natAbs<=B/\v.y.natAbs<=B/\v.z.natAbs<=B
theorem dD {a b:Int} {A B:Nat} (ha:a.natAbs<=A) (hb:b.natAbs<=B):(a*b).natAbs<=A*B:=by rw[Int.natAbs_mul];exact Ch ha hb
theorem Xh {a b:V} {A B:Nat} (ha:fI A a) (hb:fI B b):(dot a b).natAbs<=3*(A*B):=by have h1:=dD ha.1 hb.1;have h2:=dD ha.2.1 hb.2.1;have h3:=dD ha.2.2 hb.2.2;unfold dot;omega
theorem tH {a b:V} {A B:Nat} (ha:fI A a) (hb:fI B b):fI (2*(A*B)) (aV a b):=by
 obtain⟨a1,a2,a3⟩:=ha;obtain⟨b1,b2,b3⟩:=hb;refine⟨?_,?_,?_⟩<;>simp only[aV]
 . have h1:=dD a2 b3;have h2:=dD a3 b2;omega
 . have h1:=dD a3 b1;have h2:=dD a1 b3;omega
 have h1:=dD a1 b2;have h2:=dD a2 b1;omega
theorem kZ {a b:V} {A B:Nat} (ha:fI A a) (hb:fI B b):fI (A+B) (sub a b):=by obtain⟨a1,a2,a3⟩:=ha;obtain⟨b1,b2,b3⟩:=hb;refine⟨?_,?_,?_⟩<;>simp only[sub]<;>omega
theorem xG {v:V} {B:Nat} (h:fI B v):fI B (kX v):=by
 rw[Mb]
 have key:∀a:Int,a.natAbs<=B->(a.tdiv (gE v)).natAbs<=B:=fun a ha=>by rw[Int.natAbs_tdiv];exact By (Ir _ _) ha
 exact⟨key _ h.1,key _ h.2.1,key _ h.2.2⟩
theorem KL {v:V} {B:Nat} (h:fI B v):fI B (neg v):=by obtain⟨a1,a2,a3⟩:=h;refine⟨?_,?_,?_⟩<;>simp only[neg]<;>omega
end Go.aY
namespace Go.Av
open Go Go.DL
def wC (l:List Nat):List AV:=l.map fun(n:Nat)=>AV.int .u32 n
theorem eM (l:List Nat):(wC l).length=l.length:=by simp[wC]
def zs:List Nat:=List.replicate 16 0
theorem aCt:[AV.int .u32 0,.int .u32 0,.int .u32 0,.int .u32 0,.int .u32 0,.int .u32 0,.int .u32 0,.int .u32 0,.int .u32 0,.int .u32 0,.int .u32 0,.int .u32 0,.int .u32 0,.int .u32 0,.int .u32 0,.int .u32 0]=wC zs:=rfl
def RN (l:List Nat):Prop:=l.length=16/\∀d∈l,d<W
theorem RN.zs:RN zs:=⟨rfl,fun d hd=>by rw[List.eq_of_mem_replicate hd];decide⟩
theorem RN.aZ (n:Nat):RN (aZ 16 n):=⟨fC _ _,KA⟩
theorem mv {l:List Nat} {n:Nat} (h:l.length<=n):(wC l).take n=wC l:=Bl (by rw[eM];exact h)
theorem mr {l:List Nat} {n:Nat} (h:l.length<=n):(wC l).drop n=[]:=Et (by rw[eM];exact h)
theorem Ub {l:List Nat} {i:Nat} (h:i<l.length):(wC l).getD i aC=.int .u32 (l.getD i 0):=by unfold wC;rw[Ck,Ck,Cj,Ac h];rfl
theorem FB {l:List Nat} {i:Nat} (h:i<l.length) (x:Nat):eR (wC l) i [.int .u32 (x:Int)]=wC (l.set i x):=by unfold eR wC;rw[List.map_set,List.set_eq_take_append_cons_drop,if_pos (by simpa using h)];simp
theorem Lw:∀(a b:List Nat),a.length=b.length->cE (List.replicate a.length .i) (wC a) (wC b)=some (decide (a=b))
 |[],[],_=>rfl
 |[],y::b,h=>by simp at h
 |x::a,[],h=>by simp at h
 |x::a,y::b,h=>by have ih:=Lw a b (by simpa using h);simp only[wC,Be,Ak,Ep,cE,if_true] at ih ⊢;rw[ih];by_cases hx:x=y<;>by_cases Qx:a=b<;>simp[hx,Qx]<;>omega
theorem Lv {a b:List Nat} (ha:a.length=16) (hb:b.length=16):cE [.i,.i,.i,.i,.i,.i,.i,.i,.i,.i,.i,.i,.i,.i,.i,.i] (wC a) (wC b)=some (decide (a=b)):=by
 have :=Lw a b (by omega)
 rwa [ha] at this
def cI (z:Int):List AV:=.bool false::.bool (decide (z<0))::wC (aZ 16 z.natAbs)
def DS:List AV:=.bool true::.bool false::wC zs
def cO:Option Int->List AV
 |some z=>cI z
 |none=>DS
def norm (z:Int):Option Int:=if z.natAbs<W^16 then some z else none
def sg (neg:Bool) (n:Nat):Int:=if neg then -(n:Int) else n
def MK (b n:Bool) (l:List Nat):Bool:= !b&&(!n|| !decide (l=zs))
def Lf (b n:Bool) (l:List Nat):Option Int:=if MK b n l then some (sg n (zZ l)) else none
def lS (v:List AV) (x:Option Int):Prop:=∃b n l,RN l/\v=.bool b::.bool n::wC l/\x=Lf b n l
theorem Sb:zZ zs=0:=by decide
theorem KB:aZ 16 0=zs:=by decide
theorem UL {l:List Nat} (h:RN l):zZ l<W^16:=by
 have :=Nq l h.2
 rwa [h.1] at this
theorem EK {l:List Nat} (h:RN l):aZ 16 (zZ l)=l:=by
 have :=MS h.2
 rwa [h.1] at this
theorem wF {l:List Nat} (h:RN l):zZ l=0↔l=zs:=by
 constructor
 . intro e;rw[<-EK h,e,KB]
 rintro rfl;exact Sb
theorem xL (n:Bool) (m:Nat):(sg n m).natAbs=m:=by cases n<;>simp[sg]
theorem Mn {b n:Bool} {l:List Nat} {z:Int} (h:RN l) (e:Lf b n l=some z):b=false/\n=decide (z<0)/\l=aZ 16 z.natAbs/\z.natAbs<W^16:=by
 unfold Lf at e;split at e
 . rename_i hg;obtain rfl:=Aa e;simp only[MK,Aj,Cr,Dg,Co] at hg;refine⟨hg.1,?_,?_,?_⟩
   . cases n with
     |false=>simp[sg]
     |true=>
      have :zZ l≠0:=fun e=>by
       rcases hg.2 with h2|h2
       . cases h2
       exact h2 ((wF h).1 e)
      simp[sg];omega
   . rw[xL,EK h]
   rw[xL];exact UL h
 cases e
theorem lS.some {v:List AV} {z:Int} (h:lS v (some z)):v=cI z/\z.natAbs<W^16:=by obtain⟨b,n,l,hl,rfl,hv⟩:=h;obtain⟨rfl,rfl,rfl,h4⟩:=Mn hl hv.symm;exact⟨rfl,h4⟩
theorem Zq {z:Int} (h:z.natAbs<W^16):Lf false (decide (z<0)) (aZ 16 z.natAbs)=Option.some z:=by
 have :MK false (decide (z<0)) (aZ 16 z.natAbs)=true:=by
  simp only[MK,Ga,Cu,Dg,Cr,Co];by_cases hz:z<0
  . refine .inr fun e=>?_;have :=pV h;rw[e,Sb] at this;omega
  exact .inl hz
 unfold Lf;rw[if_pos this,pV h];congr 1;by_cases hz:z<0<;>simp[sg,hz]<;>omega
theorem lS.enc {z:Int} (h:z.natAbs<W^16):lS (cI z) (Option.some z):=⟨false,_,_,.aZ _,rfl,(Zq h).symm⟩
theorem lS.bad:lS DS none:=⟨true,false,zs,.zs,rfl,rfl⟩
theorem Vt {z x:Int} (h:norm z=Option.some x):x=z/\z.natAbs<W^16:=by
 unfold norm at h;split at h
 . rename_i hz;exact⟨(Aa h).symm,hz⟩
 cases h
theorem lS.norm (z:Int):lS (cO (Av.norm z)) (Av.norm z):=by
 cases h:Av.norm z with
 |none=>exact .bad
 |some x=>exact .enc (by obtain⟨rfl,h2⟩:=Vt h;exact h2)
theorem PZ:∀l,bN (wC l)=true
 |[]=>rfl
 |x::l=>by simp only[wC,Be,bN,AV.free,Cu];exact PZ l
theorem sf:(∀l,bN (wC l)=true)/\(∀b,(AV.bool b).free=true)/\(∀k n,(AV.int k n).free=true)/\(∀s,(AV.str s).free=true)/\(∀cs,(AV.agg cs).free=bN cs)/\(∀cs,(AV.eZ cs).free=bN cs)/\
 (∀sz els,(AV.bH 1 sz els).free=dS els)/\(∀sz els,(AV.bH 0 sz els).free=dS els)/\(∀x r,bN (x::r)=(x.free&&bN r))/\(bN []=true)/\(∀x r,dS (x::r)=(bN x&&dS r))/\(dS []=true)/\(∀b,(b&&true)=b)/\(∀b,(true&&b)=b)/\
 AV.aF.free=true/\AV.zX.free=true/\AV.lZ.free=true:=
 ⟨PZ,fun _=>by simp only[AV.free],fun _ _=>by simp only[AV.free],fun _=>by simp only[AV.free],fun _=>by simp only[AV.free],fun _=>by simp only[AV.free],fun _ _=>by simp[AV.free],fun _ _=>by simp[AV.free],fun _ _=>by simp only[bN],by simp only[bN],fun _ _=>by simp only[dS],by simp only[dS],Gj,Cu,by simp only[AV.free],by simp only[AV.free],by simp only[AV.free]⟩
theorem qR (z:Int):bN (cI z)=true:=by simp only[cI,sf]
theorem Tj (x:Option Int):bN (cO x)=true:=by cases x<;>simp only[cO,cI,DS,sf]
theorem sfI:bN DS=true/\(∀z,bN (cI z)=true)/\∀x,bN (cO x)=true:=⟨Tj none,qR,Tj⟩
theorem jS {α:Type} {f:α->List AV} (h:∀x,bN (f x)=true):∀l:List α,dS (l.map f)=true
 |[]=>by simp only[Ci,dS]
 |x::l=>by simp only[Be,dS,h,jS h l,Cx]
theorem aQ (k:IntKind) (n:Nat):asNat (.int k (n:Int))=some n:=by simp[asNat]
theorem TT:(∀k,asNat (.int k 0)=some 0)/\(∀k,asNat (.int k 1)=some 1)/\(∀k,asNat (.int k 2)=some 2)/\(∀k,asNat (.int k 3)=some 3):=⟨fun _=>rfl,fun _=>rfl,fun _=>rfl,fun _=>rfl⟩
theorem sP {α:Type} {f:α->List AV} {l:List α} {i:Nat} (h:i<l.length):(l.map f).getD i []=f l[i]:=by simp[List.getD,h]
theorem Zi {α:Type} {p:α->Bool} {l:List α} {i:Nat} (h:i<l.length) (ht:(l.take i).all p=true):(l.take (i+1)).all p=p l[i]:=by rw[Bv,List.all_append,ht];simp[h]
structure uX where
 b:Bool
 n:Bool
 l:List Nat
 hl:RN l
def uX.cells (r:uX):List AV:=.bool r.b::.bool r.n::wC r.l
def uX.SB (r:uX):Bool:=MK r.b r.n r.l
theorem Vb (r:uX):bN r.cells=true:=by simp only[uX.cells,sf]
theorem iZ {a i:Nat} (h:i<16):(wC (aZ 16 a)).getD i aC=.int .u32 (bG a i):=by rw[Ub (by rw[fC];exact h),tW h]
def DT (a b:Nat):Int:=if a<b then -1 else if b<a then 1 else 0
theorem ee {a b k:Nat} (h:a / W^(k+1)=b / W^(k+1)) (hk:bG a k≠bG b k):DT a b=DT (bG a k) (bG b k):=by
 unfold DT
 rcases Nat.lt_or_gt_of_ne hk with hc|hc
 . have :=KF h hc;rw[if_pos this,if_pos hc]
 have :=KF h.symm hc;rw[if_neg (by omega),if_pos this,if_neg (by omega),if_pos hc]
def Nw (i:Nat) (l:List Nat):List Nat:=l.take i++List.replicate (l.length -i) 0
theorem tY {i:Nat} {l:List Nat}:(Nw i l).length=l.length:=by simp[Nw];omega
theorem ZD (l:List Nat):Nw 0 l=List.replicate l.length 0:=by simp[Nw]
theorem k6 (l:List Nat):Nw l.length l=l:=by simp[Nw]
theorem k7 {i:Nat} {l:List Nat} (h:i<l.length):(Nw i l).set i (l.getD i 0)=Nw (i+1) l:=by
 refine Fk (by simp[tY]) fun k h1 h2=>?_;have hk:k<l.length:=by rw[tY] at h2;exact h2
 rw[List.getElem_set];simp only[Nw,List.getElem_append,Cb,List.getElem_take,List.getElem_replicate];split
 . rename_i e;subst e;rw[dif_pos (by omega)];simp[List.getD,h]
 rename_i e
 split<;>split<;>first|rfl|omega
theorem Ka (n:Nat):Nw 0 (aZ 16 n)=zs:=by rw[ZD,fC];rfl
theorem MZ (n:Nat):Nw 16 (aZ 16 n)=aZ 16 n:=by
 have :=k6 (aZ 16 n)
 rwa [fC] at this
theorem CM (i n:Nat):(wC (Nw i (aZ 16 n))).length=16:=by rw[eM,tY,fC]
theorem WC {i n:Nat} (h:i<16) {x:Int} (hx:x=(bG n i:Nat)):eR (wC (Nw i (aZ 16 n))) i [.int .u32 x]=wC (Nw (i+1) (aZ 16 n)):=by rw[hx,FB (by rw[tY,fC];exact h),<-k7 (by rw[fC];exact h),tW h]
theorem KZ {i n:Nat} (h:i<16) {x:Int} (hx:x=(bG n i:Nat)):(wC (Nw i (aZ 16 n))).take i++[AV.int .u32 x]++(wC (Nw i (aZ 16 n))).drop (i+1)=wC (Nw (i+1) (aZ 16 n)):=WC h hx
theorem TM (u:Nat):IntKind.u32.wrap (u:Int)=((u%W:Nat):Int):=by simp[IntKind.wrap,IntKind.bits,IntKind.signed,W]
theorem pD {x:Int} {u:Nat} (h:u<2^64) (e:x=u\/x=u -2^64\/x=u+2^64):IntKind.u64.wrap x=u:=by simp only[IntKind.wrap,IntKind.bits,IntKind.signed];simp;omega
theorem JR (u:Nat):(u:Int).fdiv (2^min (Int.toNat 32) IntKind.u64.bits)=((u / W:Nat):Int):=by show(u:Int).fdiv (2^32)=_;rw[Du _ (by decide)];rfl
def RU:Option Int->Option Int->Option Int
 |some x,some y=>norm (x+y)
 |_,_=>none
def SY:Option Int->Option Int
 |some x=>some (-x)
 |none=>none
theorem lS.raw {v:List AV} {x:Option Int} (h:lS v x):∃r:uX,v=r.cells/\x=Lf r.b r.n r.l/\r.SB=x.isSome:=by obtain⟨b,n,l,hl,rfl,rfl⟩:=h;refine⟨⟨b,n,l,hl⟩,rfl,rfl,?_⟩;simp only[uX.SB,Lf];split<;>rename_i h<;>simp[h]
theorem lS.len {v:List AV} {x:Option Int} (h:lS v x):v.length=18:=by obtain⟨b,n,l,hl,rfl,rfl⟩:=h;simp[eM,hl.1]
theorem lS.free {v:List AV} {x:Option Int} (h:lS v x):bN v=true:=by obtain⟨b,n,l,hl,rfl,rfl⟩:=h;simp only[sf]
theorem kJ (z:Int):(cI z).length=18:=by simp[cI,eM,fC]
theorem RX (x:Option Int):(cO x).length=18:=by
 cases x
 . simp[cO,DS,eM,zs]
 exact kJ _
theorem oL {cs:List AV} {n:Nat} (h:cs.length=n):cs.length=n/\cs.take n=cs/\cs.drop n=[]:=⟨h,Bl (by omega),Et (by omega)⟩
theorem cOl:(∀x,(cO x).length=18)/\(∀x,(cO x).take 18=cO x)/\(∀x,(cO x).drop 18=[])/\(∀x,(cI x).length=18)/\(∀x,(cI x).take 18=cI x)/\(∀x,(cI x).drop 18=[]):=
 ⟨RX,fun x=>(oL (RX x)).2.1,fun x=>(oL (RX x)).2.2,kJ,fun x=>(oL (kJ x)).2.1,fun x=>(oL (kJ x)).2.2⟩
theorem lS.add {x y:Option Int}:lS (cO (RU x y)) (RU x y):=by cases x<;>cases y<;>first|exact .norm _|exact .bad
theorem lS.neg {x:Option Int} {v:List AV} (h:lS v x):lS (cO (SY x)) (SY x):=by
 cases x with
 |none=>exact .bad
 |some z=>exact .enc (by have :=h.some.2;rwa [Int.natAbs_neg])
def SX:Option Int->Option Int->Option Int
 |some x,some y=>norm (x*y)
 |_,_=>none
def smO (x y:Nat->Option Int):Nat->Option Int
 |0=>some 0
 |i+1=>RU (smO x y i) (SX (x i) (y i))
theorem lS.mul {x y:Option Int}:lS (cO (SX x y)) (SX x y):=by cases x<;>cases y<;>first|exact .norm _|exact .bad
theorem lS.sm {x y:Nat->Option Int}:∀i,lS (cO (smO x y i)) (smO x y i)
 |0=>.enc (by decide)
 |i+1=>.add
theorem lS.fit {v:List AV} {z:Int} (h:lS v (Option.some z)):z.natAbs<W^16:=h.some.2
theorem iL {l:List Nat} (h:RN l):(wC l).length=16/\l.length=16/\(wC l).take 16=wC l/\(wC l).drop 16=[]/\cE [.i,.i,.i,.i,.i,.i,.i,.i,.i,.i,.i,.i,.i,.i,.i,.i] (wC l) (wC zs)=some (decide (l=zs)):=
 ⟨by rw[eM,h.1],h.1,mv (by rw[h.1];omega),mr (by rw[h.1];omega),Lv h.1 rfl⟩
theorem iz:(wC zs).length=16/\(wC zs).take 16=wC zs/\(wC zs).drop 16=[]:=⟨(iL .zs).1,(iL .zs).2.2.1,(iL .zs).2.2.2.1⟩
def c3 (c:Nat->List AV):List AV:=c 0++(c 1++c 2)
def _root_.Go.aY.V.at (v:aY.V) (i:Nat):Int:=match i with
 |0=>v.x
 |1=>v.y
 |_=>v.z
def iB (v:aY.V):List AV:=[.int .i64 v.x,.int .i64 v.y,.int .i64 v.z]
theorem bR (v:aY.V):(iB v).length=3:=rfl
theorem tT (v:aY.V) {i:Nat} (hi:i<3):(iB v).getD i aC=.int .i64 (v.at i):=by
 match i,hi with
 |0,_=>rfl
 |1,_=>rfl
 |2,_=>rfl
theorem gZ (v:aY.V):bN (iB v)=true:=by simp only[iB,sf]
end Go.Av
namespace Go.Av
open Go
section
section
variable {P:Program} {g:aT} {n:Nat} {r:List aN} {f:cQ} {ds:List eX} {H:aA} {Q:FQ}
theorem FE {d m:Nat} {x:Arg} {es:List (AV×AV)} (hd:d<n) (hx:jD g f x=.map m) (hm:H.get m=some (.map es))
 (h:∀bs c mb,bs.length=es.length->bs.Nodup->bM P g n r (iA f d (.ref H.next 0)) ds ((H.set m (.pQ es bs c mb)).alloc (.iter m mb c [])) Q):
 bM P g n (⟨some d,.rF x,none⟩::r) f ds H Q:=by
 have :∀v,eF n f (some d) v=iA f d v:=fun v=>by simp[eF,hd]
 unfold bM;simp only[eJ,if_true,this];exact⟨m,es,hx,hm,h⟩
theorem IM {d it m mb c:Nat} {x:Arg} {es:List (AV×AV)} {seen bs:List Nat} (hd:d<n) (hx:jD g f x=.ref it 0) (hi:H.get it=some (.iter m mb c seen)) (hm:H.get m=some (.pQ es bs c mb))
 (h0:(∀b∈bs,b∈seen)->bM P g n r (iA f d (.eZ [.bool false])) ds H Q)
 (h1:∀j,j<bs.length->bs.getD j 0∉seen->bM P g n r (iA f d (.eZ [.bool true,(es.getD j (aC,aC)).1,(es.getD j (aC,aC)).2])) ds (H.set it (.iter m mb c (seen++[bs.getD j 0]))) Q):
 bM P g n (⟨some d,.yE x,none⟩::r) f ds H Q:=by
 have :∀v,eF n f (some d) v=iA f d v:=fun v=>by simp[eF,hd]
 unfold bM;simp only[eJ,if_true,this];exact⟨it,m,mb,c,seen,es,bs,hx,hi,hm,h0,h1⟩
theorem Om {d it m mb c j:Nat} {x:Arg} {es:List (AV×AV)} {seen bs:List Nat} (hd:d<n) (hx:jD g f x=.ref it 0) (hi:H.get it=some (.iter m mb c (seen++[bs.getD j 0]))) (hm:H.get m=some (.pQ es bs c mb)) (hj:j<bs.length)
 (h:bM P g n r (iA f d (.eZ [(es.getD j (aC,aC)).1,(es.getD j (aC,aC)).2])) ds H Q):
 bM P g n (⟨some d,.tX x,none⟩::r) f ds H Q:=by
 have :∀v,eF n f (some d) v=iA f d v:=fun v=>by simp[eF,hd]
 unfold bM;simp only[eJ,if_true,this];exact⟨it,m,mb,c,seen,es,bs,j,hx,hi,hm,hj,h⟩
end
def eN (H:aA):Prop:=∀j,H.next<=j->H.get j=none
theorem eN.nil (n:Nat):eN ⟨n,.nil⟩:=fun _ _=>rfl
theorem eN.alloc {H:aA} (h:eN H) (o:dU):eN (H.alloc o):=fun j hj=>by simp only[aA.aR] at hj;rw[aA.aG,if_neg (by omega)];exact h j (by omega)
theorem eN.set {H:aA} (h:eN H) {id:Nat} (hi:id<H.next) (o:dU):eN (H.set id o):=fun j hj=>by simp only[aA.bD] at hj;rw[aA.aI,if_neg (by omega)];exact h j hj
theorem eN.at1 {H:aA} (h:eN H):mQ H 1=true:=by simp only[mQ,Cp,h _ (Ai _)];rfl
theorem eN.at2 {H:aA} (h:eN H):mQ H 2=true:=by simp only[mQ,Cp,h _ (Ai _),h (H.next+1) (by omega)];rfl
def uR (sz:Nat) (els:List (List AV)):AV:=if els=[] then .aF else .bH 0 sz els
theorem JE {sz:Nat}:∀{els:List (List AV)},(∀e∈els,e.length=sz)->eQ sz els.length els.flatten=els
 |[],_=>rfl
 |e::els,h=>by have he:=h e Aq;simp only[Ak,eQ,Bo];rw[Ef (by omega),Bl (by omega),Hi (by omega),Et (by omega),Cg,JE fun x hx=>h x (Ao _ hx)]
theorem lW {sz:Nat}:∀{els:List (List AV)},(∀e∈els,e.length=sz)->els.flatten.length=els.length*sz
 |[],_=>by simp
 |e::els,h=>by have he:=h e Aq;have :=lW fun x hx=>h x (Ao e hx);simp only[Bo,Ag,Ak,Ce,Fv];omega
theorem ZX {H2:aA} {id sz cap:Nat} {els:List (List AV)} {dH:Bool} (hg:H2.get id=some (.cells els.flatten dH)) (hu:∀e∈els,e.length=sz) (hf:dS els=true) (nw:Nat):
 fG H2 none nw 0 (.sl id sz 0 els.length cap)=some (.bH 0 sz els):=by
 have hc:H2.eB id=some els.flatten:=by simp[aA.eB,hg]
 have hl:Nat.ble (0+els.length*sz) els.flatten.length=true:=by rw[lW hu];simp
 simp only[fG,hY,hc,Ex,hl,jR hf,Cx,JE hu]
theorem vA {H:aA} {sz bytes:Nat} {ys:List (List AV)} (hy:ys.isEmpty=false) (hb:ys.length*bytes<=2^40):cV H sz bytes true .aF ys=some (.sl H.next sz 0 ys.length ys.length,H.alloc (.cells ys.flatten true)):=by simp[cV,hy,hb,iK]
theorem vB {H:aA} {id n sz bytes:Nat} {cs:List AV} {ys:List (List AV)} (hg:H.get id=some (.cells cs true)) (hc:cs.length=n*sz) (hy:ys.isEmpty=false) (hb:(n+ys.length)*bytes<=2^40) (hs:1<=sz):
 cV H sz bytes true (.sl id sz 0 n n) ys=some (.sl H.next sz 0 (n+ys.length) (n+ys.length),(H.set id .dead).alloc (.cells (cs++ys.flatten) true)):=by
 have hl:0<ys.length:=by cases ys with
  |nil=>simp at hy
  |cons _ _=>simp
 simp only[cV,hy,Ay,Bu,hg,hb,hs,and_self,if_true];rw[if_neg (by omega),if_neg (by simp[hc]),if_pos ⟨trivial,trivial,trivial,hc⟩]
def Has (H:aA) (sz:Nat) (v:AV) (els:List (List AV)):Prop:=v=.bH 1 sz els\/Own H sz v els
theorem Has.push {H:aA} {sz bytes:Nat} {v:AV} {els ys:List (List AV)} (h:Has H sz v els) (hy:ys.isEmpty=false) (hb:(els.length+ys.length)*bytes<=2^40):
 ∃H',cV H sz bytes false v ys=some (.bH (H.next+2) sz (els++ys),H')/\H'.next=H.next+1/\H'.get H.next=some .tok/\(∀id,id<H.next->H.get id≠some .tok->H'.get id=H.get id)/\(eN H->eN H'):=by
 have fresh:∀vM:List (List AV),cV H sz bytes false v ys=some (iK H false sz vM)->∃H',cV H sz bytes false v ys=some (.bH (H.next+2) sz vM,H')/\H'.next=H.next+1/\H'.get H.next=some .tok/\(∀id,id<H.next->H.get id≠some .tok->H'.get id=H.get id)/\(eN H->eN H'):=fun vM e=>⟨H.alloc .tok,e,by simp,by rw[aA.aG,if_pos rfl],fun id h1 _=>by rw[aA.aG,if_neg (by omega)],fun hf=>hf.alloc _⟩
 rcases h with rfl|⟨rfl,rfl⟩|⟨k,rfl,YO,hk⟩
 . exact fresh _ (by simp[cV,hy,hb])
 . simp only[Ar,Cc] at hb;exact fresh _ (by simp[cV,hy,hb])
 refine⟨(H.set k .dead).alloc .tok,by simp[cV,hy,hb,hk],by simp,by rw[aA.aG,aA.bD,if_pos rfl],fun id h1 h2=>?_,fun hf=>(hf.set YO _).alloc _⟩;rw[aA.aG,aA.bD,if_neg (by omega),aA.aI,if_neg];rintro rfl;exact h2 hk
theorem Has.shut {H2:aA} {sz:Nat} {v:AV} {els:List (List AV)} (h:Has H2 sz v els) (cF:els≠[]) (hl:v≠ .bH 1 sz els) (hf:dS els=true) (nw:Nat):fG H2 none nw 0 v=some (.bH 0 sz els):=by
 rcases h with rfl|⟨rfl,rfl⟩|⟨k,rfl,h1,h2⟩
 . exact absurd rfl hl
 . exact absurd rfl cF
 simp[fG,hY,hf,OI]
end
end Go.Av
