/-
  Part of the proof of statement 9
-/
import Derived.Test.YtogfcjbgeebfkaaGreatDoorA05
import Derived.Test.YtogfcjbgeebfkaaGreatDoorA01
import Derived.Shelf.SlSortCmp.NoneTotal
set_option linter.unusedVariables false
set_option linter.unusedSimpArgs false
set_option linter.unusedSectionVars false
namespace Go.Av
open Go
section
def eI(P:Program)(g:bL)(n:Nat)(pairs:List (Nat×Nat))(base:Nat):Nat->Nat->List bG->List (Nat×Nat)->List (Nat×aA×aA)->dD->aA->(dD->aA->Prop)->Prop
 |_,_,[],_,_,f,H,Q=>Q f H
 |i,k,r::rs,rd,ef,f,H,Q=>
  if lI f r=true then
  match r.op with
  |.call c azs=>∃v H',IH P g r f H v H'/\H.next<=H'.next/\(∀x∈rd,(x.1,i)∈pairs->H.get x.2=H'.get x.2)/\
    eI P g n pairs base (i+1) k rs rd ((i,H,H')::ef) (gK n f r.dst v) H' Q
  |.panic _|.nD _ _=>False
  |op=>
   if op.fresh then
    match CS (oG g f) op with
    |some (ob,val)=>(∀x∈ef,(i,x.1)∈pairs->x.2.1.get (base+k)=x.2.2.get (base+k))/\
     eI P g n pairs base (i+1) (k+1) rs ((i,base+k)::rd) ef (gK n f r.dst (val (base+k))) (H.set (base+k) ob) Q
    |none=>False
   else if op.rR then
    oD (dS (oG g f) H op) fun v H'=>H.next<=H'.next/\(∀x∈rd,(x.1,i)∈pairs->H.get x.2=H'.get x.2)/\
     eI P g n pairs base (i+1) k rs rd ((i,H,H')::ef) (gK n f r.dst v) H' Q
   else
    oD (dS (oG g f) H op) fun v H'=>H'=H/\(∀id,op.dL (oG g f)=some id->∀x∈ef,(i,x.1)∈pairs->x.2.1.get id=x.2.2.get id)/\
     eI P g n pairs base (i+1) k rs (match op.dL (oG g f) with|some id=>(i,id)::rd|none=>rd) ef (gK n f r.dst v) H Q
  else eI P g n pairs base (i+1) (if r.op.fresh then k+1 else k) rs rd ef (gK n f r.dst aB) H Q
section
variable {P:Program} {g:bL} {n:Nat} {pairs:List (Nat×Nat)} {base:Nat}
theorem rV:∀(rl:List bG) (i k:Nat) (rd:List (Nat×Nat)) (ef:List (Nat×aA×aA)) (f:dD) (H:aA) (Q:dD->aA->Prop),eI P g n pairs base i k rl rd ef f H Q->Zk P g n pairs base i k rl rd ef f H Q
 |[],i,k,rd,ef,f,H,Q,h=>h
 |r::rs,i,k,rd,ef,f,H,Q,h=>by
  unfold eI at h;unfold Zk;split at h
  . rename_i L;rw[if_pos L];split at h
    . rename_i c K b;obtain⟨v,H',O,Z,W,h4⟩:=h;rw[if_neg (by simp[b,eJ.fresh]),if_pos (by simp[b,eJ.rR])];exact⟨v,H',O,Z,W,rV rs _ _ _ _ _ _ _ h4⟩
    . exact h.elim
    . exact h.elim
    rename_i n1 n2 u
    have D:∀v H',dS (oG g f) H r.op=some (v,H')->IH P g r f H v H':=by
     intro v H' I;unfold IH;split
     . rename_i c K b;exact absurd b (n1 c K)
     . rename_i x b;exact absurd b (n2 x)
     . rename_i c K b;exact absurd b (u c K)
     exact I
    split at h
    . rename_i N;rw[if_pos N];split at h
      . rename_i T val S;exact⟨T,val,S,h.1,rV rs _ _ _ _ _ _ _ h.2⟩
      exact h.elim
    rename_i N;rw[if_neg N];unfold oD at h;split at h
    . rename_i B;rw[if_pos B];split at h
      . rename_i v H' I;exact⟨v,H',D v H' I,h.1,h.2.1,rV rs _ _ _ _ _ _ _ h.2.2⟩
      exact h.elim
    rename_i B;rw[if_neg B];split at h
    . rename_i v H' I;obtain⟨rfl,Z,W⟩:=h;exact⟨v,D v _ I,Z,rV rs _ _ _ _ _ _ _ W⟩
    exact h.elim
  rename_i L;rw[if_neg L];exact rV rs _ _ _ _ _ _ _ h
variable {ds:List gX} {Q:FQ} {f:dD} {H:aA}
theorem Wj{rl:List bG}(o:rl.countP (·.op.fresh)=0)(h:eI P g n pairs H.next 0 0 rl [] [] f H fun u H'=>Q .normal u ds H'):FC P g n (.draw rl pairs) f ds H Q:=by refine .inl ⟨by rw[o];rfl,?_⟩;rw[o];exact rV _ _ _ _ _ _ _ _ h
theorem aKt{rl:List bG}(c:Nat)(o:rl.countP (·.op.fresh)=c)(N:qV H c=true)(h:eI P g n pairs H.next 0 0 rl [] [] f {H with next:=H.next+c} fun u H'=>Q .normal u ds H'):FC P g n (.draw rl pairs) f ds H Q:=by refine .inl ⟨by grind,?_⟩;rw[o];exact rV _ _ _ _ _ _ _ _ h
theorem fT{rl:List bG}(c:Nat)(o:rl.countP (·.op.fresh)=c)(N:qV H c=true)
 (h:∀H1:aA,H1.next=H.next+c->(∀id,H1.get id=H.get id)->eI P g n pairs H.next 0 0 rl [] [] f H1 fun u H'=>Q .normal u ds H'):FC P g n (.draw rl pairs) f ds H Q:=
 aKt c o N (h _ rfl fun _=>rfl)
variable {i k:Nat} {rs:List bG} {rd:List (Nat×Nat)} {ef:List (Nat×aA×aA)} {R:dD->aA->Prop}
theorem kv:eI P g n pairs base i k [] rd ef f H R=R f H:=eH id id
theorem uh(d:Nat)(op:eJ)(m:op.plain=true)(N:op.fresh=false)(B:op.rR=false)(hd:d<n):
 eI P g n pairs base i k (⟨some d,op,none⟩::rs) rd ef f H R=oD (dS (oG g f) H op) fun v H'=>H'=H/\(∀id,op.dL (oG g f)=some id->∀x∈ef,(i,x.1)∈pairs->x.2.1.get id=x.2.2.get id)/\
       eI P g n pairs base (i+1) k rs (match op.dL (oG g f) with|some id=>(i,id)::rd|none=>rd) ef (kI f d v) H R:=by
 have :∀v,gK n f (some d) v=kI f d v:=fun v=>by grind[gK]
 conv=>lhs;unfold eI
 rw[if_pos (by rfl)]
 grind[eJ.fresh,eJ.rR,eJ.plain]
theorem ui(m:Nat)(a x:Arg):
 eI P g n pairs base i k (⟨none,.store m a x,none⟩::rs) rd ef f H R=oD (dS (oG g f) H (.store m a x)) fun v H'=>H.next<=H'.next/\(∀x∈rd,(x.1,i)∈pairs->H.get x.2=H'.get x.2)/\
       eI P g n pairs base (i+1) k rs rd ((i,H,H')::ef) f H' R:=by
 rfl
theorem ue(d:Nat)(z:List AV)(hd:d<n):
 eI P g n pairs base i k (⟨some d,.alloc z,none⟩::rs) rd ef f H R=((∀x∈ef,(i,x.1)∈pairs->x.2.1.get (base+k)=x.2.2.get (base+k))/\
       eI P g n pairs base (i+1) (k+1) rs ((i,base+k)::rd) ef (kI f d (.ref (base+k) 0)) (H.set (base+k) (.cells z false)) R):=by
 have :∀v,gK n f (some d) v=kI f d v:=fun v=>by grind[gK]
 conv=>lhs;unfold eI
 rw[if_pos (by rfl)]
 grind[eJ.fresh,CS]
theorem Zj(d:Nat)(sz bytes:Nat)(N:Bool)(x y:Arg)(hd:d<n):
 eI P g n pairs base i k (⟨some d,.append sz bytes N x y,none⟩::rs) rd ef f H R=oD (dS (oG g f) H (.append sz bytes N x y)) fun v H'=>H.next<=H'.next/\(∀x∈rd,(x.1,i)∈pairs->H.get x.2=H'.get x.2)/\
       eI P g n pairs base (i+1) k rs rd ((i,H,H')::ef) (kI f d v) H' R:=by
 have :∀v,gK n f (some d) v=kI f d v:=fun v=>by grind[gK]
 conv=>lhs;unfold eI
 rw[if_pos (by rfl)]
 grind[eJ.fresh,eJ.rR]
theorem DF{d:Nat}{fid:FuncId}{K:List Arg}{args:List AV}{v:AV}{H':aA}(hd:d<n)(I:K.map (oG g f)=args)(u:Sound P g fid args H (.ret v) H')(A:H.next<=H'.next)
 (V:∀x∈rd,(x.1,i)∈pairs->H.get x.2=H'.get x.2)
 (h:eI P g n pairs base (i+1) k rs rd ((i,H,H')::ef) (kI f d v) H' R):eI P g n pairs base i k (⟨some d,.call (.const (.func (.func fid) [] [])) K,none⟩::rs) rd ef f H R:=by
 have :∀v,gK n f (some d) v=kI f d v:=fun v=>by grind[gK]
 unfold eI;simp only[this];refine⟨v,H',?_,A,V,h⟩;exact⟨(fid,[],[]),rfl,by grind⟩
theorem SP(d:Option Nat)(x:Nat)(b:Bool)(op:eJ)(A B:Prop):gI (f x) b A B=if lI f ⟨d,op,some (x,b)⟩=true then A else B:=by grind[lI,gI]
theorem bDm(d x:Nat)(b:Bool)(op:eJ)(hd:d<n):
 eI P g n pairs base i k (⟨some d,op,some (x,b)⟩::rs) rd ef f H R=gI (f x) b (eI P g n pairs base i k (⟨some d,op,none⟩::rs) rd ef f H R) (eI P g n pairs base (i+1) (if op.fresh then k+1 else k) rs rd ef (kI f d aB) H R):=by
 have :∀v,gK n f (some d) v=kI f d v:=fun v=>by grind[gK]
 rw[SP (some d) x b op];by_cases L:lI f ⟨some d,op,some (x,b)⟩=true
 . rw[if_pos L]
   conv=>lhs;unfold eI
   conv=>rhs;unfold eI
   rw[if_pos L,if_pos (by rfl)];rfl
 conv=>lhs;unfold eI
 grind
theorem aX{u:dD}{rl:List bG}(h:f=u):eI P g n pairs base i k rl rd ef f H R=eI P g n pairs base i k rl rd ef u H R:=by rw[h]
end
theorem bRu(P:Program)(g:bL)(n:Nat):
 (∀(pairs:List (Nat×Nat)) (base i k:Nat) (rs:List bG) (rd:List (Nat×Nat)) (ef:List (Nat×aA×aA)) (f:dD) (H:aA) (R:dD->aA->Prop),eI P g n pairs base i k [] rd ef f H R=R f H)/\
 (∀(pairs:List (Nat×Nat)) (base i k:Nat) (rs:List bG) (rd:List (Nat×Nat)) (ef:List (Nat×aA×aA)) (f:dD) (H:aA) (R:dD->aA->Prop) (m:Nat) (a x:Arg),
   eI P g n pairs base i k (⟨none,.store m a x,none⟩::rs) rd ef f H R=oD (dS (oG g f) H (.store m a x)) fun v H'=>H.next<=H'.next/\(∀x∈rd,(x.1,i)∈pairs->H.get x.2=H'.get x.2)/\
       eI P g n pairs base (i+1) k rs rd ((i,H,H')::ef) f H' R)/\
 (∀(pairs:List (Nat×Nat)) (base i k:Nat) (rs:List bG) (rd:List (Nat×Nat)) (ef:List (Nat×aA×aA)) (f:dD) (H:aA) (R:dD->aA->Prop) (d:Nat) (z:List AV) (hd:d<n),
   eI P g n pairs base i k (⟨some d,.alloc z,none⟩::rs) rd ef f H R=((∀x∈ef,(i,x.1)∈pairs->x.2.1.get (base+k)=x.2.2.get (base+k))/\
       eI P g n pairs base (i+1) (k+1) rs ((i,base+k)::rd) ef (kI f d (.ref (base+k) 0)) (H.set (base+k) (.cells z false)) R))/\
 (∀(pairs:List (Nat×Nat)) (base i k:Nat) (rs:List bG) (rd:List (Nat×Nat)) (ef:List (Nat×aA×aA)) (f:dD) (H:aA) (R:dD->aA->Prop) (d sz bytes:Nat) (N:Bool) (x y:Arg) (hd:d<n),
   eI P g n pairs base i k (⟨some d,.append sz bytes N x y,none⟩::rs) rd ef f H R=oD (dS (oG g f) H (.append sz bytes N x y)) fun v H'=>H.next<=H'.next/\(∀x∈rd,(x.1,i)∈pairs->H.get x.2=H'.get x.2)/\
       eI P g n pairs base (i+1) k rs rd ((i,H,H')::ef) (kI f d v) H' R)/\
 (∀(pairs:List (Nat×Nat)) (base i k:Nat) (rs:List bG) (rd:List (Nat×Nat)) (ef:List (Nat×aA×aA)) (f:dD) (H:aA) (R:dD->aA->Prop) (d x:Nat) (b:Bool) (op:eJ) (hd:d<n),
   eI P g n pairs base i k (⟨some d,op,some (x,b)⟩::rs) rd ef f H R=gI (f x) b (eI P g n pairs base i k (⟨some d,op,none⟩::rs) rd ef f H R) (eI P g n pairs base (i+1) (if op.fresh then k+1 else k) rs rd ef (kI f d aB) H R)):=
 ⟨fun _ _ _ _ _ _ _ _ _ _=>kv,fun _ _ _ _ _ _ _ _ _ _ m a x=>ui m a x,
  fun _ _ _ _ _ _ _ _ _ _ d z hd=>ue d z hd,fun _ _ _ _ _ _ _ _ _ _ d sz bytes N x y hd=>Zj d sz bytes N x y hd,
  fun _ _ _ _ _ _ _ _ _ _ d x b op hd=>bDm d x b op hd⟩
def jm(id cmp ix nx:Nat)(N:Int)(B:bY):bY:=
 .block id (.loop (.seq (.ops [⟨some cmp,.bin .lss (.tmp ix) (.const (.int .i64 N)),none⟩]) (.seq (.cond (.tmp cmp) .skip (.exit id)) (.seq B
  (.ops [⟨some nx,.bin .add (.tmp ix) (.const (.int .i64 1)),none⟩,⟨some ix,.wE (.tmp nx),none⟩])))))
theorem uc{P:Program}{g:bL}{n:Nat}{id cmp ix nx:Nat}{B:bY}{f:dD}{ds:List gX}{H:aA}{Q:FQ}(J:Nat->dD->aA->Prop)(N:Nat){D:Int}(t:(N:Int)<2^63)
 (l:D=(N:Int))
 (M:cmp<n/\ix<n/\nx<n/\cmp≠ix/\nx≠ix)
 (O:f ix=.int .i64 0) (o:J 0 f H)
 (y:∀(i:Nat) (f:dD) (H:aA) (d:Nat) (v:AV),d=cmp\/d=nx\/d=ix->J i f H->J i (kI f d v) H)
 (body:∀(i:Nat) (f:dD) (H:aA),i<N->f ix=.int .i64 i->J i f H->
   FC P g n B f ds H (iP (fun u V H'=>V=ds/\u ix=.int .i64 i/\J (i+1) u H') (dV id Q)))
 (done:∀(f:dD) (H:aA),J N f H->Q .normal f ds H):FC P g n (jm id cmp ix nx D B) f ds H Q:=by
 subst l;obtain⟨A,Z,s3,x,U⟩:=M;refine aJ (UT (fun m u V H'=>V=ds/\∃i:Nat,i<=N/\m=N -i/\u ix=.int .i64 i/\J i u H') N ⟨rfl,0,Bk _,by omega,O,o⟩ ?_);rintro m b p H1 ⟨rfl,i,F,rfl,T,j⟩;refine aM fun K hK=>?_;rw[Mk,DG _ _ _ _ A];simp only[dS,jM,zQ,T,rX,if_true,Ct,bX,yZ,jD];apply hK;have a:=y i b H1 cmp (.bool (decide ((i:Int)<N))) (.inl rfl) j;refine aM fun K hK=>KO (decide ((i:Int)<N)) (by rw[jM,tS]) (fun q=>?_) (fun q=>?_)
 . apply hK;have r:i<N:=by grind
   refine aM fun K hK=>?_;have X:=body i _ H1 r (by grind[pX]) a;have mono:∀{c:bY} {f:dD} {ds:List gX} {H:aA} {Q C:FQ},(∀e f ds H,Q e f ds H->C e f ds H)->FC P g n c f ds H Q->FC P g n c f ds H C:=fun {c f ds H Q C} hq h=>lE hq h;refine mono (fun e s G w h=>?_) X
   cases e with
   |normal=>obtain⟨rfl,R,k⟩:=h;apply hK;rw[Mk,DG _ _ _ _ s3];have L:IntKind.i64.wrap ((i:Int)+1)=((i+1:Nat):Int):=(by grind[wrap_i64]);simp only[dS,jM,zQ,R,rX,if_true,Ct,bX];rw[KQ _ _ Z];simp only[dS,jM,bX,yZ,jD,tS,L];exact⟨N -(i+1),by omega,trivial,i+1,by omega,rfl,rfl,y _ _ _ _ _ (.inr (.inr rfl)) (y _ _ _ _ _ (.inr (.inl rfl)) k)⟩
   |_=>exact h
 grind[Ou,sL,sN]
class Pp (op:eJ):Prop where
 h:op.plain=true
 f:op.fresh=false
 e:op.rR=false
instance (x:Arg):Pp (.wE x):=⟨rfl,rfl,rfl⟩
instance (c a b:Arg):Pp (.pick c a b):=⟨rfl,rfl,rfl⟩
instance (z:List AV) (ps:List (Nat×Nat×Arg)):Pp (.build z ps):=⟨rfl,rfl,rfl⟩
instance (sz:Nat) (xs:List Arg):Pp (.Qs sz xs):=⟨rfl,rfl,rfl⟩
instance (agg:Bool) (m:Nat) (a:Arg):Pp (.load agg m a):=⟨rfl,rfl,rfl⟩
instance (x:Arg):Pp (.Qv x):=⟨rfl,rfl,rfl⟩
instance (o:BinOp) (x y:Arg):Pp (.bin o x y):=⟨rfl,rfl,rfl⟩
instance (neg:Bool) (x y:Arg):Pp (.eqb neg x y):=⟨rfl,rfl,rfl⟩
instance (neg:Bool) (sh:List Sk) (x y:Arg):Pp (.eqf neg sh x y):=⟨rfl,rfl,rfl⟩
instance (neg:Bool) (k:Nk) (lit:Bool) (x y:Arg):Pp (.eqn neg k lit x y):=⟨rfl,rfl,rfl⟩
instance (o:UnOp) (x:Arg):Pp (.un o x):=⟨rfl,rfl,rfl⟩
instance (k:IntKind) (x:Arg):Pp (.Pw k x):=⟨rfl,rfl,rfl⟩
instance (x:Arg):Pp (.HI x):=⟨rfl,rfl,rfl⟩
instance (m:Nat) (x:Arg):Pp (.jz m x):=⟨rfl,rfl,rfl⟩
instance (t:TypeId) (x:Arg):Pp (.h8 t x):=⟨rfl,rfl,rfl⟩
instance (fn:Fn) (a b:List Arg):Pp (.gq fn a b):=⟨rfl,rfl,rfl⟩
instance (x:Arg) (lo hi:Option Arg):Pp (.RZ x lo hi):=⟨rfl,rfl,rfl⟩
instance (sz:Nat) (x:Arg) (lo hi mx:Option Arg):Pp (.j9 sz x lo hi mx):=⟨rfl,rfl,rfl⟩
instance (m sz:Nat) (x:Arg) (lo hi mx:Option Arg):Pp (.HW m sz x lo hi mx):=⟨rfl,rfl,rfl⟩
instance (off:Nat) (x:Arg):Pp (.VA off x):=⟨rfl,rfl,rfl⟩
instance (arr:Option Nat) (sz:Nat) (x i:Arg):Pp (.VZ arr sz x i):=⟨rfl,rfl,rfl⟩
instance (m sz:Nat) (agg:Bool) (x i:Arg):Pp (.idx m sz agg x i):=⟨rfl,rfl,rfl⟩
instance (x i:Arg):Pp (.idxs x i):=⟨rfl,rfl,rfl⟩
instance (t:TypeId) (ok:Bool) (z:AV) (x:Arg):Pp (.ki t ok z x):=⟨rfl,rfl,rfl⟩
instance (x:Arg) (i:Nat):Pp (.QD x i):=⟨rfl,rfl,rfl⟩
instance (x:Arg):Pp (.lens x):=⟨rfl,rfl,rfl⟩
instance (x:Arg):Pp (.fh x):=⟨rfl,rfl,rfl⟩
instance (x y:Arg):Pp (.YP x y):=⟨rfl,rfl,rfl⟩
instance (x y:Arg):Pp (.YR x y):=⟨rfl,rfl,rfl⟩
instance (k:Sk) (z:AV) (ok:Bool) (x i:Arg):Pp (.lookup k z ok x i):=⟨rfl,rfl,rfl⟩
theorem bNa(P:Program)(g:bL)(n:Nat)(pairs:List (Nat×Nat))(base a k0:Nat)(rs:List bG)(rd:List (Nat×Nat))(ef:List (Nat×aA×aA))(f:dD)(H:aA)(R:dD->aA->Prop)(d:Nat)(op:eJ) [Pp op] (hd:d<n):
 eI P g n pairs base a k0 (⟨some d,op,none⟩::rs) rd ef f H R=oD (dS (oG g f) H op) fun v H'=>H'=H/\(∀id,op.dL (oG g f)=some id->∀x∈ef,(a,x.1)∈pairs->x.2.1.get id=x.2.2.get id)/\
     eI P g n pairs base (a+1) k0 rs (match op.dL (oG g f) with|some id=>(a,id)::rd|none=>rd) ef (kI f d v) H R:=
 uh d op Pp.h Pp.f Pp.e hd
end
section
section
variable {P:Program} {g:bL} {n:Nat}
theorem FD{Q:aA->Prop}:∀{ds:List gX} {H:aA},Ze P g ds H Q->∃G,Q G/\Ze P g ds H fun H'=>H'=G
 |[],H,h=>⟨H,h,rfl⟩
 |.call _ _::ds,H,h=>by obtain⟨H1,O,Z⟩:=h;obtain⟨G,q,W⟩:=FD Z;exact⟨G,q,H1,O,W⟩
 |.mark _::ds,H,h=>by obtain⟨O,Z⟩:=h;obtain⟨G,q,W⟩:=FD Z;exact⟨G,q,O,W⟩
theorem vG{Q C:aA->Prop}(D:∀H,Q H->C H):∀{ds:List gX} {H:aA},Ze P g ds H Q->Ze P g ds H C
 |[],H,h=>D H h
 |.call _ _::ds,H,h=>by obtain⟨H1,O,Z⟩:=h;exact⟨H1,O,vG D Z⟩
 |.mark _::ds,H,h=>⟨h.1,vG D h.2⟩
def aTu(P:Program)(g:bL)(rs:List KK)(R:Out->aA->Prop):FQ
 |.normal,f,ds,H|.ret,f,ds,H=>Ze P g ds H fun H1=>∃vs,uN f H1 rs=some vs/\R (.ret (nN vs)) H1
 |.panic v,f,ds,H=>match ds with
  |[]=>R (.MD v) H
  |.mark _::_=>False
  |.call df azs::ds=>∃H1,IL P g df azs (some v) H H1/\Ze P g ds H1 fun w=>∃vs,uN f w rs=some vs/\R (.ret (nN vs)) w
 |.exit _,_,_,_=>False
theorem aKr{F:DC}{args:List AV}(I:args.length<=F.ntmps){H:aA}{R:Out->aA->Prop}(h:FC P g F.ntmps F.body (fD args) [] H (aTu P g F.results R)):
 AC P g F.body (sK F args) [] H (aTv P g F R):=by
 obtain⟨X,U⟩:=AN I;unfold sK;rw[<-U];refine eW (fun e s ds H D=>?_) (vI F.body _ [] H _ X h);obtain⟨f,rfl,Y,D⟩:=D
 have conv:∀H1,(∃vs,uN f H1 F.results=some vs/\R (.ret (nN vs)) H1)->∃vs,rI (LF F.ntmps f) H1 F.results=some vs/\R (.ret (nN vs)) H1:=fun H1 ⟨vs,O,Z⟩=>⟨vs,by grind[MJ],Z⟩
 cases e with
 |normal=>exact vG conv D
 |ret=>exact vG conv D
 |panic v=>
  cases ds with
  |nil=>exact D
  |cons d ds=>
   cases d with
   |mark _=>assumption
   |call _ _=>obtain⟨H1,O,Z⟩:=D;exact⟨H1,O,vG conv Z⟩
 |exit id=>exact D
theorem AZ{N:Bool}(p:Fit P g){f:FuncId}{F:DC}(L:iM P g N f F){args:List AV}(I:args.length<=F.ntmps){H:aA}{R:Out->aA->Prop}
 (h:FC P g F.ntmps F.body (fD args) [] H (aTu P g F.results R)) (a:F.body.dH=true:=by first|rfl|decide) (c:F.body.tight=true:=by first|rfl|decide):∃out H',R out H'/\Sound P g f args H out H':=by
 obtain⟨l,s,ds,H',q,n⟩:=KI a (aKr I h)
 replace n:AC P g F.body (sK F args) [] H (fun e A d h=>e=l/\A=s/\d=ds/\h=H'):=eW (fun e A d h X=>⟨X.1,X.2.1.resolve_right fun h=>(by grind),X.2.2⟩) n
 have norm:(l=.normal\/l=.ret)->(Ze P g ds H' fun H1=>∃vs,rI s H1 F.results=some vs/\R (.ret (nN vs)) H1)->∃out H',R out H'/\Sound P g f args H out H':=by
  intro b q;obtain⟨G,⟨vs,O,Z⟩,W⟩:=FD q;refine⟨_,G,Z,qP p L (eW (fun e A d X B=>?_) n)⟩;obtain⟨rfl,rfl,rfl,rfl⟩:=B;have :Ze P g d X fun H1=>∃U,rI A H1 F.results=some U/\(Out.ret (nN U)=Out.ret (nN vs)/\H1=G):=vG (fun H1 e=>by grind) W
  rcases b with rfl|rfl<;>exact this
 cases l with
 |exit id=>exact q.elim
 |normal=>exact norm (.inl rfl) q
 |ret=>exact norm (.inr rfl) q
 |panic v=>
  cases ds with
  |nil=>refine⟨.MD v,H',q,qP p L (eW (fun e A d X B=>?_) n)⟩;obtain⟨rfl,rfl,rfl,rfl⟩:=B;exact⟨rfl,rfl⟩
  |cons d ds=>
   cases d with
   |mark _=>exact q.elim
   |call _ _=>obtain⟨H1,O,Z⟩:=q;obtain⟨G,⟨vs,q1,q2⟩,q3⟩:=FD Z;refine⟨.ret (nN vs),G,q2,qP p L (eW (fun e A S X B=>?_) n)⟩;obtain⟨rfl,rfl,rfl,rfl⟩:=B;exact⟨H1,O,vG (fun H1 e=>by grind) q3⟩
theorem Uf{N:Bool}(p:Fit P g){f:FuncId}{A:Option Nat}{rl:List bG}{z:bY}(L:aCn P g N f n A rl z)
 {args:List AV} (I:args.length<=n) {a:Option AV} {H H':aA}
 (h:bT P g n rl (gK n (fD args) A (a.getD .rE)) [] H (iP (fun f ds H=>FC P g n z f ds H fun e f ds H=>(match e with|.normal=>True|.ret=>True|_=>False)/\ds=[]/\H=H') fun _ _ _ _=>False)):
 IL P g f args a H H':=by
 obtain⟨X,U⟩:=AN I;refine Ue p L ?_;rw[<-U,<-qM];refine Mi (fun e s ds H D=>?_) (kW rl _ [] H _ (X.put _ _) h);obtain⟨f,rfl,Y,D⟩:=D
 cases e with
 |normal=>refine eW (fun e s ds H D=>?_) (vI z f ds H _ Y D);obtain⟨f,rfl,_,D⟩:=D;omega
 |_=>exact D.elim
variable {r:List bG} {f:dD} {ds:List gX} {H:aA} {Q:FQ}
end
end
section
section
variable {P:Program} {v:Nat->Option (List AV)} {l l':Mm->Loop->Prop}
theorem zH:bO ⟨v,l⟩=bO ⟨v,l'⟩:=by rfl
theorem Pk:pL ⟨v,l⟩=pL ⟨v,l'⟩:=by
 funext x
 induction x with
 |nil=>rfl
 |cons a r z=>simp only[pL];rw[z,zH (l':=l')]
theorem jb(f:Nat->Option (Nat×Nat)):yN ⟨v,l⟩ f=yN ⟨v,l'⟩ f:=by
 funext x
 induction x with
 |nil=>rfl
 |cons a r z=>simp only[yN];rw[z,zH (l':=l')]
theorem aGs:∀(n:Nat) (x),Lq ⟨v,l⟩ n x=Lq ⟨v,l'⟩ n x:=by
 intro n x
 induction x generalizing n with
 |nil=>rfl
 |cons a r z=>simp only[Lq];rw[z,zH (l':=l')]
theorem ai(op:BinOp)(t:TypeId)(x y:Operand):uA P ⟨v,l⟩ op t x y=uA P ⟨v,l'⟩ op t x y:=by rfl
theorem XF(a b:TypeId)(x:Operand):pH P ⟨v,l⟩ a b x=pH P ⟨v,l'⟩ a b x:=by rfl
theorem Un(t:TypeId)(x:Operand)(a b c:Option Operand):mT P ⟨v,l⟩ t x a b c=mT P ⟨v,l'⟩ t x a b c:=by rfl
theorem au(c:Call):uB P ⟨v,l⟩ c=uB P ⟨v,l'⟩ c:=by rfl
theorem SF(N:Bool)(c:Call):jX P ⟨v,l⟩ N c=jX P ⟨v,l'⟩ N c:=by rfl
theorem XE(N:Bool)(c:Call):pG P ⟨v,l⟩ N c=pG P ⟨v,l'⟩ N c:=by unfold pG;rw[zH (l':=l'),Pk (l':=l'),au (l':=l'),SF (l':=l')]
theorem aMv(N:Bool)(o:Oper):Px P ⟨v,l⟩ N o=Px P ⟨v,l'⟩ N o:=by unfold Px;simp only[zH (v:=v) (l:=l) (l':=l'),Pk (v:=v) (l:=l) (l':=l'),jb (v:=v) (l:=l) (l':=l'),aGs (v:=v) (l:=l) (l':=l'),ai (v:=v) (l:=l) (l':=l'),XF (v:=v) (l:=l) (l':=l'),Un (v:=v) (l:=l) (l':=l'),XE (v:=v) (l:=l) (l':=l')]
theorem xf(N:Bool)(m:Array Oper)(o:Oper):Nt P ⟨v,l⟩ N m o=Nt P ⟨v,l'⟩ N m o:=by grind[Nt,aMv]
theorem a8(N:Bool)(m:Array Oper):∀x,nC P ⟨v,l⟩ N m x=nC P ⟨v,l'⟩ N m x:=by
 intro x
 induction x with
 |nil=>rfl
 |cons a r z=>grind[nC,xf]
theorem ux(N:Bool)(c:Code):fO P ⟨v,l⟩ N c=fO P ⟨v,l'⟩ N c:=by
 induction c with
 |region id m d=>cases d<;>simp only[fO]<;>rw[a8 (l':=l')]
 |seq a b R r=>grind[fO]
 |cond c a b R r=>simp only[fO,R,r];rfl
 |block id a z=>grind[fO]
 |loop a z=>grind[fO]
 |scope a z=>assumption
 |rangeFunc c ps x y f e=>simp only[fO,f,e];rfl
 |_=>rfl
def Ry(P:Program)(v:Nat->Option (List AV)):bL:=
 ⟨v,fun k r=>r.params.toList=k.ps/\∃N,fO P ⟨v,fun _ _=>False⟩ N r.assign=some k.Nr/\fO P ⟨v,fun _ _=>False⟩ N r.body=some k.body/\k.Nr.nd=true/\k.body.nd=true⟩
theorem qc(p:P.follows .mixedOrders=true):Fit P (Ry P v) where
 mixed:=p
 lok:=fun k r=>by grind[Ry,ux]
def AG(P:Program)(g:bL)(N:Bool)(fn:Go.Func):Option DC:=
 match fn.body with
 |none=>none
 |some c=>match fO P g N c,xE P fn.results.toList with
  |some b,some r=>some ⟨fn.ntmps,r,b⟩
  |_,_=>none
def fM(P:Program)(g:bL)(N:Bool):Code->Option bY
 |.skip=>some .skip
 |.label _=>some .skip
 |.region _ ops false=>(nC P g N ops ops.toList).map .ops
 |.region _ ops true=>(nC P g N ops ops.toList).map fun rl=>.draw rl (rF rl (Region.before ops).toList)
 |.seq a b=>match fM P g N a,fM P g N b with
  |some x,some y=>some (.seq x y)
  |_,_=>none
 |.cond c a b=>match bO g c,fM P g N a,fM P g N b with
  |some z,some x,some y=>some (.cond z x y)
  |_,_,_=>none
 |.block id a=>(fM P g N a).map (.block id)
 |.loop a=>(fM P g N a).map .loop
 |.scope a=>fM P g N a
 |.exit id=>some (.exit id)
 |.ret=>some .ret
 |.rangeFunc c ps x y=>match bO g c,fM P g N x,fM P g N y with
  |some c',some x',some y'=>some (.pT c' ps.toList x' y')
  |_,_,_=>none
 |_=>none
theorem uw{P:Program}{g:bL}{N:Bool}:∀{c:Code} {b:bY},fO P g N c=some b->fM P g N c=some b:=by
 intro c
 induction c with
 |region k m d=>
  intro b h
  cases d with
  |false=>exact h
  |true=>grind[fO,fM]
 |seq a b R j=>grind[fO,fM]
 |cond c a b R j=>grind[fO,fM]
 |block i a R=>simp_all[fO,fM]
 |loop a R=>simp_all[fO,fM]
 |scope a R=>assumption
 |rangeFunc c ps x y f e=>grind[fO,fM]
 |_=>intro r h;assumption
def mkX(P:Program)(g:bL)(N:Bool)(fn:Go.Func):Option DC:=
 match fn.body with
 |none=>none
 |some c=>match fM P g N c,xE P fn.results.toList with
  |some b,some r=>some ⟨fn.ntmps,r,b⟩
  |_,_=>none
theorem aHb{P:Program}{g:bL}{N:Bool}{fn:Go.Func}{F:DC}(h:(AG P g N fn).isSome=true)(C:mkX P g N fn=some F):AG P g N fn=some F:=by grind[AG,mkX,uw]
def sqO:Option bY->Option bY->Option bY
 |some x,some y=>some (.seq x y)
 |_,_=>none
def cdO(c:Option Arg):Option bY->Option bY->Option bY
 |some x,some y=>match c with
  |some z=>some (.cond z x y)
  |none=>none
 |_,_=>none
theorem ax(P:Program)(g:bL)(N:Bool):(∀a b,fM P g N (.seq a b)=sqO (fM P g N a) (fM P g N b))/\(∀c a b,fM P g N (.cond c a b)=cdO (bO g c) (fM P g N a) (fM P g N b))/\
 (∀i a,fM P g N (.block i a)=(fM P g N a).map (.block i))/\(∀a,fM P g N (.loop a)=(fM P g N a).map .loop)/\(∀a,fM P g N (.scope a)=fM P g N a)/\
 (∀k m,fM P g N (.region k m false)=(nC P g N m m.toList).map .ops)/\(∀k m,fM P g N (.region k m true)=(nC P g N m m.toList).map fun rl=>.draw rl (rF rl (Region.before m).toList)):=by
 refine⟨fun a b=>?_,fun c a b=>?_,fun i a=>rfl,fun a=>rfl,fun a=>rfl,fun k m=>rfl,fun k m=>rfl⟩
 . rfl
 conv=>lhs;unfold fM
 unfold cdO
 grind
theorem dW {g:bL} {mu:Bool} {f:FuncId} {fn:Go.Func} {F:DC} (h1:P.funcs[f]?=some fn) (h2:(fn.name== "runtime.NumGoroutine")=false) (h:AG P g mu fn=some F):iM P g mu f F:=by
 unfold AG at h;split at h
 . grind
 rename_i c hc;split at h
 . rename_i b r hb hr;cases h;exact⟨fn,c,h1,hc,h2,hb,rfl,hr⟩
 grind
end
end
section
def bG.tK(o:bG):Bool:=match o.op with|.nD _ _=>false|_=>true
def bY.tK:bY->Bool
 |.ops rl=>rl.all bG.tK
 |.seq a b|.cond _ a b=>a.tK&&b.tK
 |.block _ a|.loop a=>a.tK
 |.pT _ _ _ _=>false
 |_=>true
def bY.wr:bY->List Nat
 |.ops rl|.draw rl _=>rl.filterMap (·.dst)
 |.seq a b|.cond _ a b=>a.wr++b.wr
 |.block _ a|.loop a=>a.wr
 |_=>[]
def wZ(t:Nat):List Nat->Bool
 |[]=>false
 |x::l=>Nat.beq t x||wZ t l
theorem YQ{t:Nat}:∀{l:List Nat},wZ t l=true↔t∈l
 |[]=>by simp[wZ]
 |x::l=>by simp[wZ,YQ]
theorem rD{t:Nat}{l:List Nat}:wZ t l=false↔t∉l:=by grind[YQ]
def lK(W:List Nat)(f0 f:dD):Prop:=∀t,wZ t W=false->f t=f0 t
theorem lK.aIw{W:List Nat}{f:dD}:lK W f f:=fun _ _=>rfl
def Kp(W:List Nat)(f0:dD)(nd:Bool)(ds0:List gX)(f:dD)(ds:List gX):Prop:=lK W f0 f/\(nd=true->ds=ds0)
theorem lK.put{W:List Nat}{f0 f:dD}{n:Nat}(h:lK W f0 f)(A:Option Nat)(hd:∀d,A=some d->d∈W)(v:AV):lK W f0 (gK n f A v):=by
 cases A with
 |none=>exact h
 |some d=>
  intro t q
  have z:t≠d:=fun e=>by subst e;exact rD.1 q (hd _ rfl)
  simp only[gK];split
  . rw[pX _ _ z];exact h t q
  exact h t q
section
variable {P:Program} {g:bL} {n:Nat} {W:List Nat} {f0:dD} {nd:Bool} {ds0:List gX}
theorem uj{rl:List bG}:∀{f:dD} {ds:List gX} {H:aA} {Q:FQ},(∀o∈rl,∀d,o.dst=some d->d∈W)->(nd=true->rl.all bG.tK=true)->Kp W f0 nd ds0 f ds->
 bT P g n rl f ds H Q->bT P g n rl f ds H (fun e u V H'=>Kp W f0 nd ds0 u V/\Q e u V H'):=by
 induction rl with
 |nil=>exact fun _ _ E h=>⟨E,h⟩
 |cons o r z=>
  intro f ds H Q L w E h;have I:=fun o S=>L o (As _ S)
  have G:nd=true->r.all bG.tK=true:=fun e=>by have :=w e;simp only[List.all_cons,Ak] at this;exact this.2
  have a:∀v,Kp W f0 nd ds0 (gK n f o.dst v) ds:=fun v=>⟨E.1.put _ (L o Az) v,E.2⟩;unfold bT at h ⊢;split
  . rename_i s;rw[if_pos s] at h;split at h
    . obtain⟨out,H',O,i⟩:=h;refine⟨out,H',O,?_⟩
      cases out with
      |ret v=>exact z I G (a v) i
      |MD v=>exact⟨E,i⟩
    . obtain⟨t,v,O,Z⟩:=h;exact⟨t,v,O,E,Z⟩
    . rename_i c l b;obtain⟨p,O,Z⟩:=h;refine⟨p,O,z I G ⟨(a _).1,fun e=>?_⟩ Z⟩;have :=w e;simp only[List.all_cons,Ak] at this;have i:=this.1;rw[bG.tK,b] at i;cases i
    . obtain⟨m,es,O,Z,i⟩:=h;exact⟨m,es,O,Z,fun N c A k1 k2=>z I G (a _) (i N c A k1 k2)⟩
    . obtain⟨q,m,A,c,seen,es,N,O,Z,i,h4,M⟩:=h;exact⟨q,m,A,c,seen,es,N,O,Z,i,fun k=>z I G (a _) (h4 k),fun j k1 k2=>z I G (a _) (M j k1 k2)⟩
    . obtain⟨q,m,A,c,seen,es,N,j,O,Z,i,h4,M⟩:=h;exact⟨q,m,A,c,seen,es,N,j,O,Z,i,h4,z I G (a _) M⟩
    unfold oD at h ⊢;split at h
    . exact z I G (a _) h
    exact h.elim
  rename_i s;rw[if_neg s] at h;exact z I G (a _) h
theorem aCl{pairs:List (Nat×Nat)}{base:Nat}{rl:List bG}:∀{i k:Nat} {rd:List (Nat×Nat)} {ef:List (Nat×aA×aA)} {f:dD} {H:aA} {Q:dD->aA->Prop},(∀o∈rl,∀d,o.dst=some d->d∈W)->lK W f0 f->
 Zk P g n pairs base i k rl rd ef f H Q->Zk P g n pairs base i k rl rd ef f H (fun u H'=>lK W f0 u/\Q u H'):=by
 induction rl with
 |nil=>exact fun _ E h=>⟨E,h⟩
 |cons r rs z=>
  intro i k rd ef f H Q L E h;have a:∀v,lK W f0 (gK n f r.dst v):=fun v=>E.put _ (L r Az) v
  grind[Zk]
theorem aHa{rl:List bG}(L:∀d∈rl.filterMap (·.dst),d∈W):∀o∈rl,∀d,o.dst=some d->d∈W:=fun o S d hd=>L d (Jb.2 ⟨o,S,hd⟩)
variable{c:bY}
theorem aCi:∀{f:dD} {ds:List gX} {H:aA} {Q:FQ},(∀d∈c.wr,d∈W)->(nd=true->c.tK=true)->Kp W f0 nd ds0 f ds->FC P g n c f ds H Q->FC P g n c f ds H (fun e u V H'=>Kp W f0 nd ds0 u V/\Q e u V H'):=by
 induction c with
 |skip=>exact fun _ _ E h=>⟨E,h⟩
 |ops rl=>exact fun L A E h=>uj (aHa L) A E h
 |draw rl pairs=>exact fun L _ E h=>h.imp (fun h=>⟨h.1,Wl (fun _ _ h=>⟨⟨h.1,E.2⟩,h.2⟩) (aCl (aHa L) E.1 h.2)⟩) fun h=>h.imp (fun h X=>let⟨x,u,H',O,Z,l,h4⟩:=h X;⟨x,u,H',O,Z,l,⟨fun t q=>(l t fun p=>rD.1 q (L t p)).trans (E.1 t q),E.2⟩,h4⟩) fun h X=>let⟨x,H',O,Z⟩:=h X;⟨x,H',O,fun u Y j=>⟨⟨fun t q=>(j t fun p=>rD.1 q (L t p)).trans (E.1 t q),E.2⟩,Z u Y j⟩⟩
 |seq a b R r=>
  intro f ds H Q L A E h;simp only[bY.wr,Ar] at L;simp only[bY.tK,Ak] at A;show FC P g n a f ds H _;refine lE (fun e f ds H h=>?_) (R (fun d hd=>L d (.inl hd)) (fun e=>(A e).1) E h)
  cases e with
  |normal=>exact r (fun d hd=>L d (.inr hd)) (fun e=>(A e).2) h.1 h.2
  |_=>exact h
 |cond c a b R r=>
  intro f ds H Q L A E h;simp only[bY.wr,Ar] at L;simp only[bY.tK,Ak] at A;exact ZbX
 |block id a z=>
  intro f ds H Q L A E h;show FC P g n a f ds H _;refine lE (fun e f ds H h=>?_) (z L A E h)
  cases e with
  |exit i=>grind[dV]
  |_=>exact h
 |loop a z=>
  intro f ds H Q L A E h;obtain⟨I,m,o,J⟩:=h;refine⟨fun m f ds H=>Kp W f0 nd ds0 f ds/\I m f ds H,m,⟨E,o⟩,fun m f ds H F=>lE (fun e f ds H h=>?_) (z L A F.1 (J m f ds H F.2))⟩
  cases e with
  |normal=>obtain⟨O,k,E,F⟩:=h;exact⟨k,E,O,F⟩
  |_=>exact h
 |exit id=>exact fun _ _ E h=>⟨E,h⟩
 |ret=>exact fun _ _ E h=>⟨E,h⟩
 |pT c ps a b R r=>
  intro f ds H Q L A E h;obtain⟨fid,fs,cs,v,B,w,S,y,G,O,Z,l,h4,M⟩:=h;have s:∀N,Kp W f0 nd ds0 f N:=fun N=>⟨E.1,fun e=>by cases A e⟩;refine⟨fid,fs,cs,v,B,w,S,y,G,O,Z,l,h4,?_⟩
  cases y with
  |ready=>exact⟨s _,M⟩
  |done e=>cases e<;>exact⟨s _,M⟩
  |busy=>assumption
  |over _=>assumption
theorem KP{f:dD}{ds:List gX}{H:aA}{Q:FQ}(h:FC P g n c f ds H Q):FC P g n c f ds H (fun e u V H'=>lK c.wr f u/\(c.tK=true->V=ds)/\Q e u V H'):=
 lE (fun _ _ _ _ h=>⟨h.1.1,h.1.2,h.2⟩) (aCi (nd:=c.tK) (ds0:=ds) (fun _ h=>h) id ⟨.aIw,fun _=>rfl⟩ h)
theorem lK.trans{W:List Nat}{f u V:dD}(h:lK W f u)(K:lK W u V):lK W f V:=fun t q=>(K t q).trans (h t q)
theorem lK.sub{W l:List Nat}{f u:dD}(h:lK l f u)(M:∀d∈l,d∈W):lK W f u:=fun t q=>h t (rD.2 fun p=>rD.1 q (M t p))
theorem kJ{a:bY}{f:dD}{ds:List gX}{H:aA}{Q:FQ}(cs:List Nat)(I:Nat->List AV->aA->Prop)(m:Nat)(A:a.tK=true)(o:I m (cs.map f) H)
 (h:∀m u H',lK a.wr f u->I m (cs.map u) H'->FC P g n a u ds H' (iP (fun b _ j=>∃k,k<m/\I k (cs.map b) j) Q)):FC P g n (.loop a) f ds H Q:=by
 refine⟨fun m u V H'=>lK a.wr f u/\V=ds/\I m (cs.map u) H',m,⟨.aIw,rfl,o⟩,?_⟩;rintro m u V H' ⟨E,rfl,F⟩;refine lE (fun e s G w X=>?_) (KP (h m u H' E F));obtain⟨O,Z,W⟩:=X
 cases e with
 |normal=>obtain⟨k,N,J⟩:=W;exact⟨k,N,E.trans O,Z A,J⟩
 |_=>exact W
def bMx(n cmp ix ln nx:Nat)(cs:List Nat)(B:bY):Bool:=
 Nat.blt cmp n&&Nat.blt ix n&&Nat.blt nx n&& !Nat.beq cmp ix&& !Nat.beq cmp ln&& !Nat.beq nx ix&& !Nat.beq nx ln&& !Nat.beq ix ln&& !wZ cmp cs&& !wZ ix cs&& !wZ nx cs&& !wZ ix B.wr&& !wZ ln B.wr&&B.tK
theorem Lu{cs:List Nat}{f:dD}{d:Nat}{v:AV}(h:wZ d cs=false):cs.map (kI f d v)=cs.map f:=
 Dd fun t q=>pX f v fun e=>rD.1 h (e▸q)
def Zd(cmp ix nx:Nat)(B:bY):List Nat:=cmp::nx::ix::B.wr
variable{B:bY}
theorem bS{id cmp ix ln nx:Nat}{f:dD}{ds:List gX}{H:aA}{Q:FQ}(cs:List Nat)(J:Nat->List AV->aA->Prop)(N:Nat)(c:(N:Int)<2^63)
 (M:bMx n cmp ix ln nx cs B=true) (O:f ix=.int .i64 0) (l:f ln=.int .i64 N) (o:J 0 (cs.map f) H)
 (body:∀(i:Nat) (u:dD) (H':aA),i<N->lK (Zd cmp ix nx B) f u->u ix=.int .i64 i->J i (cs.map u) H'->FC P g n B u ds H' (iP (fun V _ j=>J (i+1) (cs.map V) j) (dV id Q)))
 (done:∀(u:dD) (H':aA),lK (Zd cmp ix nx B) f u->J N (cs.map u) H'->Q .normal u ds H'):
 FC P g n (.block id (.loop (.seq (.ops [⟨some cmp,.bin .lss (.tmp ix) (.tmp ln),none⟩]) (.seq (.cond (.tmp cmp) .skip (.exit id)) (.seq B
  (.ops [⟨some nx,.bin .add (.tmp ix) (.const (.int .i64 1)),none⟩,⟨some ix,.wE (.tmp nx),none⟩])))))) f ds H Q:=by
 simp only[bMx,Ak,Cx,Im] at M;obtain⟨⟨⟨⟨⟨⟨⟨⟨⟨⟨⟨⟨⟨A,Z⟩,s3⟩,x⟩,D⟩,W⟩,U⟩,S⟩,y⟩,m⟩,c3⟩,R⟩,L⟩,k⟩:=M;have ne:∀{a b:Nat},Nat.beq a b=false->a≠b:=fun h e=>by simp_all
 have p:∀{u:dD} {d:Nat} {v:AV},d∈Zd cmp ix nx B->lK (Zd cmp ix nx B) f u->lK (Zd cmp ix nx B) f (kI u d v):=fun {u d v} hd E t ht=>by have z:t≠d:=fun e=>rD.1 ht (by grind);rw[pX _ _ z];exact E t ht
 refine aCj (id:=id) (cmp:=cmp) (ix:=ix) (ln:=ln) (nx:=nx) (B:=B) (fun i u H'=>lK (Zd cmp ix nx B) f u/\J i (cs.map u) H') N c ⟨A,Z,s3,ne x,ne D,ne W,ne U,ne S⟩ O l ⟨.aIw,o⟩ ?_ ?_ ?_
 . grind[Zd,Lu]
 . rintro i u H' F T q ⟨E,Y⟩;refine lE (fun e s G w X=>?_) (KP (body i u H' F E T Y));obtain⟨k1,k2,k3⟩:=X
   cases e with
   |normal=>exact⟨k2 k,by rw[k1 _ R];omega,by rw[k1 _ L];omega,E.trans (k1.sub fun d hd=>by grind[Zd]),k3⟩
   |_=>exact k3
 grind
def bMu(n cmp ix nx:Nat)(cs:List Nat)(B:bY):Bool:=
 Nat.blt cmp n&&Nat.blt ix n&&Nat.blt nx n&& !Nat.beq cmp ix&& !Nat.beq nx ix&& !wZ cmp cs&& !wZ ix cs&& !wZ nx cs&& !wZ ix B.wr&&B.tK
theorem cM{id cmp ix nx:Nat}{D:Int}{f:dD}{ds:List gX}{H:aA}{Q:FQ}(cs:List Nat)(J:Nat->List AV->aA->Prop)(N:Nat)(c:(N:Int)<2^63)(l:D=(N:Int))
 (M:bMu n cmp ix nx cs B=true) (O:f ix=.int .i64 0) (o:J 0 (cs.map f) H)
 (body:∀(i:Nat) (u:dD) (H':aA),i<N->lK (Zd cmp ix nx B) f u->u ix=.int .i64 i->J i (cs.map u) H'->FC P g n B u ds H' (iP (fun V _ j=>J (i+1) (cs.map V) j) (dV id Q)))
 (done:∀(u:dD) (H':aA),lK (Zd cmp ix nx B) f u->J N (cs.map u) H'->Q .normal u ds H'):
 FC P g n (.block id (.loop (.seq (.ops [⟨some cmp,.bin .lss (.tmp ix) (.const (.int .i64 D)),none⟩]) (.seq (.cond (.tmp cmp) .skip (.exit id)) (.seq B
  (.ops [⟨some nx,.bin .add (.tmp ix) (.const (.int .i64 1)),none⟩,⟨some ix,.wE (.tmp nx),none⟩])))))) f ds H Q:=by
 simp only[bMu,Ak,Cx,Im] at M;obtain⟨⟨⟨⟨⟨⟨⟨⟨⟨A,Z⟩,s3⟩,x⟩,W⟩,y⟩,m⟩,c3⟩,R⟩,k⟩:=M;have ne:∀{a b:Nat},Nat.beq a b=false->a≠b:=fun h e=>by simp_all
 have p:∀{u:dD} {d:Nat} {v:AV},d∈Zd cmp ix nx B->lK (Zd cmp ix nx B) f u->lK (Zd cmp ix nx B) f (kI u d v):=fun {u d v} hd E t ht=>by have z:t≠d:=fun e=>rD.1 ht (by grind);rw[pX _ _ z];exact E t ht
 refine uc (id:=id) (cmp:=cmp) (ix:=ix) (nx:=nx) (B:=B) (fun i u H'=>lK (Zd cmp ix nx B) f u/\J i (cs.map u) H') N c l ⟨A,Z,s3,ne x,ne W⟩ O ⟨.aIw,o⟩ ?_ ?_ ?_
 . grind[Zd,Lu]
 . rintro i u H' F T ⟨E,Y⟩;refine lE (fun e s G w X=>?_) (KP (body i u H' F E T Y));obtain⟨k1,k2,k3⟩:=X
   cases e with
   |normal=>exact⟨k2 k,by rw[k1 _ R];omega,E.trans (k1.sub fun d hd=>by grind[Zd]),k3⟩
   |_=>exact k3
 grind
theorem kh{d tag:Nat}(h:Nat.blt tag 2=true):GY none d tag=tag:=by
 match tag,h with
 |0,_=>rfl
 |1,_=>rfl
theorem sJ{H:aA}{d:Nat}{v:AV}(h:v.free=true):jB H none d 0 v=some v:=by
 have key:mJ H none d v=some v:=by
  cases v<;>first
   |(cases h;done)
   |(simp only[AV.free,Ak] at h;simp only[mJ,h.2,kh h.1])
   |(simp only[mJ,h])
 assumption
theorem eP{N:Bool}(p:Fit P g)(t:KS g){k:FuncId}{F:DC}(L:iM P g N k F){args:List AV}{D:AV}(U:args.length<=F.ntmps)(I:cW args=true)
 (h:FC P g F.ntmps F.body (fD args) [] ⟨0,.nil⟩ (RP F.results fun o w=>∃v n,o=.ret v/\∀d,jB w none d n v=some D)) (H:aA):Sound P g k args H (.ret D) H:=by
 refine(KU p L (aBz U h)).frame t I H fun out w z=>?_;obtain⟨v,n,rfl,M⟩:=z;exact⟨none,n,D,fun k E=>(by grind),M _,rfl,rfl⟩
theorem aAv{rs:List KK}{R a:Out->aA->Prop}(h:∀o H,R o H->a o H){e:tw}{f:dD}{ds:List gX}{H:aA}(V:RP rs R e f ds H):RP rs a e f ds H:=by
 cases e with
 |normal=>obtain⟨O,vs,Z,W⟩:=V;exact⟨O,vs,Z,h _ _ W⟩
 |ret=>obtain⟨O,vs,Z,W⟩:=V;exact⟨O,vs,Z,h _ _ W⟩
 |panic v=>obtain⟨O,W⟩:=V;exact⟨O,h _ _ W⟩
 |exit _=>exact V
theorem IM{N:Bool}(p:Fit P g)(t:KS g){k:FuncId}{F:DC}(L:iM P g N k F){args:List AV}{v:AV}(U:args.length<=F.ntmps)(I:cW args=true)(J:v.free=true)
 (h:FC P g F.ntmps F.body (fD args) [] ⟨0,.nil⟩ (RP F.results fun o _=>o=.ret v)) (H:aA):Sound P g k args H (.ret v) H:=
 eP p t L U I (lE (fun _ _ _ _=>aAv fun o w e=>⟨v,0,e,fun _=>sJ J⟩) h) H
end
end
end Go.Av
namespace Go.jG
def W:Nat:=4294967296
theorem qQ:0<W:=by decide
theorem dX(k:Nat):0<W^k:=Gl qQ
def aP(n k:Nat):Nat:=n / W^k%W
theorem dC(n k:Nat):aP n k<W:=Bz _ qQ
theorem mod_succ(n k:Nat):n%W^(k+1)=n%W^k+W^k*aP n k:=Nat.mod_pow_succ
theorem FY{n k:Nat}(h:n<W^k):aP n k=0:=by simp[aP,Du,h]
theorem AE{n m k:Nat}(h:n<W^m)(E:m<=k):aP n k=0:=
 FY (Bg h (Bu qQ E))
def cr(a b k:Nat):Nat:=(a%W^k+b%W^k) / W^k
theorem aMx(a b:Nat):cr a b 0=0:=by simp[cr,Ip]
theorem aMw(a b k:Nat):cr a b (k+1)=(cr a b k+aP a k+aP b k) / W:=by
 unfold cr;rw[mod_succ,mod_succ,De,<-Dn];congr 1
 rw[show a%W^k+W^k*aP a k+(b%W^k+W^k*aP b k)=a%W^k+b%W^k+W^k*(aP a k+aP b k) by grind,
  Fl _ _ (dX k)]
 omega
theorem aRp(a b k:Nat):cr a b k<=1:=by unfold cr;have O:=Bz a (dX k);have Z:=Bz b (dX k);have :(a%W^k+b%W^k) / W^k<2:=(Cn (dX k)).2 A0;omega
theorem cb(a b k:Nat):(a+b) / W^k=a / W^k+b / W^k+cr a b k:=by
 unfold cr;have O:=Dy a (W^k);have Z:=Dy b (W^k);have :a+b=a%W^k+b%W^k+W^k*(a / W^k+b / W^k):=by grind
 rw[this,Fl _ _ (dX k)];omega
theorem aGp(a b k:Nat):aP (a+b) k=(cr a b k+aP a k+aP b k)%W:=by grind[aP,cb,W]
theorem aYr{a b k:Nat}(I:a<W^k)(X:b<W^k):cr a b k=if a+b<W^k then 0 else 1:=by
 have h:=aRp a b k;unfold cr at *;rw[Bl I,Bl X] at *;split
 . simp_all
 have :=Jq (show W^k<=a+b by omega) (dX k);omega
def bw(a b k:Nat):Nat:=if a%W^k<b%W^k then 1 else 0
theorem aMn(a b:Nat):bw a b 0=0:=by simp[bw,Ip]
theorem aMm(a b k:Nat):bw a b (k+1)=if aP a k<aP b k+bw a b k then 1 else 0:=by
 unfold bw;rw[mod_succ,mod_succ];have O:=Bz a (dX k);have Z:=Bz b (dX k);generalize aP a k=x;generalize aP b k=y;generalize W^k=P at *
 rcases Hz x y with h|h|h
 . have :P*(x+1)<=P*y:=Dr P h
   grind
 . grind
 have :P*(y+1)<=P*x:=Dr P h
 grind
theorem aGq{a b:Nat}(h:b<=a)(k:Nat):(aP (a -b) k:Int)=((aP a k:Int) -aP b k -bw a b k)%(W:Int):=by
 have O:=Dy a (W^k);have Z:=Dy b (W^k);have D:=Bz a (dX k);have B:=Bz b (dX k)
 have e:((a -b) / W^k:Nat)=a / W^k -b / W^k -bw a b k/\b / W^k+bw a b k<=a / W^k:=by
  unfold bw;generalize a%W^k=r at *;generalize b%W^k=s at *;generalize a / W^k=x at *;generalize b / W^k=y at *;generalize G:W^k=P at *;have f:0<P:=G▸dX k
  have d:y<=x:=by
   rcases Er x y with hc|hc
   . have :P*(x+1)<=P*y:=Dr P hc
     grind
   omega
  split
  . have z:y≠x:=fun e=>by grind
    have p:P*(x -y -1)=P*x -P*y -P:=(by simp[Nat.mul_sub,Df]);have c:P*(y+1)<=P*x:=Dr P A0;rw[Fz,Df] at c;have :a -b=(r+P -s)+P*(x -y -1):=A0;rw[this,Fl _ _ f,Du A0];omega
  have p:P*(x -y)=P*x -P*y:=Nat.mul_sub ..;have c:P*y<=P*x:=Dr P d;have :a -b=(r -s)+P*(x -y):=by omega
  rw[this,Fl _ _ f,Du A0];omega
 unfold aP
 grind[W]
theorem nT(a k:Nat):a / W^k=a / W^(k+1)*W+aP a k:=by
 unfold aP;rw[De,<-Dn];have :=Dy (a / W^k) W
 grind
theorem TE{a b k:Nat}(h:a / W^(k+1)=b / W^(k+1))(E:aP a k=aP b k):a / W^k=b / W^k:=by rw[nT a,nT b,h,E]
theorem Qk{a b k:Nat}(h:a / W^(k+1)=b / W^(k+1))(E:aP a k<aP b k):a<b:=by
 have O:a / W^k<b / W^k:=by rw[nT a,nT b,h];omega
 rcases Er a b with h2|h2
 . omega
 have :=Nat.div_le_div_right (c:=W^k) h2;omega
theorem XW{a b m:Nat}(I:a<W^m)(X:b<W^m)(h:∀k,k<m->aP a k=aP b k):a=b:=by
 have :∀j,j<=m->a / W^(m -j)=b / W^(m -j):=by
  intro j
  induction j with
  |zero=>simp[Hy,Du,I,X]
  |succ j z=>
   intro Y;refine TE (k:=m -(j+1)) ?_ (h _ A0)
   grind
 have :=this m (Ae _)
 grind
def wJ:List Nat->Nat
 |[]=>0
 |x::l=>x+W*wJ l
theorem Vi:∀(l:List Nat),(∀x∈l,x<W)->wJ l<W^l.length
 |[],_=>by decide
 |x::l,h=>by have O:=Vi l fun y Q=>h y (by grind);have Z:=h x A2;simp only[wJ,Ba,De];have :W*(wJ l+1)<=W*W^l.length:=Dr W O;rw[Fz,Df] at this;rw[Cc (W^l.length)];omega
theorem Lp:∀(l:List Nat) (k:Nat),(∀x∈l,x<W)->aP (wJ l) k=l.getD k 0
 |[],k,_=>by simp[wJ,aP]
 |x::l,0,h=>by have :=h x A2;simp only[wJ,aP,Gq,Ht,Dj];rw[Nat.add_mul_mod_self_left,Bl this]
 |x::l,k+1,h=>by have O:=h x A2;have Z:=Lp l k fun y Q=>h y (by grind);rw[Hl,<-Z];simp only[wJ,aP];rw[De,Cc (W^k),<-Dn,Fl _ _ qQ,Du O,Em]
def aV(m n:Nat):List Nat:=(List.range m).map (aP n)
theorem cK(m n:Nat):(aV m n).length=m:=by simp[aV]
theorem lA{m n k:Nat}(h:k<m):(aV m n).getD k 0=aP n k:=by simp[aV,List.getD,h]
theorem EI{m n:Nat}:∀x∈aV m n,x<W:=by intro x C;simp only[aV,Bb] at C;obtain⟨k,_,rfl⟩:=C;exact dC _ _
theorem fS{m n:Nat}(h:n<W^m):wJ (aV m n)=n:=by
 refine XW (m:=m) ?_ h fun k E=>?_
 . have :=Vi (aV m n) EI
   grind[cK]
 rw[Lp _ _ EI,lA E]
theorem Tf{l:List Nat}(h:∀x∈l,x<W):aV l.length (wJ l)=l:=by refine Fh (by simp[aV]) fun k O Z=>?_;simp only[aV,Cr,Hq];simp_all[Lp,h,List.getD,Z]
def sk:Nat->Nat->Nat
 |0,_=>0
 |k+1,a=>if aP a k=0 then sk k a else k+1
def sz(a:Nat):Nat:=sk 16 a
theorem kf:∀k a,sk k a<=k
 |0,_=>Ae _
 |k+1,a=>by
  unfold sk;split
  . exact Nat.le_succ_of_le (kf k a)
  omega
theorem kg:∀k a,a<W^k->a<W^sk k a
 |0,_,h=>h
 |k+1,a,h=>by
  unfold sk;split
  . rename_i U;refine kg k a ?_;unfold aP at U;have O:a / W^k<W:=by rw[Cn (dX k),Cc,<-De];omega
    rw[Bl O] at U
    rcases Er a (W^k) with h2|h2
    . omega
    have :=Jq h2 (dX k);omega
  omega
theorem PO:∀k a,sk k a=0\/aP a (sk k a -1)≠0
 |0,_=>.inl rfl
 |k+1,a=>by
  unfold sk;split
  . exact PO k a
  grind
theorem MV{a:Nat}(h:a<W^16):a<W^sz a:=kg 16 a h
theorem ZC(a:Nat):sz a<=16:=kf 16 a
theorem sx{a:Nat}(h:a<W^16):sz a=0↔a=0:=by
 constructor
 . intro e;have :=MV h;simp_all
 rintro rfl;decide
theorem pg{a k:Nat}(h:aP a k≠0):W^k<=a:=by
 rcases Er a (W^k) with h1|h1
 . exact absurd (FY h1) h
 omega
theorem su{a:Nat}(h:sz a≠0):W^(sz a -1)<=a:=by
 rcases PO 16 a with h1|h1
 . exact absurd h1 h
 exact pg h1
theorem Ni{a n:Nat}(h:a<W^16):sz a<=n↔a<W^n:=by
 constructor
 . intro A;exact Bg (MV h) (Bu qQ A)
 rcases Er n (sz a) with h1|h1
 . have Z:=su (a:=a) A0;have :=Bu qQ (show n<=sz a -1 by omega);omega
 omega
def dU(a:Nat):Nat:=if a=0 then 0 else Nat.log2 a+1
theorem jW{a n:Nat}:dU a<=n↔a<2^n:=by
 unfold dU;split
 . grind
 rename_i h;rw[<-Nat.log2_lt h];omega
theorem vq{a n:Nat}(O:a<2^(n+1))(Z:2^n<=a):dU a=n+1:=by
 have a1:dU a<=n+1:=jW.2 O;have Q:¬dU a<=n:=fun h=>by have :=jW.1 h;omega
 omega
theorem uR{a k:Nat}(h:a / 2^k≠0):dU a=dU (a / 2^k)+k:=by
 obtain⟨n,A⟩:∃n,dU (a / 2^k)=n+1:=⟨Nat.log2 (a / 2^k),by simp[dU,if_neg,h]⟩;have O:a / 2^k<2^(n+1):=jW.1 A0;have Z:¬a / 2^k<2^n:=fun h=>by have :=jW.2 h;omega
 rw[A,show n+1+k=(n+k)+1 by omega];refine vq ?_ ?_
 . rw[Cn (Gl A1)] at O
   grind
 rw[Cn (Gl A1)] at Z
 grind
theorem vr{a:Nat}(h:a<W^16)(o:sz a≠0):dU a=32*(sz a -1)+dU (aP a (sz a -1)):=by
 have e:W^(sz a -1)=2^(32*(sz a -1)):=by rw[Nat.pow_mul];rfl
 have O:=su o;have Z:=MV h
 have b:a / W^(sz a -1)<W:=by
  rw[Cn (dX _),Cc,<-De]
  grind
 have h4:aP a (sz a -1)=a / 2^(32*(sz a -1)):=by simp_all[aP,Bl,b,e]
 have M:=Jq O (dX (sz a -1));rw[h4,uR (k:=32*(sz a -1)) (by rw[<-e];omega)];omega
theorem xN:∀(l:List Nat) (j d:Nat),j<l.length->wJ (l.set j d)+l.getD j 0*W^j=wJ l+d*W^j
 |[],_,_,h=>by grind
 |x::l,0,d,_=>by grind[wJ]
 |x::l,j+1,d,h=>by
  have z:=xN l j d (by grind);simp only[List.set_cons_succ,wJ,Hl,De]
  grind
theorem Xi{l:List Nat}{j d k:Nat}(h:j<l.length):(l.set j d).getD k 0=if k=j then d else l.getD k 0:=by grind
def LW(n:Nat)(l:List Nat):Prop:=l.length=n/\∀d∈l,d<W
theorem LW.set{n:Nat}{l:List Nat}(h:LW n l)(j:Nat){d:Nat}(hd:d<W):LW n (l.set j d):=⟨by rw[Kc];exact h.1,fun x C=>by
 rcases List.mem_or_eq_of_mem_set C with h1|h1
 . exact h.2 x h1
 omega⟩
theorem LW.getD{n:Nat}{l:List Nat}(h:LW n l)(j:Nat):l.getD j 0<W:=by
 by_cases Y:j<l.length
 . rw[List.getD,Af Y];exact h.2 _ (Ac Y)
 rw[List.getD,Cu A0];decide
theorem LW.lt{n:Nat}{l:List Nat}(h:LW n l):wJ l<W^n:=by
 have :=Vi l h.2
 rwa [h.1] at this
theorem LW.eq{n:Nat}{l:List Nat}(h:LW n l):l=aV n (wJ l):=by
 have :=Tf h.2;rw[h.1] at this
 grind
theorem LW.aP{n:Nat}{l:List Nat}(h:LW n l)(k:Nat):aP (wJ l) k=l.getD k 0:=Lp l k h.2
theorem aHf{o:List Nat}{i k c D P b:Nat}(S:LW 32 o)(a:i+k<32)(B:wJ o+c*W^(i+k)=P+D*W^i*(b%W^k)):
 let t:=c+D*aP b k+o.getD (i+k) 0
 wJ (o.set (i+k) (t%W))+t / W*W^(i+(k+1))=P+D*W^i*(b%W^(k+1)):=by
 intro t;have O:=xN o (i+k) (t%W) Zas
 have Z:t / W*W^(i+(k+1))+t%W*W^(i+k)=t*W^(i+k):=by rw[show i+(k+1)=(i+k)+1 by omega,De,Cc (W^(i+k)),<-Cf,<-Bo,Cc (t / W)];rw[Dy]
 have d:b%W^(k+1)=b%W^k+W^k*aP b k:=mod_succ b k
 grind
theorem aOu{o:List Nat}{i m c D a b:Nat}(S:LW 32 o)(e:i+m<32)(X:b<W^m)(r:D=aP a i)(B:wJ o+c*W^(i+m)=a%W^i*b+D*W^i*(b%W^m))(s:o.getD (i+m) 0=0):
 wJ (o.set (i+m) c)=a%W^(i+1)*b:=by
 have O:=xN o (i+m) c Zas;rw[s,Gp,Di] at O;rw[O,B,Bl X,mod_succ,r,Bo,Cc (aP a i)]
theorem JP{m n X:Nat}(h:X<W^n)(s:∀k,m<=k->k<n->aP X k=0):X<W^m:=by
 have O:=kg n X h;have Z:=kf n X
 rcases Er m (sk n X) with h3|h3
 . rcases PO n X with h4|h4<;>grind
 exact Bg O (Bu qQ h3)
theorem Qf{m n X:Nat}(h:m<=n):(aV n X).take m=aV m X:=by unfold aV;rw[<-List.map_take,List.take_range,Nat.min_eq_left h]
theorem fu{X:Nat}(h:X<W^32):X<W^16↔(aV 32 X).drop 16=List.replicate 16 0:=by
 constructor
 . intro C;refine Fh (by rfl) fun k O Z=>?_;simp only[List.getElem_drop,aV,Cr,Hq,List.getElem_replicate];exact AE C A0
 intro e;refine JP h fun k a N=>?_;have :((aV 32 X).drop 16).getD (k -16) 0=0:=by grind
 have Z:=lA (n:=X) N
 grind
end Go.jG
namespace Go.aC
structure V where
 x:Int
 y:Int
 z:Int
deriving DecidableEq,Inhabited
def dot(a b:V):Int:=a.x*b.x+a.y*b.y+a.z*b.z
def aY(a b:V):V:=⟨a.y*b.z -a.z*b.y,a.z*b.x -a.x*b.z,a.x*b.y -a.y*b.x⟩
def sub(a b:V):V:=⟨a.x-b.x,a.y-b.y,a.z-b.z⟩
def add(a b:V):V:=⟨a.x+b.x,a.y+b.y,a.z+b.z⟩
def smul(c:Int)(a:V):V:=⟨c*a.x,c*a.y,c*a.z⟩
def V0:V:=⟨0,0,0⟩
def dH(n a b:V):Int:=dot n (aY a b)
theorem V.ext'{a b:V}(O:a.x=b.x)(Z:a.y=b.y)(W:a.z=b.z):a=b:=by cases a<;>simp_all
theorem sq_pos{a:Int}(h:a≠0):0<a*a:=by
 rcases Jh h with h|h
 . exact Jl h h
 exact Ev h h
theorem sq_nonneg(a:Int):0<=a*a:=by
 by_cases h:a=0
 . grind
 exact Ig (sq_pos h)
theorem CF(a:V):0<=dot a a:=by
 have :=sq_nonneg a.x;have :=sq_nonneg a.y;have :=sq_nonneg a.z
 grind[dot]
theorem cP{a:V}(h:a≠V0):0<dot a a:=by
 have Z:=sq_nonneg a.y;have W:=sq_nonneg a.z
 rcases Decidable.em (a.x=0) with hx|hx
 . rcases Decidable.em (a.y=0) with hy|hy
   . rcases Decidable.em (a.z=0) with hz|hz
     . exact absurd (V.ext' hx hy hz) h
     have :=sq_pos hz;grind[dot]
   have :=sq_pos hy;grind[dot]
 have :=sq_pos hx;grind[dot]
theorem SK{a:V}(h:dot a a<=0):a=V0:=
 Fc fun R=>absurd (cP R) A0
theorem sub_eq_zero{a b:V}(h:sub a b=V0):a=b:=by have O:a.x -b.x=0:=Am V.x h;have Z:a.y -b.y=0:=Am V.y h;have W:a.z -b.z=0:=Am V.z h;exact V.ext' A0 A0 A0
theorem bDj{a b:V}(h:a≠b):sub a b≠V0:=fun e=>h (sub_eq_zero e)
theorem je{c a:Int}(R:0<c)(h:0<c*a):0<a:=by
 rcases Fq a 0 with h'|h'|h'
 . have :=Jm R h';omega
 all_goals grind
theorem pD{c a:Int}(R:0<c)(h:0<=c*a):0<=a:=by
 rcases Fq a 0 with h'|h'|h'
 . have :=Jm R h';omega
 all_goals omega
theorem fE{c a:Int}(R:0<c)(h:c*a=0):a=0:=by rcases Ke.1 h with h|h<;>omega
theorem IZ(n u v w t:V):dH u v w*dot n t=dH n v w*dot u t+dH n w u*dot v t+dH n u v*dot w t:=by
 simp only[dH,dot,aY]
 grind
theorem XM{n u v w:V}(A:n≠V0)(K:dot n u=0)(J:dot n v=0)(L:dot n w=0):dH u v w=0:=by
 have h:=IZ n u v w n;have e:∀a:V,dot a n=dot n a:=fun a=>by grind[dot]
 rw[e u,e v,e w,K,J,L] at h;have :=cP A;simp only[Gb,Int.add_zero] at h
 rcases Ke.1 h with h|h<;>simp_all
theorem three{n u v w:V}(A:n≠V0)(K:dot n u=0)(J:dot n v=0)(L:dot n w=0):add (add (smul (dH n v w) u) (smul (dH n w u) v)) (smul (dH n u v) w)=V0:=by
 have h:=XM A K J L;have C:dH u v w*n.x=dH n v w*u.x+dH n w u*v.x+dH n u v*w.x:=by grind[dH,dot,aY]
 have Q:dH u v w*n.y=dH n v w*u.y+dH n w u*v.y+dH n u v*w.y:=by simp only[dH,dot,aY];grind
 have s:dH u v w*n.z=dH n v w*u.z+dH n w u*v.z+dH n u v*w.z:=by simp only[dH,dot,aY];grind
 grind[add,smul,V0]
theorem para{n u v:V}(A:n≠V0)(K:dot n u=0)(J:dot n v=0)(h:dH n u v=0):smul (dot u u) v=smul (dot u v) u:=by
 have m:=cP A;have T:dot n n*(aY u v).x=dH n u v*n.x+dot n v*(n.z*u.y -n.y*u.z) -dot n u*(n.z*v.y -n.y*v.z):=by grind[dH,dot,aY]
 have P:dot n n*(aY u v).y=dH n u v*n.y+dot n v*(n.x*u.z -n.z*u.x) -dot n u*(n.x*v.z -n.z*v.x):=by grind[dH,dot,aY]
 have B:dot n n*(aY u v).z=dH n u v*n.z+dot n v*(n.y*u.x -n.x*u.y) -dot n u*(n.y*v.x -n.x*v.y):=by grind[dH,dot,aY]
 rw[K,J,h] at T P B;have b:=fE m (by rw[T];simp);have a:=fE m (by rw[P];simp);have c3:=fE m (by rw[B];simp)
 grind[aY,smul,dot]
structure UO (P:V->Prop):Prop where
 add:∀u v,P u->P v->P (add u v)
 smul:∀c u,0<c->P u->P (smul c u)
 zero:¬P V0
theorem smul_zero(u:V):smul 0 u=V0:=by simp[smul,V0]
theorem add_zero(u:V):add u V0=u:=by simp[add,V0]
theorem zero_add(u:V):add V0 u=u:=by simp[add,V0]
theorem UO.comb{P:V->Prop}(h:UO P){u v w:V}{a b c:Int}(K:P u)(J:P v)(L:P w)(I:0<=a)(X:0<=b)(R:0<=c)(s:aC.add (aC.add (aC.smul a u) (aC.smul b v)) (aC.smul c w)=V0):a=0/\b=0/\c=0:=by
 have d:∀{u v:V} {a b:Int},P u->P v->0<=a->0<=b->(a=0/\b=0)\/P (aC.add (aC.smul a u) (aC.smul b v)):=by
  intro u v a b K J I X;by_cases h1:a=0
  . by_cases Z:b=0
    . exact .inl ⟨h1,Z⟩
    right;subst h1;rw[smul_zero,zero_add];exact h.smul _ _ A0 J
  by_cases Z:b=0
  . right;subst Z;rw[smul_zero,add_zero];exact h.smul _ _ A0 K
  right;exact h.add _ _ (h.smul _ _ A0 K) (h.smul _ _ A0 J)
 rcases d K J I X with ⟨h1,Z⟩|h1
 . refine⟨h1,Z,?_⟩;by_cases W:c=0
   . exact W
   exfalso;subst h1 Z;rw[smul_zero,smul_zero,add_zero,zero_add] at s;exact h.zero (s▸h.smul _ _ A0 L)
 exfalso;by_cases W:c=0
 . subst W;rw[smul_zero,add_zero] at s;exact h.zero (s▸h1)
 exact h.zero (s▸h.add _ _ h1 (h.smul _ _ A0 L))
theorem Pu(f g h:V->Int)(N:∀u v,f (add u v)=f u+f v)(t:∀u v,g (add u v)=g u+g v)(X:∀u v,h (add u v)=h u+h v)
 (D:∀c u,f (smul c u)=c*f u) (a:∀c u,g (smul c u)=c*g u) (b:∀c u,h (smul c u)=c*h u):
 UO fun v=>0<f v\/(f v=0/\(0<g v\/(g v=0/\0<h v))) where
 add u v K hv:=by simp only[N,t,X];omega
 smul c u hc K:=by
  simp only[D,a,b]
  rcases K with K|⟨O,K|⟨Z,K⟩⟩
  . exact .inl (Ev hc K)
  . exact .inr ⟨by rw[O];simp,.inl (Ev hc K)⟩
  exact .inr ⟨by rw[O];simp,.inr ⟨by rw[Z];simp,Ev hc K⟩⟩
 zero:=by
  have z:∀(f:V->Int),(∀c u,f (smul c u)=c*f u)->f V0=0:=fun f N=>by have :=N 0 V0;rw[smul_zero] at this;omega
  rw[z f D,z g a,z h b];omega
section
def vec(p:Nat->V)(a b:Nat):V:=sub (p b) (p a)
def Sd(n:V)(p:Nat->V)(on:List Nat)(a b:Nat):Prop:=
 b∈on/\b≠a/\∀k∈on,0<=dH n (vec p a b) (vec p a k)/\
  (dH n (vec p a b) (vec p a k)=0->0<=dot (vec p a k) (vec p a b)/\dot (vec p a k) (vec p a b)<=dot (vec p a b) (vec p a b))
def Crn(p:Nat->V)(on:List Nat)(a:Nat):Prop:=∃P,UO P/\∀k∈on,k≠a->P (vec p a k)
structure Pl (n:V) (p:Nat->V) (on:List Nat):Prop where
 hn:n≠V0
 inj:∀a∈on,∀b∈on,p a=p b->a=b
 pl:∀a∈on,∀b∈on,dot n (vec p a b)=0
theorem Pl.ne{n:V}{p:Nat->V}{on:List Nat}(h:Pl n p on){a b:Nat}(I:a∈on)(X:b∈on)(j:b≠a):vec p a b≠V0:=
 bDj fun e=>j (h.inj b X a I e)
theorem DT(n u:V):dH n u u=0:=by grind[dH,dot,aY]
theorem DS(n u v:V):dH n v u= -dH n u v:=by grind[dH,dot,aY]
theorem lQ(u v:V):dot u v=dot v u:=by grind[dot]
theorem mh(n u v w:V):dH n u (add v w)=dH n u v+dH n u w:=by grind[dH,dot,aY,add]
theorem XK(n u v:V)(c:Int):dH n u (smul c v)=c*dH n u v:=by grind[dH,dot,aY,smul]
theorem fV(u v w:V):dot u (add v w)=dot u v+dot u w:=by grind[dot,add]
theorem XS(u v:V)(c:Int):dot u (smul c v)=c*dot u v:=by grind[dot,smul]
theorem wb(n e:V):UO fun v=>0<dH n e v\/(dH n e v=0/\0<dot e v):=by
 have h:=Pu (dH n e) (dot e) (fun _=>0) (mh n e) (fV e) (fun _ _=>rfl) (fun c u=>XK n e u c) (fun c u=>XS e u c) (fun c _=>by simp)
 grind
theorem ah(n e:V):UO fun v=>0<dH n e v\/(dH n e v=0/\dot e v<0):=by
 have h:=Pu (dH n e) (fun v=> -dot e v) (fun _=>0) (mh n e) (fun u v=>by grind[fV]) (fun _ _=>rfl) (fun c u=>XK n e u c) (fun c u=>by rw[XS,Kn]) (fun c _=>by simp)
 grind
theorem aEe:UO fun v=>0<v.x\/(v.x=0/\(0<v.y\/(v.y=0/\0<v.z))):=
 Pu V.x V.y V.z (fun _ _=>rfl) (fun _ _=>rfl) (fun _ _=>rfl) (fun _ _=>rfl) (fun _ _=>rfl) (fun _ _=>rfl)
theorem rL{c:Int}(R:c≠0){u v:V}(h:smul c u=smul c v):u=v:=by have O:c*u.x=c*v.x:=Am V.x h;have Z:c*u.y=c*v.y:=Am V.y h;have W:c*u.z=c*v.z:=Am V.z h;exact V.ext' (Jn R O) (Jn R Z) (Jn R W)
variable {n:V} {p:Nat->V} {on:List Nat}
theorem Pv(H:Pl n p on){P:V->Prop}(G:UO P){u v w:V}(K:dot n u=0)(J:dot n v=0)(L:dot n w=0)(d:P u)(pv:P v)(i:P w)
 (O:0<=dH n u v) (Z:0<=dH n v w):0<=dH n u w/\(0<dH n u v\/0<dH n v w->0<dH n u w):=by
 have h:=three H.hn K J L;have a:=DS n u w;by_cases W:0<dH n u w
 . omega
 obtain⟨y,m,c3⟩:=G.comb d pv i Z A0 O h;omega
theorem Sx(H:Pl n p on){P:V->Prop}(G:UO P){u v:V}(K:dot n u=0)(J:dot n v=0)(d:P u)(pv:P v)(h:dH n u v=0):0<dot u v:=by
 have O:=para H.hn K J h;have l:u≠V0:=fun e=>G.zero (e▸d);have :=cP l;by_cases Z:0<dot u v
 . omega
 have z:=G.comb (a:=dot u u) (b:= -dot u v) (c:=0) pv d d A0 A0 A0 (V.ext' (by grind[add,smul,V0,Int.neg_mul]) (by grind[add,smul,V0,Int.neg_mul]) (by grind[add,smul,V0,Int.neg_mul]));omega
theorem Lm(n u v:V)(K:dot n u=0)(J:dot n v=0):dot n n*(dot u u*dot v v -dot u v*dot u v)=dH n u v*dH n u v:=by
 simp only[dH,dot,aY] at *
 grind
theorem aYu{n u v:V}(A:n≠V0)(K:dot n u=0)(J:dot n v=0)(h:dH n u v=0)(U:dot v v<=dot u u):dot u v<=dot u u:=by
 have O:=Lm n u v K J;rw[h] at O;have Z:=fE (cP A) (by assumption);have W:=CF u;by_cases h4:dot u v<=dot u u
 . omega
 have M:dot u u*dot u v<dot u v*dot u v:=Ex A0 A0;have R:dot u u*dot v v<=dot u u*dot u v:=Dx A0 W;omega
theorem Sd.crn(H:Pl n p on){a b:Nat}(I:a∈on)(h:Sd n p on a b):Crn p on a:=by
 refine⟨_,wb n (vec p a b),fun k E o=>?_⟩;obtain⟨h1,Z⟩:=h.2.2 k E
 rcases Es h1 with h1|h1
 . omega
 obtain⟨h3,h4⟩:=Z h1.symm;rw[lQ] at h3
 rcases Es h3 with h3|h3
 . omega
 exfalso;have e:=para H.hn (H.pl a I b h.1) (H.pl a I k E) h1.symm;rw[<-h3,smul_zero] at e;have z:=cP (H.ne I h.1 h.2.1);exact H.ne I E o (rL (c:=dot (vec p a b) (vec p a b)) A0 (by rw[e];simp[smul,V0]))
theorem CE(p:Nat->V)(a b k:Nat):vec p b k=sub (vec p a k) (vec p a b):=by grind[vec,sub]
theorem XL(n u v w:V):dH n u (sub v w)=dH n u v -dH n u w:=by grind[dH,dot,aY,sub]
theorem aEn(u v w:V):dot u (sub v w)=dot u v -dot u w:=by grind[dot,sub]
theorem Sd.next(H:Pl n p on){a b:Nat}(I:a∈on)(h:Sd n p on a b):Crn p on b:=by
 refine⟨_,ah n (vec p a b),fun k E c=>?_⟩;obtain⟨h1,Z⟩:=h.2.2 k E;rw[CE p a b k,XL,aEn,DT,lQ _ (vec p a k)]
 rcases Es h1 with h1|h1
 . omega
 obtain⟨W,h4⟩:=Z h1.symm
 rcases Es h4 with h4|h4
 . omega
 exfalso;have e:=para H.hn (H.pl a I b h.1) (H.pl a I k E) h1.symm;rw[lQ _ (vec p a k),h4] at e;have z:=cP (H.ne I h.1 h.2.1);have :=rL A0 e;refine c (H.inj k E b h.1 ?_);exact Zbg
theorem Sd.uniq(H:Pl n p on){a b c:Nat}(I:a∈on)(h:Sd n p on a b)(K:Sd n p on a c):b=c:=by
 obtain⟨O,Z⟩:=h.2.2 c K.1;obtain⟨W,h4⟩:=K.2.2 b h.1;rw[DS] at W;have s:dH n (vec p a b) (vec p a c)=0:=by omega
 obtain⟨k1,k2⟩:=Z s;obtain⟨k3,k4⟩:=h4 (by grind[DS]);have e:=para H.hn (H.pl a I b h.1) (H.pl a I c K.1) s;have U:=Lm n (vec p a b) (vec p a c) (H.pl a I b h.1) (H.pl a I c K.1);rw[s] at U;have U:=fE (cP H.hn) (by assumption);have z:=cP (H.ne I h.1 h.2.1);have d:=cP (H.ne I K.1 K.2.1);rw[lQ] at k1 k2;generalize g:dot (vec p a b) (vec p a c)=m at *;generalize S:dot (vec p a b) (vec p a b)=B at *;generalize j:dot (vec p a c) (vec p a c)=C at *
 have T:m=B:=by
  have q1:B*m<=B*C:=Dx A0 A0;by_cases f:m=B
  . omega
  by_cases y:m=0
  . subst y;have :=Ev z d;omega
  have :m*m<B*m:=Ex A0 A0;omega
 rw[T] at e;have :=rL A0 e;refine(H.inj c K.1 b h.1 ?_).symm;exact Zbg
theorem Sd.inj(H:Pl n p on){a b c:Nat}(I:a∈on)(X:b∈on)(h:Sd n p on a c)(K:Sd n p on b c):a=b:=by
 obtain⟨O,Z⟩:=h.2.2 b X;obtain⟨W,h4⟩:=K.2.2 a I
 have e:dH n (vec p b c) (vec p b a)= -dH n (vec p a c) (vec p a b):=by simp only[vec,dH,dot,aY,sub];grind
 have s:dH n (vec p a c) (vec p a b)=0:=by omega
 obtain⟨k1,k2⟩:=Z s;obtain⟨k3,k4⟩:=h4 A0;have U:=Lm n (vec p a c) (vec p a b) (H.pl a I c h.1) (H.pl a I b X);rw[s] at U;have U:=fE (cP H.hn) (by assumption);have f:=para H.hn (H.pl a I c h.1) (H.pl a I b X) s;have w:=cP (H.ne I h.1 h.2.1)
 have P:dot (vec p b a) (vec p b c)=dot (vec p a b) (vec p a b) -dot (vec p a b) (vec p a c):=by grind[vec,dot,sub]
 rw[lQ (vec p a c) (vec p a b)] at U f;generalize g:dot (vec p a b) (vec p a c)=m at *;generalize S:dot (vec p a b) (vec p a b)=B at *;generalize j:dot (vec p a c) (vec p a c)=C at *
 have q:m=0\/m=C:=by
  by_cases y:m=0
  . omega
  by_cases d:m=C
  . omega
  have q1:m*m<C*m:=Ex A0 A0;have q2:C*m<=C*B:=Dx A0 A0;omega
 rcases q with q|q
 . have :vec p a b=V0:=rL (c:=C) A0 (by simp_all[f,smul,V0]);exact(H.inj b X a I (sub_eq_zero this)).symm
 rw[q] at f;have :=rL (c:=C) A0 f;exfalso;refine K.2.1 (H.inj c h.1 b X ?_);exact Zbg
end
section
variable {n:V} {p:Nat->V} {on:List Nat}
def yR(x:Int):Int:=if x<0 then -1 else if 0<x then 1 else 0
theorem WC{x:Int}:yR x<0↔x<0:=by grind[yR]
theorem RX{x:Int}:yR x=0↔x=0:=by grind[yR]
theorem WB(x y:Int):yR (x*y)=yR x*yR y:=by
 rcases Fq x 0 with h|h|h
 . rcases Fq y 0 with k|k|k
   . have :=Jl h k;simp only[yR,h,k,if_true,if_neg (show ¬x*y<0 by omega),this];rfl
   . grind[yR]
   have :=Int.mul_neg_of_neg_of_pos h k;simp only[yR,h,this,k,if_true,if_neg (show ¬y<0 by omega)];rfl
 . grind[yR]
 rcases Fq y 0 with k|k|k
 . have :=Jm h k;simp only[yR,h,this,k,if_true,if_neg (show ¬x<0 by omega)];rfl
 . grind[yR]
 have :=Ev h k;simp only[yR,h,this,k,if_true,if_neg (show ¬x<0 by omega),if_neg (show ¬y<0 by omega),if_neg (show ¬x*y<0 by omega)];rfl
theorem rv{x:Int}(h:0<x):yR x=1:=by simp[yR,h,show ¬x<0 by omega]
def uH(n c:V):Int:=if n.x≠0 then yR c.x*yR n.x else if n.y≠0 then yR c.y*yR n.y else if n.z≠0 then yR c.z*yR n.z else 0
theorem WI{a b:V}(A:n≠V0)(I:dot n a=0)(X:dot n b=0):uH n (aY a b)=yR (dH n a b):=by
 have d:=cP A;have T:dot n n*(aY a b).x=dH n a b*n.x+dot n b*(n.z*a.y -n.y*a.z) -dot n a*(n.z*b.y -n.y*b.z):=by grind[dH,dot,aY]
 have P:dot n n*(aY a b).y=dH n a b*n.y+dot n b*(n.x*a.z -n.z*a.x) -dot n a*(n.x*b.z -n.z*b.x):=by grind[dH,dot,aY]
 have B:dot n n*(aY a b).z=dH n a b*n.z+dot n b*(n.y*a.x -n.x*a.y) -dot n a*(n.y*b.x -n.x*b.y):=by grind[dH,dot,aY]
 have key:∀c m:Int,m≠0->dot n n*c=dH n a b*m+0*0 -0->yR c*yR m=yR (dH n a b):=by
  intro c m p e;have O:yR (dot n n*c*m)=yR (dH n a b*(m*m)):=by grind
  rw[WB,WB,WB (dH n a b),rv d,rv (sq_pos p)] at O
  grind
 unfold uH;split
 . grind
 split
 . grind
 split
 . grind
 exact absurd (V.ext' (by grind[V0]) (by grind[V0]) (by grind[V0])) A
def better(n:V)(p:Nat->V)(a b k:Nat):Bool:=
 decide (uH n (aY (vec p a b) (vec p a k))<0)||(decide (uH n (aY (vec p a b) (vec p a k))=0)&&decide (dot (vec p a k) (vec p a k)>dot (vec p a b) (vec p a b)))
def jA(n:V)(p:Nat->V)(a:Nat)(d:Option Nat)(k:Nat):Option Nat:=
 if k=a then d else match d with
  |none=>some k
  |some b=>if better n p a b k then some k else some b
def Qu(n:V)(p:Nat->V)(on:List Nat)(a:Nat):Option Nat:=on.foldl (jA n p a) none
theorem vN(H:Pl n p on){a b k:Nat}(I:a∈on)(X:b∈on)(E:k∈on):
 better n p a b k=true↔dH n (vec p a b) (vec p a k)<0\/(dH n (vec p a b) (vec p a k)=0/\dot (vec p a b) (vec p a b)<dot (vec p a k) (vec p a k)):=by
 unfold better;rw[WI H.hn (H.pl a I b X) (H.pl a I k E)];simp[Ea,Ak,Br,WC,RX]
theorem zm(H:Pl n p on){a:Nat}(I:a∈on)(R:Crn p on a):∀(l:List Nat) (done:List Nat) (d:Option Nat),(∀k∈l,k∈on)->(∀k∈done,k∈on)->
 (match d with|none=>∀k∈done,k=a|some b=>b∈on/\b≠a/\∀k∈done,k≠a->better n p a b k=false)->
 match l.foldl (jA n p a) d with|none=>∀k∈done++l,k=a|some b=>b∈on/\b≠a/\∀k∈done++l,k≠a->better n p a b k=false:=by
 obtain⟨P,G,T⟩:=R
 have refl:∀k∈on,better n p a k k=false:=fun k E=>by
  have :=vN H I E E;rw[DT] at this
  cases X:better n p a k k with
  |false=>rfl
  |true=>have :=this.1 X;omega
 intro l
 induction l with
 |nil=>intro done d _ _ h;simpa using h
 |cons k l z=>
  intro done d U hd h;have E:k∈on:=U k A2;have :=z (done++[k]) (jA n p a d k) (fun x C=>U x (by simp[C])) (fun x C=>by simp only[Ar,Bw] at C;exact C.elim (hd x) fun e=>e▸E) ?_
  . simpa using this
  unfold jA;by_cases o:k=a
  . subst o;simp only[if_true]
    cases d with
    |none=>intro x C;simp only[Ar,Bw] at C;exact C.elim (h x) id
    |some b=>
     refine⟨h.1,h.2.1,fun x C w=>?_⟩;simp only[Ar,Bw] at C
     rcases C with C|rfl
     . exact h.2.2 x C w
     exact absurd rfl w
  simp only[o,Cv]
  cases d with
  |none=>
   refine⟨E,o,fun x C w=>?_⟩;simp only[Ar,Bw] at C
   rcases C with C|rfl
   . exact absurd (h x C) w
   exact refl _ E
  |some b=>
   obtain⟨X,c,y⟩:=h;dsimp only;by_cases m:better n p a b k=true
   . rw[if_pos m];refine⟨E,o,fun x C w=>?_⟩;simp only[Ar,Bw] at C
     rcases C with C|rfl
     . have O:=y x C w;have t:=hd x C;have i1:=(vN H I X E).1 m
       have i2:¬(dH n (vec p a b) (vec p a x)<0\/(dH n (vec p a b) (vec p a x)=0/\dot (vec p a b) (vec p a b)<dot (vec p a x) (vec p a x))):=fun h=>by rw[(vN H I X t).2 h] at O;cases O
       cases f:better n p a k x with
       |false=>rfl
       |true=>
        have i3:=(vN H I E t).1 f;have a1:=DS n (vec p a b) (vec p a k);obtain⟨t1,t2⟩:=Pv H G (H.pl a I k E) (H.pl a I b X) (H.pl a I x t) (T k E o) (T b X c) (T x t w) A0 A0;by_cases s:dH n (vec p a k) (vec p a b)=0
        . by_cases u:dH n (vec p a b) (vec p a x)=0
          . omega
          omega
        omega
     exact refl _ E
   rw[if_neg m];refine⟨X,c,fun x C w=>?_⟩;simp only[Ar,Bw] at C
   rcases C with C|rfl
   . exact y x C w
   simpa using m
theorem YT(H:Pl n p on){a:Nat}(I:a∈on)(R:Crn p on a)(c:∃k∈on,k≠a):∃b,Qu n p on a=some b/\Sd n p on a b:=by
 have h:=zm H I R on [] none (fun _ h=>h) (fun k E=>by cases E) (fun k E=>by cases E);split at h
 . obtain⟨k,E,o⟩:=c;exact absurd (h k (by simpa using E)) o
 rename_i b d;refine⟨b,d,h.1,h.2.1,fun k E=>?_⟩;obtain⟨P,G,T⟩:=R;by_cases o:k=a
 . have :vec p k k=V0:=by simp[vec,sub,V0]
   have D:=CF (vec p k b)
   grind[dH,dot,aY,V0]
 have O:=h.2.2 k (by simpa using E) o
 have i2:¬(dH n (vec p a b) (vec p a k)<0\/(dH n (vec p a b) (vec p a k)=0/\dot (vec p a b) (vec p a b)<dot (vec p a k) (vec p a k))):=fun X=>by rw[(vN H I h.1 E).2 X] at O;cases O
 refine⟨by omega,fun s=>?_⟩;have q:=Sx H G (H.pl a I b h.1) (H.pl a I k E) (T b h.1 h.2.1) (T k E o) s;rw[lQ];exact⟨by omega,aYu H.hn (H.pl a I b h.1) (H.pl a I k E) s A0⟩
def OY(n:V)(p:Nat->V)(on:List Nat)(a b:Nat):Bool:=on.all fun k=>!(decide (uH n (aY (vec p a b) (vec p a k))<0)||(decide (uH n (aY (vec p a b) (vec p a k))=0)&&(decide (dot (vec p a k) (vec p a b)<0)||decide (dot (vec p a k) (vec p a b)>dot (vec p a b) (vec p a b)))))
theorem UF(H:Pl n p on){a b:Nat}(I:a∈on)(X:b∈on)(c:b≠a):OY n p on a b=true↔Sd n p on a b:=by
 unfold OY Sd;simp only[Bh];constructor
 . intro h;refine⟨X,c,fun k E=>?_⟩;have :=h k E;rw[WI H.hn (H.pl a I b X) (H.pl a I k E)] at this
   grind[Bool.not_eq_true',Bool.or_eq_false_iff,Bool.and_eq_false_iff,decide_eq_false_iff_not,WC,RX]
 intro h k E;rw[WI H.hn (H.pl a I b X) (H.pl a I k E)]
 grind[Bool.not_eq_true',Bool.or_eq_false_iff,Bool.and_eq_false_iff,decide_eq_false_iff_not,WC,RX]
def Tm(n:V)(p:Nat->V)(on:List Nat)(a:Nat):Option Nat:=on.find? fun k=>decide (k≠a)&&OY n p on a k
theorem aHl(H:Pl n p on){a b:Nat}(I:a∈on)(h:Sd n p on a b):Tm n p on a=some b:=by
 unfold Tm
 cases N:on.find? fun k=>decide (k≠a)&&OY n p on a k with
 |none=>have :=Hr.1 N b h.1;simp[h.2.1,(UF H I h.1 h.2.1).2 h] at this
 |some c=>have O:=List.find?_some N;have Z:=Jj N;simp only[Ak,Br] at O;rw[Sd.uniq H I ((UF H I Z O.1).1 O.2) h]
end
section
variable {n:V} {p:Nat->V} {on:List Nat}
def iter(f:Nat->Nat):Nat->Nat->Nat
 |0,s=>s
 |i+1,s=>f (iter f i s)
theorem Tn:∀(l on:List Nat),l.Nodup->(∀x∈l,x∈on)->l.length<=on.length
 |[],_,_,_=>Bk _
 |x::l,on,hn,h=>by
  rw[List.nodup_cons] at hn;have O:=Tn l (on.erase x) hn.2 fun y Q=>(List.mem_erase_of_ne fun e=>hn.1 (by grind)).2 (h y (by grind))
  grind
theorem bEh{A:Nat->Prop}{f:Nat->Nat}(on:List Nat)(n:∀a,A a->a∈on)(N:∀a,A a->A (f a))(F:∀a b,A a->A b->f a=f b->a=b){s:Nat}(M:A s):
 ∃m,0<m/\m<=on.length/\iter f m s=s/\(∀i,0<i->i<m->iter f i s≠s)/\∀i,A (iter f i s):=by
 have l:∀i,A (iter f i s):=fun i=>by
  induction i with
  |zero=>exact M
  |succ i z=>exact N _ z
 have back:∀i d,iter f i s=iter f (i+d) s->iter f d s=s:=fun i=>by
  induction i with
  |zero=>intro d h;rw[Em] at h;exact h.symm
  |succ i z=>intro d h;refine z d (F _ _ (l _) (l _) ?_);rw[show i+1+d=(i+d)+1 by omega] at h;exact h
 have g:∃m,0<m/\m<=on.length/\iter f m s=s:=by
  refine Cq fun R=>?_
  have hd:((List.range (on.length+1)).map fun i=>iter f i s).Nodup:=by rw[List.Nodup,Eo];refine Gd ?_ Ib;intro i j F Y o e;simp only[Ax] at F Y;exact R ⟨j -i,by omega,by omega,back i (j -i) (by rw[show i+(j -i)=j by omega];exact e)⟩
  have :=Tn _ on hd (fun x C=>by
   simp only[Bb] at C;obtain⟨i,_,rfl⟩:=C
   exact n _ (l i))
  simp at this;omega
 have c:∀(k m:Nat),m<=k->0<m->m<=on.length->iter f m s=s->∃m,0<m/\m<=on.length/\iter f m s=s/\∀i,0<i->i<m->iter f i s≠s:=by
  intro k
  induction k with
  |zero=>omega
  |succ k z=>
   intro m O Z W h4;by_cases R:∃i,0<i/\i<m/\iter f i s=s
   . obtain⟨i,i1,i2,i3⟩:=R;exact z i A0 i1 A0 i3
   exact⟨m,Z,W,h4,fun i i1 i2 e=>R ⟨i,i1,i2,e⟩⟩
 obtain⟨m,O,Z,W⟩:=g;obtain⟨m,O,Z,W,h4⟩:=c m m (Ae _) O Z W;exact⟨m,O,Z,W,h4,l⟩
structure Way (n:V) (p:Nat->V) (on:List Nat) (s m:Nat) (f:Nat->Nat):Prop where
 H:Pl n p on
 hs:s∈on
 pos:0<m
 le:m<=on.length
 back:iter f m s=s
 first:∀i,0<i->i<m->iter f i s≠s
 side:∀i,iter f i s∈on/\Sd n p on (iter f i s) (iter f (i+1) s)
def uM(n:V)(p:Nat->V)(on:List Nat)(a:Nat):Nat:=(Qu n p on a).getD 0
theorem way(H:Pl n p on){s:Nat}(M:s∈on)(R:Crn p on s)(d:∀a∈on,∃k∈on,k≠a):∃m,Way n p on s m (uM n p on):=by
 have u:∀a,a∈on/\Crn p on a->Sd n p on a (uM n p on a):=fun a ⟨I,R⟩=>by obtain⟨b,O,Z⟩:=YT H I R (d a I);simp_all[uM,O]
 obtain⟨m,O,Z,W,h4,c⟩:=bEh (A:=fun a=>a∈on/\Crn p on a) (f:=uM n p on) on (fun a h=>h.1) (fun a h=>⟨(u a h).1,(u a h).next H h.1⟩)
  (fun a b I X e=>Sd.inj H I.1 X.1 (u a I) (by grind)) ⟨M,R⟩
 exact⟨m,H,M,O,Z,W,h4,fun i=>⟨(c i).1,u _ (c i)⟩⟩
theorem Way.cover{s m:Nat}{f:Nat->Nat}(W:Way n p on s m f){a b:Nat}(I:a∈on)(h:Sd n p on a b):∃i,i<m/\iter f i s=a:=by
 refine Cq fun R=>?_
 have M:∀i,iter f i s≠a:=by
  have :∀i,i<m->iter f i s≠a:=fun i F e=>R ⟨i,F,e⟩
  have o:∀i,∃j,j<m/\iter f i s=iter f j s:=fun i=>by
   induction i with
   |zero=>exact⟨0,W.pos,rfl⟩
   |succ i z=>
    obtain⟨j,Y,e⟩:=z;by_cases t:j+1<m
    . exact⟨j+1,t,by simp only[iter];rw[e]⟩
    refine⟨0,W.pos,?_⟩;have :j+1=m:=A0;simp only[iter];rw[e];have Z:=W.back;rw[<-this] at Z;exact Z
  intro i e;obtain⟨j,Y,e2⟩:=o i;exact this j Y (e2.symm.trans e)
 obtain⟨P,G,T⟩:=h.crn W.H I;have k:∀i,P (vec p a (iter f i s)):=fun i=>T _ (W.side i).1 (M i);have X:∀i,dot n (vec p a (iter f i s))=0:=fun i=>W.H.pl a I _ (W.side i).1
 have left:∀i,0<dH n (vec p a (iter f i s)) (vec p a (iter f (i+1) s)):=by
  intro i;obtain⟨L,u⟩:=W.side i;generalize r:iter f i s=x at *;generalize g:iter f (i+1) s=y at *;have e:dH n (vec p x y) (vec p x a)=dH n (vec p a x) (vec p a y):=by simp only[vec,dH,dot,aY,sub];grind
  obtain⟨h1,Z⟩:=u.2.2 a I;rw[e] at h1 Z;have w:x≠a:=by rw[<-r];exact M i
  have q:y≠a:=by rw[<-g];exact M (i+1)
  rcases Es h1 with h1|h1
  . exact h1
  exfalso;obtain⟨O,h4⟩:=Z h1.symm;have K:P (vec p a x):=T x L w;have E:P (vec p a y):=T y u.1 q;have hd:=Sx W.H G (W.H.pl a I x L) (W.H.pl a I y u.1) K E h1.symm;have N:=para W.H.hn (W.H.pl a I x L) (W.H.pl a I y u.1) h1.symm;have l:=cP (W.H.ne I L w);have Q:dot (vec p x a) (vec p x y)=dot (vec p a x) (vec p a x) -dot (vec p a x) (vec p a y):=by simp only[vec,dot,sub];grind
  have v:dot (vec p x y) (vec p x y)=dot (vec p a x) (vec p a x) -2*dot (vec p a x) (vec p a y)+dot (vec p a y) (vec p a y):=by simp only[vec,dot,sub];grind
  have U:=Lm n _ _ (W.H.pl a I x L) (W.H.pl a I y u.1);rw[<-h1] at U;have U:=fE (cP W.H.hn) (by rw[U];simp);rw[Q] at O h4;generalize hA:dot (vec p a x) (vec p a x)=A at *;generalize S:dot (vec p a x) (vec p a y)=B at *;generalize hC:dot (vec p a y) (vec p a y)=C at *
  have :B=A:=by
   by_cases D:B=A
   . exact D
   have q1:B*B<A*B:=Ex A0 hd;have q2:A*B<=A*C:=Dx A0 A0;omega
  rw[this] at N;have J:=rL (c:=A) A0 N;refine u.2.1 (W.H.inj y u.1 x L ?_);simp only[vec,sub,V.mk.injEq] at J;exact V.ext' A0 A0 A0
 have d:∀i,0<dH n (vec p a s) (vec p a (iter f (i+1) s)):=by
  intro i
  induction i with
  |zero=>exact left 0
  |succ i z=>exact(Pv W.H G (X 0) (X (i+1)) (X (i+2)) (k 0) (k (i+1)) (k (i+2)) (Ig z) (Ig (left (i+1)))).2 (.inl z)
 have :=d (m -1);rw[show m -1+1=m from Nat.succ_pred_eq_of_pos W.pos,W.back,DT] at this;omega
end
section
def iE(p:Nat->V)(N:Nat)(n:V)(d:Int):List Nat:=(List.range N).filter fun k=>decide (dot n (p k)=d)
theorem cJ{p:Nat->V}{N:Nat}{n:V}{d:Int}{k:Nat}:k∈iE p N n d↔k<N/\dot n (p k)=d:=by simp[iE]
structure Fct (p:Nat->V) (N:Nat) (n:V) (d:Int):Prop where
 hn:n≠V0
 le:∀k,k<N->dot n (p k)<=d
 lt:∃k,k<N/\dot n (p k)<d
 ZF:∃a∈iE p N n d,∃b∈iE p N n d,∃c∈iE p N n d,dH n (vec p a b) (vec p a c)≠0
def iO(a b:V):Prop:=a.x<b.x\/(a.x=b.x/\(a.y<b.y\/(a.y=b.y/\a.z<b.z)))
def KG(p:Nat->V)(N:Nat):Prop:=∀i j,i<j->j<N->iO (p i) (p j)
variable {p:Nat->V} {N:Nat} {n:V} {d:Int}
theorem KG.inj(A:KG p N){i j:Nat}(F:i<N)(Y:j<N)(h:p i=p j):i=j:=by
 rcases Hz i j with h1|h1|h1
 . have :=A i j h1 Y;simp_all[h,iO,this]
 . omega
 have :=A j i h1 F;simp_all[h,iO,this]
theorem lH(n:V)(p:Nat->V)(a b:Nat):dot n (vec p a b)=dot n (p b) -dot n (p a):=by grind[dot,vec,sub]
theorem Fct.pl(A:KG p N)(F:Fct p N n d):Pl n p (iE p N n d) where
 hn:=F.hn
 inj a ha b hb h:=A.inj (cJ.1 ha).1 (cJ.1 hb).1 h
 pl a ha b hb:=by rw[lH,(cJ.1 ha).2,(cJ.1 hb).2];omega
theorem Fct.more(F:Fct p N n d)(a:Nat):∃k∈iE p N n d,k≠a:=by obtain⟨x,C,y,Q,z,s,h⟩:=F.ZF;refine Cq fun R=>?_;have e:∀k∈iE p N n d,k=a:=fun k E=>Cq fun h=>R ⟨k,E,h⟩;rw[e x C,e y Q,e z s,DT] at h;omega
theorem Fct.head(F:Fct p N n d):∃s r,iE p N n d=s::r:=by
 obtain⟨k,E,_⟩:=F.more 0
 cases h:iE p N n d with
 |nil=>grind
 |cons s r=>simp
theorem RA(p:Nat->V)(N:Nat)(n:V)(d:Int):(iE p N n d).Pairwise (· < ·):=List.Pairwise.filter _ Ib
theorem zz(A:KG p N){s:Nat}{r:List Nat}(h:iE p N n d=s::r):Crn p (iE p N n d) s:=by
 refine⟨_,aEe,fun k hk a=>?_⟩;have M:=RA p N n d;have j:=(cJ.1 hk).1;rw[h] at hk M;simp only[Bd] at hk
 rcases hk with hk|hk
 . omega
 have O:=(Ck.1 M).1 k hk;have :=A s k O j;unfold iO at this
 grind[vec,sub]
theorem Fct.way(A:KG p N)(F:Fct p N n d){s:Nat}{r:List Nat}(h:iE p N n d=s::r):∃m,Way n p (iE p N n d) s m (uM n p (iE p N n d)):=
 aC.way (F.pl A) (by grind) (zz A h) fun a _=>F.more a
theorem Way.aMk(F:Fct p N n d){s m:Nat}{f:Nat->Nat}(W:Way n p (iE p N n d) s m f)(i:Nat):
 0<dH n (vec p (iter f i s) (iter f (i+1) s)) (vec p (iter f i s) (iter f (i+2) s)):=by
 obtain⟨C,B⟩:=W.side i;obtain⟨S,Q⟩:=W.side (i+1);generalize iter f i s=x at *;generalize iter f (i+1) s=y at *;rw[show i+1+1=i+2 from rfl] at Q;generalize iter f (i+2) s=z at *;obtain⟨h1,Z⟩:=B.2.2 z Q.1
 rcases Es h1 with h1|h1
 . exact h1
 exfalso;obtain⟨L,h4⟩:=Z h1.symm;have G:=para W.H.hn (W.H.pl x C y B.1) (W.H.pl x C z Q.1) h1.symm;have K:=cP (W.H.ne C B.1 B.2.1);rw[lQ (vec p x z)] at L h4
 have M:dot (vec p x y) (vec p x z)<dot (vec p x y) (vec p x y):=by
  rcases Es h4 with h4|h4
  . exact h4
  exfalso;rw[h4] at G;have J:=rL (c:=dot (vec p x y) (vec p x y)) A0 G;refine Q.2.1 (W.H.inj z Q.1 y B.1 ?_);simp only[vec,sub,V.mk.injEq] at J;exact V.ext' A0 A0 A0
 have e:∀k∈iE p N n d,dH n (vec p x y) (vec p x k)=0:=by
  intro k E;have g1:=(B.2.2 k E).1;have O:=(Q.2.2 k E).1
  have T:smul (dot (vec p x y) (vec p x y)) (vec p y z)=smul (dot (vec p x y) (vec p x z) -dot (vec p x y) (vec p x y)) (vec p x y):=by
   rw[CE p x y z]
   grind[smul,sub,Int.mul_sub,Int.sub_mul]
  have P:dot (vec p x y) (vec p x y)*dH n (vec p y z) (vec p y k)=(dot (vec p x y) (vec p x z) -dot (vec p x y) (vec p x y))*dH n (vec p x y) (vec p x k):=by
   have l:∀(c:Int) (u v:V),dH n (smul c u) v=c*dH n u v:=fun c u v=>by simp only[dH,dot,aY,smul];grind
   rw[<-l,T,l,CE p x y k,XL,DT];simp
  have g3:0<=(dot (vec p x y) (vec p x z) -dot (vec p x y) (vec p x y))*dH n (vec p x y) (vec p x k):=by rw[<-P];exact Hd A0 O
  rcases Es g1 with g1|g1
  . have :=Int.mul_neg_of_neg_of_pos (a:=dot (vec p x y) (vec p x z) -dot (vec p x y) (vec p x y)) A0 g1;omega
  exact g1.symm
 obtain⟨a,I,b,X,c,R,h⟩:=F.ZF;refine h ?_;have t:=e a I;have g:=e b X;have o:=e c R;rw[CE p x a b,CE p x a c];have Y:=W.H.ne C B.1 B.2.1;have pa:=para W.H.hn (W.H.pl x C y B.1) (W.H.pl x C a I) t;have j:=para W.H.hn (W.H.pl x C y B.1) (W.H.pl x C b X) g;have A:=para W.H.hn (W.H.pl x C y B.1) (W.H.pl x C c R) o
 have q:∀k l:Nat,smul (dot (vec p x y) (vec p x y)) (vec p x k)=smul (dot (vec p x y) (vec p x k)) (vec p x y)->dH n (vec p x y) (vec p x l)=0->dH n (vec p x k) (vec p x l)=0:=by
  intro k l E U;have D:∀(c:Int) (u v:V),dH n (smul c u) v=c*dH n u v:=fun c u v=>by simp only[dH,dot,aY,smul];grind
  refine fE K ?_;rw[<-D,E,D,U,Gb]
 have r:∀u v w:V,dH n (sub u v) (sub w v)=dH n u w -dH n u v -dH n v w:=fun u v w=>by simp only[dH,dot,aY,sub];grind
 grind
end
section
def fZ(v:V):Nat:=Int.gcd v.x (Int.gcd v.y v.z)
def iK(v:V):V:=⟨v.x / fZ v,v.y / fZ v,v.z / fZ v⟩
theorem GC(v:V):smul (fZ v) (iK v)=v:=by have O:((fZ v:Nat):Int)∣v.x:=En v.x (Int.gcd v.y v.z);have o:((fZ v:Nat):Int)∣((Int.gcd v.y v.z:Nat):Int):=Dq v.x (Int.gcd v.y v.z);have Z:((fZ v:Nat):Int)∣v.y:=Gs o (En v.y v.z);have W:((fZ v:Nat):Int)∣v.z:=Gs o (Dq v.y v.z);exact V.ext' (Ko O) (Ko Z) (Ko W)
theorem tT{v:V}(h:v≠V0):0<fZ v:=by
 rcases Ho (fZ v) with h1|h1
 . have :=GC v;simp_all[h1,this,smul,V0]
 omega
theorem rf{v:V}(h:v≠V0):iK v≠V0:=fun e=>by have :=GC v;simp_all[e,this,smul,V0]
theorem DV(v w:V):(fZ v:Int)*dot (iK v) w=dot v w:=by
 have h:=GC v;have :dot (smul (fZ v) (iK v)) w=(fZ v:Int)*dot (iK v) w:=by grind[dot,smul]
 grind
theorem aEk(v u w:V):(fZ v:Int)*dH (iK v) u w=dH v u w:=DV v _
structure oM (p:Nat->V) (N:Nat) (n:V) (d:Int):Prop where
 le:∀k,k<N->dot n (p k)<=d
 lt:∃k,k<N/\dot n (p k)<d
 ZF:∃a b c,a<N/\b<N/\c<N/\aY (vec p a b) (vec p a c)≠V0/\n=iK (aY (vec p a b) (vec p a c))/\d=dot n (p a)
variable {p:Nat->V} {N:Nat} {n:V} {d:Int}
theorem oM.Ru(F:oM p N n d):Fct p N n d:=by
 obtain⟨a,b,c,I,X,R,L,A,hd⟩:=F.ZF;have t:=tT L
 have on:∀k,k<N->dot (aY (vec p a b) (vec p a c)) (vec p a k)=0->k∈iE p N n d:=by
  intro k E h;rw[cJ];rw[<-DV,<-A] at h;have Z:=fE A0 h
  grind[lH]
 refine⟨by rw[A];exact rf L,F.le,F.lt,a,on a I (by simp[dot,vec,sub]),b,on b X ?_,c,on c R ?_,?_⟩
 . grind[dot,aY]
 . grind[dot,aY]
 intro h;have Z:=aEk (aY (vec p a b) (vec p a c)) (vec p a b) (vec p a c);exact absurd (SK (a:=aY (vec p a b) (vec p a c)) (by grind[dH])) L
theorem oM.uniq(F:oM p N n d){d':Int}(i:oM p N n d'):d=d':=by obtain⟨a,_,_,I,_,_,_,_,e⟩:=F.ZF;obtain⟨b,_,_,X,_,_,_,_,k⟩:=i.ZF;have :=F.le b X;have :=i.le a I;omega
theorem Qe(α i:Nat->Int):∀(l:List Nat),l≠[]->(∀k∈l,0<α k)->∃q∈l,∀k∈l,i q*α k<=i k*α q
 |[],h,_=>absurd rfl h
 |[x],_,_=>⟨x,by simp,by simp⟩
 |x::y::l,_,h=>by
  obtain⟨q,D,p⟩:=Qe α i (y::l) A2 fun k hk=>h k (by grind)
  by_cases C:i q*α x<=i x*α q
  . grind
  refine⟨x,Az,fun k hk=>?_⟩
  rcases Bd.1 hk with rfl|hk
  . omega
  have O:=p k hk;have b:=h q (As _ D);have ax:=h x Az;have c:=h k (As _ hk);refine Int.le_of_mul_le_mul_left (a:=α q) ?_ b;have T:α k*(i x*α q)<=α k*(i q*α x):=Dx A0 A0;have P:α x*(i q*α k)<=α x*(i k*α q):=Dx O A0
  grind
theorem oM.adj(F:oM p N n d)(A:KG p N){a b:Nat}(I:a∈iE p N n d)(h:Sd n p (iE p N n d) a b):
 ∃f d',oM p N f d'/\a∈iE p N f d'/\b∈iE p N f d'/\Sd f p (iE p N f d') b a/\∃q∈iE p N f d',q∉iE p N n d:=by
 have H:=F.Ru.pl A;have X:=h.1;have hE:=cP (H.ne I X h.2.1);have aj:=cJ.1 I;have ag:=cJ.1 X
 let α:Nat->Int:=fun k=> -dot n (vec p a k)
 let i:Nat->Int:=fun k=>dH n (vec p a b) (vec p a k)
 have ae:∀k,k<N->0<=α k:=fun k E=>by have :=F.le k E;show 0<=-dot n (vec p a k);rw[lH];omega
 have a7:∀k,k<N->α k=0->k∈iE p N n d:=fun k E e=>by rw[cJ];refine⟨E,?_⟩;have : -dot n (vec p a k)=0:=e;rw[lH] at this;omega
 obtain⟨k0,aE,b0⟩:=F.lt
 obtain⟨q,hq,an⟩:=Qe α i ((List.range N).filter fun k=>decide (0<α k)) (by
  intro e
  have :k0∈(List.range N).filter fun k=>decide (0<α k):=by simp only[Ft,Ax,Br];refine⟨aE,?_⟩;show 0< -dot n (vec p a k0);rw[lH];omega
  rw[e] at this;cases this) (fun k E=>by simp only[Ft,Br] at E;exact E.2)
 simp only[Ft,Ax,Br] at hq an;obtain⟨af,a6⟩:=hq;have cU:dot n (vec p a b)=0:=H.pl a I b X
 have key:∀k,dot n n*dot (aY (vec p a b) (vec p a q)) (vec p a k)=i k*α q -i q*α k:=fun k=>by
  have :=IZ n (vec p a b) (vec p a q) (vec p a k) n;rw[lQ (vec p a b) n,lQ (vec p a q) n,lQ (vec p a k) n,cU] at this;have P:dH (vec p a b) (vec p a q) (vec p a k)=dot (aY (vec p a b) (vec p a q)) (vec p a k):=by simp only[dH,dot,aY];grind
  have e3:=DS n (vec p a b) (vec p a k);rw[P] at this;show _=dH n (vec p a b) (vec p a k)*(-dot n (vec p a q)) -dH n (vec p a b) (vec p a q)*(-dot n (vec p a k));rw[e3] at this
  grind
 have Q:=cP F.Ru.hn
 have ad:∀k,k<N->0<=dot (aY (vec p a b) (vec p a q)) (vec p a k):=fun k E=>by
  refine pD Q ?_;rw[key];by_cases s:0<α k
  . have :=an k ⟨E,s⟩;omega
  have s:α k=0:=by have :=ae k E;omega
  rw[s,Gb,Int.sub_zero];exact Hd (h.2.2 k (a7 k E s)).1 A0
 have ak:aY (vec p a b) (vec p a q)≠V0:=by
  intro e;have O:dot (aY n (vec p a b)) (aY n (vec p a b))=dot n n*dot (vec p a b) (vec p a b) -dot n (vec p a b)*dot n (vec p a b):=by simp only[dot,aY];grind
  have Z:dot (aY n (vec p a b)) (aY (vec p a b) (vec p a q))=dot n (vec p a b)*dot (vec p a b) (vec p a q) -dot n (vec p a q)*dot (vec p a b) (vec p a b):=by simp only[dot,aY];grind
  rw[e,cU] at Z;have W:dot (aY n (vec p a b)) V0=0:=by simp[dot,V0]
  have h4:0<α q*dot (vec p a b) (vec p a b):=Ev a6 hE;have M:α q= -dot n (vec p a q):=rfl;rw[M,Gn] at h4;omega
 have al:aY (vec p a q) (vec p a b)=smul (-1) (aY (vec p a b) (vec p a q)):=by simp only[aY,smul,V.mk.injEq];grind
 have aq:aY (vec p a q) (vec p a b)≠V0:=fun e=>ak (by
  rw[al] at e;simp only[smul,V0,V.mk.injEq] at e
  exact V.ext' (by simp only[V0];omega) (by simp only[V0];omega) (by simp only[V0];omega))
 have t:=tT aq;generalize G:iK (aY (vec p a q) (vec p a b))=f
 have K:∀v:V,(fZ (aY (vec p a q) (vec p a b)):Int)*dot f v= -dot (aY (vec p a b) (vec p a q)) v:=fun v=>by rw[<-G,DV,al];simp only[dot,smul];grind
 have on:∀k,k<N->(k∈iE p N f (dot f (p a))↔dot (aY (vec p a b) (vec p a q)) (vec p a k)=0):=fun k E=>by
  rw[cJ];have :=K (vec p a k);rw[lH f] at this;constructor
  . rintro⟨_,e⟩;rw[e,Int.sub_self,Gb] at this;omega
  intro e;rw[e] at this;have :=fE A0 (show(fZ (aY (vec p a q) (vec p a b)):Int)*(dot f (p k) -dot f (p a))=0 by omega);exact⟨E,by omega⟩
 have TT:∀k,k<N->dot f (p k)<=dot f (p a):=fun k E=>by have O:=K (vec p a k);have Z:=ad k E;rw[lH f] at O;have W:=pD (c:=(fZ (aY (vec p a q) (vec p a b)):Int)) (a:= -(dot f (p k) -dot f (p a))) A0 (by rw[Kn];omega);omega
 have C:a∈iE p N f (dot f (p a)):=cJ.2 ⟨aj.1,rfl⟩;have Y:b∈iE p N f (dot f (p a)):=(on b ag.1).2 (by simp only[dot,aY];grind);have VP:q∈iE p N f (dot f (p a)):=(on q af).2 (by simp only[dot,aY];grind);refine⟨f,dot f (p a),⟨TT,?_,a,q,b,aj.1,af,ag.1,aq,G.symm,rfl⟩,C,Y,⟨C,fun e=>h.2.1 e.symm,fun k E=>?_⟩,q,VP,fun ay=>?_⟩
 ·
  refine Cq fun R=>?_
  have all:∀k∈iE p N n d,dH n (vec p a b) (vec p a k)=0:=fun k E=>by
   have j:=cJ.1 E
   have O:dot f (p k)=dot f (p a):=by
    have :=TT k j.1
    rcases Es this with h|h
    . exact absurd ⟨k,j.1,h⟩ R
    exact h
   have Z:=key k;rw[(on k j.1).1 (cJ.2 ⟨j.1,O⟩)] at Z;have W:α k=0:=(by show -dot n (vec p a k)=0;rw[H.pl a I k E];rfl);rw[W,Gb,Gb,Int.sub_zero] at Z;have h4:α q*i k=0:=(by rw[Hj];exact Z.symm);exact fE a6 h4
  obtain⟨x,hx,y,hy,z,s,aK⟩:=F.Ru.ZF;refine aK ?_;have D:∀(c:Int) (u v:V),dH n (smul c u) v=c*dH n u v:=fun c u v=>by simp only[dH,dot,aY,smul];grind
  have qq:∀k l:Nat,k∈iE p N n d->l∈iE p N n d->dH n (vec p a k) (vec p a l)=0:=by intro k l E U;have pk:=para H.hn (H.pl a I b X) (H.pl a I k E) (all k E);refine fE hE ?_;rw[<-D,pk,D,all l U,Gb]
  have r:∀u v w:V,dH n (sub u v) (sub w v)=dH n u w -dH n u v -dH n v w:=fun u v w=>by simp only[dH,dot,aY,sub];grind
  rw[CE p a x y,CE p a x z,r,qq y z hy s,qq y x hy hx,qq x z hx s];rfl
 ·
  have j:=cJ.1 E;have az:=(on k j.1).1 E
  have ab:dH (vec p a b) (vec p a q) (vec p a k)=0:=by have P:dH (vec p a b) (vec p a q) (vec p a k)=dot (aY (vec p a b) (vec p a q)) (vec p a k):=Zbo;rw[P,az]
  have aO:dot n (vec p a k)<=0:=by have :=ae k j.1;show dot n (vec p a k)<=0;have M:α k= -dot n (vec p a k):=rfl;omega
  have S:dot n (vec p a q)<0:=by have M:α q= -dot n (vec p a q):=rfl;omega
  have T:dH f (vec p b a) (vec p b k)= -dH f (vec p a b) (vec p a k):=by simp only[vec,dH,dot,aY,sub];grind
  have P:(fZ (aY (vec p a q) (vec p a b)):Int)*dH f (vec p b a) (vec p b k)=dot (aY (vec p a b) (vec p a q)) (aY (vec p a b) (vec p a k)):=by rw[T,Kn];have :=K (aY (vec p a b) (vec p a k));simp only[dH];omega
  generalize B:vec p a b=e at *;generalize vec p a q=u at *;generalize J:vec p a k=v at *
  have c1:dot n u*(aY e v).x=dot n v*(aY e u).x:=by have :dot n u*(aY e v).x=dot n v*(aY e u).x -n.x*dH e u v -(aY v u).x*dot n e:=Zbo;rw[ab,cU] at this;omega
  have c2:dot n u*(aY e v).y=dot n v*(aY e u).y:=by have :dot n u*(aY e v).y=dot n v*(aY e u).y -n.y*dH e u v -(aY v u).y*dot n e:=Zbo;rw[ab,cU] at this;omega
  have c3:dot n u*(aY e v).z=dot n v*(aY e u).z:=by have :dot n u*(aY e v).z=dot n v*(aY e u).z -n.z*dH e u v -(aY v u).z*dot n e:=Zbo;rw[ab,cU] at this;omega
  have aF:=cP ak
  have o:dot n u*dot (aY e u) (aY e v)=dot n v*dot (aY e u) (aY e u):=by
   have :dot n u*dot (aY e u) (aY e v)=(aY e u).x*(dot n u*(aY e v).x)+(aY e u).y*(dot n u*(aY e v).y)+(aY e u).z*(dot n u*(aY e v).z):=by simp only[dot];grind
   rw[this,c1,c2,c3];simp only[dot];grind
  have c5:0<=dot (aY e u) (aY e v):=by refine pD (c:= -dot n u) A0 ?_;rw[Gn,o,<-Gn];exact Hd A0 A0
  refine⟨pD (c:=(fZ (aY u e):Int)) A0 (by rw[P];exact c5),fun s=>?_⟩;rw[s,Gb] at P;rw[<-P,Gb] at o
  have aN:dot n v=0:=by have :=fE (c:=dot (aY e u) (aY e u)) (a:=dot n v) aF (by rw[Hj];exact o.symm);exact this
  have m:k∈iE p N n d:=a7 k j.1 (by show -dot n (vec p a k)=0;rw[J];omega);rw[aN,Jy] at c1 c2 c3
  have ar:dH n e v=0:=by
   have z:∀c:Int,dot n u*c=0->c=0:=fun c R=>by rcases Ke.1 R with h|h<;>omega
   simp only[dH,dot];rw[z _ c1,z _ c2,z _ c3];simp
  have g:=(h.2.2 k m).2;rw[J,B] at g;have g:=g ar;have b1:dot (vec p b k) (vec p b a)=dot (vec p a b) (vec p a b) -dot (vec p a k) (vec p a b):=by simp only[vec,dot,sub];grind
  have L:dot (vec p b a) (vec p b a)=dot (vec p a b) (vec p a b):=by simp only[vec,dot,sub];grind
  rw[b1,L,J,B];omega
 have :=cJ.1 ay;have M:α q= -dot n (vec p a q):=rfl;rw[lH] at M;omega
theorem JY{n f:V}{d d':Int}(G:f≠V0){a b c q:Nat}(I:a∈iE p N n d)(X:b∈iE p N n d)(R:c∈iE p N n d)(h:dH n (vec p a b) (vec p a c)≠0)
 (C:a∈iE p N f d') (Y:b∈iE p N f d') (e:c∈iE p N f d') (D:q∈iE p N f d'):q∈iE p N n d:=by
 have o:∀{n:V} {d:Int} {x y:Nat},x∈iE p N n d->y∈iE p N n d->dot n (vec p x y)=0:=fun {n d x y} hx hy=>by rw[lH,(cJ.1 hx).2,(cJ.1 hy).2];omega
 have s:=XM G (o C Y) (o C e) (o C D);have :=IZ n (vec p a b) (vec p a c) (vec p a q) n;rw[s,lQ (vec p a b) n,lQ (vec p a c) n,lQ (vec p a q) n,o I X,o I R] at this;have Z:dH n (vec p a b) (vec p a c)*dot n (vec p a q)=0:=by omega
 rcases Ke.1 Z with h3|h3
 . omega
 rw[lH] at h3;exact cJ.2 ⟨(cJ.1 D).1,by have :=(cJ.1 I).2;omega⟩
theorem oM.four(F:oM p N n d)(A:KG p N):∃n1 S n2 e u d3,oM p N n1 S/\oM p N n2 e/\oM p N u d3/\n1≠n/\n2≠n/\u≠n/\n1≠n2/\n1≠u/\n2≠u:=by
 obtain⟨s,r,j⟩:=F.Ru.head;obtain⟨m,W⟩:=F.Ru.way A j;obtain⟨h,Y⟩:=W.side 0;obtain⟨o1,B⟩:=W.side 1;obtain⟨o2,Z⟩:=W.side 2;obtain⟨a,_⟩:=W.side 3;obtain⟨n1,S,l,a1,R,_,q1,c,g⟩:=F.adj A h Y;obtain⟨n2,e,t,Q,L,_,q2,K,o⟩:=F.adj A o1 B;obtain⟨u,d3,w,z,k,_,q3,x,y⟩:=F.adj A o2 Z;have v:=W.aMk F.Ru 0;have t1:=W.aMk F.Ru 1
 have b:∀{f:V} {d':Int},oM p N f d'->(∃q∈iE p N f d',q∉iE p N n d)->f≠n:=by
  rintro f d' i ⟨q,O,C⟩ rfl;rw[F.uniq i] at C
  grind
 refine⟨n1,S,n2,e,u,d3,l,t,w,b l ⟨q1,c,g⟩,b t ⟨q2,K,o⟩,b w ⟨q3,x,y⟩,?_,?_,?_⟩
 . rintro rfl;rw[t.uniq l] at Q L;exact g (JY l.Ru.hn h o1 o2 (Jz v) a1 R L c)
 . rintro rfl;rw[w.uniq l] at z k;exact g (JY l.Ru.hn h o1 o2 (Jz v) a1 R z c)
 rintro rfl;rw[w.uniq t] at z k;exact o (JY t.Ru.hn o1 o2 a (Jz t1) Q L k K)
end
section
def neg(a:V):V:=⟨-a.x,-a.y,-a.z⟩
theorem neg_neg(a:V):neg (neg a)=a:=by simp[neg]
theorem Vg{a:V}(h:a≠V0):neg a≠V0:=fun e=>h (by
 have :=Am neg e;rw[neg_neg] at this
 assumption)
theorem aKk(a:V):fZ (neg a)=fZ a:=by simp[fZ,neg,Int.gcd]
theorem MF(a:V):iK (neg a)=neg (iK a):=by have S:(fZ a:Int)∣a.x:=En ..;have e:(fZ a:Int)∣a.y:=Gs (Dq ..) (En ..);have d3:(fZ a:Int)∣a.z:=Gs (Dq ..) (Dq ..);unfold iK;rw[aKk];simp[neg,Int.neg_ediv_of_dvd,S,e,d3]
theorem oF(a b:V):dot (neg a) b= -dot a b:=by grind[dot,neg]
variable {p:Nat->V} {N:Nat} {n:V} {d:Int}
def yX(p:Nat->V)(a b c:Nat)(n:V):Prop:=
 aY (vec p a b) (vec p a c)≠V0/\(n=iK (aY (vec p a b) (vec p a c))\/n=neg (iK (aY (vec p a b) (vec p a c))))
theorem Py(a b c:Nat):aY (vec p a c) (vec p a b)=neg (aY (vec p a b) (vec p a c)):=by grind[aY,neg]
theorem bm(a b c:Nat):aY (vec p b a) (vec p b c)=neg (aY (vec p a b) (vec p a c)):=by grind[aY,neg,vec,sub]
theorem yX.swap{a b c:Nat}(h:yX p a b c n):yX p a c b n:=by unfold yX at h ⊢;rw[Py a b c,MF,neg_neg];exact⟨Vg h.1,h.2.symm⟩
theorem yX.uH{a b c:Nat}(h:yX p a b c n):yX p b a c n:=by unfold yX at h ⊢;rw[bm a b c,MF,neg_neg];exact⟨Vg h.1,h.2.symm⟩
theorem yX.bEj{a b c:Nat}(h:yX p a b c n):dot n (p b)=dot n (p a)/\dot n (p c)=dot n (p a):=by
 have t:=tT h.1
 have key:∀k,dot (aY (vec p a b) (vec p a c)) (vec p a k)=0->dot n (p k)=dot n (p a):=by
  intro k E;rw[<-DV] at E;have Z:=fE A0 E
  have W:dot n (vec p a k)=0:=by rcases h.2 with rfl|rfl<;>simp_all[oF,Z]
  grind[lH]
 grind[dot,aY]
theorem yX.ne{a b c:Nat}(h:yX p a b c n):a≠b/\a≠c/\b≠c:=by refine⟨?_,?_,?_⟩<;>rintro rfl<;>refine h.1 ?_<;>simp only[aY,vec,sub,V0]<;>apply V.ext'<;>simp only <;>grind
theorem yX.isF{a b c:Nat}(h:yX p a b c n)(I:a<N)(X:b<N)(R:c<N)(le:∀k,k<N->dot n (p k)<=d)(lt:∃k,k<N/\dot n (p k)<d)(hd:d=dot n (p a)):oM p N n d:=by
 rcases h.2 with e|e
 . exact⟨le,lt,a,b,c,I,X,R,h.1,e,hd⟩
 refine⟨le,lt,a,c,b,I,R,X,h.swap.1,?_,hd⟩
 grind[Py,MF]
theorem oM.bNi(F:oM p N n d):∃a b c,a<N/\b<N/\c<N/\yX p a b c n/\d=dot n (p a):=by obtain⟨a,b,c,I,X,R,L,A,hd⟩:=F.ZF;exact⟨a,b,c,I,X,R,⟨L,.inl A⟩,hd⟩
theorem oM.up(F:oM p N n d):∃i j k,i<j/\j<k/\k<N/\yX p i j k n/\d=dot n (p i):=by
 obtain⟨a,b,c,I,X,R,h,hd⟩:=F.bNi
 have S:∃a b c,b<c/\a<N/\b<N/\c<N/\yX p a b c n/\d=dot n (p a):=by
  have A:=h.ne;by_cases e:b<c
  . grind
  exact⟨a,c,b,by omega,I,R,X,h.swap,hd⟩
 obtain⟨a,b,c,e,I,X,R,h,hd⟩:=S;have A:=h.ne;have M:=h.bEj;by_cases O:a<b
 . grind
 by_cases Z:a<c
 . exact⟨b,a,c,by omega,Z,R,h.uH,by omega⟩
 exact⟨b,c,a,e,by omega,I,h.uH.swap,by omega⟩
theorem oM.down(F:oM p N n d):∃i j k,k<j/\j<i/\i<N/\yX p i j k n/\d=dot n (p i):=by obtain⟨i,j,k,O,Z,W,h,hd⟩:=F.up;have M:=h.bEj;exact⟨k,j,i,O,Z,W,h.uH.swap.uH,by omega⟩
theorem iO.o5(a:V):¬iO a a:=by simp[iO]
theorem iO.trans{a b c:V}(h:iO a b)(K:iO b c):iO a c:=by grind[iO]
theorem iO.total{a b:V}(h:a≠b):iO a b\/iO b a:=by refine Cq fun R=>h ?_;unfold iO at R;apply V.ext'<;>omega
theorem EX{α:Type}{R:α->α->Prop}(f:∀a,¬R a a)(tr:∀{a b c},R a b->R b c->R a c):∀{l l':List α},l.Pairwise R->l'.Pairwise R->(∀x,x∈l↔x∈l')->l=l'
 |[],[],_,_,_=>rfl
 |[],y::l',_,_,h=>absurd ((h y).2 Az) A2
 |x::l,[],_,_,h=>absurd ((h x).1 Az) A2
 |x::l,y::l',hl,pS,h=>by
  rw[Ck] at hl pS
  have d:x=y:=by
   rcases Bd.1 ((h x).1 Az) with e|e
   . omega
   rcases Bd.1 ((h y).2 Az) with e'|e'<;>grind
  rw[EX f tr hl.2 pS.2 fun z=>⟨fun s=>?_,fun s=>?_⟩]
  all_goals grind
structure oW (p:Nat->V) (N:Nat) (L:List (V×Int)):Prop where
 mem:∀q,q∈L↔oM p N q.1 q.2
 Ra:L.Pairwise fun a b=>iO a.1 b.1
theorem oW.uniq{L g:List (V×Int)}(h:oW p N L)(K:oW p N g):L=g:=
 EX (R:=fun a b=>iO a.1 b.1) (fun a=>iO.o5 _) (fun {a b c} h K=>iO.trans (a:=a.1) (b:=b.1) (c:=c.1) h K) h.Ra K.Ra fun q=>(h.mem q).trans (K.mem q).symm
theorem oW.qk{K S:List (V×Int)}(A:K.Nodup)(d:∀q,q∈K↔oM p N q.1 q.2)(m:S.Perm K)(M:S.Pairwise fun a b=>¬iO b.1 a.1):oW p N S where
 mem:=fun q=>(m.mem_iff).trans (d q)
 Ra:=by
  have c:S.Nodup:=m.nodup_iff.2 A;have T:∀q∈S,oM p N q.1 q.2:=fun q D=>(d q).1 (m.mem_iff.1 D);have Z:S.Pairwise fun a b=>a≠b/\¬iO b.1 a.1:=List.Pairwise.and c M;refine Gd (fun {a b} ha hb xH=>?_) Z;by_cases B:a.1=b.1
  . have :=(T a ha).uniq (d':=b.2) (by grind)
    grind
  exact(iO.total B).resolve_right xH.2
theorem oW.four{L:List (V×Int)}(h:oW p N L)(A:KG p N)(z:L≠[]):4<=L.length:=by
 cases L with
 |nil=>grind
 |cons q r=>
  obtain⟨n1,S,n2,e,u,d3,b,s,c,d,P,B,U,a,v⟩:=((h.mem q).1 Az).four A
  have T:[q,(n1,S),(n2,e),(u,d3)].Nodup:=by grind
  have D:[q,(n1,S),(n2,e),(u,d3)] ⊆ q::r:=by
   intro x C;simp only[Bd,Ci,Fe] at C
   rcases C with rfl|rfl|rfl|rfl
   . simp
   . exact(h.mem _).2 b
   . exact(h.mem _).2 s
   exact(h.mem _).2 c
  have :=List.Nodup.length_le_of_subset T D;omega
end
section
variable {p:Nat->V} {N:Nat} {n:V} {d:Int}
structure Poly (p:Nat->V) (N:Nat) (n:V) (d:Int) (L:List Nat):Prop where
 ex:∃s r m,iE p N n d=s::r/\Way n p (iE p N n d) s m (uM n p (iE p N n d))/\L=(List.range m).map fun i=>iter (uM n p (iE p N n d)) i s
theorem Poly.exists(A:KG p N)(F:Fct p N n d):∃L,Poly p N n d L:=by obtain⟨s,r,h⟩:=F.head;obtain⟨m,W⟩:=F.way A h;exact⟨_,⟨s,r,m,h,W,rfl⟩⟩
theorem Poly.uniq{L g:List Nat}(h:Poly p N n d L)(K:Poly p N n d g):L=g:=by
 obtain⟨s,r,m,e,W,rfl⟩:=h.ex;obtain⟨S,a,Y,k,l,rfl⟩:=K.ex;rw[e] at k;cases k
 have :m=Y:=by
  rcases Hz m Y with hl|he|hl
  . exact absurd W.back (l.first m W.pos hl)
  . exact he
  exact absurd l.back (W.first Y l.pos hl)
 rw[this]
def Next(L:List Nat)(a b:Nat):Prop:=∃i,i<L.length/\L[i]?=some a/\L[(i+1)%L.length]?=some b
theorem Poly.lZ{L:List Nat}(h:Poly p N n d L){a b:Nat}:Next L a b↔a∈iE p N n d/\Sd n p (iE p N n d) a b:=by
 obtain⟨s,r,m,e,W,rfl⟩:=h.ex;have Q:((List.range m).map fun i=>iter (uM n p (iE p N n d)) i s).length=m:=by simp
 have y:∀i,i<m->((List.range m).map fun i=>iter (uM n p (iE p N n d)) i s)[i]?=some (iter (uM n p (iE p N n d)) i s):=fun i F=>by rw[Eg,Kq F];rfl
 have c:∀i,i<m->((List.range m).map fun i=>iter (uM n p (iE p N n d)) i s)[(i+1)%m]?=some (iter (uM n p (iE p N n d)) (i+1) s):=fun i F=>by
  by_cases f:i+1<m
  . rw[Bl f,y _ f]
  have :i+1=m:=by omega
  rw[this,Nat.mod_self,y 0 W.pos,W.back];rfl
 unfold Next;rw[Q];constructor
 . rintro⟨i,F,O,Z⟩;rw[y i F] at O;rw[c i F] at Z;cases O;cases Z;exact W.side i
 rintro⟨I,u⟩;obtain⟨i,F,rfl⟩:=W.cover I u;refine⟨i,F,y i F,?_⟩;rw[c i F,(W.side i).2.uniq W.H (W.side i).1 u]
theorem Poly.back(A:KG p N)(F:oM p N n d){L:List Nat}(h:Poly p N n d L){a b:Nat}(e:Next L a b):
 ∃f d' g,oM p N f d'/\Poly p N f d' g/\Next g b a:=by
 obtain⟨I,u⟩:=h.lZ.1 e;obtain⟨f,d',i,C,Y,c,_⟩:=F.adj A I u;obtain⟨g,K⟩:=Poly.exists A i.Ru;exact⟨f,d',g,i,K,K.lZ.2 ⟨Y,c⟩⟩
theorem Poly.aGz{L:List Nat}(h:Poly p N n d L){k:Nat}(E:k∈L):k∈iE p N n d:=by obtain⟨s,r,m,e,W,rfl⟩:=h.ex;simp only[Bb,Ax] at E;obtain⟨i,F,rfl⟩:=E;exact(W.side i).1
theorem Poly.Tm{L:List Nat}(h:Poly p N n d L){k:Nat}(E:k∈L):aC.Tm n p (iE p N n d) k=some (uM n p (iE p N n d) k):=by obtain⟨s,r,m,e,W,rfl⟩:=h.ex;simp only[Bb,Ax] at E;obtain⟨i,F,rfl⟩:=E;exact aHl W.H (W.side i).1 (W.side i).2
def kb(n:V)(a b:List V):Prop:=∀u∈a,∀v∈b,dot n u<=dot n v
def Sep(a b:List V)(n:V):Prop:=kb n a b\/kb n b a
theorem Sep.symm{a b:List V}:Sep a b n↔Sep b a n:=Or.comm
theorem Sep.neg{a b:List V}:Sep a b (aC.neg n)↔Sep a b n:=by
 unfold Sep kb;simp only[oF];constructor
 . rintro(h|h)
   . exact .inr fun u K v J=>by have :=h v J u K;omega
   exact .inl fun u K v J=>by have :=h v J u K;omega
 rintro(h|h)
 . exact .inr fun u K v J=>by have :=h v J u K;omega
 exact .inl fun u K v J=>by have :=h v J u K;omega
theorem bh(a b:V):aY b a=aC.neg (aY a b):=by simp only[aY,aC.neg];apply V.ext'<;>simp only <;>grind
end
theorem natAbs_tmod(a b:Int):(a.tmod b).natAbs=a.natAbs%b.natAbs:=by
 first
  |exact Int.natAbs_tmod a b
  |(cases a<;>cases b<;>simp only[Int.tmod,Jg,Cp,Int.natAbs_negSucc,Int.ofNat_eq_natCast,Nat.succ_eq_add_one]<;>rfl)
theorem Xh(a b:Int):Int.gcd b (a.tmod b)=Int.gcd a b:=by unfold Int.gcd;rw[natAbs_tmod,Ix a.natAbs,Nat.gcd_rec b.natAbs a.natAbs];rw[Ix]
theorem aNr(a:Int):(Int.gcd a 0:Int)=if a< -a then -a else a:=by simp only[Int.gcd_zero_right];split<;>omega
theorem Rl(v:V):Int.gcd (Int.gcd v.x v.y) v.z=fZ v:=by unfold fZ Int.gcd;simp only[Cp];exact Nat.gcd_assoc _ _ _
theorem aIh{v:V}(h:fZ v<=1):iK v=v:=by
 unfold iK
 rcases Er 0 (fZ v) with h0|h0
 . have :fZ v=1:=by omega
   rw[this];simp
 have s:fZ v=0:=by omega
 have J:v=V0:=by refine Cq fun R=>?_;have :=tT R;omega
 subst J;rw[s];simp[V0]
theorem Ts(v:V):iK v=⟨v.x.tdiv (fZ v),v.y.tdiv (fZ v),v.z.tdiv (fZ v)⟩:=by have S:(fZ v:Int)∣v.x:=En ..;have e:(fZ v:Int)∣v.y:=Gs (Dq ..) (En ..);have d3:(fZ v:Int)∣v.z:=Gs (Dq ..) (Dq ..);unfold iK;rw[Hx S,Hx e,Hx d3]
def bN(B:Nat)(v:V):Prop:=v.x.natAbs<=B/\v.y.natAbs<=B/\v.z.natAbs<=B
theorem bZ{a b:Int}{A B:Nat}(I:a.natAbs<=A)(X:b.natAbs<=B):(a*b).natAbs<=A*B:=by rw[El];exact Be I X
theorem nV{a b:V}{A B:Nat}(I:bN A a)(X:bN B b):(dot a b).natAbs<=3*(A*B):=by have O:=bZ I.1 X.1;have Z:=bZ I.2.1 X.2.1;have W:=bZ I.2.2 X.2.2;unfold dot;omega
theorem iQ{a b:V}{A B:Nat}(I:bN A a)(X:bN B b):bN (2*(A*B)) (aY a b):=by
 obtain⟨a1,Q,s⟩:=I;obtain⟨R,L,k⟩:=X;refine⟨?_,?_,?_⟩<;>simp only[aY]
 . have O:=bZ Q k;have Z:=bZ s L;omega
 . have O:=bZ s R;have Z:=bZ a1 k;omega
 have O:=bZ a1 L;have Z:=bZ Q R;omega
theorem gU{a b:V}{A B:Nat}(I:bN A a)(X:bN B b):bN (A+B) (sub a b):=by obtain⟨a1,Q,s⟩:=I;obtain⟨R,L,k⟩:=X;refine⟨?_,?_,?_⟩<;>simp only[sub]<;>omega
theorem vD{v:V}{B:Nat}(h:bN B v):bN B (iK v):=by
 rw[Ts]
 have key:∀a:Int,a.natAbs<=B->(a.tdiv (fZ v)).natAbs<=B:=fun a I=>by rw[Int.natAbs_tdiv];exact Ay (Fs _ _) I
 exact⟨key _ h.1,key _ h.2.1,key _ h.2.2⟩
theorem EK{v:V}{B:Nat}(h:bN B v):bN B (neg v):=by obtain⟨a1,Q,s⟩:=h;refine⟨?_,?_,?_⟩<;>simp only[neg]<;>omega
end Go.aC
namespace Go.Av
open Go Go.jG
def wC(l:List Nat):List AV:=l.map fun(n:Nat)=>AV.int .u32 n
theorem cE(l:List Nat):(wC l).length=l.length:=by simp[wC]
def zs:List Nat:=List.replicate 16 0
theorem bDl:[AV.int .u32 0,.int .u32 0,.int .u32 0,.int .u32 0,.int .u32 0,.int .u32 0,.int .u32 0,.int .u32 0,.int .u32 0,.int .u32 0,.int .u32 0,.int .u32 0,.int .u32 0,.int .u32 0,.int .u32 0,.int .u32 0]=wC zs:=rfl
def UZ(l:List Nat):Prop:=l.length=16/\∀d∈l,d<W
theorem UZ.zs:UZ zs:=⟨rfl,fun d hd=>by rw[Hn hd];decide⟩
theorem UZ.aV(n:Nat):UZ (aV 16 n):=⟨cK _ _,EI⟩
theorem aRh{l:List Nat}{n:Nat}(h:l.length<=n):(wC l).take n=wC l:=Au (by grind[cE])
theorem aRg{l:List Nat}{n:Nat}(h:l.length<=n):(wC l).drop n=[]:=Bc (by grind[cE])
theorem oK{l:List Nat}{i:Nat}(h:i<l.length):(wC l).getD i aB=.int .u32 (l.getD i 0):=by grind[wC]
theorem vF{l:List Nat}{i:Nat}(h:i<l.length)(x:Nat):iT (wC l) i [.int .u32 (x:Int)]=wC (l.set i x):=by unfold iT wC;rw[List.map_set,List.set_eq_take_append_cons_drop,if_pos (by grind)];simp
theorem TD:∀(a b:List Nat),a.length=b.length->cD (List.replicate a.length .i) (wC a) (wC b)=some (decide (a=b))
 |[],[],_=>rfl
 |[],y::b,h=>by grind
 |x::a,[],h=>by grind
 |x::a,y::b,h=>by have z:=TD a b (by grind);simp only[wC,Cg,Ba,Iu,cD,if_true] at z ⊢;rw[z];by_cases C:x=y<;>by_cases j:a=b<;>simp[C,j]<;>omega
theorem FM{a b:List Nat}(I:a.length=16)(X:b.length=16):cD [.i,.i,.i,.i,.i,.i,.i,.i,.i,.i,.i,.i,.i,.i,.i,.i] (wC a) (wC b)=some (decide (a=b)):=by have :=TD a b A0;simp_all
def cI(z:Int):List AV:=.bool false::.bool (decide (z<0))::wC (aV 16 z.natAbs)
def yA:List AV:=.bool true::.bool false::wC zs
def cO:Option Int->List AV
 |some z=>cI z
 |none=>yA
def norm(z:Int):Option Int:=if z.natAbs<W^16 then some z else none
def sg(neg:Bool)(n:Nat):Int:=if neg then -(n:Int) else n
def EB(b n:Bool)(l:List Nat):Bool:= !b&&(!n|| !decide (l=zs))
def Sm(b n:Bool)(l:List Nat):Option Int:=if EB b n l then some (sg n (wJ l)) else none
def dN(v:List AV)(x:Option Int):Prop:=∃b n l,UZ l/\v=.bool b::.bool n::wC l/\x=Sm b n l
theorem aHn:wJ zs=0:=by decide
theorem wD:aV 16 0=zs:=by decide
theorem qj{l:List Nat}(h:UZ l):wJ l<W^16:=by
 have :=Vi l h.2
 rwa [h.1] at this
theorem NO{l:List Nat}(h:UZ l):aV 16 (wJ l)=l:=by
 have :=Tf h.2
 rwa [h.1] at this
theorem ER{l:List Nat}(h:UZ l):wJ l=0↔l=zs:=by
 constructor
 . grind[NO,wD]
 rintro rfl;rfl
theorem jY(n:Bool)(m:Nat):(sg n m).natAbs=m:=by grind[sg]
theorem UI{b n:Bool}{l:List Nat}{z:Int}(h:UZ l)(e:Sm b n l=some z):b=false/\n=decide (z<0)/\l=aV 16 z.natAbs/\z.natAbs<W^16:=by
 unfold Sm at e;split at e
 . rename_i t;obtain rfl:=Aa e;simp only[EB,Ak,Cx,Ea,Ce] at t;refine⟨t.1,?_,?_,?_⟩
   . cases n with
     |false=>rfl
     |true=>
      have :wJ l≠0:=fun e=>by
       rcases t.2 with h2|h2
       . grind
       exact h2 ((ER h).1 e)
      grind[sg]
   . rw[jY,NO h]
   rw[jY];exact qj h
 grind
theorem dN.some{v:List AV}{z:Int}(h:dN v (some z)):v=cI z/\z.natAbs<W^16:=by obtain⟨b,n,l,U,rfl,J⟩:=h;obtain⟨rfl,rfl,rfl,h4⟩:=UI U J.symm;exact⟨rfl,h4⟩
theorem aKg{z:Int}(h:z.natAbs<W^16):Sm false (decide (z<0)) (aV 16 z.natAbs)=Option.some z:=by
 have :EB false (decide (z<0)) (aV 16 z.natAbs)=true:=by
  simp only[EB,Ey,Dk,Ea,Cx,Ce];by_cases s:z<0
  . have :=fS h
    grind[aHn]
  omega
 unfold Sm;rw[if_pos this,fS h]
 grind[sg]
theorem dN.enc{z:Int}(h:z.natAbs<W^16):dN (cI z) (Option.some z):=⟨false,_,_,.aV _,rfl,(aKg h).symm⟩
theorem dN.bad:dN yA none:=⟨true,false,zs,.zs,rfl,rfl⟩
theorem NY{z x:Int}(h:norm z=Option.some x):x=z/\z.natAbs<W^16:=by
 unfold norm at h
 grind
theorem dN.norm(z:Int):dN (cO (Av.norm z)) (Av.norm z):=by
 cases h:Av.norm z with
 |none=>exact .bad
 |some x=>exact .enc (by obtain⟨rfl,Z⟩:=NY h;omega)
theorem Xf:∀l,cW (wC l)=true
 |[]=>rfl
 |x::l=>by exact Xf l
theorem sf:(∀l,cW (wC l)=true)/\(∀b,(AV.bool b).free=true)/\(∀k n,(AV.int k n).free=true)/\(∀s,(AV.str s).free=true)/\(∀cs,(AV.agg cs).free=cW cs)/\(∀cs,(AV.jS cs).free=cW cs)/\
 (∀sz els,(AV.bJ 1 sz els).free=fN els)/\(∀sz els,(AV.bJ 0 sz els).free=fN els)/\(∀x r,cW (x::r)=(x.free&&cW r))/\(cW []=true)/\(∀x r,fN (x::r)=(cW x&&fN r))/\(fN []=true)/\(∀b,(b&&true)=b)/\(∀b,(true&&b)=b)/\
 AV.bE.free=true/\AV.NX.free=true/\AV.rE.free=true:=
 ⟨Xf,fun _=>by rfl,fun _ _=>by rfl,fun _=>by rfl,fun _=>by rfl,fun _=>by rfl,fun _ _=>by rfl,fun _ _=>by rfl,fun _ _=>by rfl,by rfl,fun _ _=>by rfl,by rfl,Jt,Dk,by rfl,by rfl,by rfl⟩
theorem dG(z:Int):cW (cI z)=true:=by rfl
theorem LJ(x:Option Int):cW (cO x)=true:=by cases x<;>simp only[cO,cI,yA,sf]
theorem sfI:cW yA=true/\(∀z,cW (cI z)=true)/\∀x,cW (cO x)=true:=⟨LJ none,dG,LJ⟩
theorem dP{α:Type}{f:α->List AV}(h:∀x,cW (f x)=true):∀l:List α,fN (l.map f)=true
 |[]=>by rfl
 |x::l=>by simp only[Cg,fN,h,dP h l,Ee]
theorem aD(k:IntKind)(n:Nat):asNat (.int k (n:Int))=some n:=by rfl
theorem AR:(∀k,asNat (.int k 0)=some 0)/\(∀k,asNat (.int k 1)=some 1)/\(∀k,asNat (.int k 2)=some 2)/\(∀k,asNat (.int k 3)=some 3):=⟨fun _=>rfl,fun _=>rfl,fun _=>rfl,fun _=>rfl⟩
variable{α:Type}
theorem eO{f:α->List AV}{l:List α}{i:Nat}(h:i<l.length):(l.map f).getD i []=f l[i]:=by grind
theorem aJw{p:α->Bool}{l:List α}{i:Nat}(h:i<l.length)(q:(l.take i).all p=true):(l.take (i+1)).all p=p l[i]:=by
 rw[Ao,List.all_append,q]
 grind
structure xY where
 b:Bool
 n:Bool
 l:List Nat
 hl:UZ l
def xY.cells(r:xY):List AV:=.bool r.b::.bool r.n::wC r.l
def xY.Xl(r:xY):Bool:=EB r.b r.n r.l
theorem xt(r:xY):cW r.cells=true:=by simp[xY.cells,sf]
theorem gJ{a i:Nat}(h:i<16):(wC (aV 16 a)).getD i aB=.int .u32 (aP a i):=by rw[oK (by assumption),lA h]
def IW(a b:Nat):Int:=if a<b then -1 else if b<a then 1 else 0
theorem aMt{a b k:Nat}(h:a / W^(k+1)=b / W^(k+1))(E:aP a k≠aP b k):IW a b=IW (aP a k) (aP b k):=by
 unfold IW
 rcases Nat.lt_or_gt_of_ne E with hc|hc
 . have :=Qk h hc;omega
 have :=Qk h.symm hc;omega
def YZ(i:Nat)(l:List Nat):List Nat:=l.take i++List.replicate (l.length -i) 0
theorem BV{i:Nat}{l:List Nat}:(YZ i l).length=l.length:=by grind[YZ]
theorem aPy{i:Nat}{l:List Nat}(h:i<l.length):(YZ i l).set i (l.getD i 0)=YZ (i+1) l:=by
 refine Fh (by simp[BV]) fun k O Z=>?_
 grind[BV,YZ]
theorem BU(n:Nat):YZ 0 (aV 16 n)=zs:=by rfl
theorem GB(n:Nat):YZ 16 (aV 16 n)=aV 16 n:=by rfl
theorem uX(i n:Nat):(wC (YZ i (aV 16 n))).length=16:=by rw[cE,BV,cK]
theorem aAf{i n:Nat}(h:i<16){x:Int}(C:x=(aP n i:Nat)):iT (wC (YZ i (aV 16 n))) i [.int .u32 x]=wC (YZ (i+1) (aV 16 n)):=by rw[C,vF (by grind[BV,cK]),<-aPy (by assumption),lA h]
theorem BT{i n:Nat}(h:i<16){x:Int}(C:x=(aP n i:Nat)):(wC (YZ i (aV 16 n))).take i++[AV.int .u32 x]++(wC (YZ i (aV 16 n))).drop (i+1)=wC (YZ (i+1) (aV 16 n)):=aAf h C
theorem CY(u:Nat):IntKind.u32.wrap (u:Int)=((u%W:Nat):Int):=by rfl
theorem jE{x:Int}{u:Nat}(h:u<2^64)(e:x=u\/x=u -2^64\/x=u+2^64):IntKind.u64.wrap x=u:=by grind[IntKind.wrap,IntKind.bits,IntKind.signed]
theorem NC(u:Nat):(u:Int).fdiv (2^min (Int.toNat 32) IntKind.u64.bits)=((u / W:Nat):Int):=by rw[Int.fdiv_eq_ediv_of_nonneg _ A1];rfl
def nL:Option Int->Option Int->Option Int
 |some x,some y=>norm (x+y)
 |_,_=>none
def wG:Option Int->Option Int
 |some x=>some (-x)
 |none=>none
theorem dN.raw{v:List AV}{x:Option Int}(h:dN v x):∃r:xY,v=r.cells/\x=Sm r.b r.n r.l/\r.Xl=x.isSome:=by
 obtain⟨b,n,l,U,rfl,rfl⟩:=h;refine⟨⟨b,n,l,U⟩,rfl,rfl,?_⟩
 grind[xY.Xl,Sm]
theorem dN.len{v:List AV}{x:Option Int}(h:dN v x):v.length=18:=by obtain⟨b,n,l,U,rfl,rfl⟩:=h;simp[cE,U.1]
theorem dN.free{v:List AV}{x:Option Int}(h:dN v x):cW v=true:=by obtain⟨b,n,l,U,rfl,rfl⟩:=h;simp[sf]
theorem cC(z:Int):(cI z).length=18:=by rfl
theorem jU(x:Option Int):(cO x).length=18:=by
 cases x
 all_goals rfl
theorem oL{cs:List AV}{n:Nat}(h:cs.length=n):cs.length=n/\cs.take n=cs/\cs.drop n=[]:=⟨h,Au A0,Bc A0⟩
theorem cOl:(∀x,(cO x).length=18)/\(∀x,(cO x).take 18=cO x)/\(∀x,(cO x).drop 18=[])/\(∀x,(cI x).length=18)/\(∀x,(cI x).take 18=cI x)/\(∀x,(cI x).drop 18=[]):=
 ⟨jU,fun x=>(oL (jU x)).2.1,fun x=>(oL (jU x)).2.2,cC,fun x=>(oL (cC x)).2.1,fun x=>(oL (cC x)).2.2⟩
theorem dN.add{x y:Option Int}:dN (cO (nL x y)) (nL x y):=by cases x<;>cases y<;>first|exact .norm _|exact .bad
theorem dN.neg{x:Option Int}{v:List AV}(h:dN v x):dN (cO (wG x)) (wG x):=by
 cases x with
 |none=>exact .bad
 |some z=>exact .enc (by have :=h.some.2;omega)
def lY:Option Int->Option Int->Option Int
 |some x,some y=>norm (x*y)
 |_,_=>none
def smO(x y:Nat->Option Int):Nat->Option Int
 |0=>some 0
 |i+1=>nL (smO x y i) (lY (x i) (y i))
theorem dN.mul{x y:Option Int}:dN (cO (lY x y)) (lY x y):=by cases x<;>cases y<;>first|exact .norm _|exact .bad
theorem dN.sm{x y:Nat->Option Int}:∀i,dN (cO (smO x y i)) (smO x y i)
 |0=>.enc A1
 |i+1=>.add
def bg(x y:Nat->Option Int)(i:Nat):Option Int:=nL (lY (x ((i+1)%3)) (y ((i+2)%3))) (wG (lY (x ((i+2)%3)) (y ((i+1)%3))))
theorem dN.fit{v:List AV}{z:Int}(h:dN v (Option.some z)):z.natAbs<W^16:=h.some.2
theorem iL{l:List Nat}(h:UZ l):(wC l).length=16/\l.length=16/\(wC l).take 16=wC l/\(wC l).drop 16=[]/\cD [.i,.i,.i,.i,.i,.i,.i,.i,.i,.i,.i,.i,.i,.i,.i,.i] (wC l) (wC zs)=some (decide (l=zs)):=
 ⟨by rw[cE,h.1],h.1,aRh (by rw[h.1];omega),aRg (by rw[h.1];omega),FM h.1 rfl⟩
theorem iz:(wC zs).length=16/\(wC zs).take 16=wC zs/\(wC zs).drop 16=[]:=⟨(iL .zs).1,(iL .zs).2.2.1,(iL .zs).2.2.2.1⟩
def c3(c:Nat->List AV):List AV:=c 0++(c 1++c 2)
theorem gG{c:Nat->List AV}(h:∀i,i<3->(c i).length=18):(c3 c).length=54:=by simp[c3,h 0 A1,h 1 A1,h 2 A1]
theorem qR{c:Nat->List AV}(h:∀i,i<3->(c i).length=18){i:Nat}(F:i<3):((c3 c).drop (i*18)).take 18=c i:=by
 have o:=h 0 A1;have O:=h 1 A1;have Z:=h 2 A1
 match i,F with
 |0,_=>simp[c3,Hh,o]
 |1,_=>simp[c3,Eu,Hh,o,O]
 |2,_=>simp[c3,Eu,Hh,o,O,Z,Bc (show(c 0).length<=36 by omega),Au (show(c 2).length<=18 by omega)]
theorem iJ{c d:Nat->List AV}(h:∀i,i<3->c i=d i):c3 c=c3 d:=by simp only[c3,h 0 A1,h 1 A1,h 2 A1]
theorem Zx{c:Nat->List AV}(h:∀i,i<3->(c i).length=18){i:Nat}(F:i<3){x:List AV}(C:x.length=18):
 (c3 c).take (i*18)++x++(c3 c).drop (i*18+18)=c3 (fun j=>if j=i then x else c j):=by
 have o:=h 0 A1;have O:=h 1 A1;have Z:=h 2 A1
 match i,F with
 |0,_=>simp[c3,Eu,o]
 |1,_=>simp[c3,Eu,Hh,o,O]
 |2,_=>simp[c3,Eu,Hh,o,O,Z,Au (show(c 0).length<=36 by omega),Bc (show(c 0).length<=54 by omega),Bc (show(c 1).length<=36 by omega),Bc (show(c 2).length<=18 by omega)]
theorem dZ{c:Nat->List AV}(h:∀i,i<3->cW (c i)=true):cW (c3 c)=true:=by simp[c3,mM,h 0 A1,h 1 A1,h 2 A1]
theorem aMo:cI 0=.bool false::.bool false::wC zs:=by simp[cI,wD]
theorem sW: .bool false::.bool false::.int .u32 0::.int .u32 0::.int .u32 0::.int .u32 0::.int .u32 0::.int .u32 0::.int .u32 0::.int .u32 0::.int .u32 0::.int .u32 0::.int .u32 0::.int .u32 0::.int .u32 0::.int .u32 0::.int .u32 0::.int .u32 0::.bool false::.bool false::.int .u32 0::.int .u32 0::.int .u32 0::.int .u32 0::.int .u32 0::.int .u32 0::.int .u32 0::.int .u32 0::.int .u32 0::.int .u32 0::.int .u32 0::.int .u32 0::.int .u32 0::.int .u32 0::.int .u32 0::.int .u32 0::.bool false::.bool false::wC zs=c3 (fun _=>cI 0):=by simp only[aMo];rfl
def _root_.Go.aC.V.at(v:aC.V)(i:Nat):Int:=match i with
 |0=>v.x
 |1=>v.y
 |_=>v.z
def cG(v:aC.V):List AV:=[.int .i64 v.x,.int .i64 v.y,.int .i64 v.z]
theorem aT(v:aC.V):(cG v).length=3:=rfl
theorem iC(v:aC.V){i:Nat}(F:i<3):(cG v).getD i aB=.int .i64 (v.at i):=by
 match i,F with
 |0,_=>rfl
 |1,_=>rfl
 |2,_=>rfl
theorem bV(v:aC.V):cW (cG v)=true:=by simp only[cG,sf]
end Go.Av
namespace Go.Av
open Go
section
section
variable {P:Program} {g:bL} {n:Nat} {r:List bG} {f:dD} {ds:List gX} {H:aA} {Q:FQ}
variable{x:Arg}
theorem Np{d m:Nat}{es:List (AV×AV)}(hd:d<n)(C:oG g f x=.map m)(p:H.get m=some (.map es))
 (h:∀N c A,N.length=es.length->N.Nodup->bT P g n r (kI f d (.ref H.next 0)) ds ((H.set m (.uW es N c A)).alloc (.iter m A c [])) Q):
 bT P g n (⟨some d,.yK x,none⟩::r) f ds H Q:=by
 grind[gK,bT,lI]
theorem PW{d q m A c:Nat}{es:List (AV×AV)}{seen N:List Nat}(hd:d<n)(C:oG g f x=.ref q 0)(F:H.get q=some (.iter m A c seen))(p:H.get m=some (.uW es N c A))
 (o:(∀b∈N,b∈seen)->bT P g n r (kI f d (.jS [.bool false])) ds H Q)
 (O:∀j,j<N.length->N.getD j 0∉seen->bT P g n r (kI f d (.jS [.bool true,(es.getD j (aB,aB)).1,(es.getD j (aB,aB)).2])) ds (H.set q (.iter m A c (seen++[N.getD j 0]))) Q):
 bT P g n (⟨some d,.HP x,none⟩::r) f ds H Q:=by
 grind[gK,bT,lI]
theorem Wm{d q m A c j:Nat}{es:List (AV×AV)}{seen N:List Nat}(hd:d<n)(C:oG g f x=.ref q 0)(F:H.get q=some (.iter m A c (seen++[N.getD j 0])))(p:H.get m=some (.uW es N c A))(Y:j<N.length)
 (h:bT P g n r (kI f d (.jS [(es.getD j (aB,aB)).1,(es.getD j (aB,aB)).2])) ds H Q):
 bT P g n (⟨some d,.BQ x,none⟩::r) f ds H Q:=by
 grind[gK,bT,lI]
end
def bH(H:aA):Prop:=∀j,H.next<=j->H.get j=none
theorem bH.nil(n:Nat):bH ⟨n,.nil⟩:=fun _ _=>rfl
theorem bH.alloc{H:aA}(h:bH H)(o:eG):bH (H.alloc o):=fun j Y=>by simp only[aA.bK] at Y;rw[aA.aI,if_neg A0];exact h j A0
theorem bH.set{H:aA}(h:bH H){id:Nat}(F:id<H.next)(o:eG):bH (H.set id o):=fun j Y=>by simp only[aA.aZ] at Y;rw[aA.aH,if_neg A0];exact h j Y
theorem bH.vm{H:aA}(h:bH H):qV H 1=true:=by simp only[qV,Di,h _ (Ae _)];rfl
theorem bH.at2{H:aA}(h:bH H):qV H 2=true:=by simp only[qV,Di,h _ (Ae _),h (H.next+1) A0];rfl
def mB(sz:Nat)(els:List (List AV)):AV:=if els=[] then .bE else .bJ 0 sz els
theorem aBb{sz:Nat}{els:List (List AV)}(h:fN els=true):(mB sz els).free=true:=by unfold mB;split<;>simp[AV.free,h]
theorem Pt{sz:Nat}:∀{els:List (List AV)},(∀e∈els,e.length=sz)->gO sz els.length els.flatten=els
 |[],_=>rfl
 |e::els,h=>by have B:=h e Az;simp only[Ba,gO,Cl];rw[Cb A0,Au A0,Ep A0,Bc A0,Dt,Pt fun x C=>h x (As _ C)]
theorem pZ{sz:Nat}:∀{els:List (List AV)},(∀e∈els,e.length=sz)->els.flatten.length=els.length*sz
 |[],_=>by simp
 |e::els,h=>by
  have :=pZ fun x C=>h x (As e C)
  grind
theorem Yx{w:aA}{id sz cap:Nat}{els:List (List AV)}{r:Bool}(t:w.get id=some (.cells els.flatten r))(K:∀e∈els,e.length=sz)(N:fN els=true)(d:Nat):
 jB w none d 0 (.sl id sz 0 els.length cap)=some (.bJ 0 sz els):=by
 have R:w.fP id=some els.flatten:=by grind[aA.fP]
 have U:Nat.ble (0+els.length*sz) els.flatten.length=true:=by rw[pZ K];simp
 grind[jB,mJ,nZ,Pt]
theorem DK{H:aA}{sz bytes:Nat}{ys:List (List AV)}(Q:ys.isEmpty=false)(X:ys.length*bytes<=2^40):gE H sz bytes true .bE ys=some (.sl H.next sz 0 ys.length ys.length,H.alloc (.cells ys.flatten true)):=by grind[gE,mQ]
theorem DL{H:aA}{id n sz bytes:Nat}{cs:List AV}{ys:List (List AV)}(t:H.get id=some (.cells cs true))(R:cs.length=n*sz)(Q:ys.isEmpty=false)(X:(n+ys.length)*bytes<=2^40)(M:1<=sz):
 gE H sz bytes true (.sl id sz 0 n n) ys=some (.sl H.next sz 0 (n+ys.length) (n+ys.length),(H.set id .dead).alloc (.cells (cs++ys.flatten) true)):=by
 grind[gE]
def Has(H:aA)(sz:Nat)(v:AV)(els:List (List AV)):Prop:=v=.bJ 1 sz els\/Own H sz v els
theorem Has.push{H:aA}{sz bytes:Nat}{v:AV}{els ys:List (List AV)}(h:Has H sz v els)(Q:ys.isEmpty=false)(X:(els.length+ys.length)*bytes<=2^40):
 ∃H',gE H sz bytes false v ys=some (.bJ (H.next+2) sz (els++ys),H')/\H'.next=H.next+1/\H'.get H.next=some .tok/\(∀id,id<H.next->H.get id≠some .tok->H'.get id=H.get id)/\(bH H->bH H'):=by
 have fresh:∀n:List (List AV),gE H sz bytes false v ys=some (mQ H false sz n)->∃H',gE H sz bytes false v ys=some (.bJ (H.next+2) sz n,H')/\H'.next=H.next+1/\H'.get H.next=some .tok/\(∀id,id<H.next->H.get id≠some .tok->H'.get id=H.get id)/\(bH H->bH H'):=fun n e=>⟨H.alloc .tok,e,by simp,by simp[aA.aI],fun id O _=>by grind[aA.aI],fun N=>N.alloc _⟩
 rcases h with rfl|⟨rfl,rfl⟩|⟨k,rfl,I,E⟩
 . simp_all[gE]
 . simp_all[gE]
 refine⟨(H.set k .dead).alloc .tok,by grind[gE],by simp,by simp[aA.aI,aA.aZ],fun id O Z=>?_,fun N=>(N.set I _).alloc _⟩
 grind[aA.aI,aA.aZ,aA.aH]
theorem Has.zb{H H':aA}{sz:Nat}{v:AV}{els:List (List AV)}(h:Has H sz v els)(A:H.next<=H'.next)(E:∀k,k<H.next->H.get k=some .tok->H'.get k=some .tok):Has H' sz v els:=by
 rcases h with rfl|⟨rfl,rfl⟩|⟨k,rfl,O,Z⟩
 . exact .inl rfl
 . exact .inr (.inl ⟨rfl,rfl⟩)
 exact .inr (.inr ⟨k,rfl,by omega,E k O Z⟩)
theorem Has.shut{w:aA}{sz:Nat}{v:AV}{els:List (List AV)}(h:Has w sz v els)(z:els≠[])(U:v≠ .bJ 1 sz els)(N:fN els=true)(d:Nat):jB w none d 0 v=some (.bJ 0 sz els):=by rcases h with rfl|⟨rfl,rfl⟩|⟨k,rfl,O,Z⟩<;>simp_all[jB,mJ,N,GY]
end
end Go.Av
namespace Go.Av
open Go Go.Proofs Go.Shelf Go.Lib Go.Sort
abbrev FG(k:Nat):={l:List Int // l.length=k}
instance (k:Nat):Inhabited (FG k):=⟨⟨List.replicate k 0,by simp⟩⟩
def zO{k:Nat}(x:FG k):List Value:=x.1.map (Value.int .i64)
def XU{k:Nat}(x:FG k):List AV:=x.1.map (AV.int .i64)
def oT{k:Nat}(d:List (FG k)):List Int:=d.flatMap (·.1)
theorem aEr{k:Nat}(x:FG k):(zO x).length=k:=by grind[zO]
def Gno:Gh:=⟨fun _=>none,fun _ _=>False,true⟩
theorem WR.empty{g:bL}(t:∀n,g n=none)(w:World):WR g Gno ⟨0,.nil⟩ w where
 cells:=fun id l cs r h=>by cases h
 room:=fun id l h=>by cases h
 mV:=fun id f l l' _ h=>by cases h
 lV:=fun id l h=>by cases h
 jK:=fun id l o h=>by cases h
 lt:=fun id l h=>by cases h
 jJ:=fun b o h=>h.elim
 kQ:=fun n cs h=>by grind
 FV:=fun n cs h a=>by grind
 mo:=by unfold bL.mo;rw[t];rfl
variable{w:World}
theorem jH.ints{G:Gh}(l:List Int):jH G w (l.map (AV.int .i64)) (l.map (Value.int .i64)):=by
 refine⟨by simp,fun j Y=>?_⟩;have S:j<l.length:=by grind
 have T:(l.map (AV.int .i64)).getD j aB=.int .i64 l[j]:=by grind
 have P:(l.map (Value.int .i64)).getD j undef=.int .i64 l[j]:=by grind
 rw[T,P];exact .int ..
theorem WN{E:Gh}{H':aA}{w':World}(e:Ext Gno ⟨0,.nil⟩ w E H' w'):∃q a,w'=grow (w.drewN q) a:=by
 refine⟨w'.drawn -w.drawn,w'.heap.extract w.heap.size w'.heap.size,?_⟩
 have c:w'.heap=w.heap++w'.heap.extract w.heap.size w'.heap.size:=by
  apply Array.ext_getElem?;intro b;rw[Array.getElem?_append];split
  . rename_i X;exact e.frame b X (fun id l h=>by cases h)
  grind
 obtain⟨O,Z,W,h4⟩:=e.same
 replace h4:=h4 rfl
 cases w'<;>grind[grow,World.drewN,World.mk.injEq]
theorem Uk{P:Program}{f:FuncId}(PC:DH P f)(args:Array Value)(w:World):(callFunc f args).run P w=.ok (.enter f args) w:=by
 obtain⟨fn,h1,h2,h3⟩:=PC;have hb:¬fn.body=none:=fun hh=>by grind
 have h3':¬fn.name= "runtime.NumGoroutine" :=by grind
 simp[callFunc,program,Sem.run,h1,h3',hb]
theorem aMs{P:Program}{g:bL}(t:∀n,g n=none){k:Nat}{C:FuncId}{o:FG k->FG k->Int}
 (U:∀x y,Sound P g C [.agg (XU x),.agg (XU y)] ⟨0,.nil⟩ (.ret (.int .i64 (o x y))) ⟨0,.nil⟩) (dE off size:Nat) (w:World):CmpLays P C #[] zO k o dE off size w:=by
 intro m os a M x y
 have J:∀z:FG k,VR Gno (sortWorldK zO k w dE off m a os) (.agg (XU z)) (.agg (zO z).toArray):=fun z=>by have :=jH.ints (G:=Gno) (w:=sortWorldK zO k w dE off m a os) z.1;exact .agg _ _ this.1 (fun c R=>by obtain⟨n,_,rfl⟩:=Bb.1 R;rfl) this.2
 refine((U x y).2 Gno (sortWorldK zO k w dE off m a os) [.agg (zO x).toArray,.agg (zO y).toArray] (WR.empty t _) ⟨rfl,fun j Y=>?_⟩).mono fun e w' B=>?_
 . grind
 obtain⟨E,O,Z,W⟩:=B;refine⟨?_,WN Z⟩
 cases e with
 |returned u=>cases W;rfl
 |_=>exact W.elim
theorem UB{k:Nat}(E:1<=k):∀(d:List (FG k)) (t:Nat),t<d.length*k->(oT d)[t]?=some ((d[t / k]?.getD default).1[t%k]?.getD 0)
 |[],t,h=>by grind
 |x::d,t,h=>by
  have C:=x.2;simp only[oT,Dw];rw[Dp];split
  . rw[Du A0,Bl A0]
    grind
  have Z:k<=t:=by omega
  have W:t -k<d.length*k:=by simp only[Ba,Bo,Fk] at h;omega
  have T:t / k=(t -k) / k+1:=by rw[<-Nat.add_div_right _ A0];grind
  have P:t%k=(t -k)%k:=by simp[Nat.mod_eq_sub_mod,Z]
  rw[C,T,P,Fp];exact UB E d (t -k) W
theorem rJ{k:Nat}:∀d:List (FG k),(oT d).length=d.length*k
 |[]=>by simp[oT]
 |x::d=>by
  have :=rJ d
  grind[oT]
theorem Xd{k:Nat}(E:1<=k)(d:List (FG k)):flatK zO k d.toArray=((oT d).map (Value.int .i64)).toArray:=by
 refine ext_get! (by simp[rJ]) fun t q=>?_;have j:t<d.length*k:=by simp_all
 rw[get_flatK _ _ _ _ A0];have O:=UB E d t j;have p:t%k<k:=Bz _ A0
 grind[rJ,zO]
theorem kl{k:Nat}(E:1<=k){w:World}{dE off n:Nat}{d':List (FG k)}{c:Array Value}{q:TypeId}{fz:Nat×Nat}(f:w.heap[dE]?=some (.cells c q fz)):
 WS w (putRowK zO k (Sort.ahead w n) dE off d'.toArray) dE off ((oT d').map (Value.int .i64)) where
 size:=by simp[putRowK,putRow,mapBlock,Sort.ahead]
 other:=fun I X=>by
  simp only[putRowK,putRow,mapBlock,Sort.ahead,Gt]
  grind
 row:=fun y b a h=>by
  rw[f] at h;cases h;refine⟨putCells id off (flatK zO k d'.toArray) c,?_,by simp[putCells],fun o S=>?_,fun j Y r=>?_⟩
  . simp[putRowK,putRow,mapBlock,Sort.ahead,Gt,f,onCells]
  . simp only[putCells,Array.getElem?_mapIdx,size_flatK]
    grind[rJ]
  simp only[putCells,Array.getElem?_mapIdx,size_flatK]
  grind[Xd,rJ]
 same:=.now (h4:=Il _ _)
theorem IN{P:Program}{g:bL}(hg:∀n,g n=none){Z:Ren}(L:SlLaysF0.n6 P Z){k:Nat}(E:1<=k)(aE:∀w,(isAgg (Z.t 24)).run P w=.ok true w)(zE:∀w,(Go.sizeOf (Z.t 24)).run P w=.ok k w)
 {C sf:FuncId} (ae:sf=Z.f 6) (af:DH P sf) (ag:DH P C) {o:FG k->FG k->Int} (N:SWO (ltOf o))
 (VI:∀x y,Sound P g C [.agg (XU x),.agg (XU y)] ⟨0,.nil⟩ (.ret (.int .i64 (o x y))) ⟨0,.nil⟩) (d:List (FG k)) (hd:d.length<4611686018427387904):
 ∃d':List (FG k),d'.Perm d/\(d'.Pairwise fun a b=>¬o b a<0)/\∀(H:aA) (id:Nat) (r:Bool),H.get id=some (.cells ((oT d).map (AV.int .i64)) r)->
  Sound P g sf [.sl id k 0 d.length d.length,.func (.func C) [] []] H (.ret (.jS [])) (H.set id (.cells ((oT d').map (AV.int .i64)) r)):=by
 subst ae;have m:=pdq_sorts (ltOf o) N d.toArray 0 d.toArray.size (Lib.bitLen d.toArray.size) true true (Bk _) (Ae _) (Or.inl rfl);generalize hD:pdq (ltOf o) d.toArray 0 d.toArray.size (Lib.bitLen d.toArray.size) true true=D at m;obtain⟨⟨q1,q2,q3⟩,q4⟩:=m
 have ab:D.toList.Perm d:=by
  rw[<-q1] at q3;have T:(D.extract 0 D.size).toList=D.toList:=by simp
  have e2:(d.toArray.extract 0 D.size).toList=d:=by rw[q1];simp
  rwa [T,e2] at q3
 have Q:D.toList.length=d.length:=ab.length_eq;refine⟨D.toList,ab,?_,fun H id r dA=>⟨af,fun G w vs hw z=>?_⟩⟩
 . rw[Fy];intro i j F Y s;have :=q4 i j (Bk _) s (by simp at Y Q ⊢;omega);simp only[ltOf,Ce] at this;simp only[Ef] at F Y;rw[getElem!_pos D i F,getElem!_pos D j Y] at this;simpa using this
 obtain⟨U,J⟩:=z
 match vs,U with
 |[u0,u1],_=>
  have W:=J 0 A2;have v1:=J 1 A2;simp only[Dj,Hl] at W v1
  cases W with
  |sl _ _ _ _ _ V l uU ak iG pP=>
   cases v1 with
   |func _ _ _ az bz I X _ _=>
    obtain rfl:az=[]:=Cm I;obtain rfl:bz=[]:=Cm X;obtain⟨a1,a2,a3,a4,M⟩:=hw.cells id l _ r uU dA;obtain⟨c,q,fz,R,b2,b3⟩:=hw.room id l uU (.inl ⟨_,_,dA⟩);have aj:((oT d).map (AV.int .i64)).length=d.length*k:=by simp[rJ]
    have A:HoldsK zO k w l.dE (l.base+0) d.toArray:=by intro j Y;rw[size_flatK] at Y;have S:j<d.length*k:=Za0;obtain⟨u,T,e2⟩:=M j (by rw[aj];exact S);have a6:j<(oT d).length:=(by rw[rJ];exact S);have e3:((oT d).map (AV.int .i64)).getD j aB=.int .i64 (oT d)[j]:=(by simp[List.getD,a6]);rw[e3] at e2;cases e2;rw[Di,T,Xd E,getElem!_pos _ _ (by simpa using a6)];simp
    have O:l.dE<w.heap.size:=by
     rcases Er l.dE w.heap.size with h|h
     . exact h
     rw[Array.getElem?_eq_none h] at R;cases R
    have a7:=AnyQ.slices_SortFunc_eq L k aE zE (zO (k:=k)) aEr (fun x v J=>by obtain⟨n,_,rfl⟩:=Bb.1 J;rfl) o N C #[] l.dE (l.base+0) V d.toArray w (fun args w=>Uk ag args w) (aMs hg VI _ _ _ _) A O (by simpa using hd);rw[hD] at a7;refine a7.mono fun e w' B=>?_;obtain⟨rfl,n,os,rfl⟩:=B;have ad:=kl E (w:=w) (dE:=l.dE) (off:=l.base+0) (n:=n) (d':=D.toList) R
    have K:iT ((oT d).map (AV.int .i64)) 0 ((oT D.toList).map (AV.int .i64))=(oT D.toList).map (AV.int .i64):=by simp only[iT,Ia,Dt,Em];rw[Bc (by simp[rJ,Q]),Bx]
    obtain⟨r1,r2⟩:=hw.store uU dA (jH.ints (oT D.toList)) (fun c hc=>by obtain⟨n,_,rfl⟩:=Bb.1 hc;rfl) (by simp[rJ,Q]) ad;rw[K] at r1 r2
    have p:∀b,b<(putRowK zO k (Sort.ahead w n) l.dE (l.base+0) D.toList.toArray).heap.size->(grow (putRowK zO k (Sort.ahead w n) l.dE (l.base+0) D.toList.toArray) os).heap[b]?=(putRowK zO k (Sort.ahead w n) l.dE (l.base+0) D.toList.toArray).heap[b]?:=fun b X=>by simp only[grow];rw[Array.getElem?_append_left X]
    have e0:sortWorldK zO k w l.dE (l.base+0) n D os=grow (putRowK zO k (Sort.ahead w n) l.dE (l.base+0) D.toList.toArray) os:=(by simp[sortWorldK]);rw[e0];refine⟨G,r1.grow p,r2.trans (Ext.grow r1.jJ p (by simp[grow]) .now),?_⟩;exact .jS _ [] rfl fun j Y=>absurd Y (Al _)
theorem nP{P:Program}{g:bL}{Z:Ren}(L:SlLaysF0.n6 P Z){sf:FuncId}(a:sf=Z.f 6)(b:DH P sf)(C:FuncId)(H:aA):Sound P g sf [.bE,.func (.func C) [] []] H (.ret (.jS [])) H:=by
 subst a;refine⟨b,fun G w vs c z=>?_⟩;obtain⟨U,J⟩:=z
 match vs,U with
 |[u0,u1],_=>have W:=J 0 A2;cases W;refine(AnyF.slices_SortFunc_none L none 0 u1 w).mono fun e w' B=>?_;obtain⟨rfl,rfl⟩:=B;exact⟨G,c,Ext.refl G H _,.jS _ [] rfl fun j Y=>absurd Y (Al _)⟩
end Go.Av
