/-
  Part of the proof of statement 13
-/
import Derived.Test.YtogfcjbgeebfkaaGreatDoorB05
import Derived.Test.YtogfcjbgeebfkaaGreatDoorB01
set_option linter.unusedVariables false
set_option linter.unusedSimpArgs false
set_option linter.unusedSectionVars false
namespace Go.Av
open Go
section
def eE(P:Program)(g:bL)(n:Nat)(pairs:List (Nat×Nat))(base:Nat):Nat->Nat->List bH->List (Nat×Nat)->List (Nat×aB×aB)->dI->aB->(dI->aB->Prop)->Prop
 |_,_,[],_,_,f,H,Q=>Q f H
 |i,k,r::rs,rd,ef,f,H,Q=>
  if lF f r=true then
  match r.op with
  |.call c azs=>∃v H',HT P g r f H v H'/\H.next<=H'.next/\(∀x∈rd,(x.1,i)∈pairs->H.get x.2=H'.get x.2)/\
    eE P g n pairs base (i+1) k rs rd ((i,H,H')::ef) (gJ n f r.dst v) H' Q
  |.panic _|.mY _ _=>False
  |op=>
   if op.fresh then
    match BX (nZ g f) op with
    |some (ob,val)=>(∀x∈ef,(i,x.1)∈pairs->x.2.1.get (base+k)=x.2.2.get (base+k))/\
     eE P g n pairs base (i+1) (k+1) rs ((i,base+k)::rd) ef (gJ n f r.dst (val (base+k))) (H.set (base+k) ob) Q
    |none=>False
   else if op.rF then
    nY (dU (nZ g f) H op) fun v H'=>H.next<=H'.next/\(∀x∈rd,(x.1,i)∈pairs->H.get x.2=H'.get x.2)/\
     eE P g n pairs base (i+1) k rs rd ((i,H,H')::ef) (gJ n f r.dst v) H' Q
   else
    nY (dU (nZ g f) H op) fun v H'=>H'=H/\(∀id,op.dP (nZ g f)=some id->∀x∈ef,(i,x.1)∈pairs->x.2.1.get id=x.2.2.get id)/\
     eE P g n pairs base (i+1) k rs (match op.dP (nZ g f) with|some id=>(i,id)::rd|none=>rd) ef (gJ n f r.dst v) H Q
  else eE P g n pairs base (i+1) (if r.op.fresh then k+1 else k) rs rd ef (gJ n f r.dst aC) H Q
section
variable {P:Program} {g:bL} {n:Nat} {pairs:List (Nat×Nat)} {base:Nat}
theorem rJ:∀(rl:List bH) (i k:Nat) (rd:List (Nat×Nat)) (ef:List (Nat×aB×aB)) (f:dI) (H:aB) (Q:dI->aB->Prop),eE P g n pairs base i k rl rd ef f H Q->ZS P g n pairs base i k rl rd ef f H Q
 |[],i,k,rd,ef,f,H,Q,h=>h
 |r::rs,i,k,rd,ef,f,H,Q,h=>by
  unfold eE at h;unfold ZS;split at h
  . rename_i L;rw[if_pos L];split at h
    . rename_i c X b;obtain⟨v,H',O,Z,B,h4⟩:=h;rw[if_neg (by simp[b,eN.fresh]),if_pos (by simp[b,eN.rF])];exact⟨v,H',O,Z,B,rJ rs _ _ _ _ _ _ _ h4⟩
    . exact h.elim
    . exact h.elim
    rename_i n1 n2 J
    have D:∀v H',dU (nZ g f) H r.op=some (v,H')->HT P g r f H v H':=by
     intro v H' I;unfold HT;split
     . rename_i c X b;exact absurd b (n1 c X)
     . rename_i x b;exact absurd b (n2 x)
     . rename_i c X b;exact absurd b (J c X)
     exact I
    split at h
    . rename_i N;rw[if_pos N];split at h
      . rename_i a val S;exact⟨a,val,S,h.1,rJ rs _ _ _ _ _ _ _ h.2⟩
      exact h.elim
    rename_i N;rw[if_neg N];unfold nY at h;split at h
    . rename_i z;rw[if_pos z];split at h
      . rename_i v H' I;exact⟨v,H',D v H' I,h.1,h.2.1,rJ rs _ _ _ _ _ _ _ h.2.2⟩
      exact h.elim
    rename_i z;rw[if_neg z];split at h
    . rename_i v H' I;obtain⟨rfl,Z,B⟩:=h;exact⟨v,D v _ I,Z,rJ rs _ _ _ _ _ _ _ B⟩
    exact h.elim
  rename_i L;rw[if_neg L];exact rJ rs _ _ _ _ _ _ _ h
variable {ds:List gW} {Q:FQ} {f:dI} {H:aB}
theorem WZ{rl:List bH}(G:rl.countP (·.op.fresh)=0)(h:eE P g n pairs H.next 0 0 rl [] [] f H fun u H'=>Q .normal u ds H'):FC P g n (.draw rl pairs) f ds H Q:=by refine .inl ⟨by rw[G];rfl,?_⟩;rw[G];exact rJ _ _ _ _ _ _ _ _ h
theorem aKa{rl:List bH}(c:Nat)(G:rl.countP (·.op.fresh)=c)(N:oJ H c=true)(h:eE P g n pairs H.next 0 0 rl [] [] f {H with next:=H.next+c} fun u H'=>Q .normal u ds H'):FC P g n (.draw rl pairs) f ds H Q:=by refine .inl ⟨by grind,?_⟩;rw[G];exact rJ _ _ _ _ _ _ _ _ h
theorem fZ{rl:List bH}(c:Nat)(G:rl.countP (·.op.fresh)=c)(N:oJ H c=true)
 (h:∀H1:aB,H1.next=H.next+c->(∀id,H1.get id=H.get id)->eE P g n pairs H.next 0 0 rl [] [] f H1 fun u H'=>Q .normal u ds H'):FC P g n (.draw rl pairs) f ds H Q:=
 aKa c G N (h _ rfl fun _=>rfl)
variable {i k:Nat} {rs:List bH} {rd:List (Nat×Nat)} {ef:List (Nat×aB×aB)} {R:dI->aB->Prop}
theorem kf:eE P g n pairs base i k [] rd ef f H R=R f H:=eK id id
theorem th(d:Nat)(op:eN)(m:op.plain=true)(N:op.fresh=false)(z:op.rF=false)(hd:d<n):
 eE P g n pairs base i k (⟨some d,op,none⟩::rs) rd ef f H R=nY (dU (nZ g f) H op) fun v H'=>H'=H/\(∀id,op.dP (nZ g f)=some id->∀x∈ef,(i,x.1)∈pairs->x.2.1.get id=x.2.2.get id)/\
       eE P g n pairs base (i+1) k rs (match op.dP (nZ g f) with|some id=>(i,id)::rd|none=>rd) ef (jF f d v) H R:=by
 have :∀v,gJ n f (some d) v=jF f d v:=fun v=>by grind[gJ]
 conv=>lhs;unfold eE
 rw[if_pos (by rfl)]
 grind[eN.fresh,eN.rF,eN.plain]
theorem tj(m:Nat)(a x:Arg):
 eE P g n pairs base i k (⟨none,.store m a x,none⟩::rs) rd ef f H R=nY (dU (nZ g f) H (.store m a x)) fun v H'=>H.next<=H'.next/\(∀x∈rd,(x.1,i)∈pairs->H.get x.2=H'.get x.2)/\
       eE P g n pairs base (i+1) k rs rd ((i,H,H')::ef) f H' R:=by
 rfl
theorem td(d:Nat)(z:List AV)(hd:d<n):
 eE P g n pairs base i k (⟨some d,.alloc z,none⟩::rs) rd ef f H R=((∀x∈ef,(i,x.1)∈pairs->x.2.1.get (base+k)=x.2.2.get (base+k))/\
       eE P g n pairs base (i+1) (k+1) rs ((i,base+k)::rd) ef (jF f d (.ref (base+k) 0)) (H.set (base+k) (.cells z false)) R):=by
 have :∀v,gJ n f (some d) v=jF f d v:=fun v=>by grind[gJ]
 conv=>lhs;unfold eE
 rw[if_pos (by rfl)]
 grind[eN.fresh,BX]
theorem ZR(d:Nat)(sz bytes:Nat)(N:Bool)(x y:Arg)(hd:d<n):
 eE P g n pairs base i k (⟨some d,.append sz bytes N x y,none⟩::rs) rd ef f H R=nY (dU (nZ g f) H (.append sz bytes N x y)) fun v H'=>H.next<=H'.next/\(∀x∈rd,(x.1,i)∈pairs->H.get x.2=H'.get x.2)/\
       eE P g n pairs base (i+1) k rs rd ((i,H,H')::ef) (jF f d v) H' R:=by
 have :∀v,gJ n f (some d) v=jF f d v:=fun v=>by grind[gJ]
 conv=>lhs;unfold eE
 rw[if_pos (by rfl)]
 grind[eN.fresh,eN.rF]
theorem yG{d:Nat}{fid:FuncId}{X:List Arg}{args:List AV}{v:AV}{H':aB}(hd:d<n)(I:X.map (nZ g f)=args)(w:Sound P g fid args H (.ret v) H')(A:H.next<=H'.next)
 (V:∀x∈rd,(x.1,i)∈pairs->H.get x.2=H'.get x.2)
 (h:eE P g n pairs base (i+1) k rs rd ((i,H,H')::ef) (jF f d v) H' R):eE P g n pairs base i k (⟨some d,.call (.const (.func (.func fid) [] [])) X,none⟩::rs) rd ef f H R:=by
 have :∀v,gJ n f (some d) v=jF f d v:=fun v=>by grind[gJ]
 unfold eE;simp only[this];refine⟨v,H',?_,A,V,h⟩;exact⟨(fid,[],[]),rfl,by grind⟩
theorem Rv(d:Option Nat)(x:Nat)(b:Bool)(op:eN)(A B:Prop):gM (f x) b A B=if lF f ⟨d,op,some (x,b)⟩=true then A else B:=by grind[lF,gM]
theorem bDl(d x:Nat)(b:Bool)(op:eN)(hd:d<n):
 eE P g n pairs base i k (⟨some d,op,some (x,b)⟩::rs) rd ef f H R=gM (f x) b (eE P g n pairs base i k (⟨some d,op,none⟩::rs) rd ef f H R) (eE P g n pairs base (i+1) (if op.fresh then k+1 else k) rs rd ef (jF f d aC) H R):=by
 have :∀v,gJ n f (some d) v=jF f d v:=fun v=>by grind[gJ]
 rw[Rv (some d) x b op];by_cases L:lF f ⟨some d,op,some (x,b)⟩=true
 . rw[if_pos L]
   conv=>lhs;unfold eE
   conv=>rhs;unfold eE
   rw[if_pos L,if_pos (by rfl)];rfl
 conv=>lhs;unfold eE
 grind
theorem aZ{u:dI}{rl:List bH}(h:f=u):eE P g n pairs base i k rl rd ef f H R=eE P g n pairs base i k rl rd ef u H R:=by rw[h]
end
theorem bSk(P:Program)(g:bL)(n:Nat):
 (∀(pairs:List (Nat×Nat)) (base i k:Nat) (rs:List bH) (rd:List (Nat×Nat)) (ef:List (Nat×aB×aB)) (f:dI) (H:aB) (R:dI->aB->Prop),eE P g n pairs base i k [] rd ef f H R=R f H)/\
 (∀(pairs:List (Nat×Nat)) (base i k:Nat) (rs:List bH) (rd:List (Nat×Nat)) (ef:List (Nat×aB×aB)) (f:dI) (H:aB) (R:dI->aB->Prop) (m:Nat) (a x:Arg),
   eE P g n pairs base i k (⟨none,.store m a x,none⟩::rs) rd ef f H R=nY (dU (nZ g f) H (.store m a x)) fun v H'=>H.next<=H'.next/\(∀x∈rd,(x.1,i)∈pairs->H.get x.2=H'.get x.2)/\
       eE P g n pairs base (i+1) k rs rd ((i,H,H')::ef) f H' R)/\
 (∀(pairs:List (Nat×Nat)) (base i k:Nat) (rs:List bH) (rd:List (Nat×Nat)) (ef:List (Nat×aB×aB)) (f:dI) (H:aB) (R:dI->aB->Prop) (d:Nat) (z:List AV) (hd:d<n),
   eE P g n pairs base i k (⟨some d,.alloc z,none⟩::rs) rd ef f H R=((∀x∈ef,(i,x.1)∈pairs->x.2.1.get (base+k)=x.2.2.get (base+k))/\
       eE P g n pairs base (i+1) (k+1) rs ((i,base+k)::rd) ef (jF f d (.ref (base+k) 0)) (H.set (base+k) (.cells z false)) R))/\
 (∀(pairs:List (Nat×Nat)) (base i k:Nat) (rs:List bH) (rd:List (Nat×Nat)) (ef:List (Nat×aB×aB)) (f:dI) (H:aB) (R:dI->aB->Prop) (d sz bytes:Nat) (N:Bool) (x y:Arg) (hd:d<n),
   eE P g n pairs base i k (⟨some d,.append sz bytes N x y,none⟩::rs) rd ef f H R=nY (dU (nZ g f) H (.append sz bytes N x y)) fun v H'=>H.next<=H'.next/\(∀x∈rd,(x.1,i)∈pairs->H.get x.2=H'.get x.2)/\
       eE P g n pairs base (i+1) k rs rd ((i,H,H')::ef) (jF f d v) H' R)/\
 (∀(pairs:List (Nat×Nat)) (base i k:Nat) (rs:List bH) (rd:List (Nat×Nat)) (ef:List (Nat×aB×aB)) (f:dI) (H:aB) (R:dI->aB->Prop) (d x:Nat) (b:Bool) (op:eN) (hd:d<n),
   eE P g n pairs base i k (⟨some d,op,some (x,b)⟩::rs) rd ef f H R=gM (f x) b (eE P g n pairs base i k (⟨some d,op,none⟩::rs) rd ef f H R) (eE P g n pairs base (i+1) (if op.fresh then k+1 else k) rs rd ef (jF f d aC) H R)):=
 ⟨fun _ _ _ _ _ _ _ _ _ _=>kf,fun _ _ _ _ _ _ _ _ _ _ m a x=>tj m a x,
  fun _ _ _ _ _ _ _ _ _ _ d z hd=>td d z hd,fun _ _ _ _ _ _ _ _ _ _ d sz bytes N x y hd=>ZR d sz bytes N x y hd,
  fun _ _ _ _ _ _ _ _ _ _ d x b op hd=>bDl d x b op hd⟩
def ij(id cmp ix nx:Nat)(N:Int)(B:bX):bX:=
 .block id (.loop (.seq (.ops [⟨some cmp,.bin .lss (.tmp ix) (.const (.int .i64 N)),none⟩]) (.seq (.cond (.tmp cmp) .skip (.exit id)) (.seq B
  (.ops [⟨some nx,.bin .add (.tmp ix) (.const (.int .i64 1)),none⟩,⟨some ix,.mO (.tmp nx),none⟩])))))
theorem s9{P:Program}{g:bL}{n:Nat}{id cmp ix nx:Nat}{B:bX}{f:dI}{ds:List gW}{H:aB}{Q:FQ}(J:Nat->dI->aB->Prop)(N:Nat){q:Int}(y:(N:Int)<2^63)
 (k:q=(N:Int))
 (M:cmp<n/\ix<n/\nx<n/\cmp≠ix/\nx≠ix)
 (O:f ix=.int .i64 0) (G:J 0 f H)
 (A:∀(i:Nat) (f:dI) (H:aB) (d:Nat) (v:AV),d=cmp\/d=nx\/d=ix->J i f H->J i (jF f d v) H)
 (body:∀(i:Nat) (f:dI) (H:aB),i<N->f ix=.int .i64 i->J i f H->
   FC P g n B f ds H (iJ (fun u V H'=>V=ds/\u ix=.int .i64 i/\J (i+1) u H') (dX id Q)))
 (done:∀(f:dI) (H:aB),J N f H->Q .normal f ds H):FC P g n (ij id cmp ix nx q B) f ds H Q:=by
 subst k;obtain⟨s1,s2,s3,U,w⟩:=M;refine aM (UK (fun m u V H'=>V=ds/\∃i:Nat,i<=N/\m=N -i/\u ix=.int .i64 i/\J i u H') N ⟨rfl,0,Bh _,by omega,O,G⟩ ?_);rintro m b j H1 ⟨rfl,i,F,rfl,T,C⟩;refine aP fun K hK=>?_;rw[MO,CH _ _ _ _ s1];simp only[dU,iG,yQ,T,rL,if_true,Cq,bV,yI,iZ];apply hK;have a:=A i b H1 cmp (.bool (decide ((i:Int)<N))) (.inl rfl) C;refine aP fun K hK=>UH (decide ((i:Int)<N)) (by rw[iG,sZ]) (fun W=>?_) (fun W=>?_)
 . apply hK;have r:i<N:=by grind
   refine aP fun K hK=>?_;have X:=body i _ H1 r (by grind[pR]) a;have mono:∀{c:bX} {f:dI} {ds:List gW} {H:aB} {Q z:FQ},(∀e f ds H,Q e f ds H->z e f ds H)->FC P g n c f ds H Q->FC P g n c f ds H z:=fun {c f ds H Q z} hq h=>jJ hq h;refine mono (fun e l p H2 h=>?_) X
   cases e with
   |normal=>obtain⟨rfl,b1,D⟩:=h;apply hK;rw[MO,CH _ _ _ _ s3];have L:IntKind.i64.wrap ((i:Int)+1)=((i+1:Nat):Int):=(by grind[wrap_i64]);simp only[dU,iG,yQ,b1,rL,if_true,Cq,bV];rw[KE _ _ s2];simp only[dU,iG,bV,yI,iZ,sZ,L];exact⟨N -(i+1),by omega,trivial,i+1,by omega,rfl,rfl,A _ _ _ _ _ (.inr (.inr rfl)) (A _ _ _ _ _ (.inr (.inl rfl)) D)⟩
   |_=>exact h
 grind[Oa,sD,sG]
class Pp (op:eN):Prop where
 h:op.plain=true
 f:op.fresh=false
 e:op.rF=false
instance (x:Arg):Pp (.mO x):=⟨rfl,rfl,rfl⟩
instance (c a b:Arg):Pp (.pick c a b):=⟨rfl,rfl,rfl⟩
instance (z:List AV) (ps:List (Nat×Nat×Arg)):Pp (.build z ps):=⟨rfl,rfl,rfl⟩
instance (sz:Nat) (xs:List Arg):Pp (.Qf sz xs):=⟨rfl,rfl,rfl⟩
instance (agg:Bool) (m:Nat) (a:Arg):Pp (.load agg m a):=⟨rfl,rfl,rfl⟩
instance (x:Arg):Pp (.Qh x):=⟨rfl,rfl,rfl⟩
instance (o:BinOp) (x y:Arg):Pp (.bin o x y):=⟨rfl,rfl,rfl⟩
instance (neg:Bool) (x y:Arg):Pp (.eqb neg x y):=⟨rfl,rfl,rfl⟩
instance (neg:Bool) (sh:List Sk) (x y:Arg):Pp (.eqf neg sh x y):=⟨rfl,rfl,rfl⟩
instance (neg:Bool) (k:Nk) (lit:Bool) (x y:Arg):Pp (.eqn neg k lit x y):=⟨rfl,rfl,rfl⟩
instance (o:UnOp) (x:Arg):Pp (.un o x):=⟨rfl,rfl,rfl⟩
instance (k:IntKind) (x:Arg):Pp (.NW k x):=⟨rfl,rfl,rfl⟩
instance (x:Arg):Pp (.GO x):=⟨rfl,rfl,rfl⟩
instance (m:Nat) (x:Arg):Pp (.jj m x):=⟨rfl,rfl,rfl⟩
instance (t:TypeId) (x:Arg):Pp (.ed t x):=⟨rfl,rfl,rfl⟩
instance (fn:Fn) (a b:List Arg):Pp (.SE fn a b):=⟨rfl,rfl,rfl⟩
instance (x:Arg) (lo hi:Option Arg):Pp (.RJ x lo hi):=⟨rfl,rfl,rfl⟩
instance (sz:Nat) (x:Arg) (lo hi mx:Option Arg):Pp (.Yi sz x lo hi mx):=⟨rfl,rfl,rfl⟩
instance (m sz:Nat) (x:Arg) (lo hi mx:Option Arg):Pp (.HL m sz x lo hi mx):=⟨rfl,rfl,rfl⟩
instance (off:Nat) (x:Arg):Pp (.xM off x):=⟨rfl,rfl,rfl⟩
instance (arr:Option Nat) (sz:Nat) (x i:Arg):Pp (.rH arr sz x i):=⟨rfl,rfl,rfl⟩
instance (m sz:Nat) (agg:Bool) (x i:Arg):Pp (.idx m sz agg x i):=⟨rfl,rfl,rfl⟩
instance (x i:Arg):Pp (.idxs x i):=⟨rfl,rfl,rfl⟩
instance (t:TypeId) (ok:Bool) (z:AV) (x:Arg):Pp (.ju t ok z x):=⟨rfl,rfl,rfl⟩
instance (x:Arg) (i:Nat):Pp (.Ul x i):=⟨rfl,rfl,rfl⟩
instance (x:Arg):Pp (.lens x):=⟨rfl,rfl,rfl⟩
instance (x:Arg):Pp (.QT x):=⟨rfl,rfl,rfl⟩
instance (x y:Arg):Pp (.VO x y):=⟨rfl,rfl,rfl⟩
instance (x y:Arg):Pp (.YA x y):=⟨rfl,rfl,rfl⟩
instance (k:Sk) (z:AV) (ok:Bool) (x i:Arg):Pp (.lookup k z ok x i):=⟨rfl,rfl,rfl⟩
theorem bNf(P:Program)(g:bL)(n:Nat)(pairs:List (Nat×Nat))(base a k0:Nat)(rs:List bH)(rd:List (Nat×Nat))(ef:List (Nat×aB×aB))(f:dI)(H:aB)(R:dI->aB->Prop)(d:Nat)(op:eN) [Pp op] (hd:d<n):
 eE P g n pairs base a k0 (⟨some d,op,none⟩::rs) rd ef f H R=nY (dU (nZ g f) H op) fun v H'=>H'=H/\(∀id,op.dP (nZ g f)=some id->∀x∈ef,(a,x.1)∈pairs->x.2.1.get id=x.2.2.get id)/\
     eE P g n pairs base (a+1) k0 rs (match op.dP (nZ g f) with|some id=>(a,id)::rd|none=>rd) ef (jF f d v) H R:=
 th d op Pp.h Pp.f Pp.e hd
end
def aAn:AV->Bool
 |.bool _|.int _ _|.str _|.Li|.bG|.BU|.pY|.rV=>true
 |_=>false
variable{G E:Gh}{w w':World}{u:Value}
theorem VR.aAn{a:AV}(h:VR G w a u)(M:aAn a=true):VR E w' a u:=by cases h<;>first|(cases M;done)|(constructor;done)
def Sz(v:AV):Prop:=aAn v=true\/∃cs,v=.agg cs/\∀c∈cs,Av.aAn c=true
def TA(v:AV):Prop:=Sz v\/∃vs,v=.iV vs/\∀x∈vs,Sz x
theorem XS{l:List AV}{j:Nat}(Y:j<l.length):l.getD j aC∈l:=by rw[getD_eq,Ai Y];exact Ag Y
theorem VR.Sz{a:AV}(h:VR G w a u)(M:Sz a):VR E w' a u:=by
 rcases M with M|⟨cs,rfl,M⟩
 . exact h.aAn M
 cases h with
 |agg _ vs U O J=>exact .agg cs vs U O fun j Y=>(J j Y).aAn (M _ (XS Y))
theorem VR.TA{a:AV}(h:VR G w a u)(M:TA a):VR E w' a u:=by
 rcases M with M|⟨cs,rfl,M⟩
 . exact h.Sz M
 cases h with
 |iV _ vs U J=>exact .iV cs vs U fun j Y=>(J j Y).Sz (M _ (XS Y))
theorem Sound.snap{P:Program}{g:bL}(d:GN g){f:FuncId}{args args':List AV}{H H2:aB}{v:AV}(ha:GI (kK H none H.next) args=some args')(a7:cP args'=true)
 (h:Sound P g f args' ⟨0,.nil⟩ (.ret v) H2) (J:TA v):Sound P g f args H (.ret v) H:=by
 refine⟨h.1,fun G w vs L I=>?_⟩;let G1:Gh:=FZ G G H H none;let G0:Gh:=⟨fun _=>none,G1.iA,G1.mo⟩;have A:∀b o,G1.iA b o->G0.iA b o/\w.cell? ⟨b,o,none⟩=w.cell? ⟨b,o,none⟩:=fun b o hh=>⟨hh,rfl⟩;have W:∀b o,G.iA b o->G0.iA b o/\w.cell? ⟨b,o,none⟩=w.cell? ⟨b,o,none⟩:=fun b o hh=>⟨.inl hh,rfl⟩
 have a6:∀b o,G0.iA b o->∃x,w.cell? ⟨b,o,none⟩=some x:=fun b o F=>by
  rcases F with F|⟨id,l,cs,r,O,Z,rfl,h4,M⟩
  . exact L.iE b o F
  obtain⟨a1,_,_,_,N⟩:=L.cells id l cs r O Z;exact Zbn
 have t:WR g G0 ⟨0,.nil⟩ w:={
  cells:=fun id l cs r O=>by cases O
  room:=fun id l O=>by cases O
  lL:=fun id lZ l l' _ O=>by cases O
  kI:=fun id l O=>by cases O
  iT:=fun id l es O=>by cases O
  lt:=fun id l O=>by cases O
  iE:=a6
  jE:=fun k cs E=>(L.jE k cs E).oB (d k cs E) W
  BP:=L.BP
  mo:=L.mo}
 obtain⟨R,m2⟩:=FJ ha
 have a:jD G0 w args' vs:=by
  refine⟨by rw[I.1,R],fun j Y=>?_⟩;have n:j<args.length:=by omega
  have :=RH (G:=G) (H:=H) (tk:=none) (fun k E=>by cases E) L (I.2 j n) (m2 j n);exact this.oB (kT a7 Y) A
 refine(h.2 G0 w vs t a).mono fun e w2 z=>?_;obtain⟨G2,CA,V,p⟩:=z
 have q:∀b,b<w.heap.size->w2.heap[b]?=w.heap[b]?:=fun b X=>V.frame b X fun id l hh=>by cases hh
 have S:∀b o,G.iA b o->G.iA b o/\w2.cell? ⟨b,o,none⟩=w.cell? ⟨b,o,none⟩:=fun b o F=>by obtain⟨x,C⟩:=L.iE b o F;exact⟨F,fN (q b (qK C))⟩
 have U:∀id l,G.loc id=some l->G.loc id=some l:=fun _ _ h=>h
 have B:WR g G H w2:={
  cells:=fun id l cs r O Z=>by obtain⟨a1,y,Q,i,N⟩:=L.cells id l cs r O Z;have X:=L.mE O ⟨_,Z,rfl⟩;refine⟨a1,y,Q,i,fun j Y=>?_⟩;obtain⟨x,C,m⟩:=N j Y;exact⟨x,by rw[fN (q _ X)];exact C,m.mono U S⟩
  room:=fun id l O Z=>by
   have X:l.dE<w.heap.size:=L.mE O (by
    rcases Z with ⟨cs,r,hh⟩|hh
    . exact⟨_,hh,rfl⟩
    exact⟨_,hh,rfl⟩)
   obtain⟨c,T,fz,b1,b2,D⟩:=L.room id l O Z;exact ZbJ
  lL:=L.lL
  kI:=L.kI
  iT:=fun id l o O Z E=>by have X:=L.mE O ⟨_,Z,LZ E⟩;obtain⟨a1,y,Q⟩:=L.iT id l o O Z E;exact⟨a1,y,Q.mono (q _ X) fun _ _ h=>h.mono U S⟩
  lt:=L.lt
  iE:=fun b o F=>by obtain⟨x,C⟩:=L.iE b o F;exact⟨x,by rw[(S b o F).2];exact C⟩
  jE:=fun k cs E=>(L.jE k cs E).mono U S
  BP:=fun k cs E s=>by obtain⟨c,T,fz,O,Z⟩:=L.BP k cs E s;exact⟨c,T,fz,by rw[q _ (Eg.1 O).1];exact O,Z⟩
  mo:=L.mo}
 refine⟨G,B,{
  loc:=U
  iA:=S
  size:=V.size
  frame:=fun b X _=>q b X
  mV:=fun id l O K=>.inr ⟨id,l,O,K,rfl⟩
  pM:=fun b o F=>.inl F
  next:=Ad _
  news:=fun id l O Z=>by rw[O] at Z;cases Z
  dead:=fun id l O K=>K
  mo:=rfl
  same:=V.same},?_⟩
 cases e with
 |returned u=>exact VR.TA p J
 |panicked c=>exact p.elim
 |_=>exact p.elim
section
section
variable {P:Program} {g:bL} {n:Nat}
theorem EO{Q:aB->Prop}:∀{ds:List gW} {H:aB},ZN P g ds H Q->∃L,Q L/\ZN P g ds H fun H'=>H'=L
 |[],H,h=>⟨H,h,rfl⟩
 |.call _ _::ds,H,h=>by obtain⟨H1,O,Z⟩:=h;obtain⟨L,q,B⟩:=EO Z;exact⟨L,q,H1,O,B⟩
 |.mark _::ds,H,h=>by obtain⟨O,Z⟩:=h;obtain⟨L,q,B⟩:=EO Z;exact⟨L,q,O,B⟩
theorem uJ{Q z:aB->Prop}(D:∀H,Q H->z H):∀{ds:List gW} {H:aB},ZN P g ds H Q->ZN P g ds H z
 |[],H,h=>D H h
 |.call _ _::ds,H,h=>by obtain⟨H1,O,Z⟩:=h;exact⟨H1,O,uJ D Z⟩
 |.mark _::ds,H,h=>⟨h.1,uJ D h.2⟩
def aTf(P:Program)(g:bL)(rs:List KA)(R:Out->aB->Prop):FQ
 |.normal,f,ds,H|.ret,f,ds,H=>ZN P g ds H fun H1=>∃vs,ED f H1 rs=some vs/\R (.ret (nJ vs)) H1
 |.panic v,f,ds,H=>match ds with
  |[]=>R (.Lo v) H
  |.mark _::_=>False
  |.call df azs::ds=>∃H1,IA P g df azs (some v) H H1/\ZN P g ds H1 fun H2=>∃vs,ED f H2 rs=some vs/\R (.ret (nJ vs)) H2
 |.exit _,_,_,_=>False
theorem aJy{F:CC}{args:List AV}(I:args.length<=F.ntmps){H:aB}{R:Out->aB->Prop}(h:FC P g F.ntmps F.body (dY args) [] H (aTf P g F.results R)):
 AC P g F.body (sC F args) [] H (aTg P g F R):=by
 obtain⟨X,U⟩:=sB I;unfold sC;rw[<-U];refine fD (fun e s ds H D=>?_) (uM F.body _ [] H _ X h);obtain⟨f,rfl,r,D⟩:=D
 have conv:∀H1,(∃vs,ED f H1 F.results=some vs/\R (.ret (nJ vs)) H1)->∃vs,rA (LF F.ntmps f) H1 F.results=some vs/\R (.ret (nJ vs)) H1:=fun H1 ⟨vs,O,Z⟩=>⟨vs,by grind[Lv],Z⟩
 cases e with
 |normal=>exact uJ conv D
 |ret=>exact uJ conv D
 |panic v=>
  cases ds with
  |nil=>exact D
  |cons d ds=>
   cases d with
   |mark _=>assumption
   |call _ _=>obtain⟨H1,O,Z⟩:=D;exact⟨H1,O,uJ conv Z⟩
 |exit id=>exact D
theorem qH{N:Bool}(t:Fit P g){f:FuncId}{F:CC}(u:gX P g N f F){args:List AV}(I:args.length<=F.ntmps){H:aB}{R:Out->aB->Prop}
 (h:FC P g F.ntmps F.body (dY args) [] H (aTf P g F.results R)) (a:F.body.dL=true:=by first|rfl|decide) (c:F.body.tight=true:=by first|rfl|decide):∃out H',R out H'/\Sound P g f args H out H':=by
 obtain⟨j,s,ds,H',q,n⟩:=JY a (aJy I h)
 replace n:AC P g F.body (sC F args) [] H (fun e s1 d h=>e=j/\s1=s/\d=ds/\h=H'):=fD (fun e s1 d h X=>⟨X.1,X.2.1.resolve_right fun h=>(by grind),X.2.2⟩) n
 have norm:(j=.normal\/j=.ret)->(ZN P g ds H' fun H1=>∃vs,rA s H1 F.results=some vs/\R (.ret (nJ vs)) H1)->∃out H',R out H'/\Sound P g f args H out H':=by
  intro b q;obtain⟨L,⟨vs,O,Z⟩,B⟩:=EO q;refine⟨_,L,Z,qG t u (fD (fun e s1 d X z=>?_) n)⟩;obtain⟨rfl,rfl,rfl,rfl⟩:=z;have :ZN P g d X fun H1=>∃i,rA s1 H1 F.results=some i/\(Out.ret (nJ i)=Out.ret (nJ vs)/\H1=L):=uJ (fun H1 e=>by grind) B
  rcases b with rfl|rfl<;>exact this
 cases j with
 |exit id=>exact q.elim
 |normal=>exact norm (.inl rfl) q
 |ret=>exact norm (.inr rfl) q
 |panic v=>
  cases ds with
  |nil=>refine⟨.Lo v,H',q,qG t u (fD (fun e s1 d X z=>?_) n)⟩;obtain⟨rfl,rfl,rfl,rfl⟩:=z;exact⟨rfl,rfl⟩
  |cons d ds=>
   cases d with
   |mark _=>exact q.elim
   |call _ _=>obtain⟨H1,O,Z⟩:=q;obtain⟨L,⟨vs,q1,q2⟩,q3⟩:=EO Z;refine⟨.ret (nJ vs),L,q2,qG t u (fD (fun e s1 p X z=>?_) n)⟩;obtain⟨rfl,rfl,rfl,rfl⟩:=z;exact⟨H1,O,uJ (fun H1 e=>by grind) q3⟩
theorem UU{N:Bool}(t:Fit P g){f:FuncId}{A:Option Nat}{rl:List bH}{k:bX}(u:aBu P g N f n A rl k)
 {args:List AV} (I:args.length<=n) {a:Option AV} {H H':aB}
 (h:bS P g n rl (gJ n (dY args) A (a.getD .pY)) [] H (iJ (fun f ds H=>FC P g n k f ds H fun e f ds H=>(match e with|.normal=>True|.ret=>True|_=>False)/\ds=[]/\H=H') fun _ _ _ _=>False)):
 IA P g f args a H H':=by
 obtain⟨X,U⟩:=sB I;refine UT t u ?_;rw[<-U,<-qF];refine MM (fun e s ds H D=>?_) (kR rl _ [] H _ (X.put _ _) h);obtain⟨f,rfl,r,D⟩:=D
 cases e with
 |normal=>refine fD (fun e s ds H D=>?_) (uM k f ds H _ r D);obtain⟨f,rfl,_,D⟩:=D;omega
 |_=>exact D.elim
variable {r:List bH} {f:dI} {ds:List gW} {H:aB} {Q:FQ}
end
end
section
section
variable {P:Program} {v:Nat->Option (List AV)} {l l':HU->Loop->Prop}
theorem yL:bN ⟨v,l⟩=bN ⟨v,l'⟩:=by rfl
theorem PW:pG ⟨v,l⟩=pG ⟨v,l'⟩:=by
 funext x
 induction x with
 |nil=>rfl
 |cons a r K=>simp only[pG];rw[K,yL (l':=l')]
theorem fk(f:Nat->Option (Nat×Nat)):xW ⟨v,l⟩ f=xW ⟨v,l'⟩ f:=by
 funext x
 induction x with
 |nil=>rfl
 |cons a r K=>simp only[xW];rw[K,yL (l':=l')]
theorem aGd:∀(n:Nat) (x),LX ⟨v,l⟩ n x=LX ⟨v,l'⟩ n x:=by
 intro n x
 induction x generalizing n with
 |nil=>rfl
 |cons a r K=>simp only[LX];rw[K,yL (l':=l')]
theorem Zl(op:BinOp)(t:TypeId)(x y:Operand):tH P ⟨v,l⟩ op t x y=tH P ⟨v,l'⟩ op t x y:=by rfl
theorem Wq(a b:TypeId)(x:Operand):oZ P ⟨v,l⟩ a b x=oZ P ⟨v,l'⟩ a b x:=by rfl
theorem Ub(t:TypeId)(x:Operand)(a b c:Option Operand):mK P ⟨v,l⟩ t x a b c=mK P ⟨v,l'⟩ t x a b c:=by rfl
theorem Zn(c:Call):tI P ⟨v,l⟩ c=tI P ⟨v,l'⟩ c:=by rfl
theorem Rl(N:Bool)(c:Call):jT P ⟨v,l⟩ N c=jT P ⟨v,l'⟩ N c:=by rfl
theorem Wp(N:Bool)(c:Call):oY P ⟨v,l⟩ N c=oY P ⟨v,l'⟩ N c:=by unfold oY;rw[yL (l':=l'),PW (l':=l'),Zn (l':=l'),Rl (l':=l')]
theorem aMe(N:Bool)(o:Oper):Pg P ⟨v,l⟩ N o=Pg P ⟨v,l'⟩ N o:=by unfold Pg;simp only[yL (v:=v) (l:=l) (l':=l'),PW (v:=v) (l:=l) (l':=l'),fk (v:=v) (l:=l) (l':=l'),aGd (v:=v) (l:=l) (l':=l'),Zl (v:=v) (l:=l) (l':=l'),Wq (v:=v) (l:=l) (l':=l'),Ub (v:=v) (l:=l) (l':=l'),Wp (v:=v) (l:=l) (l':=l')]
theorem vm(N:Bool)(m:Array Oper)(o:Oper):NX P ⟨v,l⟩ N m o=NX P ⟨v,l'⟩ N m o:=by grind[NX,aMe]
theorem Zp(N:Bool)(m:Array Oper):∀x,mX P ⟨v,l⟩ N m x=mX P ⟨v,l'⟩ N m x:=by
 intro x
 induction x with
 |nil=>rfl
 |cons a r K=>grind[mX,vm]
theorem uc(N:Bool)(c:Code):fL P ⟨v,l⟩ N c=fL P ⟨v,l'⟩ N c:=by
 induction c with
 |region id m d=>cases d<;>simp only[fL]<;>rw[Zp (l':=l')]
 |seq a b R w=>grind[fL]
 |cond c a b R w=>simp only[fL,R,w];rfl
 |block id a K=>grind[fL]
 |loop a K=>grind[fL]
 |scope a K=>assumption
 |rangeFunc c S x y f e=>simp only[fL,f,e];rfl
 |_=>rfl
def mkG(P:Program)(v:Nat->Option (List AV)):bL:=
 ⟨v,fun k r=>r.params.toList=k.ps/\∃N,fL P ⟨v,fun _ _=>False⟩ N r.assign=some k.MI/\fL P ⟨v,fun _ _=>False⟩ N r.body=some k.body/\k.MI.nd=true/\k.body.nd=true⟩
theorem ot(t:P.follows .mixedOrders=true):Fit P (mkG P v) where
 mixed:=t
 lok:=fun k r=>by grind[mkG,uc]
def xT(P:Program)(g:bL)(N:Bool)(fn:Go.Func):Option CC:=
 match fn.body with
 |none=>none
 |some c=>match fL P g N c,wM P fn.results.toList with
  |some b,some r=>some ⟨fn.ntmps,r,b⟩
  |_,_=>none
def fJ(P:Program)(g:bL)(N:Bool):Code->Option bX
 |.skip=>some .skip
 |.label _=>some .skip
 |.region _ ops false=>(mX P g N ops ops.toList).map .ops
 |.region _ ops true=>(mX P g N ops ops.toList).map fun rl=>.draw rl (qY rl (Region.before ops).toList)
 |.seq a b=>match fJ P g N a,fJ P g N b with
  |some x,some y=>some (.seq x y)
  |_,_=>none
 |.cond c a b=>match bN g c,fJ P g N a,fJ P g N b with
  |some z,some x,some y=>some (.cond z x y)
  |_,_,_=>none
 |.block id a=>(fJ P g N a).map (.block id)
 |.loop a=>(fJ P g N a).map .loop
 |.scope a=>fJ P g N a
 |.exit id=>some (.exit id)
 |.ret=>some .ret
 |.rangeFunc c ps x y=>match bN g c,fJ P g N x,fJ P g N y with
  |some c',some x',some y'=>some (.pO c' ps.toList x' y')
  |_,_,_=>none
 |_=>none
theorem tz{P:Program}{g:bL}{N:Bool}:∀{c:Code} {b:bX},fL P g N c=some b->fJ P g N c=some b:=by
 intro c
 induction c with
 |region k m d=>
  intro b h
  cases d with
  |false=>exact h
  |true=>grind[fL,fJ]
 |seq a b R w=>grind[fL,fJ]
 |cond c a b R w=>grind[fL,fJ]
 |block i a R=>simp_all[fL,fJ]
 |loop a R=>simp_all[fL,fJ]
 |scope a R=>assumption
 |rangeFunc c S x y f e=>grind[fL,fJ]
 |_=>intro r h;assumption
def mkX(P:Program)(g:bL)(N:Bool)(fn:Go.Func):Option CC:=
 match fn.body with
 |none=>none
 |some c=>match fJ P g N c,wM P fn.results.toList with
  |some b,some r=>some ⟨fn.ntmps,r,b⟩
  |_,_=>none
theorem aGp{P:Program}{g:bL}{N:Bool}{fn:Go.Func}{F:CC}(h:(xT P g N fn).isSome=true)(C:mkX P g N fn=some F):xT P g N fn=some F:=by grind[xT,mkX,tz]
def sqO:Option bX->Option bX->Option bX
 |some x,some y=>some (.seq x y)
 |_,_=>none
def cdO(c:Option Arg):Option bX->Option bX->Option bX
 |some x,some y=>match c with
  |some z=>some (.cond z x y)
  |none=>none
 |_,_=>none
theorem ax(P:Program)(g:bL)(N:Bool):(∀a b,fJ P g N (.seq a b)=sqO (fJ P g N a) (fJ P g N b))/\(∀c a b,fJ P g N (.cond c a b)=cdO (bN g c) (fJ P g N a) (fJ P g N b))/\
 (∀i a,fJ P g N (.block i a)=(fJ P g N a).map (.block i))/\(∀a,fJ P g N (.loop a)=(fJ P g N a).map .loop)/\(∀a,fJ P g N (.scope a)=fJ P g N a)/\
 (∀k m,fJ P g N (.region k m false)=(mX P g N m m.toList).map .ops)/\(∀k m,fJ P g N (.region k m true)=(mX P g N m m.toList).map fun rl=>.draw rl (qY rl (Region.before m).toList)):=by
 refine⟨fun a b=>?_,fun c a b=>?_,fun i a=>rfl,fun a=>rfl,fun a=>rfl,fun k m=>rfl,fun k m=>rfl⟩
 . rfl
 conv=>lhs;unfold fJ
 unfold cdO
 grind
theorem dT {g:bL} {mu:Bool} {f:FuncId} {fn:Go.Func} {F:CC} (h1:P.funcs[f]?=some fn) (h2:(fn.name== "runtime.NumGoroutine")=false) (h:xT P g mu fn=some F):gX P g mu f F:=by
 unfold xT at h;split at h
 . grind
 rename_i c hc;split at h
 . rename_i b r hb hr;cases h;exact⟨fn,c,h1,hc,h2,hb,rfl,hr⟩
 grind
end
end
section
def bH.sR(o:bH):Bool:=match o.op with|.mY _ _=>false|_=>true
def bX.sR:bX->Bool
 |.ops rl=>rl.all bH.sR
 |.seq a b|.cond _ a b=>a.sR&&b.sR
 |.block _ a|.loop a=>a.sR
 |.pO _ _ _ _=>false
 |_=>true
def bX.wr:bX->List Nat
 |.ops rl|.draw rl _=>rl.filterMap (·.dst)
 |.seq a b|.cond _ a b=>a.wr++b.wr
 |.block _ a|.loop a=>a.wr
 |_=>[]
def wG(t:Nat):List Nat->Bool
 |[]=>false
 |x::l=>Nat.beq t x||wG t l
theorem Xz{t:Nat}:∀{l:List Nat},wG t l=true↔t∈l
 |[]=>by simp[wG]
 |x::l=>by simp[wG,Xz]
theorem qW{t:Nat}{l:List Nat}:wG t l=false↔t∉l:=by grind[Xz]
def lH(W:List Nat)(f0 f:dI):Prop:=∀t,wG t W=false->f t=f0 t
theorem lH.aId{W:List Nat}{f:dI}:lH W f f:=fun _ _=>rfl
def Kp(W:List Nat)(f0:dI)(nd:Bool)(ds0:List gW)(f:dI)(ds:List gW):Prop:=lH W f0 f/\(nd=true->ds=ds0)
theorem lH.put{W:List Nat}{f0 f:dI}{n:Nat}(h:lH W f0 f)(A:Option Nat)(hd:∀d,A=some d->d∈W)(v:AV):lH W f0 (gJ n f A v):=by
 cases A with
 |none=>exact h
 |some d=>
  intro t a
  have s:t≠d:=fun e=>by subst e;exact qW.1 a (hd _ rfl)
  simp only[gJ];split
  . rw[pR _ _ s];exact h t a
  exact h t a
section
variable {P:Program} {g:bL} {n:Nat} {W:List Nat} {f0:dI} {nd:Bool} {ds0:List gW}
theorem tl{rl:List bH}:∀{f:dI} {ds:List gW} {H:aB} {Q:FQ},(∀o∈rl,∀d,o.dst=some d->d∈W)->(nd=true->rl.all bH.sR=true)->Kp W f0 nd ds0 f ds->
 bS P g n rl f ds H Q->bS P g n rl f ds H (fun e u V H'=>Kp W f0 nd ds0 u V/\Q e u V H'):=by
 induction rl with
 |nil=>exact fun _ _ E h=>⟨E,h⟩
 |cons o r K=>
  intro f ds H Q L A E h;have I:=fun o S=>L o (Ax _ S)
  have l:nd=true->r.all bH.sR=true:=fun e=>by have :=A e;simp only[List.all_cons,Ak] at this;exact this.2
  have a:∀v,Kp W f0 nd ds0 (gJ n f o.dst v) ds:=fun v=>⟨E.1.put _ (L o Ay) v,E.2⟩;unfold bS at h ⊢;split
  . rename_i s;rw[if_pos s] at h;split at h
    . obtain⟨out,H',O,B⟩:=h;refine⟨out,H',O,?_⟩
      cases out with
      |ret v=>exact K I l (a v) B
      |Lo v=>exact⟨E,B⟩
    . obtain⟨t,v,O,Z⟩:=h;exact⟨t,v,O,E,Z⟩
    . rename_i c i b;obtain⟨p,O,Z⟩:=h;refine⟨p,O,K I l ⟨(a _).1,fun e=>?_⟩ Z⟩;have :=A e;simp only[List.all_cons,Ak] at this;have B:=this.1;rw[bH.sR,b] at B;cases B
    . obtain⟨m,es,O,Z,B⟩:=h;exact⟨m,es,O,Z,fun N c mb k1 k2=>K I l (a _) (B N c mb k1 k2)⟩
    . obtain⟨w,m,mb,c,seen,es,N,O,Z,B,h4,M⟩:=h;exact⟨w,m,mb,c,seen,es,N,O,Z,B,fun k=>K I l (a _) (h4 k),fun j k1 k2=>K I l (a _) (M j k1 k2)⟩
    . obtain⟨w,m,mb,c,seen,es,N,j,O,Z,B,h4,M⟩:=h;exact⟨w,m,mb,c,seen,es,N,j,O,Z,B,h4,K I l (a _) M⟩
    unfold nY at h ⊢;split at h
    . exact K I l (a _) h
    exact h.elim
  rename_i s;rw[if_neg s] at h;exact K I l (a _) h
theorem aBs{pairs:List (Nat×Nat)}{base:Nat}{rl:List bH}:∀{i k:Nat} {rd:List (Nat×Nat)} {ef:List (Nat×aB×aB)} {f:dI} {H:aB} {Q:dI->aB->Prop},(∀o∈rl,∀d,o.dst=some d->d∈W)->lH W f0 f->
 ZS P g n pairs base i k rl rd ef f H Q->ZS P g n pairs base i k rl rd ef f H (fun u H'=>lH W f0 u/\Q u H'):=by
 induction rl with
 |nil=>exact fun _ E h=>⟨E,h⟩
 |cons r rs K=>
  intro i k rd ef f H Q L E h;have a:∀v,lH W f0 (gJ n f r.dst v):=fun v=>E.put _ (L r Ay) v
  grind[ZS]
theorem aGm{rl:List bH}(L:∀d∈rl.filterMap (·.dst),d∈W):∀o∈rl,∀d,o.dst=some d->d∈W:=fun o S d hd=>L d (Ix.2 ⟨o,S,hd⟩)
variable{c:bX}
theorem aBp:∀{f:dI} {ds:List gW} {H:aB} {Q:FQ},(∀d∈c.wr,d∈W)->(nd=true->c.sR=true)->Kp W f0 nd ds0 f ds->FC P g n c f ds H Q->FC P g n c f ds H (fun e u V H'=>Kp W f0 nd ds0 u V/\Q e u V H'):=by
 induction c with
 |skip=>exact fun _ _ E h=>⟨E,h⟩
 |ops rl=>exact fun L A E h=>tl (aGm L) A E h
 |draw rl pairs=>exact fun L _ E h=>h.imp (fun h=>⟨h.1,Wa (fun _ _ h=>⟨⟨h.1,E.2⟩,h.2⟩) (aBs (aGm L) E.1 h.2)⟩) fun h=>h.imp (fun h X=>let⟨x,u,H',O,Z,B,h4⟩:=h X;⟨x,u,H',O,Z,B,⟨fun t o=>(B t fun s=>qW.1 o (L t s)).trans (E.1 t o),E.2⟩,h4⟩) fun h X=>let⟨x,H',O,Z⟩:=h X;⟨x,H',O,fun u r j=>⟨⟨fun t o=>(j t fun s=>qW.1 o (L t s)).trans (E.1 t o),E.2⟩,Z u r j⟩⟩
 |seq a b R w=>
  intro f ds H Q L A E h;simp only[bX.wr,Ar] at L;simp only[bX.sR,Ak] at A;show FC P g n a f ds H _;refine jJ (fun e f ds H h=>?_) (R (fun d hd=>L d (.inl hd)) (fun e=>(A e).1) E h)
  cases e with
  |normal=>exact w (fun d hd=>L d (.inr hd)) (fun e=>(A e).2) h.1 h.2
  |_=>exact h
 |cond c a b R w=>
  intro f ds H Q L A E h;simp only[bX.wr,Ar] at L;simp only[bX.sR,Ak] at A;exact ZbI
 |block id a K=>
  intro f ds H Q L A E h;show FC P g n a f ds H _;refine jJ (fun e f ds H h=>?_) (K L A E h)
  cases e with
  |exit i=>grind[dX]
  |_=>exact h
 |loop a K=>
  intro f ds H Q L A E h;obtain⟨I,m,G,C⟩:=h;refine⟨fun m f ds H=>Kp W f0 nd ds0 f ds/\I m f ds H,m,⟨E,G⟩,fun m f ds H F=>jJ (fun e f ds H h=>?_) (K L A F.1 (C m f ds H F.2))⟩
  cases e with
  |normal=>obtain⟨O,k,E,F⟩:=h;exact⟨k,E,O,F⟩
  |_=>exact h
 |exit id=>exact fun _ _ E h=>⟨E,h⟩
 |ret=>exact fun _ _ E h=>⟨E,h⟩
 |pO c S a b R w=>
  intro f ds H Q L A E h;obtain⟨fid,fs,cs,v,y,p,l,z,D,O,Z,B,h4,M⟩:=h;have q:∀N,Kp W f0 nd ds0 f N:=fun N=>⟨E.1,fun e=>by cases A e⟩;refine⟨fid,fs,cs,v,y,p,l,z,D,O,Z,B,h4,?_⟩
  cases z with
  |ready=>exact⟨q _,M⟩
  |done e=>cases e<;>exact⟨q _,M⟩
  |busy=>assumption
  |over _=>assumption
theorem KD{f:dI}{ds:List gW}{H:aB}{Q:FQ}(h:FC P g n c f ds H Q):FC P g n c f ds H (fun e u V H'=>lH c.wr f u/\(c.sR=true->V=ds)/\Q e u V H'):=
 jJ (fun _ _ _ _ h=>⟨h.1.1,h.1.2,h.2⟩) (aBp (nd:=c.sR) (ds0:=ds) (fun _ h=>h) id ⟨.aId,fun _=>rfl⟩ h)
theorem lH.trans{W:List Nat}{f u V:dI}(h:lH W f u)(M:lH W u V):lH W f V:=fun t a=>(M t a).trans (h t a)
theorem lH.sub{W k:List Nat}{f u:dI}(h:lH k f u)(M:∀d∈k,d∈W):lH W f u:=fun t a=>h t (qW.2 fun b=>qW.1 a (M t b))
theorem jW{a:bX}{f:dI}{ds:List gW}{H:aB}{Q:FQ}(cs:List Nat)(I:Nat->List AV->aB->Prop)(m:Nat)(A:a.sR=true)(G:I m (cs.map f) H)
 (h:∀m u H',lH a.wr f u->I m (cs.map u) H'->FC P g n a u ds H' (iJ (fun b _ j=>∃k,k<m/\I k (cs.map b) j) Q)):FC P g n (.loop a) f ds H Q:=by
 refine⟨fun m u V H'=>lH a.wr f u/\V=ds/\I m (cs.map u) H',m,⟨.aId,rfl,G⟩,?_⟩;rintro m u V H' ⟨E,rfl,F⟩;refine jJ (fun e d p H2 X=>?_) (KD (h m u H' E F));obtain⟨O,Z,B⟩:=X
 cases e with
 |normal=>obtain⟨k,N,c⟩:=B;exact⟨k,N,E.trans O,Z A,c⟩
 |_=>exact B
def bNb(n cmp ix ln nx:Nat)(cs:List Nat)(B:bX):Bool:=
 Nat.blt cmp n&&Nat.blt ix n&&Nat.blt nx n&& !Nat.beq cmp ix&& !Nat.beq cmp ln&& !Nat.beq nx ix&& !Nat.beq nx ln&& !Nat.beq ix ln&& !wG cmp cs&& !wG ix cs&& !wG nx cs&& !wG ix B.wr&& !wG ln B.wr&&B.sR
theorem Lf{cs:List Nat}{f:dI}{d:Nat}{v:AV}(h:wG d cs=false):cs.map (jF f d v)=cs.map f:=
 Dk fun t W=>pR f v fun e=>qW.1 h (e▸W)
def ZL(cmp ix nx:Nat)(B:bX):List Nat:=cmp::nx::ix::B.wr
variable{B:bX}
theorem bR{id cmp ix ln nx:Nat}{f:dI}{ds:List gW}{H:aB}{Q:FQ}(cs:List Nat)(J:Nat->List AV->aB->Prop)(N:Nat)(y:(N:Int)<2^63)
 (M:bNb n cmp ix ln nx cs B=true) (O:f ix=.int .i64 0) (Z:f ln=.int .i64 N) (G:J 0 (cs.map f) H)
 (body:∀(i:Nat) (u:dI) (H':aB),i<N->lH (ZL cmp ix nx B) f u->u ix=.int .i64 i->J i (cs.map u) H'->FC P g n B u ds H' (iJ (fun V _ j=>J (i+1) (cs.map V) j) (dX id Q)))
 (done:∀(u:dI) (H':aB),lH (ZL cmp ix nx B) f u->J N (cs.map u) H'->Q .normal u ds H'):
 FC P g n (.block id (.loop (.seq (.ops [⟨some cmp,.bin .lss (.tmp ix) (.tmp ln),none⟩]) (.seq (.cond (.tmp cmp) .skip (.exit id)) (.seq B
  (.ops [⟨some nx,.bin .add (.tmp ix) (.const (.int .i64 1)),none⟩,⟨some ix,.mO (.tmp nx),none⟩])))))) f ds H Q:=by
 simp only[bNb,Ak,Ct,Ib] at M;obtain⟨⟨⟨⟨⟨⟨⟨⟨⟨⟨⟨⟨⟨s1,s2⟩,s3⟩,U⟩,q⟩,x⟩,w⟩,k⟩,I⟩,l⟩,c3⟩,b1⟩,b2⟩,D⟩:=M;have ne:∀{a b:Nat},Nat.beq a b=false->a≠b:=fun h e=>by simp_all
 have m:∀{u:dI} {d:Nat} {v:AV},d∈ZL cmp ix nx B->lH (ZL cmp ix nx B) f u->lH (ZL cmp ix nx B) f (jF u d v):=fun {u d v} hd E t ht=>by have s:t≠d:=fun e=>qW.1 ht (by grind);rw[pR _ _ s];exact E t ht
 refine aBq (id:=id) (cmp:=cmp) (ix:=ix) (ln:=ln) (nx:=nx) (B:=B) (fun i u H'=>lH (ZL cmp ix nx B) f u/\J i (cs.map u) H') N y ⟨s1,s2,s3,ne U,ne q,ne x,ne w,ne k⟩ O Z ⟨.aId,G⟩ ?_ ?_ ?_
 . grind[ZL,Lf]
 . rintro i u H' F T o ⟨E,Y⟩;refine jJ (fun e c p H2 X=>?_) (KD (body i u H' F E T Y));obtain⟨k1,k2,k3⟩:=X
   cases e with
   |normal=>exact⟨k2 D,by rw[k1 _ b1];omega,by rw[k1 _ b2];omega,E.trans (k1.sub fun d hd=>by grind[ZL]),k3⟩
   |_=>exact k3
 grind
def bNa(n cmp ix nx:Nat)(cs:List Nat)(B:bX):Bool:=
 Nat.blt cmp n&&Nat.blt ix n&&Nat.blt nx n&& !Nat.beq cmp ix&& !Nat.beq nx ix&& !wG cmp cs&& !wG ix cs&& !wG nx cs&& !wG ix B.wr&&B.sR
theorem fE{id cmp ix nx:Nat}{q:Int}{f:dI}{ds:List gW}{H:aB}{Q:FQ}(cs:List Nat)(J:Nat->List AV->aB->Prop)(N:Nat)(y:(N:Int)<2^63)(k:q=(N:Int))
 (M:bNa n cmp ix nx cs B=true) (O:f ix=.int .i64 0) (G:J 0 (cs.map f) H)
 (body:∀(i:Nat) (u:dI) (H':aB),i<N->lH (ZL cmp ix nx B) f u->u ix=.int .i64 i->J i (cs.map u) H'->FC P g n B u ds H' (iJ (fun V _ j=>J (i+1) (cs.map V) j) (dX id Q)))
 (done:∀(u:dI) (H':aB),lH (ZL cmp ix nx B) f u->J N (cs.map u) H'->Q .normal u ds H'):
 FC P g n (.block id (.loop (.seq (.ops [⟨some cmp,.bin .lss (.tmp ix) (.const (.int .i64 q)),none⟩]) (.seq (.cond (.tmp cmp) .skip (.exit id)) (.seq B
  (.ops [⟨some nx,.bin .add (.tmp ix) (.const (.int .i64 1)),none⟩,⟨some ix,.mO (.tmp nx),none⟩])))))) f ds H Q:=by
 simp only[bNa,Ak,Ct,Ib] at M;obtain⟨⟨⟨⟨⟨⟨⟨⟨⟨s1,s2⟩,s3⟩,U⟩,x⟩,I⟩,l⟩,c3⟩,b1⟩,D⟩:=M;have ne:∀{a b:Nat},Nat.beq a b=false->a≠b:=fun h e=>by simp_all
 have m:∀{u:dI} {d:Nat} {v:AV},d∈ZL cmp ix nx B->lH (ZL cmp ix nx B) f u->lH (ZL cmp ix nx B) f (jF u d v):=fun {u d v} hd E t ht=>by have s:t≠d:=fun e=>qW.1 ht (by grind);rw[pR _ _ s];exact E t ht
 refine s9 (id:=id) (cmp:=cmp) (ix:=ix) (nx:=nx) (B:=B) (fun i u H'=>lH (ZL cmp ix nx B) f u/\J i (cs.map u) H') N y k ⟨s1,s2,s3,ne U,ne x⟩ O ⟨.aId,G⟩ ?_ ?_ ?_
 . grind[ZL,Lf]
 . rintro i u H' F T ⟨E,Y⟩;refine jJ (fun e c p H2 X=>?_) (KD (body i u H' F E T Y));obtain⟨k1,k2,k3⟩:=X
   cases e with
   |normal=>exact⟨k2 D,by rw[k1 _ b1];omega,E.trans (k1.sub fun d hd=>by grind[ZL]),k3⟩
   |_=>exact k3
 grind
theorem jt{t tag:Nat}(h:Nat.blt tag 2=true):EK none t tag=tag:=by
 match tag,h with
 |0,_=>rfl
 |1,_=>rfl
theorem uG{H:aB}{t:Nat}{v:AV}(h:v.free=true):iH H none t 0 v=some v:=by
 have key:kK H none t v=some v:=by
  cases v<;>first
   |(cases h;done)
   |(simp only[AV.free,Ak] at h;simp only[kK,h.2,jt h.1])
   |(simp only[kK,h])
 assumption
theorem fA{N:Bool}(a:Fit P g)(d:GN g){k:FuncId}{F:CC}(u:gX P g N k F){args:List AV}{q:AV}(U:args.length<=F.ntmps)(I:cP args=true)
 (h:FC P g F.ntmps F.body (dY args) [] ⟨0,.nil⟩ (SI F.results fun o H2=>∃v n,o=.ret v/\∀t,iH H2 none t n v=some q)) (H:aB):Sound P g k args H (.ret q) H:=by
 refine(KI a u (aBg U h)).frame d I H fun out H2 r=>?_;obtain⟨v,n,rfl,M⟩:=r;exact⟨none,n,q,fun k E=>(by grind),M _,rfl,rfl⟩
theorem aAd{rs:List KA}{R a:Out->aB->Prop}(h:∀o H,R o H->a o H){e:su}{f:dI}{ds:List gW}{H:aB}(V:SI rs R e f ds H):SI rs a e f ds H:=by
 cases e with
 |normal=>obtain⟨O,vs,Z,B⟩:=V;exact⟨O,vs,Z,h _ _ B⟩
 |ret=>obtain⟨O,vs,Z,B⟩:=V;exact⟨O,vs,Z,h _ _ B⟩
 |panic v=>obtain⟨O,B⟩:=V;exact⟨O,h _ _ B⟩
 |exit _=>exact V
theorem IC{N:Bool}(t:Fit P g)(d:GN g){k:FuncId}{F:CC}(u:gX P g N k F){args:List AV}{v:AV}(U:args.length<=F.ntmps)(I:cP args=true)(J:v.free=true)
 (h:FC P g F.ntmps F.body (dY args) [] ⟨0,.nil⟩ (SI F.results fun o _=>o=.ret v)) (H:aB):Sound P g k args H (.ret v) H:=
 fA t d u U I (jJ (fun _ _ _ _=>aAd fun o H2 e=>⟨v,0,e,fun _=>uG J⟩) h) H
end
end
end Go.Av
namespace Go.iW
def W:Nat:=4294967296
theorem qJ:0<W:=by decide
theorem eB(k:Nat):0<W^k:=Gl qJ
def aT(n k:Nat):Nat:=n / W^k%W
theorem dC(n k:Nat):aT n k<W:=Bz _ qJ
theorem mod_succ(n k:Nat):n%W^(k+1)=n%W^k+W^k*aT n k:=Nat.mod_pow_succ
theorem FE{n k:Nat}(h:n<W^k):aT n k=0:=by simp[aT,Dg,h]
theorem zK{n m k:Nat}(h:n<W^m)(E:m<=k):aT n k=0:=
 FE (Au h (Bu qJ E))
def cr(a b k:Nat):Nat:=(a%W^k+b%W^k) / W^k
theorem aMg(a b:Nat):cr a b 0=0:=by simp[cr,Ih]
theorem aMf(a b k:Nat):cr a b (k+1)=(cr a b k+aT a k+aT b k) / W:=by
 unfold cr;rw[mod_succ,mod_succ,De,<-Dn];congr 1
 rw[show a%W^k+W^k*aT a k+(b%W^k+W^k*aT b k)=a%W^k+b%W^k+W^k*(aT a k+aT b k) by grind,
  Fj _ _ (eB k)]
 omega
theorem aRb(a b k:Nat):cr a b k<=1:=by unfold cr;have O:=Bz a (eB k);have Z:=Bz b (eB k);have :(a%W^k+b%W^k) / W^k<2:=(Cm (eB k)).2 A0;omega
theorem ah(a b k:Nat):(a+b) / W^k=a / W^k+b / W^k+cr a b k:=by
 unfold cr;have O:=Dt a (W^k);have Z:=Dt b (W^k);have :a+b=a%W^k+b%W^k+W^k*(a / W^k+b / W^k):=by grind
 rw[this,Fj _ _ (eB k)];omega
theorem aGa(a b k:Nat):aT (a+b) k=(cr a b k+aT a k+aT b k)%W:=by grind[aT,ah,W]
theorem aYs{a b k:Nat}(I:a<W^k)(X:b<W^k):cr a b k=if a+b<W^k then 0 else 1:=by
 have h:=aRb a b k;unfold cr at *;rw[Bk I,Bk X] at *;split
 . simp_all
 have :=Jj (show W^k<=a+b by omega) (eB k);omega
def bw(a b k:Nat):Nat:=if a%W^k<b%W^k then 1 else 0
theorem aLw(a b:Nat):bw a b 0=0:=by simp[bw,Ih]
theorem aLv(a b k:Nat):bw a b (k+1)=if aT a k<aT b k+bw a b k then 1 else 0:=by
 unfold bw;rw[mod_succ,mod_succ];have O:=Bz a (eB k);have Z:=Bz b (eB k);generalize aT a k=x;generalize aT b k=y;generalize W^k=P at *
 rcases Ji x y with h|h|h
 . have :P*(x+1)<=P*y:=Dd P h
   grind
 . grind
 have :P*(y+1)<=P*x:=Dd P h
 grind
theorem aGb{a b:Nat}(h:b<=a)(k:Nat):(aT (a -b) k:Int)=((aT a k:Int) -aT b k -bw a b k)%(W:Int):=by
 have O:=Dt a (W^k);have Z:=Dt b (W^k);have L:=Bz a (eB k);have p:=Bz b (eB k)
 have e:((a -b) / W^k:Nat)=a / W^k -b / W^k -bw a b k/\b / W^k+bw a b k<=a / W^k:=by
  unfold bw;generalize a%W^k=r at *;generalize b%W^k=s at *;generalize a / W^k=x at *;generalize b / W^k=y at *;generalize o:W^k=P at *;have d:0<P:=o▸eB k
  have f:y<=x:=by
   rcases Ep x y with hc|hc
   . have :P*(x+1)<=P*y:=Dd P hc
     grind
   omega
  split
  . have g:y≠x:=fun e=>by grind
    have t:P*(x -y -1)=P*x -P*y -P:=(by simp[Nat.mul_sub,Df]);have c:P*(y+1)<=P*x:=Dd P A0;rw[Gc,Df] at c;have :a -b=(r+P -s)+P*(x -y -1):=A0;rw[this,Fj _ _ d,Dg A0];omega
  have t:P*(x -y)=P*x -P*y:=Nat.mul_sub ..;have c:P*y<=P*x:=Dd P f;have :a -b=(r -s)+P*(x -y):=by omega
  rw[this,Fj _ _ d,Dg A0];omega
 unfold aT
 grind[W]
theorem nQ(a k:Nat):a / W^k=a / W^(k+1)*W+aT a k:=by
 unfold aT;rw[De,<-Dn];have :=Dt (a / W^k) W
 grind
theorem Sr{a b k:Nat}(h:a / W^(k+1)=b / W^(k+1))(E:aT a k=aT b k):a / W^k=b / W^k:=by rw[nQ a,nQ b,h,E]
theorem QX{a b k:Nat}(h:a / W^(k+1)=b / W^(k+1))(E:aT a k<aT b k):a<b:=by
 have O:a / W^k<b / W^k:=by rw[nQ a,nQ b,h];omega
 rcases Ep a b with h2|h2
 . omega
 have :=Nat.div_le_div_right (c:=W^k) h2;omega
theorem XH{a b m:Nat}(I:a<W^m)(X:b<W^m)(h:∀k,k<m->aT a k=aT b k):a=b:=by
 have :∀j,j<=m->a / W^(m -j)=b / W^(m -j):=by
  intro j
  induction j with
  |zero=>simp[Is,Dg,I,X]
  |succ j K=>
   intro Y;refine Sr (k:=m -(j+1)) ?_ (h _ A0)
   grind
 have :=this m (Ad _)
 grind
def vK:List Nat->Nat
 |[]=>0
 |x::l=>x+W*vK l
theorem VW:∀(l:List Nat),(∀x∈l,x<W)->vK l<W^l.length
 |[],_=>by decide
 |x::l,h=>by have O:=VW l fun y Q=>h y (by grind);have Z:=h x A3;simp only[vK,As,De];have :W*(vK l+1)<=W*W^l.length:=Dd W O;rw[Gc,Df] at this;rw[Cc (W^l.length)];omega
theorem LV:∀(l:List Nat) (k:Nat),(∀x∈l,x<W)->aT (vK l) k=l.getD k 0
 |[],k,_=>by simp[vK,aT]
 |x::l,0,h=>by have :=h x A3;simp only[vK,aT,Gr,Ho,Ce];rw[Nat.add_mul_mod_self_left,Bk this]
 |x::l,k+1,h=>by have O:=h x A3;have Z:=LV l k fun y Q=>h y (by grind);rw[Ed,<-Z];simp only[vK,aT];rw[De,Cc (W^k),<-Dn,Fj _ _ qJ,Dg O,Ds]
def aV(m n:Nat):List Nat:=(List.range m).map (aT n)
theorem cW(m n:Nat):(aV m n).length=m:=by simp[aV]
theorem kW{m n k:Nat}(h:k<m):(aV m n).getD k 0=aT n k:=by simp[aV,List.getD,h]
theorem DT{m n:Nat}:∀x∈aV m n,x<W:=by intro x C;simp only[aV,Be] at C;obtain⟨k,_,rfl⟩:=C;exact dC _ _
theorem fP{m n:Nat}(h:n<W^m):vK (aV m n)=n:=by
 refine XH (m:=m) ?_ h fun k E=>?_
 . have :=VW (aV m n) DT
   grind[cW]
 rw[LV _ _ DT,kW E]
theorem TU{l:List Nat}(h:∀x∈l,x<W):aV l.length (vK l)=l:=by refine Et (by simp[aV]) fun k O Z=>?_;simp only[aV,Dv,Gt];simp_all[LV,h,List.getD,Z]
def qy:Nat->Nat->Nat
 |0,_=>0
 |k+1,a=>if aT a k=0 then qy k a else k+1
def sz(a:Nat):Nat:=qy 16 a
theorem jq:∀k a,qy k a<=k
 |0,_=>Ad _
 |k+1,a=>by
  unfold qy;split
  . exact Nat.le_succ_of_le (jq k a)
  omega
theorem jr:∀k a,a<W^k->a<W^qy k a
 |0,_,h=>h
 |k+1,a,h=>by
  unfold qy;split
  . rename_i U;refine jr k a ?_;unfold aT at U;have O:a / W^k<W:=by rw[Cm (eB k),Cc,<-De];omega
    rw[Bk O] at U
    rcases Ep a (W^k) with h2|h2
    . omega
    have :=Jj h2 (eB k);omega
  omega
theorem PC:∀k a,qy k a=0\/aT a (qy k a -1)≠0
 |0,_=>.inl rfl
 |k+1,a=>by
  unfold qy;split
  . exact PC k a
  grind
theorem MC{a:Nat}(h:a<W^16):a<W^sz a:=jr 16 a h
theorem Yn(a:Nat):sz a<=16:=jq 16 a
theorem rf{a:Nat}(h:a<W^16):sz a=0↔a=0:=by
 constructor
 . intro e;have :=MC h;simp_all
 rintro rfl;decide
theorem og{a k:Nat}(h:aT a k≠0):W^k<=a:=by
 rcases Ep a (W^k) with h1|h1
 . exact absurd (FE h1) h
 omega
theorem qz{a:Nat}(h:sz a≠0):W^(sz a -1)<=a:=by
 rcases PC 16 a with h1|h1
 . exact absurd h1 h
 exact og h1
theorem NM{a n:Nat}(h:a<W^16):sz a<=n↔a<W^n:=by
 constructor
 . intro A;exact Au (MC h) (Bu qJ A)
 rcases Ep n (sz a) with h1|h1
 . have Z:=qz (a:=a) A0;have :=Bu qJ (show n<=sz a -1 by omega);omega
 omega
def dW(a:Nat):Nat:=if a=0 then 0 else Nat.log2 a+1
theorem jS{a n:Nat}:dW a<=n↔a<2^n:=by
 unfold dW;split
 . grind
 rename_i h;rw[<-Nat.log2_lt h];omega
theorem uk{a n:Nat}(O:a<2^(n+1))(Z:2^n<=a):dW a=n+1:=by
 have a1:dW a<=n+1:=jS.2 O;have y:¬dW a<=n:=fun h=>by have :=jS.1 h;omega
 omega
theorem tT{a k:Nat}(h:a / 2^k≠0):dW a=dW (a / 2^k)+k:=by
 obtain⟨n,A⟩:∃n,dW (a / 2^k)=n+1:=⟨Nat.log2 (a / 2^k),by simp[dW,if_neg,h]⟩;have O:a / 2^k<2^(n+1):=jS.1 A0;have Z:¬a / 2^k<2^n:=fun h=>by have :=jS.2 h;omega
 rw[A,show n+1+k=(n+k)+1 by omega];refine uk ?_ ?_
 . rw[Cm (Gl A1)] at O
   grind
 rw[Cm (Gl A1)] at Z
 grind
theorem um{a:Nat}(h:a<W^16)(G:sz a≠0):dW a=32*(sz a -1)+dW (aT a (sz a -1)):=by
 have e:W^(sz a -1)=2^(32*(sz a -1)):=by rw[Nat.pow_mul];rfl
 have O:=qz G;have Z:=MC h
 have B:a / W^(sz a -1)<W:=by
  rw[Cm (eB _),Cc,<-De]
  grind
 have h4:aT a (sz a -1)=a / 2^(32*(sz a -1)):=by simp_all[aT,Bk,B,e]
 have M:=Jj O (eB (sz a -1));rw[h4,tT (k:=32*(sz a -1)) (by rw[<-e];omega)];omega
theorem wT:∀(l:List Nat) (j d:Nat),j<l.length->vK (l.set j d)+l.getD j 0*W^j=vK l+d*W^j
 |[],_,_,h=>by grind
 |x::l,0,d,_=>by grind[vK]
 |x::l,j+1,d,h=>by
  have K:=wT l j d (by grind);simp only[List.set_cons_succ,vK,Ed,De]
  grind
theorem XT{l:List Nat}{j d k:Nat}(h:j<l.length):(l.set j d).getD k 0=if k=j then d else l.getD k 0:=by grind
def LW(n:Nat)(l:List Nat):Prop:=l.length=n/\∀d∈l,d<W
theorem LW.set{n:Nat}{l:List Nat}(h:LW n l)(j:Nat){d:Nat}(hd:d<W):LW n (l.set j d):=⟨by rw[Il];exact h.1,fun x C=>by
 rcases List.mem_or_eq_of_mem_set C with h1|h1
 . exact h.2 x h1
 omega⟩
theorem LW.getD{n:Nat}{l:List Nat}(h:LW n l)(j:Nat):l.getD j 0<W:=by
 by_cases Y:j<l.length
 . rw[List.getD,Ai Y];exact h.2 _ (Ag Y)
 rw[List.getD,Cr A0];decide
theorem LW.lt{n:Nat}{l:List Nat}(h:LW n l):vK l<W^n:=by
 have :=VW l h.2
 rwa [h.1] at this
theorem LW.eq{n:Nat}{l:List Nat}(h:LW n l):l=aV n (vK l):=by
 have :=TU h.2;rw[h.1] at this
 grind
theorem LW.aT{n:Nat}{l:List Nat}(h:LW n l)(k:Nat):aT (vK l) k=l.getD k 0:=LV l k h.2
theorem aGr{o:List Nat}{i k c D P b:Nat}(S:LW 32 o)(a:i+k<32)(z:vK o+c*W^(i+k)=P+D*W^i*(b%W^k)):
 let t:=c+D*aT b k+o.getD (i+k) 0
 vK (o.set (i+k) (t%W))+t / W*W^(i+(k+1))=P+D*W^i*(b%W^(k+1)):=by
 intro t;have O:=wT o (i+k) (t%W) Zaq
 have Z:t / W*W^(i+(k+1))+t%W*W^(i+k)=t*W^(i+k):=by rw[show i+(k+1)=(i+k)+1 by omega,De,Cc (W^(i+k)),<-Cf,<-Bn,Cc (t / W)];rw[Dt]
 have B:b%W^(k+1)=b%W^k+W^k*aT b k:=mod_succ b k
 grind
theorem aOb{o:List Nat}{i m c D a b:Nat}(S:LW 32 o)(d:i+m<32)(X:b<W^m)(K:D=aT a i)(z:vK o+c*W^(i+m)=a%W^i*b+D*W^i*(b%W^m))(s:o.getD (i+m) 0=0):
 vK (o.set (i+m) c)=a%W^(i+1)*b:=by
 have O:=wT o (i+m) c Zaq;rw[s,Gq,Cv] at O;rw[O,z,Bk X,mod_succ,K,Bn,Cc (aT a i)]
theorem JE{m n X:Nat}(h:X<W^n)(s:∀k,m<=k->k<n->aT X k=0):X<W^m:=by
 have O:=jr n X h;have Z:=jq n X
 rcases Ep m (qy n X) with h3|h3
 . rcases PC n X with h4|h4<;>grind
 exact Au O (Bu qJ h3)
theorem QU{m n X:Nat}(h:m<=n):(aV n X).take m=aV m X:=by unfold aV;rw[<-List.map_take,List.take_range,Nat.min_eq_left h]
theorem de{X:Nat}(h:X<W^32):X<W^16↔(aV 32 X).drop 16=List.replicate 16 0:=by
 constructor
 . intro C;refine Et (by rfl) fun k O Z=>?_;simp only[List.getElem_drop,aV,Dv,Gt,List.getElem_replicate];exact zK C A0
 intro e;refine JE h fun k a N=>?_;have :((aV 32 X).drop 16).getD (k -16) 0=0:=by grind
 have Z:=kW (n:=X) N
 grind
end Go.iW
namespace Go.aH
structure V where
 x:Int
 y:Int
 z:Int
deriving DecidableEq,Inhabited
def dot(a b:V):Int:=a.x*b.x+a.y*b.y+a.z*b.z
def bC(a b:V):V:=⟨a.y*b.z -a.z*b.y,a.z*b.x -a.x*b.z,a.x*b.y -a.y*b.x⟩
def sub(a b:V):V:=⟨a.x-b.x,a.y-b.y,a.z-b.z⟩
def add(a b:V):V:=⟨a.x+b.x,a.y+b.y,a.z+b.z⟩
def smul(c:Int)(a:V):V:=⟨c*a.x,c*a.y,c*a.z⟩
def V0:V:=⟨0,0,0⟩
def dL(n a b:V):Int:=dot n (bC a b)
theorem V.ext'{a b:V}(O:a.x=b.x)(Z:a.y=b.y)(B:a.z=b.z):a=b:=by cases a<;>simp_all
theorem sq_pos{a:Int}(h:a≠0):0<a*a:=by
 rcases Jb h with h|h
 . exact Je h h
 exact En h h
theorem sq_nonneg(a:Int):0<=a*a:=by
 by_cases h:a=0
 . grind
 exact Fv (sq_pos h)
theorem BO(a:V):0<=dot a a:=by
 have :=sq_nonneg a.x;have :=sq_nonneg a.y;have :=sq_nonneg a.z
 grind[dot]
theorem cM{a:V}(h:a≠V0):0<dot a a:=by
 have Z:=sq_nonneg a.y;have B:=sq_nonneg a.z
 rcases Decidable.em (a.x=0) with hx|hx
 . rcases Decidable.em (a.y=0) with hy|hy
   . rcases Decidable.em (a.z=0) with hz|hz
     . exact absurd (V.ext' hx hy hz) h
     have :=sq_pos hz;grind[dot]
   have :=sq_pos hy;grind[dot]
 have :=sq_pos hx;grind[dot]
theorem Rq{a:V}(h:dot a a<=0):a=V0:=
 Ey fun R=>absurd (cM R) A0
theorem sub_eq_zero{a b:V}(h:sub a b=V0):a=b:=by have O:a.x -b.x=0:=Al V.x h;have Z:a.y -b.y=0:=Al V.y h;have B:a.z -b.z=0:=Al V.z h;exact V.ext' A0 A0 A0
theorem bDg{a b:V}(h:a≠b):sub a b≠V0:=fun e=>h (sub_eq_zero e)
theorem fu{c a:Int}(R:0<c)(h:0<c*a):0<a:=by
 rcases Hy a 0 with h'|h'|h'
 . have :=Jf R h';omega
 all_goals grind
theorem oW{c a:Int}(R:0<c)(h:0<=c*a):0<=a:=by
 rcases Hy a 0 with h'|h'|h'
 . have :=Jf R h';omega
 all_goals omega
theorem fG{c a:Int}(R:0<c)(h:c*a=0):a=0:=by rcases Io.1 h with h|h<;>omega
theorem IN(n u v w t:V):dL u v w*dot n t=dL n v w*dot u t+dL n w u*dot v t+dL n u v*dot w t:=by
 simp only[dL,dot,bC]
 grind
theorem Pm{n u v w:V}(A:n≠V0)(B:dot n u=0)(J:dot n v=0)(L:dot n w=0):dL u v w=0:=by
 have h:=IN n u v w n;have e:∀a:V,dot a n=dot n a:=fun a=>by grind[dot]
 rw[e u,e v,e w,B,J,L] at h;have :=cM A;simp only[Fu,Int.add_zero] at h
 rcases Io.1 h with h|h<;>simp_all
theorem three{n u v w:V}(A:n≠V0)(B:dot n u=0)(J:dot n v=0)(L:dot n w=0):add (add (smul (dL n v w) u) (smul (dL n w u) v)) (smul (dL n u v) w)=V0:=by
 have h:=Pm A B J L;have C:dL u v w*n.x=dL n v w*u.x+dL n w u*v.x+dL n u v*w.x:=by grind[dL,dot,bC]
 have Q:dL u v w*n.y=dL n v w*u.y+dL n w u*v.y+dL n u v*w.y:=by simp only[dL,dot,bC];grind
 have s:dL u v w*n.z=dL n v w*u.z+dL n w u*v.z+dL n u v*w.z:=by simp only[dL,dot,bC];grind
 grind[add,smul,V0]
theorem para{n u v:V}(A:n≠V0)(B:dot n u=0)(J:dot n v=0)(h:dL n u v=0):smul (dot u u) v=smul (dot u v) u:=by
 have m:=cM A;have T:dot n n*(bC u v).x=dL n u v*n.x+dot n v*(n.z*u.y -n.y*u.z) -dot n u*(n.z*v.y -n.y*v.z):=by grind[dL,dot,bC]
 have o:dot n n*(bC u v).y=dL n u v*n.y+dot n v*(n.x*u.z -n.z*u.x) -dot n u*(n.x*v.z -n.z*v.x):=by grind[dL,dot,bC]
 have C:dot n n*(bC u v).z=dL n u v*n.z+dot n v*(n.y*u.x -n.x*u.y) -dot n u*(n.y*v.x -n.x*v.y):=by grind[dL,dot,bC]
 rw[B,J,h] at T o C;have I:=fG m (by rw[T];simp);have X:=fG m (by rw[o];simp);have c3:=fG m (by rw[C];simp)
 grind[bC,smul,dot]
structure UC (P:V->Prop):Prop where
 add:∀u v,P u->P v->P (add u v)
 smul:∀c u,0<c->P u->P (smul c u)
 zero:¬P V0
theorem smul_zero(u:V):smul 0 u=V0:=by simp[smul,V0]
theorem add_zero(u:V):add u V0=u:=by simp[add,V0]
theorem zero_add(u:V):add V0 u=u:=by simp[add,V0]
theorem UC.comb{P:V->Prop}(h:UC P){u v w:V}{a b c:Int}(B:P u)(J:P v)(L:P w)(I:0<=a)(X:0<=b)(R:0<=c)(s:aH.add (aH.add (aH.smul a u) (aH.smul b v)) (aH.smul c w)=V0):a=0/\b=0/\c=0:=by
 have A:∀{u v:V} {a b:Int},P u->P v->0<=a->0<=b->(a=0/\b=0)\/P (aH.add (aH.smul a u) (aH.smul b v)):=by
  intro u v a b B J I X;by_cases h1:a=0
  . by_cases Z:b=0
    . exact .inl ⟨h1,Z⟩
    right;subst h1;rw[smul_zero,zero_add];exact h.smul _ _ A0 J
  by_cases Z:b=0
  . right;subst Z;rw[smul_zero,add_zero];exact h.smul _ _ A0 B
  right;exact h.add _ _ (h.smul _ _ A0 B) (h.smul _ _ A0 J)
 rcases A B J I X with ⟨h1,Z⟩|h1
 . refine⟨h1,Z,?_⟩;by_cases d:c=0
   . exact d
   exfalso;subst h1 Z;rw[smul_zero,smul_zero,add_zero,zero_add] at s;exact h.zero (s▸h.smul _ _ A0 L)
 exfalso;by_cases d:c=0
 . subst d;rw[smul_zero,add_zero] at s;exact h.zero (s▸h1)
 exact h.zero (s▸h.add _ _ h1 (h.smul _ _ A0 L))
theorem Pe(f g h:V->Int)(N:∀u v,f (add u v)=f u+f v)(d:∀u v,g (add u v)=g u+g v)(X:∀u v,h (add u v)=h u+h v)
 (l:∀c u,f (smul c u)=c*f u) (b:∀c u,g (smul c u)=c*g u) (a:∀c u,h (smul c u)=c*h u):
 UC fun v=>0<f v\/(f v=0/\(0<g v\/(g v=0/\0<h v))) where
 add u v B hv:=by simp only[N,d,X];omega
 smul c u hc B:=by
  simp only[l,b,a]
  rcases B with B|⟨O,B|⟨Z,B⟩⟩
  . exact .inl (En hc B)
  . exact .inr ⟨by rw[O];simp,.inl (En hc B)⟩
  exact .inr ⟨by rw[O];simp,.inr ⟨by rw[Z];simp,En hc B⟩⟩
 zero:=by
  have z:∀(f:V->Int),(∀c u,f (smul c u)=c*f u)->f V0=0:=fun f N=>by have :=N 0 V0;rw[smul_zero] at this;omega
  rw[z f l,z g b,z h a];omega
section
def vec(p:Nat->V)(a b:Nat):V:=sub (p b) (p a)
def Sd(n:V)(p:Nat->V)(on:List Nat)(a b:Nat):Prop:=
 b∈on/\b≠a/\∀k∈on,0<=dL n (vec p a b) (vec p a k)/\
  (dL n (vec p a b) (vec p a k)=0->0<=dot (vec p a k) (vec p a b)/\dot (vec p a k) (vec p a b)<=dot (vec p a b) (vec p a b))
def Crn(p:Nat->V)(on:List Nat)(a:Nat):Prop:=∃P,UC P/\∀k∈on,k≠a->P (vec p a k)
structure Pl (n:V) (p:Nat->V) (on:List Nat):Prop where
 hn:n≠V0
 inj:∀a∈on,∀b∈on,p a=p b->a=b
 pl:∀a∈on,∀b∈on,dot n (vec p a b)=0
theorem Pl.ne{n:V}{p:Nat->V}{on:List Nat}(h:Pl n p on){a b:Nat}(I:a∈on)(X:b∈on)(j:b≠a):vec p a b≠V0:=
 bDg fun e=>j (h.inj b X a I e)
theorem CZ(n u:V):dL n u u=0:=by grind[dL,dot,bC]
theorem CY(n u v:V):dL n v u= -dL n u v:=by grind[dL,dot,bC]
theorem lN(u v:V):dot u v=dot v u:=by grind[dot]
theorem kx(n u v w:V):dL n u (add v w)=dL n u v+dL n u w:=by grind[dL,dot,bC,add]
theorem Wu(n u v:V)(c:Int):dL n u (smul c v)=c*dL n u v:=by grind[dL,dot,bC,smul]
theorem sF(u v w:V):dot u (add v w)=dot u v+dot u w:=by grind[dot,add]
theorem XE(u v:V)(c:Int):dot u (smul c v)=c*dot u v:=by grind[dot,smul]
theorem ux(n e:V):UC fun v=>0<dL n e v\/(dL n e v=0/\0<dot e v):=by
 have h:=Pe (dL n e) (dot e) (fun _=>0) (kx n e) (sF e) (fun _ _=>rfl) (fun c u=>Wu n e u c) (fun c u=>XE e u c) (fun c _=>by simp)
 grind
theorem Zk(n e:V):UC fun v=>0<dL n e v\/(dL n e v=0/\dot e v<0):=by
 have h:=Pe (dL n e) (fun v=> -dot e v) (fun _=>0) (kx n e) (fun u v=>by grind[sF]) (fun _ _=>rfl) (fun c u=>Wu n e u c) (fun c u=>by rw[XE,Kl]) (fun c _=>by simp)
 grind
theorem aDl:UC fun v=>0<v.x\/(v.x=0/\(0<v.y\/(v.y=0/\0<v.z))):=
 Pe V.x V.y V.z (fun _ _=>rfl) (fun _ _=>rfl) (fun _ _=>rfl) (fun _ _=>rfl) (fun _ _=>rfl) (fun _ _=>rfl)
theorem rD{c:Int}(R:c≠0){u v:V}(h:smul c u=smul c v):u=v:=by have O:c*u.x=c*v.x:=Al V.x h;have Z:c*u.y=c*v.y:=Al V.y h;have B:c*u.z=c*v.z:=Al V.z h;exact V.ext' (Jg R O) (Jg R Z) (Jg R B)
variable {n:V} {p:Nat->V} {on:List Nat}
theorem Pf(H:Pl n p on){P:V->Prop}(o:UC P){u v w:V}(B:dot n u=0)(J:dot n v=0)(L:dot n w=0)(d:P u)(pv:P v)(i:P w)
 (O:0<=dL n u v) (Z:0<=dL n v w):0<=dL n u w/\(0<dL n u v\/0<dL n v w->0<dL n u w):=by
 have h:=three H.hn B J L;have a:=CY n u w;by_cases b:0<dL n u w
 . omega
 obtain⟨I,X,c3⟩:=o.comb d pv i Z A0 O h;omega
theorem Sh(H:Pl n p on){P:V->Prop}(o:UC P){u v:V}(B:dot n u=0)(J:dot n v=0)(d:P u)(pv:P v)(h:dL n u v=0):0<dot u v:=by
 have O:=para H.hn B J h;have q:u≠V0:=fun e=>o.zero (e▸d);have :=cM q;by_cases Z:0<dot u v
 . omega
 have z:=o.comb (a:=dot u u) (b:= -dot u v) (c:=0) pv d d A0 A0 A0 (V.ext' (by grind[add,smul,V0,Int.neg_mul]) (by grind[add,smul,V0,Int.neg_mul]) (by grind[add,smul,V0,Int.neg_mul]));omega
theorem LR(n u v:V)(B:dot n u=0)(J:dot n v=0):dot n n*(dot u u*dot v v -dot u v*dot u v)=dL n u v*dL n u v:=by
 simp only[dL,dot,bC] at *
 grind
theorem aYx{n u v:V}(A:n≠V0)(B:dot n u=0)(J:dot n v=0)(h:dL n u v=0)(U:dot v v<=dot u u):dot u v<=dot u u:=by
 have O:=LR n u v B J;rw[h] at O;have Z:=fG (cM A) (by assumption);have a:=BO u;by_cases h4:dot u v<=dot u u
 . omega
 have M:dot u u*dot u v<dot u v*dot u v:=Eu A0 A0;have w:dot u u*dot v v<=dot u u*dot u v:=Dy A0 a;omega
theorem Sd.crn(H:Pl n p on){a b:Nat}(I:a∈on)(h:Sd n p on a b):Crn p on a:=by
 refine⟨_,ux n (vec p a b),fun k E u=>?_⟩;obtain⟨h1,Z⟩:=h.2.2 k E
 rcases Es h1 with h1|h1
 . omega
 obtain⟨h3,h4⟩:=Z h1.symm;rw[lN] at h3
 rcases Es h3 with h3|h3
 . omega
 exfalso;have e:=para H.hn (H.pl a I b h.1) (H.pl a I k E) h1.symm;rw[<-h3,smul_zero] at e;have s:=cM (H.ne I h.1 h.2.1);exact H.ne I E u (rD (c:=dot (vec p a b) (vec p a b)) A0 (by rw[e];simp[smul,V0]))
theorem BM(p:Nat->V)(a b k:Nat):vec p b k=sub (vec p a k) (vec p a b):=by grind[vec,sub]
theorem Wv(n u v w:V):dL n u (sub v w)=dL n u v -dL n u w:=by grind[dL,dot,bC,sub]
theorem aDu(u v w:V):dot u (sub v w)=dot u v -dot u w:=by grind[dot,sub]
theorem Sd.next(H:Pl n p on){a b:Nat}(I:a∈on)(h:Sd n p on a b):Crn p on b:=by
 refine⟨_,Zk n (vec p a b),fun k E c=>?_⟩;obtain⟨h1,Z⟩:=h.2.2 k E;rw[BM p a b k,Wv,aDu,CZ,lN _ (vec p a k)]
 rcases Es h1 with h1|h1
 . omega
 obtain⟨B,h4⟩:=Z h1.symm
 rcases Es h4 with h4|h4
 . omega
 exfalso;have e:=para H.hn (H.pl a I b h.1) (H.pl a I k E) h1.symm;rw[lN _ (vec p a k),h4] at e;have s:=cM (H.ne I h.1 h.2.1);have :=rD A0 e;refine c (H.inj k E b h.1 ?_);exact Za9
theorem Sd.uniq(H:Pl n p on){a b c:Nat}(I:a∈on)(h:Sd n p on a b)(M:Sd n p on a c):b=c:=by
 obtain⟨O,Z⟩:=h.2.2 c M.1;obtain⟨g,h4⟩:=M.2.2 b h.1;rw[CY] at g;have s:dL n (vec p a b) (vec p a c)=0:=by omega
 obtain⟨k1,k2⟩:=Z s;obtain⟨k3,k4⟩:=h4 (by grind[CY]);have e:=para H.hn (H.pl a I b h.1) (H.pl a I c M.1) s;have U:=LR n (vec p a b) (vec p a c) (H.pl a I b h.1) (H.pl a I c M.1);rw[s] at U;have U:=fG (cM H.hn) (by assumption);have i:=cM (H.ne I h.1 h.2.1);have d:=cM (H.ne I M.1 M.2.1);rw[lN] at k1 k2;generalize t:dot (vec p a b) (vec p a c)=m at *;generalize r:dot (vec p a b) (vec p a b)=B at *;generalize u:dot (vec p a c) (vec p a c)=C at *
 have T:m=B:=by
  have q1:B*m<=B*C:=Dy A0 A0;by_cases f:m=B
  . omega
  by_cases y:m=0
  . subst y;have :=En i d;omega
  have :m*m<B*m:=Eu A0 A0;omega
 rw[T] at e;have :=rD A0 e;refine(H.inj c M.1 b h.1 ?_).symm;exact Za9
theorem Sd.inj(H:Pl n p on){a b c:Nat}(I:a∈on)(X:b∈on)(h:Sd n p on a c)(M:Sd n p on b c):a=b:=by
 obtain⟨O,Z⟩:=h.2.2 b X;obtain⟨g,h4⟩:=M.2.2 a I
 have e:dL n (vec p b c) (vec p b a)= -dL n (vec p a c) (vec p a b):=by simp only[vec,dL,dot,bC,sub];grind
 have s:dL n (vec p a c) (vec p a b)=0:=by omega
 obtain⟨k1,k2⟩:=Z s;obtain⟨k3,k4⟩:=h4 A0;have U:=LR n (vec p a c) (vec p a b) (H.pl a I c h.1) (H.pl a I b X);rw[s] at U;have U:=fG (cM H.hn) (by assumption);have f:=para H.hn (H.pl a I c h.1) (H.pl a I b X) s;have i:=cM (H.ne I h.1 h.2.1)
 have o:dot (vec p b a) (vec p b c)=dot (vec p a b) (vec p a b) -dot (vec p a b) (vec p a c):=by grind[vec,dot,sub]
 rw[lN (vec p a c) (vec p a b)] at U f;generalize t:dot (vec p a b) (vec p a c)=m at *;generalize r:dot (vec p a b) (vec p a b)=B at *;generalize u:dot (vec p a c) (vec p a c)=C at *
 have q:m=0\/m=C:=by
  by_cases y:m=0
  . omega
  by_cases d:m=C
  . omega
  have q1:m*m<C*m:=Eu A0 A0;have q2:C*m<=C*B:=Dy A0 A0;omega
 rcases q with q|q
 . have :vec p a b=V0:=rD (c:=C) A0 (by simp_all[f,smul,V0]);exact(H.inj b X a I (sub_eq_zero this)).symm
 rw[q] at f;have :=rD (c:=C) A0 f;exfalso;refine M.2.1 (H.inj c h.1 b X ?_);exact Za9
end
section
variable {n:V} {p:Nat->V} {on:List Nat}
def yA(x:Int):Int:=if x<0 then -1 else if 0<x then 1 else 0
theorem Vr{x:Int}:yA x<0↔x<0:=by grind[yA]
theorem RG{x:Int}:yA x=0↔x=0:=by grind[yA]
theorem Vq(x y:Int):yA (x*y)=yA x*yA y:=by
 rcases Hy x 0 with h|h|h
 . rcases Hy y 0 with k|k|k
   . have :=Je h k;simp only[yA,h,k,if_true,if_neg (show ¬x*y<0 by omega),this];rfl
   . grind[yA]
   have :=Int.mul_neg_of_neg_of_pos h k;simp only[yA,h,this,k,if_true,if_neg (show ¬y<0 by omega)];rfl
 . grind[yA]
 rcases Hy y 0 with k|k|k
 . have :=Jf h k;simp only[yA,h,this,k,if_true,if_neg (show ¬x<0 by omega)];rfl
 . grind[yA]
 have :=En h k;simp only[yA,h,this,k,if_true,if_neg (show ¬x<0 by omega),if_neg (show ¬y<0 by omega),if_neg (show ¬x*y<0 by omega)];rfl
theorem PA{x:Int}(h:0<x):yA x=1:=by simp[yA,h,show ¬x<0 by omega]
def tL(n c:V):Int:=if n.x≠0 then yA c.x*yA n.x else if n.y≠0 then yA c.y*yA n.y else if n.z≠0 then yA c.z*yA n.z else 0
theorem Vw{a b:V}(A:n≠V0)(I:dot n a=0)(X:dot n b=0):tL n (bC a b)=yA (dL n a b):=by
 have d:=cM A;have T:dot n n*(bC a b).x=dL n a b*n.x+dot n b*(n.z*a.y -n.y*a.z) -dot n a*(n.z*b.y -n.y*b.z):=by grind[dL,dot,bC]
 have o:dot n n*(bC a b).y=dL n a b*n.y+dot n b*(n.x*a.z -n.z*a.x) -dot n a*(n.x*b.z -n.z*b.x):=by grind[dL,dot,bC]
 have C:dot n n*(bC a b).z=dL n a b*n.z+dot n b*(n.y*a.x -n.x*a.y) -dot n a*(n.y*b.x -n.x*b.y):=by grind[dL,dot,bC]
 have key:∀c m:Int,m≠0->dot n n*c=dL n a b*m+0*0 -0->yA c*yA m=yA (dL n a b):=by
  intro c m t e;have O:yA (dot n n*c*m)=yA (dL n a b*(m*m)):=by grind
  rw[Vq,Vq,Vq (dL n a b),PA d,PA (sq_pos t)] at O
  grind
 unfold tL;split
 . grind
 split
 . grind
 split
 . grind
 exact absurd (V.ext' (by grind[V0]) (by grind[V0]) (by grind[V0])) A
def better(n:V)(p:Nat->V)(a b k:Nat):Bool:=
 decide (tL n (bC (vec p a b) (vec p a k))<0)||(decide (tL n (bC (vec p a b) (vec p a k))=0)&&decide (dot (vec p a k) (vec p a k)>dot (vec p a b) (vec p a b)))
def iU(n:V)(p:Nat->V)(a:Nat)(G:Option Nat)(k:Nat):Option Nat:=
 if k=a then G else match G with
  |none=>some k
  |some b=>if better n p a b k then some k else some b
def Qg(n:V)(p:Nat->V)(on:List Nat)(a:Nat):Option Nat:=on.foldl (iU n p a) none
theorem uT(H:Pl n p on){a b k:Nat}(I:a∈on)(X:b∈on)(E:k∈on):
 better n p a b k=true↔dL n (vec p a b) (vec p a k)<0\/(dL n (vec p a b) (vec p a k)=0/\dot (vec p a b) (vec p a b)<dot (vec p a k) (vec p a k)):=by
 unfold better;rw[Vw H.hn (H.pl a I b X) (H.pl a I k E)];simp[Eb,Ak,Bs,Vr,RG]
theorem yp(H:Pl n p on){a:Nat}(I:a∈on)(R:Crn p on a):∀(l:List Nat) (done:List Nat) (G:Option Nat),(∀k∈l,k∈on)->(∀k∈done,k∈on)->
 (match G with|none=>∀k∈done,k=a|some b=>b∈on/\b≠a/\∀k∈done,k≠a->better n p a b k=false)->
 match l.foldl (iU n p a) G with|none=>∀k∈done++l,k=a|some b=>b∈on/\b≠a/\∀k∈done++l,k≠a->better n p a b k=false:=by
 obtain⟨P,o,y⟩:=R
 have refl:∀k∈on,better n p a k k=false:=fun k E=>by
  have :=uT H I E E;rw[CZ] at this
  cases X:better n p a k k with
  |false=>rfl
  |true=>have :=this.1 X;omega
 intro l
 induction l with
 |nil=>intro done G _ _ h;simpa using h
 |cons k l K=>
  intro done G U hd h;have E:k∈on:=U k A3;have :=K (done++[k]) (iU n p a G k) (fun x C=>U x (by simp[C])) (fun x C=>by simp only[Ar,Ca] at C;exact C.elim (hd x) fun e=>e▸E) ?_
  . simpa using this
  unfold iU;by_cases u:k=a
  . subst u;simp only[if_true]
    cases G with
    |none=>intro x C;simp only[Ar,Ca] at C;exact C.elim (h x) id
    |some b=>
     refine⟨h.1,h.2.1,fun x C S=>?_⟩;simp only[Ar,Ca] at C
     rcases C with C|rfl
     . exact h.2.2 x C S
     exact absurd rfl S
  simp only[u,Db]
  cases G with
  |none=>
   refine⟨E,u,fun x C S=>?_⟩;simp only[Ar,Ca] at C
   rcases C with C|rfl
   . exact absurd (h x C) S
   exact refl _ E
  |some b=>
   obtain⟨X,c,F⟩:=h;dsimp only;by_cases d:better n p a b k=true
   . rw[if_pos d];refine⟨E,u,fun x C S=>?_⟩;simp only[Ar,Ca] at C
     rcases C with C|rfl
     . have O:=F x C S;have N:=hd x C;have i1:=(uT H I X E).1 d
       have i2:¬(dL n (vec p a b) (vec p a x)<0\/(dL n (vec p a b) (vec p a x)=0/\dot (vec p a b) (vec p a b)<dot (vec p a x) (vec p a x))):=fun h=>by rw[(uT H I X N).2 h] at O;cases O
       cases f:better n p a k x with
       |false=>rfl
       |true=>
        have i3:=(uT H I E N).1 f;have a1:=CY n (vec p a b) (vec p a k);obtain⟨t1,t2⟩:=Pf H o (H.pl a I k E) (H.pl a I b X) (H.pl a I x N) (y k E u) (y b X c) (y x N S) A0 A0;by_cases s:dL n (vec p a k) (vec p a b)=0
        . by_cases w:dL n (vec p a b) (vec p a x)=0
          . omega
          omega
        omega
     exact refl _ E
   rw[if_neg d];refine⟨X,c,fun x C S=>?_⟩;simp only[Ar,Ca] at C
   rcases C with C|rfl
   . exact F x C S
   simpa using d
theorem YB(H:Pl n p on){a:Nat}(I:a∈on)(R:Crn p on a)(t:∃k∈on,k≠a):∃b,Qg n p on a=some b/\Sd n p on a b:=by
 have h:=yp H I R on [] none (fun _ h=>h) (fun k E=>by cases E) (fun k E=>by cases E);split at h
 . obtain⟨k,E,u⟩:=t;exact absurd (h k (by simpa using E)) u
 rename_i b c;refine⟨b,c,h.1,h.2.1,fun k E=>?_⟩;obtain⟨P,o,y⟩:=R;by_cases u:k=a
 . have :vec p k k=V0:=by simp[vec,sub,V0]
   have D:=BO (vec p k b)
   grind[dL,dot,bC,V0]
 have O:=h.2.2 k (by simpa using E) u
 have i2:¬(dL n (vec p a b) (vec p a k)<0\/(dL n (vec p a b) (vec p a k)=0/\dot (vec p a b) (vec p a b)<dot (vec p a k) (vec p a k))):=fun X=>by rw[(uT H I h.1 E).2 X] at O;cases O
 refine⟨by omega,fun s=>?_⟩;have q:=Sh H o (H.pl a I b h.1) (H.pl a I k E) (y b h.1 h.2.1) (y k E u) s;rw[lN];exact⟨by omega,aYx H.hn (H.pl a I b h.1) (H.pl a I k E) s A0⟩
def OD(n:V)(p:Nat->V)(on:List Nat)(a b:Nat):Bool:=on.all fun k=>!(decide (tL n (bC (vec p a b) (vec p a k))<0)||(decide (tL n (bC (vec p a b) (vec p a k))=0)&&(decide (dot (vec p a k) (vec p a b)<0)||decide (dot (vec p a k) (vec p a b)>dot (vec p a b) (vec p a b)))))
theorem Tn(H:Pl n p on){a b:Nat}(I:a∈on)(X:b∈on)(c:b≠a):OD n p on a b=true↔Sd n p on a b:=by
 unfold OD Sd;simp only[Bi];constructor
 . intro h;refine⟨X,c,fun k E=>?_⟩;have :=h k E;rw[Vw H.hn (H.pl a I b X) (H.pl a I k E)] at this
   grind[Bool.not_eq_true',Bool.or_eq_false_iff,Bool.and_eq_false_iff,decide_eq_false_iff_not,Vr,RG]
 intro h k E;rw[Vw H.hn (H.pl a I b X) (H.pl a I k E)]
 grind[Bool.not_eq_true',Bool.or_eq_false_iff,Bool.and_eq_false_iff,decide_eq_false_iff_not,Vr,RG]
def TZ(n:V)(p:Nat->V)(on:List Nat)(a:Nat):Option Nat:=on.find? fun k=>decide (k≠a)&&OD n p on a k
theorem aGt(H:Pl n p on){a b:Nat}(I:a∈on)(h:Sd n p on a b):TZ n p on a=some b:=by
 unfold TZ
 cases N:on.find? fun k=>decide (k≠a)&&OD n p on a k with
 |none=>have :=Hl.1 N b h.1;simp[h.2.1,(Tn H I h.1 h.2.1).2 h] at this
 |some c=>have O:=Jw N;have Z:=Jc N;simp only[Ak,Bs] at O;rw[Sd.uniq H I ((Tn H I Z O.1).1 O.2) h]
end
section
variable {n:V} {p:Nat->V} {on:List Nat}
def iter(f:Nat->Nat):Nat->Nat->Nat
 |0,s=>s
 |i+1,s=>f (iter f i s)
theorem Ta:∀(l on:List Nat),l.Nodup->(∀x∈l,x∈on)->l.length<=on.length
 |[],_,_,_=>Bh _
 |x::l,on,hn,h=>by
  rw[List.nodup_cons] at hn;have O:=Ta l (on.erase x) hn.2 fun y Q=>(List.mem_erase_of_ne fun e=>hn.1 (by grind)).2 (h y (by grind))
  grind
theorem bDw{A:Nat->Prop}{f:Nat->Nat}(on:List Nat)(n:∀a,A a->a∈on)(N:∀a,A a->A (f a))(F:∀a b,A a->A b->f a=f b->a=b){s:Nat}(M:A s):
 ∃m,0<m/\m<=on.length/\iter f m s=s/\(∀i,0<i->i<m->iter f i s≠s)/\∀i,A (iter f i s):=by
 have y:∀i,A (iter f i s):=fun i=>by
  induction i with
  |zero=>exact M
  |succ i K=>exact N _ K
 have back:∀i d,iter f i s=iter f (i+d) s->iter f d s=s:=fun i=>by
  induction i with
  |zero=>intro d h;rw[Ds] at h;exact h.symm
  |succ i K=>intro d h;refine K d (F _ _ (y _) (y _) ?_);rw[show i+1+d=(i+d)+1 by omega] at h;exact h
 have g:∃m,0<m/\m<=on.length/\iter f m s=s:=by
  refine Co fun R=>?_
  have hd:((List.range (on.length+1)).map fun i=>iter f i s).Nodup:=by rw[List.Nodup,Ev];refine Gf ?_ Hw;intro i j F Y H e;simp only[Bb] at F Y;exact R ⟨j -i,by omega,by omega,back i (j -i) (by rw[show i+(j -i)=j by omega];exact e)⟩
  have :=Ta _ on hd (fun x C=>by
   simp only[Be] at C;obtain⟨i,_,rfl⟩:=C
   exact n _ (y i))
  simp at this;omega
 have c:∀(k m:Nat),m<=k->0<m->m<=on.length->iter f m s=s->∃m,0<m/\m<=on.length/\iter f m s=s/\∀i,0<i->i<m->iter f i s≠s:=by
  intro k
  induction k with
  |zero=>omega
  |succ k K=>
   intro m O Z B h4;by_cases R:∃i,0<i/\i<m/\iter f i s=s
   . obtain⟨i,i1,i2,i3⟩:=R;exact K i A0 i1 A0 i3
   exact⟨m,Z,B,h4,fun i i1 i2 e=>R ⟨i,i1,i2,e⟩⟩
 obtain⟨m,O,Z,B⟩:=g;obtain⟨m,O,Z,B,h4⟩:=c m m (Ad _) O Z B;exact⟨m,O,Z,B,h4,y⟩
structure Way (n:V) (p:Nat->V) (on:List Nat) (s m:Nat) (f:Nat->Nat):Prop where
 H:Pl n p on
 hs:s∈on
 pos:0<m
 le:m<=on.length
 back:iter f m s=s
 first:∀i,0<i->i<m->iter f i s≠s
 side:∀i,iter f i s∈on/\Sd n p on (iter f i s) (iter f (i+1) s)
def tO(n:V)(p:Nat->V)(on:List Nat)(a:Nat):Nat:=(Qg n p on a).getD 0
theorem way(H:Pl n p on){s:Nat}(M:s∈on)(R:Crn p on s)(t:∀a∈on,∃k∈on,k≠a):∃m,Way n p on s m (tO n p on):=by
 have w:∀a,a∈on/\Crn p on a->Sd n p on a (tO n p on a):=fun a ⟨I,R⟩=>by obtain⟨b,O,Z⟩:=YB H I R (t a I);simp_all[tO,O]
 obtain⟨m,O,Z,B,h4,c⟩:=bDw (A:=fun a=>a∈on/\Crn p on a) (f:=tO n p on) on (fun a h=>h.1) (fun a h=>⟨(w a h).1,(w a h).next H h.1⟩)
  (fun a b I X e=>Sd.inj H I.1 X.1 (w a I) (by grind)) ⟨M,R⟩
 exact⟨m,H,M,O,Z,B,h4,fun i=>⟨(c i).1,w _ (c i)⟩⟩
theorem Way.cover{s m:Nat}{f:Nat->Nat}(W:Way n p on s m f){a b:Nat}(I:a∈on)(h:Sd n p on a b):∃i,i<m/\iter f i s=a:=by
 refine Co fun R=>?_
 have Q:∀i,iter f i s≠a:=by
  have :∀i,i<m->iter f i s≠a:=fun i F e=>R ⟨i,F,e⟩
  have v:∀i,∃j,j<m/\iter f i s=iter f j s:=fun i=>by
   induction i with
   |zero=>exact⟨0,W.pos,rfl⟩
   |succ i K=>
    obtain⟨j,Y,e⟩:=K;by_cases E:j+1<m
    . exact⟨j+1,E,by simp only[iter];rw[e]⟩
    refine⟨0,W.pos,?_⟩;have :j+1=m:=A0;simp only[iter];rw[e];have Z:=W.back;rw[<-this] at Z;exact Z
  intro i e;obtain⟨j,Y,e2⟩:=v i;exact this j Y (e2.symm.trans e)
 obtain⟨P,o,N⟩:=h.crn W.H I;have l:∀i,P (vec p a (iter f i s)):=fun i=>N _ (W.side i).1 (Q i);have d:∀i,dot n (vec p a (iter f i s))=0:=fun i=>W.H.pl a I _ (W.side i).1
 have left:∀i,0<dL n (vec p a (iter f i s)) (vec p a (iter f (i+1) s)):=by
  intro i;obtain⟨M,w⟩:=W.side i;generalize D:iter f i s=x at *;generalize g:iter f (i+1) s=y at *;have e:dL n (vec p x y) (vec p x a)=dL n (vec p a x) (vec p a y):=by simp only[vec,dL,dot,bC,sub];grind
  obtain⟨h1,Z⟩:=w.2.2 a I;rw[e] at h1 Z;have S:x≠a:=by rw[<-D];exact Q i
  have z:y≠a:=by rw[<-g];exact Q (i+1)
  rcases Es h1 with h1|h1
  . exact h1
  exfalso;obtain⟨X,h4⟩:=Z h1.symm;have L:P (vec p a x):=N x M S;have J:P (vec p a y):=N y w.1 z;have hd:=Sh W.H o (W.H.pl a I x M) (W.H.pl a I y w.1) L J h1.symm;have T:=para W.H.hn (W.H.pl a I x M) (W.H.pl a I y w.1) h1.symm;have q:=cM (W.H.ne I M S);have e5:dot (vec p x a) (vec p x y)=dot (vec p a x) (vec p a x) -dot (vec p a x) (vec p a y):=by simp only[vec,dot,sub];grind
  have t:dot (vec p x y) (vec p x y)=dot (vec p a x) (vec p a x) -2*dot (vec p a x) (vec p a y)+dot (vec p a y) (vec p a y):=by simp only[vec,dot,sub];grind
  have U:=LR n _ _ (W.H.pl a I x M) (W.H.pl a I y w.1);rw[<-h1] at U;have U:=fG (cM W.H.hn) (by rw[U];simp);rw[e5] at X h4;generalize hA:dot (vec p a x) (vec p a x)=A at *;generalize r:dot (vec p a x) (vec p a y)=B at *;generalize u:dot (vec p a y) (vec p a y)=C at *
  have :B=A:=by
   by_cases G:B=A
   . exact G
   have q1:B*B<A*B:=Eu A0 hd;have q2:A*B<=A*C:=Dy A0 A0;omega
  rw[this] at T;have O:=rD (c:=A) A0 T;refine w.2.1 (W.H.inj y w.1 x M ?_);simp only[vec,sub,V.mk.injEq] at O;exact V.ext' A0 A0 A0
 have k:∀i,0<dL n (vec p a s) (vec p a (iter f (i+1) s)):=by
  intro i
  induction i with
  |zero=>exact left 0
  |succ i K=>exact(Pf W.H o (d 0) (d (i+1)) (d (i+2)) (l 0) (l (i+1)) (l (i+2)) (Fv K) (Fv (left (i+1)))).2 (.inl K)
 have :=k (m -1);rw[show m -1+1=m from Nat.succ_pred_eq_of_pos W.pos,W.back,CZ] at this;omega
end
section
def iF(p:Nat->V)(N:Nat)(n:V)(d:Int):List Nat:=(List.range N).filter fun k=>decide (dot n (p k)=d)
theorem cJ{p:Nat->V}{N:Nat}{n:V}{d:Int}{k:Nat}:k∈iF p N n d↔k<N/\dot n (p k)=d:=by simp[iF]
structure Fct (p:Nat->V) (N:Nat) (n:V) (d:Int):Prop where
 hn:n≠V0
 le:∀k,k<N->dot n (p k)<=d
 lt:∃k,k<N/\dot n (p k)<d
 jw:∃a∈iF p N n d,∃b∈iF p N n d,∃c∈iF p N n d,dL n (vec p a b) (vec p a c)≠0
def jC(a b:V):Prop:=a.x<b.x\/(a.x=b.x/\(a.y<b.y\/(a.y=b.y/\a.z<b.z)))
def MN(p:Nat->V)(N:Nat):Prop:=∀i j,i<j->j<N->jC (p i) (p j)
variable {p:Nat->V} {N:Nat} {n:V} {d:Int}
theorem MN.inj(A:MN p N){i j:Nat}(F:i<N)(Y:j<N)(h:p i=p j):i=j:=by
 rcases Ji i j with h1|h1|h1
 . have :=A i j h1 Y;simp_all[h,jC,this]
 . omega
 have :=A j i h1 F;simp_all[h,jC,this]
theorem lD(n:V)(p:Nat->V)(a b:Nat):dot n (vec p a b)=dot n (p b) -dot n (p a):=by grind[dot,vec,sub]
theorem Fct.pl(A:MN p N)(F:Fct p N n d):Pl n p (iF p N n d) where
 hn:=F.hn
 inj a ha b hb h:=A.inj (cJ.1 ha).1 (cJ.1 hb).1 h
 pl a ha b hb:=by rw[lD,(cJ.1 ha).2,(cJ.1 hb).2];omega
theorem Fct.more(F:Fct p N n d)(a:Nat):∃k∈iF p N n d,k≠a:=by obtain⟨x,C,y,Q,z,s,h⟩:=F.jw;refine Co fun R=>?_;have e:∀k∈iF p N n d,k=a:=fun k E=>Co fun h=>R ⟨k,E,h⟩;rw[e x C,e y Q,e z s,CZ] at h;omega
theorem Fct.head(F:Fct p N n d):∃s r,iF p N n d=s::r:=by
 obtain⟨k,E,_⟩:=F.more 0
 cases h:iF p N n d with
 |nil=>grind
 |cons s r=>simp
theorem Qm(p:Nat->V)(N:Nat)(n:V)(d:Int):(iF p N n d).Pairwise (· < ·):=List.Pairwise.filter _ Hw
theorem zb(A:MN p N){s:Nat}{r:List Nat}(h:iF p N n d=s::r):Crn p (iF p N n d) s:=by
 refine⟨_,aDl,fun k hk a=>?_⟩;have M:=Qm p N n d;have G:=(cJ.1 hk).1;rw[h] at hk M;simp only[Ba] at hk
 rcases hk with hk|hk
 . omega
 have O:=(Cj.1 M).1 k hk;have :=A s k O G;unfold jC at this
 grind[vec,sub]
theorem Fct.way(A:MN p N)(F:Fct p N n d){s:Nat}{r:List Nat}(h:iF p N n d=s::r):∃m,Way n p (iF p N n d) s m (tO n p (iF p N n d)):=
 aH.way (F.pl A) (by grind) (zb A h) fun a _=>F.more a
theorem Way.aLu(F:Fct p N n d){s m:Nat}{f:Nat->Nat}(W:Way n p (iF p N n d) s m f)(i:Nat):
 0<dL n (vec p (iter f i s) (iter f (i+1) s)) (vec p (iter f i s) (iter f (i+2) s)):=by
 obtain⟨C,D⟩:=W.side i;obtain⟨Q,t⟩:=W.side (i+1);generalize iter f i s=x at *;generalize iter f (i+1) s=y at *;rw[show i+1+1=i+2 from rfl] at t;generalize iter f (i+2) s=z at *;obtain⟨h1,Z⟩:=D.2.2 z t.1
 rcases Es h1 with h1|h1
 . exact h1
 exfalso;obtain⟨B,h4⟩:=Z h1.symm;have K:=para W.H.hn (W.H.pl x C y D.1) (W.H.pl x C z t.1) h1.symm;have P:=cM (W.H.ne C D.1 D.2.1);rw[lN (vec p x z)] at B h4
 have M:dot (vec p x y) (vec p x z)<dot (vec p x y) (vec p x y):=by
  rcases Es h4 with h4|h4
  . exact h4
  exfalso;rw[h4] at K;have O:=rD (c:=dot (vec p x y) (vec p x y)) A0 K;refine t.2.1 (W.H.inj z t.1 y D.1 ?_);simp only[vec,sub,V.mk.injEq] at O;exact V.ext' A0 A0 A0
 have g:∀k∈iF p N n d,dL n (vec p x y) (vec p x k)=0:=by
  intro k E;have g1:=(D.2.2 k E).1;have e:=(t.2.2 k E).1
  have T:smul (dot (vec p x y) (vec p x y)) (vec p y z)=smul (dot (vec p x y) (vec p x z) -dot (vec p x y) (vec p x y)) (vec p x y):=by
   rw[BM p x y z]
   grind[smul,sub,Int.mul_sub,Int.sub_mul]
  have o:dot (vec p x y) (vec p x y)*dL n (vec p y z) (vec p y k)=(dot (vec p x y) (vec p x z) -dot (vec p x y) (vec p x y))*dL n (vec p x y) (vec p x k):=by
   have l:∀(c:Int) (u v:V),dL n (smul c u) v=c*dL n u v:=fun c u v=>by simp only[dL,dot,bC,smul];grind
   rw[<-l,T,l,BM p x y k,Wv,CZ];simp
  have g3:0<=(dot (vec p x y) (vec p x z) -dot (vec p x y) (vec p x y))*dL n (vec p x y) (vec p x k):=by rw[<-o];exact Fk A0 e
  rcases Es g1 with g1|g1
  . have :=Int.mul_neg_of_neg_of_pos (a:=dot (vec p x y) (vec p x z) -dot (vec p x y) (vec p x y)) A0 g1;omega
  exact g1.symm
 obtain⟨a,I,b,X,c,R,h⟩:=F.jw;refine h ?_;have J:=g a I;have G:=g b X;have j:=g c R;rw[BM p x a b,BM p x a c];have Y:=W.H.ne C D.1 D.2.1;have pa:=para W.H.hn (W.H.pl x C y D.1) (W.H.pl x C a I) J;have S:=para W.H.hn (W.H.pl x C y D.1) (W.H.pl x C b X) G;have A:=para W.H.hn (W.H.pl x C y D.1) (W.H.pl x C c R) j
 have q:∀k l:Nat,smul (dot (vec p x y) (vec p x y)) (vec p x k)=smul (dot (vec p x y) (vec p x k)) (vec p x y)->dL n (vec p x y) (vec p x l)=0->dL n (vec p x k) (vec p x l)=0:=by
  intro k l E U;have L:∀(c:Int) (u v:V),dL n (smul c u) v=c*dL n u v:=fun c u v=>by simp only[dL,dot,bC,smul];grind
  refine fG P ?_;rw[<-L,E,L,U,Fu]
 have r:∀u v w:V,dL n (sub u v) (sub w v)=dL n u w -dL n u v -dL n v w:=fun u v w=>by simp only[dL,dot,bC,sub];grind
 grind
end
section
def fY(v:V):Nat:=Int.gcd v.x (Int.gcd v.y v.z)
def iC(v:V):V:=⟨v.x / fY v,v.y / fY v,v.z / fY v⟩
theorem FM(v:V):smul (fY v) (iC v)=v:=by have O:((fY v:Nat):Int)∣v.x:=Ei v.x (Int.gcd v.y v.z);have G:((fY v:Nat):Int)∣((Int.gcd v.y v.z:Nat):Int):=Dq v.x (Int.gcd v.y v.z);have Z:((fY v:Nat):Int)∣v.y:=Gu G (Ei v.y v.z);have B:((fY v:Nat):Int)∣v.z:=Gu G (Dq v.y v.z);exact V.ext' (Km O) (Km Z) (Km B)
theorem tA{v:V}(h:v≠V0):0<fY v:=by
 rcases Fy (fY v) with h1|h1
 . have :=FM v;simp_all[h1,this,smul,V0]
 omega
theorem qh{v:V}(h:v≠V0):iC v≠V0:=fun e=>by have :=FM v;simp_all[e,this,smul,V0]
theorem DB(v w:V):(fY v:Int)*dot (iC v) w=dot v w:=by
 have h:=FM v;have :dot (smul (fY v) (iC v)) w=(fY v:Int)*dot (iC v) w:=by grind[dot,smul]
 grind
theorem aDr(v u w:V):(fY v:Int)*dL (iC v) u w=dL v u w:=DB v _
structure oR (p:Nat->V) (N:Nat) (n:V) (d:Int):Prop where
 le:∀k,k<N->dot n (p k)<=d
 lt:∃k,k<N/\dot n (p k)<d
 jw:∃a b c,a<N/\b<N/\c<N/\bC (vec p a b) (vec p a c)≠V0/\n=iC (bC (vec p a b) (vec p a c))/\d=dot n (p a)
variable {p:Nat->V} {N:Nat} {n:V} {d:Int}
theorem oR.RZ(F:oR p N n d):Fct p N n d:=by
 obtain⟨a,b,c,I,X,R,L,A,hd⟩:=F.jw;have e:=tA L
 have on:∀k,k<N->dot (bC (vec p a b) (vec p a c)) (vec p a k)=0->k∈iF p N n d:=by
  intro k E h;rw[cJ];rw[<-DB,<-A] at h;have Z:=fG A0 h
  grind[lD]
 refine⟨by rw[A];exact qh L,F.le,F.lt,a,on a I (by simp[dot,vec,sub]),b,on b X ?_,c,on c R ?_,?_⟩
 . grind[dot,bC]
 . grind[dot,bC]
 intro h;have Z:=aDr (bC (vec p a b) (vec p a c)) (vec p a b) (vec p a c);exact absurd (Rq (a:=bC (vec p a b) (vec p a c)) (by grind[dL])) L
theorem oR.uniq(F:oR p N n d){d':Int}(v:oR p N n d'):d=d':=by obtain⟨a,_,_,I,_,_,_,_,e⟩:=F.jw;obtain⟨b,_,_,X,_,_,_,_,o⟩:=v.jw;have :=F.le b X;have :=v.le a I;omega
theorem QS(α j:Nat->Int):∀(l:List Nat),l≠[]->(∀k∈l,0<α k)->∃q∈l,∀k∈l,j q*α k<=j k*α q
 |[],h,_=>absurd rfl h
 |[x],_,_=>⟨x,by simp,by simp⟩
 |x::y::l,_,h=>by
  obtain⟨q,D,t⟩:=QS α j (y::l) A3 fun k hk=>h k (by grind)
  by_cases C:j q*α x<=j x*α q
  . grind
  refine⟨x,Ay,fun k hk=>?_⟩
  rcases Ba.1 hk with rfl|hk
  . omega
  have O:=t k hk;have b:=h q (Ax _ D);have ax:=h x Ay;have c:=h k (Ax _ hk);refine Int.le_of_mul_le_mul_left (a:=α q) ?_ b;have T:α k*(j x*α q)<=α k*(j q*α x):=Dy A0 A0;have o:α x*(j q*α k)<=α x*(j k*α q):=Dy O A0
  grind
theorem oR.adj(F:oR p N n d)(A:MN p N){a b:Nat}(I:a∈iF p N n d)(h:Sd n p (iF p N n d) a b):
 ∃f d',oR p N f d'/\a∈iF p N f d'/\b∈iF p N f d'/\Sd f p (iF p N f d') b a/\∃q∈iF p N f d',q∉iF p N n d:=by
 have H:=F.RZ.pl A;have X:=h.1;have i:=cM (H.ne I X h.2.1);have aj:=cJ.1 I;have ag:=cJ.1 X
 let α:Nat->Int:=fun k=> -dot n (vec p a k)
 let j:Nat->Int:=fun k=>dL n (vec p a b) (vec p a k)
 have ae:∀k,k<N->0<=α k:=fun k E=>by have :=F.le k E;show 0<=-dot n (vec p a k);rw[lD];omega
 have a7:∀k,k<N->α k=0->k∈iF p N n d:=fun k E e=>by rw[cJ];refine⟨E,?_⟩;have : -dot n (vec p a k)=0:=e;rw[lD] at this;omega
 obtain⟨k0,aE,b3⟩:=F.lt
 obtain⟨q,D,aq⟩:=QS α j ((List.range N).filter fun k=>decide (0<α k)) (by
  intro e
  have :k0∈(List.range N).filter fun k=>decide (0<α k):=by simp only[Fs,Bb,Bs];refine⟨aE,?_⟩;show 0< -dot n (vec p a k0);rw[lD];omega
  rw[e] at this;cases this) (fun k E=>by simp only[Fs,Bs] at E;exact E.2)
 simp only[Fs,Bb,Bs] at D aq;obtain⟨af,a6⟩:=D;have cU:dot n (vec p a b)=0:=H.pl a I b X
 have key:∀k,dot n n*dot (bC (vec p a b) (vec p a q)) (vec p a k)=j k*α q -j q*α k:=fun k=>by
  have :=IN n (vec p a b) (vec p a q) (vec p a k) n;rw[lN (vec p a b) n,lN (vec p a q) n,lN (vec p a k) n,cU] at this;have o:dL (vec p a b) (vec p a q) (vec p a k)=dot (bC (vec p a b) (vec p a q)) (vec p a k):=by simp only[dL,dot,bC];grind
  have e3:=CY n (vec p a b) (vec p a k);rw[o] at this;show _=dL n (vec p a b) (vec p a k)*(-dot n (vec p a q)) -dL n (vec p a b) (vec p a q)*(-dot n (vec p a k));rw[e3] at this
  grind
 have C:=cM F.RZ.hn
 have ad:∀k,k<N->0<=dot (bC (vec p a b) (vec p a q)) (vec p a k):=fun k E=>by
  refine oW C ?_;rw[key];by_cases s:0<α k
  . have :=aq k ⟨E,s⟩;omega
  have s:α k=0:=by have :=ae k E;omega
  rw[s,Fu,Int.sub_zero];exact Fk (h.2.2 k (a7 k E s)).1 A0
 have ak:bC (vec p a b) (vec p a q)≠V0:=by
  intro e;have O:dot (bC n (vec p a b)) (bC n (vec p a b))=dot n n*dot (vec p a b) (vec p a b) -dot n (vec p a b)*dot n (vec p a b):=by simp only[dot,bC];grind
  have Z:dot (bC n (vec p a b)) (bC (vec p a b) (vec p a q))=dot n (vec p a b)*dot (vec p a b) (vec p a q) -dot n (vec p a q)*dot (vec p a b) (vec p a b):=by simp only[dot,bC];grind
  rw[e,cU] at Z;have B:dot (bC n (vec p a b)) V0=0:=by simp[dot,V0]
  have h4:0<α q*dot (vec p a b) (vec p a b):=En a6 i;have M:α q= -dot n (vec p a q):=rfl;rw[M,Hu] at h4;omega
 have an:bC (vec p a q) (vec p a b)=smul (-1) (bC (vec p a b) (vec p a q)):=by simp only[bC,smul,V.mk.injEq];grind
 have ar:bC (vec p a q) (vec p a b)≠V0:=fun e=>ak (by
  rw[an] at e;simp only[smul,V0,V.mk.injEq] at e
  exact V.ext' (by simp only[V0];omega) (by simp only[V0];omega) (by simp only[V0];omega))
 have hg:=tA ar;generalize LL:iC (bC (vec p a q) (vec p a b))=f
 have P:∀v:V,(fY (bC (vec p a q) (vec p a b)):Int)*dot f v= -dot (bC (vec p a b) (vec p a q)) v:=fun v=>by rw[<-LL,DB,an];simp only[dot,smul];grind
 have on:∀k,k<N->(k∈iF p N f (dot f (p a))↔dot (bC (vec p a b) (vec p a q)) (vec p a k)=0):=fun k E=>by
  rw[cJ];have :=P (vec p a k);rw[lD f] at this;constructor
  . rintro⟨_,e⟩;rw[e,Int.sub_self,Fu] at this;omega
  intro e;rw[e] at this;have :=fG A0 (show(fY (bC (vec p a q) (vec p a b)):Int)*(dot f (p k) -dot f (p a))=0 by omega);exact⟨E,by omega⟩
 have Ra:∀k,k<N->dot f (p k)<=dot f (p a):=fun k E=>by have O:=P (vec p a k);have Z:=ad k E;rw[lD f] at O;have B:=oW (c:=(fY (bC (vec p a q) (vec p a b)):Int)) (a:= -(dot f (p k) -dot f (p a))) A0 (by rw[Kl];omega);omega
 have W:a∈iF p N f (dot f (p a)):=cJ.2 ⟨aj.1,rfl⟩;have GC:b∈iF p N f (dot f (p a)):=(on b ag.1).2 (by simp only[dot,bC];grind);have t:q∈iF p N f (dot f (p a)):=(on q af).2 (by simp only[dot,bC];grind);refine⟨f,dot f (p a),⟨Ra,?_,a,q,b,aj.1,af,ag.1,ar,LL.symm,rfl⟩,W,GC,⟨W,fun e=>h.2.1 e.symm,fun k E=>?_⟩,q,t,fun az=>?_⟩
 ·
  refine Co fun R=>?_
  have all:∀k∈iF p N n d,dL n (vec p a b) (vec p a k)=0:=fun k E=>by
   have G:=cJ.1 E
   have O:dot f (p k)=dot f (p a):=by
    have :=Ra k G.1
    rcases Es this with h|h
    . exact absurd ⟨k,G.1,h⟩ R
    exact h
   have Z:=key k;rw[(on k G.1).1 (cJ.2 ⟨G.1,O⟩)] at Z;have B:α k=0:=(by show -dot n (vec p a k)=0;rw[H.pl a I k E];rfl);rw[B,Fu,Fu,Int.sub_zero] at Z;have h4:α q*j k=0:=(by rw[Iw];exact Z.symm);exact fG a6 h4
  obtain⟨x,hx,y,Q,z,s,aK⟩:=F.RZ.jw;refine aK ?_;have L:∀(c:Int) (u v:V),dL n (smul c u) v=c*dL n u v:=fun c u v=>by simp only[dL,dot,bC,smul];grind
  have qq:∀k l:Nat,k∈iF p N n d->l∈iF p N n d->dL n (vec p a k) (vec p a l)=0:=by intro k l E U;have pk:=para H.hn (H.pl a I b X) (H.pl a I k E) (all k E);refine fG i ?_;rw[<-L,pk,L,all l U,Fu]
  have r:∀u v w:V,dL n (sub u v) (sub w v)=dL n u w -dL n u v -dL n v w:=fun u v w=>by simp only[dL,dot,bC,sub];grind
  rw[BM p a x y,BM p a x z,r,qq y z Q s,qq y x Q hx,qq x z hx s];rfl
 ·
  have G:=cJ.1 E;have aA:=(on k G.1).1 E
  have ab:dL (vec p a b) (vec p a q) (vec p a k)=0:=by have o:dL (vec p a b) (vec p a q) (vec p a k)=dot (bC (vec p a b) (vec p a q)) (vec p a k):=Zbe;rw[o,aA]
  have aO:dot n (vec p a k)<=0:=by have :=ae k G.1;show dot n (vec p a k)<=0;have M:α k= -dot n (vec p a k):=rfl;omega
  have K:dot n (vec p a q)<0:=by have M:α q= -dot n (vec p a q):=rfl;omega
  have T:dL f (vec p b a) (vec p b k)= -dL f (vec p a b) (vec p a k):=by simp only[vec,dL,dot,bC,sub];grind
  have o:(fY (bC (vec p a q) (vec p a b)):Int)*dL f (vec p b a) (vec p b k)=dot (bC (vec p a b) (vec p a q)) (bC (vec p a b) (vec p a k)):=by rw[T,Kl];have :=P (bC (vec p a b) (vec p a k));simp only[dL];omega
  generalize he:vec p a b=e at *;generalize vec p a q=u at *;generalize J:vec p a k=v at *
  have c1:dot n u*(bC e v).x=dot n v*(bC e u).x:=by have :dot n u*(bC e v).x=dot n v*(bC e u).x -n.x*dL e u v -(bC v u).x*dot n e:=Zbe;rw[ab,cU] at this;omega
  have c2:dot n u*(bC e v).y=dot n v*(bC e u).y:=by have :dot n u*(bC e v).y=dot n v*(bC e u).y -n.y*dL e u v -(bC v u).y*dot n e:=Zbe;rw[ab,cU] at this;omega
  have c3:dot n u*(bC e v).z=dot n v*(bC e u).z:=by have :dot n u*(bC e v).z=dot n v*(bC e u).z -n.z*dL e u v -(bC v u).z*dot n e:=Zbe;rw[ab,cU] at this;omega
  have aF:=cM ak
  have S:dot n u*dot (bC e u) (bC e v)=dot n v*dot (bC e u) (bC e u):=by
   have :dot n u*dot (bC e u) (bC e v)=(bC e u).x*(dot n u*(bC e v).x)+(bC e u).y*(dot n u*(bC e v).y)+(bC e u).z*(dot n u*(bC e v).z):=by simp only[dot];grind
   rw[this,c1,c2,c3];simp only[dot];grind
  have Y:0<=dot (bC e u) (bC e v):=by refine oW (c:= -dot n u) A0 ?_;rw[Hu,S,<-Hu];exact Fk A0 A0
  refine⟨oW (c:=(fY (bC u e):Int)) A0 (by rw[o];exact Y),fun s=>?_⟩;rw[s,Fu] at o;rw[<-o,Fu] at S
  have aN:dot n v=0:=by have :=fG (c:=dot (bC e u) (bC e u)) (a:=dot n v) aF (by rw[Iw];exact S.symm);exact this
  have m:k∈iF p N n d:=a7 k G.1 (by show -dot n (vec p a k)=0;rw[J];omega);rw[aN,Js] at c1 c2 c3
  have ay:dL n e v=0:=by
   have z:∀c:Int,dot n u*c=0->c=0:=fun c R=>by rcases Io.1 R with h|h<;>omega
   simp only[dL,dot];rw[z _ c1,z _ c2,z _ c3];simp
  have g:=(h.2.2 k m).2;rw[J,he] at g;have g:=g ay;have b1:dot (vec p b k) (vec p b a)=dot (vec p a b) (vec p a b) -dot (vec p a k) (vec p a b):=by simp only[vec,dot,sub];grind
  have b2:dot (vec p b a) (vec p b a)=dot (vec p a b) (vec p a b):=by simp only[vec,dot,sub];grind
  rw[b1,b2,J,he];omega
 have :=cJ.1 az;have M:α q= -dot n (vec p a q):=rfl;rw[lD] at M;omega
theorem JM{n f:V}{d d':Int}(l:f≠V0){a b c q:Nat}(I:a∈iF p N n d)(X:b∈iF p N n d)(R:c∈iF p N n d)(h:dL n (vec p a b) (vec p a c)≠0)
 (W:a∈iF p N f d') (r:b∈iF p N f d') (e:c∈iF p N f d') (D:q∈iF p N f d'):q∈iF p N n d:=by
 have o:∀{n:V} {d:Int} {x y:Nat},x∈iF p N n d->y∈iF p N n d->dot n (vec p x y)=0:=fun {n d x y} hx hy=>by rw[lD,(cJ.1 hx).2,(cJ.1 hy).2];omega
 have s:=Pm l (o W r) (o W e) (o W D);have :=IN n (vec p a b) (vec p a c) (vec p a q) n;rw[s,lN (vec p a b) n,lN (vec p a c) n,lN (vec p a q) n,o I X,o I R] at this;have Z:dL n (vec p a b) (vec p a c)*dot n (vec p a q)=0:=by omega
 rcases Io.1 Z with h3|h3
 . omega
 rw[lD] at h3;exact cJ.2 ⟨(cJ.1 D).1,by have :=(cJ.1 I).2;omega⟩
theorem oR.four(F:oR p N n d)(A:MN p N):∃n1 z n2 x J d3,oR p N n1 z/\oR p N n2 x/\oR p N J d3/\n1≠n/\n2≠n/\J≠n/\n1≠n2/\n1≠J/\n2≠J:=by
 obtain⟨s,r,j⟩:=F.RZ.head;obtain⟨m,W⟩:=F.RZ.way A j;obtain⟨t,s0⟩:=W.side 0;obtain⟨o1,s1⟩:=W.side 1;obtain⟨o2,s2⟩:=W.side 2;obtain⟨b,_⟩:=W.side 3;obtain⟨n1,z,h,a1,b1,_,q1,c,g⟩:=F.adj A t s0;obtain⟨n2,x,k,y,b2,_,q2,a,i⟩:=F.adj A o1 s1;obtain⟨J,d3,o,Q,D,_,q3,u,w⟩:=F.adj A o2 s2;have l:=W.aLu F.RZ 0;have t1:=W.aLu F.RZ 1
 have e:∀{f:V} {d':Int},oR p N f d'->(∃q∈iF p N f d',q∉iF p N n d)->f≠n:=by
  rintro f d' v ⟨q,O,Z⟩ rfl;rw[F.uniq v] at Z
  grind
 refine⟨n1,z,n2,x,J,d3,h,k,o,e h ⟨q1,c,g⟩,e k ⟨q2,a,i⟩,e o ⟨q3,u,w⟩,?_,?_,?_⟩
 . rintro rfl;rw[k.uniq h] at y b2;exact g (JM h.RZ.hn t o1 o2 (Int.ne_of_gt l) a1 b1 b2 c)
 . rintro rfl;rw[o.uniq h] at Q D;exact g (JM h.RZ.hn t o1 o2 (Int.ne_of_gt l) a1 b1 Q c)
 rintro rfl;rw[o.uniq k] at Q D;exact i (JM k.RZ.hn o1 o2 b (Int.ne_of_gt t1) y b2 D a)
end
section
def neg(a:V):V:=⟨-a.x,-a.y,-a.z⟩
theorem neg_neg(a:V):neg (neg a)=a:=by simp[neg]
theorem VU{a:V}(h:a≠V0):neg a≠V0:=fun e=>h (by
 have :=Al neg e;rw[neg_neg] at this
 assumption)
theorem aJs(a:V):fY (neg a)=fY a:=by simp[fY,neg,Int.gcd]
theorem Lq(a:V):iC (neg a)=neg (iC a):=by have p:(fY a:Int)∣a.x:=Ei ..;have q:(fY a:Int)∣a.y:=Gu (Dq ..) (Ei ..);have d3:(fY a:Int)∣a.z:=Gu (Dq ..) (Dq ..);unfold iC;rw[aJs];simp[neg,Int.neg_ediv_of_dvd,p,q,d3]
theorem qN(a b:V):dot (neg a) b= -dot a b:=by grind[dot,neg]
variable {p:Nat->V} {N:Nat} {n:V} {d:Int}
def yE(p:Nat->V)(a b c:Nat)(n:V):Prop:=
 bC (vec p a b) (vec p a c)≠V0/\(n=iC (bC (vec p a b) (vec p a c))\/n=neg (iC (bC (vec p a b) (vec p a c))))
theorem Ph(a b c:Nat):bC (vec p a c) (vec p a b)=neg (bC (vec p a b) (vec p a c)):=by grind[bC,neg]
theorem Zt(a b c:Nat):bC (vec p b a) (vec p b c)=neg (bC (vec p a b) (vec p a c)):=by grind[bC,neg,vec,sub]
theorem yE.swap{a b c:Nat}(h:yE p a b c n):yE p a c b n:=by unfold yE at h ⊢;rw[Ph a b c,Lq,neg_neg];exact⟨VU h.1,h.2.symm⟩
theorem yE.tL{a b c:Nat}(h:yE p a b c n):yE p b a c n:=by unfold yE at h ⊢;rw[Zt a b c,Lq,neg_neg];exact⟨VU h.1,h.2.symm⟩
theorem yE.bEa{a b c:Nat}(h:yE p a b c n):dot n (p b)=dot n (p a)/\dot n (p c)=dot n (p a):=by
 have d:=tA h.1
 have key:∀k,dot (bC (vec p a b) (vec p a c)) (vec p a k)=0->dot n (p k)=dot n (p a):=by
  intro k E;rw[<-DB] at E;have Z:=fG A0 E
  have B:dot n (vec p a k)=0:=by rcases h.2 with rfl|rfl<;>simp_all[qN,Z]
  grind[lD]
 grind[dot,bC]
theorem yE.ne{a b c:Nat}(h:yE p a b c n):a≠b/\a≠c/\b≠c:=by refine⟨?_,?_,?_⟩<;>rintro rfl<;>refine h.1 ?_<;>simp only[bC,vec,sub,V0]<;>apply V.ext'<;>simp only <;>grind
theorem yE.oa{a b c:Nat}(h:yE p a b c n)(I:a<N)(X:b<N)(R:c<N)(le:∀k,k<N->dot n (p k)<=d)(lt:∃k,k<N/\dot n (p k)<d)(hd:d=dot n (p a)):oR p N n d:=by
 rcases h.2 with e|e
 . exact⟨le,lt,a,b,c,I,X,R,h.1,e,hd⟩
 refine⟨le,lt,a,c,b,I,R,X,h.swap.1,?_,hd⟩
 grind[Ph,Lq]
theorem oR.bNn(F:oR p N n d):∃a b c,a<N/\b<N/\c<N/\yE p a b c n/\d=dot n (p a):=by obtain⟨a,b,c,I,X,R,L,A,hd⟩:=F.jw;exact⟨a,b,c,I,X,R,⟨L,.inl A⟩,hd⟩
theorem oR.up(F:oR p N n d):∃i j k,i<j/\j<k/\k<N/\yE p i j k n/\d=dot n (p i):=by
 obtain⟨a,b,c,I,X,R,h,hd⟩:=F.bNn
 have S:∃a b c,b<c/\a<N/\b<N/\c<N/\yE p a b c n/\d=dot n (p a):=by
  have A:=h.ne;by_cases e:b<c
  . grind
  exact⟨a,c,b,by omega,I,R,X,h.swap,hd⟩
 obtain⟨a,b,c,e,I,X,R,h,hd⟩:=S;have A:=h.ne;have M:=h.bEa;by_cases O:a<b
 . grind
 by_cases Z:a<c
 . exact⟨b,a,c,by omega,Z,R,h.tL,by omega⟩
 exact⟨b,c,a,e,by omega,I,h.tL.swap,by omega⟩
theorem oR.down(F:oR p N n d):∃i j k,k<j/\j<i/\i<N/\yE p i j k n/\d=dot n (p i):=by obtain⟨i,j,k,O,Z,B,h,hd⟩:=F.up;have M:=h.bEa;exact⟨k,j,i,O,Z,B,h.tL.swap.tL,by omega⟩
theorem jC.nv(a:V):¬jC a a:=by simp[jC]
theorem jC.trans{a b c:V}(h:jC a b)(M:jC b c):jC a c:=by grind[jC]
theorem jC.total{a b:V}(h:a≠b):jC a b\/jC b a:=by refine Co fun R=>h ?_;unfold jC at R;apply V.ext'<;>omega
theorem EF{α:Type}{R:α->α->Prop}(d:∀a,¬R a a)(tr:∀{a b c},R a b->R b c->R a c):∀{l l':List α},l.Pairwise R->l'.Pairwise R->(∀x,x∈l↔x∈l')->l=l'
 |[],[],_,_,_=>rfl
 |[],y::l',_,_,h=>absurd ((h y).2 Ay) A3
 |x::l,[],_,_,h=>absurd ((h x).1 Ay) A3
 |x::l,y::l',hl,pK,h=>by
  rw[Cj] at hl pK
  have f:x=y:=by
   rcases Ba.1 ((h x).1 Ay) with e|e
   . omega
   rcases Ba.1 ((h y).2 Ay) with e'|e'<;>grind
  rw[EF d tr hl.2 pK.2 fun z=>⟨fun s=>?_,fun s=>?_⟩]
  all_goals grind
structure pS (p:Nat->V) (N:Nat) (L:List (V×Int)):Prop where
 mem:∀q,q∈L↔oR p N q.1 q.2
 SL:L.Pairwise fun a b=>jC a.1 b.1
theorem pS.uniq{L g:List (V×Int)}(h:pS p N L)(M:pS p N g):L=g:=
 EF (R:=fun a b=>jC a.1 b.1) (fun a=>jC.nv _) (fun {a b c} h M=>jC.trans (a:=a.1) (b:=b.1) (c:=c.1) h M) h.SL M.SL fun q=>(h.mem q).trans (M.mem q).symm
theorem pS.o7{K S:List (V×Int)}(A:K.Nodup)(t:∀q,q∈K↔oR p N q.1 q.2)(m:S.Perm K)(M:S.Pairwise fun a b=>¬jC b.1 a.1):pS p N S where
 mem:=fun q=>(m.mem_iff).trans (t q)
 SL:=by
  have c:S.Nodup:=m.nodup_iff.2 A;have y:∀q∈S,oR p N q.1 q.2:=fun q D=>(t q).1 (m.mem_iff.1 D);have Z:S.Pairwise fun a b=>a≠b/\¬jC b.1 a.1:=List.Pairwise.and c M;refine Gf (fun {a b} ha hb BY=>?_) Z;by_cases z:a.1=b.1
  . have :=(y a ha).uniq (d':=b.2) (by grind)
    grind
  exact(jC.total z).resolve_right BY.2
theorem pS.four{L:List (V×Int)}(h:pS p N L)(A:MN p N)(s:L≠[]):4<=L.length:=by
 cases L with
 |nil=>grind
 |cons q r=>
  obtain⟨n1,c,n2,a,J,d3,u,P,S,T,o,d,b,Y,t⟩:=((h.mem q).1 Ay).four A
  have y:[q,(n1,c),(n2,a),(J,d3)].Nodup:=by grind
  have D:[q,(n1,c),(n2,a),(J,d3)] ⊆ q::r:=by
   intro x C;simp only[Ba,Cn,Fg] at C
   rcases C with rfl|rfl|rfl|rfl
   . simp
   . exact(h.mem _).2 u
   . exact(h.mem _).2 P
   exact(h.mem _).2 S
  have :=List.Nodup.length_le_of_subset y D;omega
end
section
variable {p:Nat->V} {N:Nat} {n:V} {d:Int}
structure Poly (p:Nat->V) (N:Nat) (n:V) (d:Int) (L:List Nat):Prop where
 ex:∃s r m,iF p N n d=s::r/\Way n p (iF p N n d) s m (tO n p (iF p N n d))/\L=(List.range m).map fun i=>iter (tO n p (iF p N n d)) i s
theorem Poly.exists(A:MN p N)(F:Fct p N n d):∃L,Poly p N n d L:=by obtain⟨s,r,h⟩:=F.head;obtain⟨m,W⟩:=F.way A h;exact⟨_,⟨s,r,m,h,W,rfl⟩⟩
theorem Poly.uniq{L g:List Nat}(h:Poly p N n d L)(M:Poly p N n d g):L=g:=by
 obtain⟨s,r,m,e,W,rfl⟩:=h.ex;obtain⟨l,a,Y,o,k,rfl⟩:=M.ex;rw[e] at o;cases o
 have :m=Y:=by
  rcases Ji m Y with hl|he|hl
  . exact absurd W.back (k.first m W.pos hl)
  . exact he
  exact absurd k.back (W.first Y k.pos hl)
 rw[this]
def Next(L:List Nat)(a b:Nat):Prop:=∃i,i<L.length/\L[i]?=some a/\L[(i+1)%L.length]?=some b
theorem Poly.lQ{L:List Nat}(h:Poly p N n d L){a b:Nat}:Next L a b↔a∈iF p N n d/\Sd n p (iF p N n d) a b:=by
 obtain⟨s,r,m,e,W,rfl⟩:=h.ex;have Q:((List.range m).map fun i=>iter (tO n p (iF p N n d)) i s).length=m:=by simp
 have c:∀i,i<m->((List.range m).map fun i=>iter (tO n p (iF p N n d)) i s)[i]?=some (iter (tO n p (iF p N n d)) i s):=fun i F=>by rw[Dw,Ko F];rfl
 have f:∀i,i<m->((List.range m).map fun i=>iter (tO n p (iF p N n d)) i s)[(i+1)%m]?=some (iter (tO n p (iF p N n d)) (i+1) s):=fun i F=>by
  by_cases t:i+1<m
  . rw[Bk t,c _ t]
  have :i+1=m:=by omega
  rw[this,Nat.mod_self,c 0 W.pos,W.back];rfl
 unfold Next;rw[Q];constructor
 . rintro⟨i,F,O,Z⟩;rw[c i F] at O;rw[f i F] at Z;cases O;cases Z;exact W.side i
 rintro⟨I,w⟩;obtain⟨i,F,rfl⟩:=W.cover I w;refine⟨i,F,c i F,?_⟩;rw[f i F,(W.side i).2.uniq W.H (W.side i).1 w]
theorem Poly.back(A:MN p N)(F:oR p N n d){L:List Nat}(h:Poly p N n d L){a b:Nat}(e:Next L a b):
 ∃f d' g,oR p N f d'/\Poly p N f d' g/\Next g b a:=by
 obtain⟨I,w⟩:=h.lQ.1 e;obtain⟨f,d',v,W,r,c,_⟩:=F.adj A I w;obtain⟨g,M⟩:=Poly.exists A v.RZ;exact⟨f,d',g,v,M,M.lQ.2 ⟨r,c⟩⟩
theorem Poly.aGl{L:List Nat}(h:Poly p N n d L){k:Nat}(E:k∈L):k∈iF p N n d:=by obtain⟨s,r,m,e,W,rfl⟩:=h.ex;simp only[Be,Bb] at E;obtain⟨i,F,rfl⟩:=E;exact(W.side i).1
theorem Poly.TZ{L:List Nat}(h:Poly p N n d L){k:Nat}(E:k∈L):aH.TZ n p (iF p N n d) k=some (tO n p (iF p N n d) k):=by obtain⟨s,r,m,e,W,rfl⟩:=h.ex;simp only[Be,Bb] at E;obtain⟨i,F,rfl⟩:=E;exact aGt W.H (W.side i).1 (W.side i).2
def jm(n:V)(a b:List V):Prop:=∀u∈a,∀v∈b,dot n u<=dot n v
def Sep(a b:List V)(n:V):Prop:=jm n a b\/jm n b a
theorem Sep.symm{a b:List V}:Sep a b n↔Sep b a n:=Or.comm
theorem Sep.neg{a b:List V}:Sep a b (aH.neg n)↔Sep a b n:=by
 unfold Sep jm;simp only[qN];constructor
 . rintro(h|h)
   . exact .inr fun u B v J=>by have :=h v J u B;omega
   exact .inl fun u B v J=>by have :=h v J u B;omega
 rintro(h|h)
 . exact .inr fun u B v J=>by have :=h v J u B;omega
 exact .inl fun u B v J=>by have :=h v J u B;omega
theorem Zr(a b:V):bC b a=aH.neg (bC a b):=by simp only[bC,aH.neg];apply V.ext'<;>simp only <;>grind
end
theorem natAbs_tmod(a b:Int):(a.tmod b).natAbs=a.natAbs%b.natAbs:=by
 first
  |exact Int.natAbs_tmod a b
  |(cases a<;>cases b<;>simp only[Int.tmod,Ja,Cs,Int.natAbs_negSucc,Int.ofNat_eq_natCast,Nat.succ_eq_add_one]<;>rfl)
theorem XR(a b:Int):Int.gcd b (a.tmod b)=Int.gcd a b:=by unfold Int.gcd;rw[natAbs_tmod,It a.natAbs,Nat.gcd_rec b.natAbs a.natAbs];rw[It]
theorem aMx(a:Int):(Int.gcd a 0:Int)=if a< -a then -a else a:=by simp only[Int.gcd_zero_right];split<;>omega
theorem RS(v:V):Int.gcd (Int.gcd v.x v.y) v.z=fY v:=by unfold fY Int.gcd;simp only[Cs];exact Nat.gcd_assoc _ _ _
theorem aHn{v:V}(h:fY v<=1):iC v=v:=by
 unfold iC
 rcases Ep 0 (fY v) with h0|h0
 . have :fY v=1:=by omega
   rw[this];simp
 have s:fY v=0:=by omega
 have J:v=V0:=by refine Co fun R=>?_;have :=tA R;omega
 subst J;rw[s];simp[V0]
theorem Td(v:V):iC v=⟨v.x.tdiv (fY v),v.y.tdiv (fY v),v.z.tdiv (fY v)⟩:=by have p:(fY v:Int)∣v.x:=Ei ..;have q:(fY v:Int)∣v.y:=Gu (Dq ..) (Ei ..);have d3:(fY v:Int)∣v.z:=Gu (Dq ..) (Dq ..);unfold iC;rw[Ht p,Ht q,Ht d3]
def bT(B:Nat)(v:V):Prop:=v.x.natAbs<=B/\v.y.natAbs<=B/\v.z.natAbs<=B
theorem bY{a b:Int}{A B:Nat}(I:a.natAbs<=A)(X:b.natAbs<=B):(a*b).natAbs<=A*B:=by rw[Ew];exact Az I X
theorem nR{a b:V}{A B:Nat}(I:bT A a)(X:bT B b):(dot a b).natAbs<=3*(A*B):=by have O:=bY I.1 X.1;have Z:=bY I.2.1 X.2.1;have c:=bY I.2.2 X.2.2;unfold dot;omega
theorem iM{a b:V}{A B:Nat}(I:bT A a)(X:bT B b):bT (2*(A*B)) (bC a b):=by
 obtain⟨a1,y,Q⟩:=I;obtain⟨b1,b2,D⟩:=X;refine⟨?_,?_,?_⟩<;>simp only[bC]
 . have O:=bY y D;have Z:=bY Q b2;omega
 . have O:=bY Q b1;have Z:=bY a1 D;omega
 have O:=bY a1 b2;have Z:=bY y b1;omega
theorem gT{a b:V}{A B:Nat}(I:bT A a)(X:bT B b):bT (A+B) (sub a b):=by obtain⟨a1,y,Q⟩:=I;obtain⟨b1,b2,D⟩:=X;refine⟨?_,?_,?_⟩<;>simp only[sub]<;>omega
theorem uE{v:V}{B:Nat}(h:bT B v):bT B (iC v):=by
 rw[Td]
 have key:∀a:Int,a.natAbs<=B->(a.tdiv (fY v)).natAbs<=B:=fun a I=>by rw[Int.natAbs_tdiv];exact Aw (Fq _ _) I
 exact⟨key _ h.1,key _ h.2.1,key _ h.2.2⟩
theorem Lh{v:V}{B:Nat}(h:bT B v):bT B (neg v):=by obtain⟨a1,y,Q⟩:=h;refine⟨?_,?_,?_⟩<;>simp only[neg]<;>omega
end Go.aH
namespace Go.Av
open Go Go.iW
def wC(l:List Nat):List AV:=l.map fun(n:Nat)=>AV.int .u32 n
theorem cK(l:List Nat):(wC l).length=l.length:=by simp[wC]
def zs:List Nat:=List.replicate 16 0
theorem bDk:[AV.int .u32 0,.int .u32 0,.int .u32 0,.int .u32 0,.int .u32 0,.int .u32 0,.int .u32 0,.int .u32 0,.int .u32 0,.int .u32 0,.int .u32 0,.int .u32 0,.int .u32 0,.int .u32 0,.int .u32 0,.int .u32 0]=wC zs:=rfl
def UQ(l:List Nat):Prop:=l.length=16/\∀d∈l,d<W
theorem UQ.zs:UQ zs:=⟨rfl,fun d hd=>by rw[Hk hd];decide⟩
theorem UQ.aV(n:Nat):UQ (aV 16 n):=⟨cW _ _,DT⟩
theorem aQq{l:List Nat}{n:Nat}(h:l.length<=n):(wC l).take n=wC l:=Bd (by grind[cK])
theorem aQp{l:List Nat}{n:Nat}(h:l.length<=n):(wC l).drop n=[]:=Bl (by grind[cK])
theorem oG{l:List Nat}{i:Nat}(h:i<l.length):(wC l).getD i aC=.int .u32 (l.getD i 0):=by grind[wC]
theorem uH{l:List Nat}{i:Nat}(h:i<l.length)(x:Nat):gH (wC l) i [.int .u32 (x:Int)]=wC (l.set i x):=by unfold gH wC;rw[List.map_set,List.set_eq_take_append_cons_drop,if_pos (by grind)];simp
theorem Sq:∀(a b:List Nat),a.length=b.length->cE (List.replicate a.length .i) (wC a) (wC b)=some (decide (a=b))
 |[],[],_=>rfl
 |[],y::b,h=>by grind
 |x::a,[],h=>by grind
 |x::a,y::b,h=>by have K:=Sq a b (by grind);simp only[wC,Bw,As,Iq,cE,if_true] at K ⊢;rw[K];by_cases C:x=y<;>by_cases j:a=b<;>simp[C,j]<;>omega
theorem EW{a b:List Nat}(I:a.length=16)(X:b.length=16):cE [.i,.i,.i,.i,.i,.i,.i,.i,.i,.i,.i,.i,.i,.i,.i,.i] (wC a) (wC b)=some (decide (a=b)):=by have :=Sq a b A0;simp_all
def cI(z:Int):List AV:=.bool false::.bool (decide (z<0))::wC (aV 16 z.natAbs)
def xH:List AV:=.bool true::.bool false::wC zs
def cO:Option Int->List AV
 |some z=>cI z
 |none=>xH
def norm(z:Int):Option Int:=if z.natAbs<W^16 then some z else none
def sg(neg:Bool)(n:Nat):Int:=if neg then -(n:Int) else n
def GS(b n:Bool)(l:List Nat):Bool:= !b&&(!n|| !decide (l=zs))
def SO(b n:Bool)(l:List Nat):Option Int:=if GS b n l then some (sg n (vK l)) else none
def eJ(v:List AV)(x:Option Int):Prop:=∃b n l,UQ l/\v=.bool b::.bool n::wC l/\x=SO b n l
theorem aGv:vK zs=0:=by decide
theorem vH:aV 16 0=zs:=by decide
theorem o5{l:List Nat}(h:UQ l):vK l<W^16:=by
 have :=VW l h.2
 rwa [h.1] at this
theorem Ms{l:List Nat}(h:UQ l):aV 16 (vK l)=l:=by
 have :=TU h.2
 rwa [h.1] at this
theorem DZ{l:List Nat}(h:UQ l):vK l=0↔l=zs:=by
 constructor
 . grind[Ms,vH]
 rintro rfl;rfl
theorem jU(n:Bool)(m:Nat):(sg n m).natAbs=m:=by grind[sg]
theorem Tq{b n:Bool}{l:List Nat}{z:Int}(h:UQ l)(e:SO b n l=some z):b=false/\n=decide (z<0)/\l=aV 16 z.natAbs/\z.natAbs<W^16:=by
 unfold SO at e;split at e
 . rename_i d;obtain rfl:=Aa e;simp only[GS,Ak,Ct,Eb,Cd] at d;refine⟨d.1,?_,?_,?_⟩
   . cases n with
     |false=>rfl
     |true=>
      have :vK l≠0:=fun e=>by
       rcases d.2 with h2|h2
       . grind
       exact h2 ((DZ h).1 e)
      grind[sg]
   . rw[jU,Ms h]
   rw[jU];exact o5 h
 grind
theorem eJ.some{v:List AV}{z:Int}(h:eJ v (some z)):v=cI z/\z.natAbs<W^16:=by obtain⟨b,n,l,U,rfl,J⟩:=h;obtain⟨rfl,rfl,rfl,h4⟩:=Tq U J.symm;exact⟨rfl,h4⟩
theorem aJp{z:Int}(h:z.natAbs<W^16):SO false (decide (z<0)) (aV 16 z.natAbs)=Option.some z:=by
 have :GS false (decide (z<0)) (aV 16 z.natAbs)=true:=by
  simp only[GS,Fl,Dm,Eb,Ct,Cd];by_cases s:z<0
  . have :=fP h
    grind[aGv]
  omega
 unfold SO;rw[if_pos this,fP h]
 grind[sg]
theorem eJ.enc{z:Int}(h:z.natAbs<W^16):eJ (cI z) (Option.some z):=⟨false,_,_,.aV _,rfl,(aJp h).symm⟩
theorem eJ.bad:eJ xH none:=⟨true,false,zs,.zs,rfl,rfl⟩
theorem NA{z x:Int}(h:norm z=Option.some x):x=z/\z.natAbs<W^16:=by
 unfold norm at h
 grind
theorem eJ.norm(z:Int):eJ (cO (Av.norm z)) (Av.norm z):=by
 cases h:Av.norm z with
 |none=>exact .bad
 |some x=>exact .enc (by obtain⟨rfl,Z⟩:=NA h;omega)
theorem XP:∀l,cP (wC l)=true
 |[]=>rfl
 |x::l=>by exact XP l
theorem sf:(∀l,cP (wC l)=true)/\(∀b,(AV.bool b).free=true)/\(∀k n,(AV.int k n).free=true)/\(∀s,(AV.str s).free=true)/\(∀cs,(AV.agg cs).free=cP cs)/\(∀cs,(AV.iV cs).free=cP cs)/\
 (∀sz els,(AV.bK 1 sz els).free=fK els)/\(∀sz els,(AV.bK 0 sz els).free=fK els)/\(∀x r,cP (x::r)=(x.free&&cP r))/\(cP []=true)/\(∀x r,fK (x::r)=(cP x&&fK r))/\(fK []=true)/\(∀b,(b&&true)=b)/\(∀b,(true&&b)=b)/\
 AV.bG.free=true/\AV.Li.free=true/\AV.pY.free=true:=
 ⟨XP,fun _=>by rfl,fun _ _=>by rfl,fun _=>by rfl,fun _=>by rfl,fun _=>by rfl,fun _ _=>by rfl,fun _ _=>by rfl,fun _ _=>by rfl,by rfl,fun _ _=>by rfl,by rfl,Ig,Dm,by rfl,by rfl,by rfl⟩
theorem dG(z:Int):cP (cI z)=true:=by rfl
theorem KU(x:Option Int):cP (cO x)=true:=by cases x<;>simp only[cO,cI,xH,sf]
theorem sfI:cP xH=true/\(∀z,cP (cI z)=true)/\∀x,cP (cO x)=true:=⟨KU none,dG,KU⟩
theorem dQ{α:Type}{f:α->List AV}(h:∀x,cP (f x)=true):∀l:List α,fK (l.map f)=true
 |[]=>by rfl
 |x::l=>by simp only[Bw,fK,h,dQ h l,Dx]
theorem aI(k:IntKind)(n:Nat):asNat (.int k (n:Int))=some n:=by rfl
theorem AH:(∀k,asNat (.int k 0)=some 0)/\(∀k,asNat (.int k 1)=some 1)/\(∀k,asNat (.int k 2)=some 2)/\(∀k,asNat (.int k 3)=some 3):=⟨fun _=>rfl,fun _=>rfl,fun _=>rfl,fun _=>rfl⟩
variable{α:Type}
theorem fT{f:α->List AV}{l:List α}{i:Nat}(h:i<l.length):(l.map f).getD i []=f l[i]:=by grind
theorem aJf{p:α->Bool}{l:List α}{i:Nat}(h:i<l.length)(W:(l.take i).all p=true):(l.take (i+1)).all p=p l[i]:=by
 rw[Ao,List.all_append,W]
 grind
structure xE where
 b:Bool
 n:Bool
 l:List Nat
 hl:UQ l
def xE.cells(r:xE):List AV:=.bool r.b::.bool r.n::wC r.l
def xE.XV(r:xE):Bool:=GS r.b r.n r.l
theorem xd(r:xE):cP r.cells=true:=by simp[xE.cells,sf]
theorem gP{a i:Nat}(h:i<16):(wC (aV 16 a)).getD i aC=.int .u32 (aT a i):=by rw[oG (by assumption),kW h]
def IK(a b:Nat):Int:=if a<b then -1 else if b<a then 1 else 0
theorem aMb{a b k:Nat}(h:a / W^(k+1)=b / W^(k+1))(E:aT a k≠aT b k):IK a b=IK (aT a k) (aT b k):=by
 unfold IK
 rcases Nat.lt_or_gt_of_ne E with hc|hc
 . have :=QX h hc;omega
 have :=QX h.symm hc;omega
def YJ(i:Nat)(l:List Nat):List Nat:=l.take i++List.replicate (l.length -i) 0
theorem BD{i:Nat}{l:List Nat}:(YJ i l).length=l.length:=by grind[YJ]
theorem aPb{i:Nat}{l:List Nat}(h:i<l.length):(YJ i l).set i (l.getD i 0)=YJ (i+1) l:=by
 refine Et (by simp[BD]) fun k O Z=>?_
 grind[BD,YJ]
theorem BC(n:Nat):YJ 0 (aV 16 n)=zs:=by rfl
theorem FL(n:Nat):YJ 16 (aV 16 n)=aV 16 n:=by rfl
theorem tX(i n:Nat):(wC (YJ i (aV 16 n))).length=16:=by rw[cK,BD,cW]
theorem zj{i n:Nat}(h:i<16){x:Int}(C:x=(aT n i:Nat)):gH (wC (YJ i (aV 16 n))) i [.int .u32 x]=wC (YJ (i+1) (aV 16 n)):=by rw[C,uH (by grind[BD,cW]),<-aPb (by assumption),kW h]
theorem BB{i n:Nat}(h:i<16){x:Int}(C:x=(aT n i:Nat)):(wC (YJ i (aV 16 n))).take i++[AV.int .u32 x]++(wC (YJ i (aV 16 n))).drop (i+1)=wC (YJ (i+1) (aV 16 n)):=zj h C
theorem CB(u:Nat):IntKind.u32.wrap (u:Int)=((u%W:Nat):Int):=by rfl
theorem jA{x:Int}{u:Nat}(h:u<2^64)(e:x=u\/x=u -2^64\/x=u+2^64):IntKind.u64.wrap x=u:=by grind[IntKind.wrap,IntKind.bits,IntKind.signed]
theorem Mf(u:Nat):(u:Int).fdiv (2^min (Int.toNat 32) IntKind.u64.bits)=((u / W:Nat):Int):=by rw[Int.fdiv_eq_ediv_of_nonneg _ A1];rfl
def oI:Option Int->Option Int->Option Int
 |some x,some y=>norm (x+y)
 |_,_=>none
def wH:Option Int->Option Int
 |some x=>some (-x)
 |none=>none
theorem eJ.raw{v:List AV}{x:Option Int}(h:eJ v x):∃r:xE,v=r.cells/\x=SO r.b r.n r.l/\r.XV=x.isSome:=by
 obtain⟨b,n,l,U,rfl,rfl⟩:=h;refine⟨⟨b,n,l,U⟩,rfl,rfl,?_⟩
 grind[xE.XV,SO]
theorem eJ.len{v:List AV}{x:Option Int}(h:eJ v x):v.length=18:=by obtain⟨b,n,l,U,rfl,rfl⟩:=h;simp[cK,U.1]
theorem eJ.free{v:List AV}{x:Option Int}(h:eJ v x):cP v=true:=by obtain⟨b,n,l,U,rfl,rfl⟩:=h;simp[sf]
theorem cL(z:Int):(cI z).length=18:=by rfl
theorem mG(x:Option Int):(cO x).length=18:=by
 cases x
 all_goals rfl
theorem oL{cs:List AV}{n:Nat}(h:cs.length=n):cs.length=n/\cs.take n=cs/\cs.drop n=[]:=⟨h,Bd A0,Bl A0⟩
theorem cOl:(∀x,(cO x).length=18)/\(∀x,(cO x).take 18=cO x)/\(∀x,(cO x).drop 18=[])/\(∀x,(cI x).length=18)/\(∀x,(cI x).take 18=cI x)/\(∀x,(cI x).drop 18=[]):=
 ⟨mG,fun x=>(oL (mG x)).2.1,fun x=>(oL (mG x)).2.2,cL,fun x=>(oL (cL x)).2.1,fun x=>(oL (cL x)).2.2⟩
theorem eJ.add{x y:Option Int}:eJ (cO (oI x y)) (oI x y):=by cases x<;>cases y<;>first|exact .norm _|exact .bad
theorem eJ.neg{x:Option Int}{v:List AV}(h:eJ v x):eJ (cO (wH x)) (wH x):=by
 cases x with
 |none=>exact .bad
 |some z=>exact .enc (by have :=h.some.2;omega)
def oD:Option Int->Option Int->Option Int
 |some x,some y=>norm (x*y)
 |_,_=>none
def smO(x y:Nat->Option Int):Nat->Option Int
 |0=>some 0
 |i+1=>oI (smO x y i) (oD (x i) (y i))
theorem eJ.mul{x y:Option Int}:eJ (cO (oD x y)) (oD x y):=by cases x<;>cases y<;>first|exact .norm _|exact .bad
theorem eJ.sm{x y:Nat->Option Int}:∀i,eJ (cO (smO x y i)) (smO x y i)
 |0=>.enc A1
 |i+1=>.add
def Zq(x y:Nat->Option Int)(i:Nat):Option Int:=oI (oD (x ((i+1)%3)) (y ((i+2)%3))) (wH (oD (x ((i+2)%3)) (y ((i+1)%3))))
theorem eJ.fit{v:List AV}{z:Int}(h:eJ v (Option.some z)):z.natAbs<W^16:=h.some.2
theorem iL{l:List Nat}(h:UQ l):(wC l).length=16/\l.length=16/\(wC l).take 16=wC l/\(wC l).drop 16=[]/\cE [.i,.i,.i,.i,.i,.i,.i,.i,.i,.i,.i,.i,.i,.i,.i,.i] (wC l) (wC zs)=some (decide (l=zs)):=
 ⟨by rw[cK,h.1],h.1,aQq (by rw[h.1];omega),aQp (by rw[h.1];omega),EW h.1 rfl⟩
theorem iz:(wC zs).length=16/\(wC zs).take 16=wC zs/\(wC zs).drop 16=[]:=⟨(iL .zs).1,(iL .zs).2.2.1,(iL .zs).2.2.2.1⟩
def c3(c:Nat->List AV):List AV:=c 0++(c 1++c 2)
theorem gY{c:Nat->List AV}(h:∀i,i<3->(c i).length=18):(c3 c).length=54:=by simp[c3,h 0 A1,h 1 A1,h 2 A1]
theorem tG{c:Nat->List AV}(h:∀i,i<3->(c i).length=18){i:Nat}(F:i<3):((c3 c).drop (i*18)).take 18=c i:=by
 have G:=h 0 A1;have O:=h 1 A1;have Z:=h 2 A1
 match i,F with
 |0,_=>simp[c3,Ic,G]
 |1,_=>simp[c3,Hj,Ic,G,O]
 |2,_=>simp[c3,Hj,Ic,G,O,Z,Bl (show(c 0).length<=36 by omega),Bd (show(c 2).length<=18 by omega)]
theorem KL{c d:Nat->List AV}(h:∀i,i<3->c i=d i):c3 c=c3 d:=by simp only[c3,h 0 A1,h 1 A1,h 2 A1]
theorem aDe{c:Nat->List AV}(h:∀i,i<3->(c i).length=18){i:Nat}(F:i<3){x:List AV}(C:x.length=18):
 (c3 c).take (i*18)++x++(c3 c).drop (i*18+18)=c3 (fun j=>if j=i then x else c j):=by
 have G:=h 0 A1;have O:=h 1 A1;have Z:=h 2 A1
 match i,F with
 |0,_=>simp[c3,Hj,G]
 |1,_=>simp[c3,Hj,Ic,G,O]
 |2,_=>simp[c3,Hj,Ic,G,O,Z,Bd (show(c 0).length<=36 by omega),Bl (show(c 0).length<=54 by omega),Bl (show(c 1).length<=36 by omega),Bl (show(c 2).length<=18 by omega)]
theorem lB{c:Nat->List AV}(h:∀i,i<3->cP (c i)=true):cP (c3 c)=true:=by simp[c3,jX,h 0 A1,h 1 A1,h 2 A1]
theorem aLx:cI 0=.bool false::.bool false::wC zs:=by simp[cI,vH]
theorem BN: .bool false::.bool false::.int .u32 0::.int .u32 0::.int .u32 0::.int .u32 0::.int .u32 0::.int .u32 0::.int .u32 0::.int .u32 0::.int .u32 0::.int .u32 0::.int .u32 0::.int .u32 0::.int .u32 0::.int .u32 0::.int .u32 0::.int .u32 0::.bool false::.bool false::.int .u32 0::.int .u32 0::.int .u32 0::.int .u32 0::.int .u32 0::.int .u32 0::.int .u32 0::.int .u32 0::.int .u32 0::.int .u32 0::.int .u32 0::.int .u32 0::.int .u32 0::.int .u32 0::.int .u32 0::.int .u32 0::.bool false::.bool false::wC zs=c3 (fun _=>cI 0):=by simp only[aLx];rfl
def _root_.Go.aH.V.at(v:aH.V)(i:Nat):Int:=match i with
 |0=>v.x
 |1=>v.y
 |_=>v.z
def cS(v:aH.V):List AV:=[.int .i64 v.x,.int .i64 v.y,.int .i64 v.z]
theorem aW(v:aH.V):(cS v).length=3:=rfl
theorem iY(v:aH.V){i:Nat}(F:i<3):(cS v).getD i aC=.int .i64 (v.at i):=by
 match i,F with
 |0,_=>rfl
 |1,_=>rfl
 |2,_=>rfl
theorem cD(v:aH.V):cP (cS v)=true:=by simp only[cS,sf]
end Go.Av
namespace Go.Av
open Go
section
section
variable {P:Program} {g:bL} {n:Nat} {r:List bH} {f:dI} {ds:List gW} {H:aB} {Q:FQ}
variable{x:Arg}
theorem NS{d m:Nat}{es:List (AV×AV)}(hd:d<n)(C:nZ g f x=.map m)(t:H.get m=some (.map es))
 (h:∀N c mb,N.length=es.length->N.Nodup->bS P g n r (jF f d (.ref H.next 0)) ds ((H.set m (.tW es N c mb)).alloc (.iter m mb c [])) Q):
 bS P g n (⟨some d,.xU x,none⟩::r) f ds H Q:=by
 grind[gJ,bS,lF]
theorem PK{d w m mb c:Nat}{es:List (AV×AV)}{seen N:List Nat}(hd:d<n)(C:nZ g f x=.ref w 0)(F:H.get w=some (.iter m mb c seen))(t:H.get m=some (.tW es N c mb))
 (G:(∀b∈N,b∈seen)->bS P g n r (jF f d (.iV [.bool false])) ds H Q)
 (O:∀j,j<N.length->N.getD j 0∉seen->bS P g n r (jF f d (.iV [.bool true,(es.getD j (aC,aC)).1,(es.getD j (aC,aC)).2])) ds (H.set w (.iter m mb c (seen++[N.getD j 0]))) Q):
 bS P g n (⟨some d,.GY x,none⟩::r) f ds H Q:=by
 grind[gJ,bS,lF]
theorem Wb{d w m mb c j:Nat}{es:List (AV×AV)}{seen N:List Nat}(hd:d<n)(C:nZ g f x=.ref w 0)(F:H.get w=some (.iter m mb c (seen++[N.getD j 0])))(t:H.get m=some (.tW es N c mb))(Y:j<N.length)
 (h:bS P g n r (jF f d (.iV [(es.getD j (aC,aC)).1,(es.getD j (aC,aC)).2])) ds H Q):
 bS P g n (⟨some d,.AZ x,none⟩::r) f ds H Q:=by
 grind[gJ,bS,lF]
end
def aY(H:aB):Prop:=∀j,H.next<=j->H.get j=none
theorem aY.nil(n:Nat):aY ⟨n,.nil⟩:=fun _ _=>rfl
theorem aY.alloc{H:aB}(h:aY H)(o:eS):aY (H.alloc o):=fun j Y=>by simp only[aB.bJ] at Y;rw[aB.aJ,if_neg A0];exact h j A0
theorem aY.set{H:aB}(h:aY H){id:Nat}(F:id<H.next)(o:eS):aY (H.set id o):=fun j Y=>by simp only[aB.bB] at Y;rw[aB.aD,if_neg A0];exact h j Y
theorem aY.at1{H:aB}(h:aY H):oJ H 1=true:=by simp only[oJ,Cv,h _ (Ad _)];rfl
theorem aY.at2{H:aB}(h:aY H):oJ H 2=true:=by simp only[oJ,Cv,h _ (Ad _),h (H.next+1) A0];rfl
def lT(sz:Nat)(els:List (List AV)):AV:=if els=[] then .bG else .bK 0 sz els
theorem aAj{sz:Nat}{els:List (List AV)}(h:fK els=true):(lT sz els).free=true:=by unfold lT;split<;>simp[AV.free,h]
theorem AJ{sz:Nat}:∀{els:List (List AV)},(∀e∈els,e.length=sz)->gE sz els.length els.flatten=els
 |[],_=>rfl
 |e::els,h=>by have z:=h e Ay;simp only[As,gE,Cb];rw[Ck A0,Bd A0,Em A0,Bl A0,Cw,AJ fun x C=>h x (Ax _ C)]
theorem pU{sz:Nat}:∀{els:List (List AV)},(∀e∈els,e.length=sz)->els.flatten.length=els.length*sz
 |[],_=>by simp
 |e::els,h=>by
  have :=pU fun x C=>h x (Ax e C)
  grind
theorem Yh{H2:aB}{id sz cap:Nat}{els:List (List AV)}{r:Bool}(d:H2.get id=some (.cells els.flatten r))(B:∀e∈els,e.length=sz)(N:fK els=true)(t:Nat):
 iH H2 none t 0 (.sl id sz 0 els.length cap)=some (.bK 0 sz els):=by
 have R:H2.eV id=some els.flatten:=by grind[aB.eV]
 have U:Nat.ble (0+els.length*sz) els.flatten.length=true:=by rw[pU B];simp
 grind[iH,kK,jH,AJ]
theorem CN{H:aB}{sz bytes:Nat}{ys:List (List AV)}(Q:ys.isEmpty=false)(X:ys.length*bytes<=2^40):fM H sz bytes true .bG ys=some (.sl H.next sz 0 ys.length ys.length,H.alloc (.cells ys.flatten true)):=by grind[fM,lE]
theorem CO{H:aB}{id n sz bytes:Nat}{cs:List AV}{ys:List (List AV)}(d:H.get id=some (.cells cs true))(R:cs.length=n*sz)(Q:ys.isEmpty=false)(X:(n+ys.length)*bytes<=2^40)(M:1<=sz):
 fM H sz bytes true (.sl id sz 0 n n) ys=some (.sl H.next sz 0 (n+ys.length) (n+ys.length),(H.set id .dead).alloc (.cells (cs++ys.flatten) true)):=by
 grind[fM]
def Has(H:aB)(sz:Nat)(v:AV)(els:List (List AV)):Prop:=v=.bK 1 sz els\/Own H sz v els
theorem Has.push{H:aB}{sz bytes:Nat}{v:AV}{els ys:List (List AV)}(h:Has H sz v els)(Q:ys.isEmpty=false)(X:(els.length+ys.length)*bytes<=2^40):
 ∃H',fM H sz bytes false v ys=some (.bK (H.next+2) sz (els++ys),H')/\H'.next=H.next+1/\H'.get H.next=some .tok/\(∀id,id<H.next->H.get id≠some .tok->H'.get id=H.get id)/\(aY H->aY H'):=by
 have fresh:∀f:List (List AV),fM H sz bytes false v ys=some (lE H false sz f)->∃H',fM H sz bytes false v ys=some (.bK (H.next+2) sz f,H')/\H'.next=H.next+1/\H'.get H.next=some .tok/\(∀id,id<H.next->H.get id≠some .tok->H'.get id=H.get id)/\(aY H->aY H'):=fun f e=>⟨H.alloc .tok,e,by simp,by simp[aB.aJ],fun id O _=>by grind[aB.aJ],fun N=>N.alloc _⟩
 rcases h with rfl|⟨rfl,rfl⟩|⟨k,rfl,T,E⟩
 . simp_all[fM]
 . simp_all[fM]
 refine⟨(H.set k .dead).alloc .tok,by grind[fM],by simp,by simp[aB.aJ,aB.bB],fun id O Z=>?_,fun N=>(N.set T _).alloc _⟩
 grind[aB.aJ,aB.bB,aB.aD]
theorem Has.LP{H H':aB}{sz:Nat}{v:AV}{els:List (List AV)}(h:Has H sz v els)(A:H.next<=H'.next)(E:∀k,k<H.next->H.get k=some .tok->H'.get k=some .tok):Has H' sz v els:=by
 rcases h with rfl|⟨rfl,rfl⟩|⟨k,rfl,O,Z⟩
 . exact .inl rfl
 . exact .inr (.inl ⟨rfl,rfl⟩)
 exact .inr (.inr ⟨k,rfl,by omega,E k O Z⟩)
theorem Has.shut{H2:aB}{sz:Nat}{v:AV}{els:List (List AV)}(h:Has H2 sz v els)(s:els≠[])(U:v≠ .bK 1 sz els)(N:fK els=true)(t:Nat):iH H2 none t 0 v=some (.bK 0 sz els):=by rcases h with rfl|⟨rfl,rfl⟩|⟨k,rfl,O,Z⟩<;>simp_all[iH,kK,N,EK]
end
end Go.Av
