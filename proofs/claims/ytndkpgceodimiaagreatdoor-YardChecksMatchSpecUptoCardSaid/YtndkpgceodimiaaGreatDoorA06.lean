/-
  Part of the proof of statement 10
-/
import Derived.Test.YtndkpgceodimiaaGreatDoorA05
import Derived.Test.YtndkpgceodimiaaGreatDoorA01
import Derived.Shelf.SlSortCmp.NoneTotal
set_option linter.unusedVariables false
set_option linter.unusedSimpArgs false
set_option linter.unusedSectionVars false
namespace Go.Av
open Go
section
section
variable {P:Program} {g:bB} {n:Nat}
theorem BQ {Q:aA->Prop}:∀{ds:List gH} {H:aA},Wu P g ds H Q->∃Hf,Q Hf/\Wu P g ds H fun H'=>H'=Hf
 |[],H,h=>⟨H,h,rfl⟩
 |.call _ _::ds,H,h=>by obtain⟨H1,h1,h2⟩:=h;obtain⟨Hf,q,h3⟩:=BQ h2;exact⟨Hf,q,H1,h1,h3⟩
 |.mark _::ds,H,h=>by obtain⟨h1,h2⟩:=h;obtain⟨Hf,q,h3⟩:=BQ h2;exact⟨Hf,q,h1,h3⟩
theorem tH {Q Q':aA->Prop} (hq:∀H,Q H->Q' H):∀{ds:List gH} {H:aA},Wu P g ds H Q->Wu P g ds H Q'
 |[],H,h=>hq H h
 |.call _ _::ds,H,h=>by obtain⟨H1,h1,h2⟩:=h;exact⟨H1,h1,tH hq h2⟩
 |.mark _::ds,H,h=>⟨h.1,tH hq h.2⟩
def aKc (P:Program) (g:bB) (rs:List GH) (R:Out->aA->Prop):FQ
 |.normal,f,ds,H|.ret,f,ds,H=>Wu P g ds H fun H1=>∃vs,sJ f H1 rs=some vs/\R (.ret (mY vs)) H1
 |.panic v,f,ds,H=>match ds with
  |[]=>R (.KC v) H
  |.mark _::_=>False
  |.call df azs::ds=>∃H1,SX P g df azs (some v) H H1/\Wu P g ds H1 fun H2=>∃vs,sJ f H2 rs=some vs/\R (.ret (mY vs)) H2
 |.exit _,_,_,_=>False
theorem aCj {F:BR} {args:List AV} (ha:args.length<=F.ntmps) {H:aA} {R:Out->aA->Prop} (h:FC P g F.ntmps F.body (fG args) [] H (aKc P g F.results R)):
 AC P g F.body (kO F args) [] H (aKd P g F R):=by
 obtain⟨hb,hl⟩:=CL ha;unfold kO;rw[<-hl];refine fI (fun e s ds H hq=>?_) (vZ F.body _ [] H _ hb h);obtain⟨f,rfl,IA,hq⟩:=hq
 have conv:∀H1,(∃vs,sJ f H1 F.results=some vs/\R (.ret (mY vs)) H1)->∃vs,mC (LF F.ntmps f) H1 F.results=some vs/\R (.ret (mY vs)) H1:=fun H1 ⟨vs,h1,h2⟩=>⟨vs,by rw[<-JL IA];exact h1,h2⟩
 cases e with
 |normal=>exact tH conv hq
 |ret=>exact tH conv hq
 |panic v=>
  cases ds with
  |nil=>exact hq
  |cons d ds=>
   cases d with
   |mark _=>exact hq.elim
   |call _ _=>obtain⟨H1,h1,h2⟩:=hq;exact⟨H1,h1,tH conv h2⟩
 |exit id=>exact hq
theorem xN {mu:Bool} (hm:Fit P g) {f:FuncId} {F:BR} (hF:kP P g mu f F) {args:List AV} (ha:args.length<=F.ntmps) {H:aA} {R:Out->aA->Prop}
 (h:FC P g F.ntmps F.body (fG args) [] H (aKc P g F.results R)) (hdt:F.body.dJ=true:=by first|rfl|decide):∃out H',R out H'/\Sound P g f args H out H':=by
 obtain⟨ae,s,ds,H',q,hA⟩:=GD hdt (aCj ha h)
 have norm:(ae=.normal\/ae=.ret)->(Wu P g ds H' fun H1=>∃vs,mC s H1 F.results=some vs/\R (.ret (mY vs)) H1)->∃out H',R out H'/\Sound P g f args H out H':=by
  intro hae q;obtain⟨Hf,⟨vs,h1,h2⟩,h3⟩:=BQ q;refine⟨_,Hf,h2,oW hm hF (fI (fun e s1 d hh he=>?_) hA)⟩;obtain⟨rfl,rfl,rfl,rfl⟩:=he;have :Wu P g d hh fun H1=>∃vs',mC s1 H1 F.results=some vs'/\(Out.ret (mY vs')=Out.ret (mY vs)/\H1=Hf):=tH (fun H1 e=>by subst e;exact⟨vs,h1,rfl,rfl⟩) h3
  rcases hae with rfl|rfl<;>exact this
 cases ae with
 |exit id=>exact q.elim
 |normal=>exact norm (.inl rfl) q
 |ret=>exact norm (.inr rfl) q
 |panic v=>
  cases ds with
  |nil=>refine⟨.KC v,H',q,oW hm hF (fI (fun e s1 d hh he=>?_) hA)⟩;obtain⟨rfl,rfl,rfl,rfl⟩:=he;exact⟨rfl,rfl⟩
  |cons d ds=>
   cases d with
   |mark _=>exact q.elim
   |call _ _=>obtain⟨H1,h1,h2⟩:=q;obtain⟨Hf,⟨vs,q1,q2⟩,q3⟩:=BQ h2;refine⟨.ret (mY vs),Hf,q2,oW hm hF (fI (fun e s1 d1 hh he=>?_) hA)⟩;obtain⟨rfl,rfl,rfl,rfl⟩:=he;exact⟨H1,h1,tH (fun H1 e=>by subst e;exact⟨vs,q1,rfl,rfl⟩) q3⟩
variable {r:List bD} {f:dD} {ds:List gH} {H:aA} {Q:FQ}
end
end
section
section
variable {P:Program} {v:Nat->Option (List AV)} {l l':KI->Loop->Prop}
theorem iA:bJ ⟨v,l⟩=bJ ⟨v,l'⟩:=by funext x;cases x<;>rfl
theorem NL:nV ⟨v,l⟩=nV ⟨v,l'⟩:=by
 funext x
 induction x with
 |nil=>rfl
 |cons a r ih=>simp only[nV];rw[ih,iA (l':=l')]
theorem YW:mV ⟨v,l⟩=mV ⟨v,l'⟩:=by
 funext x
 cases x with
 |none=>rfl
 |some a=>simp only[mV];rw[iA (l':=l')]
theorem Ya (f:Nat->Option (Nat×Nat)):vR ⟨v,l⟩ f=vR ⟨v,l'⟩ f:=by
 funext x
 induction x with
 |nil=>rfl
 |cons a r ih=>simp only[vR];rw[ih,iA (l':=l')]
theorem zc:∀(n:Nat) (x),IU ⟨v,l⟩ n x=IU ⟨v,l'⟩ n x:=by
 intro n x
 induction x generalizing n with
 |nil=>rfl
 |cons a r ih=>simp only[IU];rw[ih,iA (l':=l')]
theorem XO (op:BinOp) (t:TypeId) (x y:Operand):qB P ⟨v,l⟩ op t x y=qB P ⟨v,l'⟩ op t x y:=by unfold qB;rw[iA (l':=l')]
theorem Ua (a b:TypeId) (x:Operand):mK P ⟨v,l⟩ a b x=mK P ⟨v,l'⟩ a b x:=by unfold mK;rw[iA (l':=l')]
theorem Sf (t:TypeId) (x:Operand) (a b c:Option Operand):jW P ⟨v,l⟩ t x a b c=jW P ⟨v,l'⟩ t x a b c:=by unfold jW;rw[iA (l':=l'),YW (l':=l')]
theorem XQ (c:Call):qC P ⟨v,l⟩ c=qC P ⟨v,l'⟩ c:=by unfold qC;rw[iA (l':=l')]
theorem Ps (mu:Bool) (c:Call):iB P ⟨v,l⟩ mu c=iB P ⟨v,l'⟩ mu c:=by unfold iB;rw[iA (l':=l')]
theorem UZ (mu:Bool) (c:Call):nK P ⟨v,l⟩ mu c=nK P ⟨v,l'⟩ mu c:=by unfold nK;rw[iA (l':=l'),NL (l':=l'),XQ (l':=l'),Ps (l':=l')]
theorem aDz (mu:Bool) (o:Oper):NY P ⟨v,l⟩ mu o=NY P ⟨v,l'⟩ mu o:=by unfold NY;simp only[iA (v:=v) (l:=l) (l':=l'),NL (v:=v) (l:=l) (l':=l'),Ya (v:=v) (l:=l) (l':=l'),zc (v:=v) (l:=l) (l':=l'),XO (v:=v) (l:=l) (l':=l'),Ua (v:=v) (l:=l) (l':=l'),Sf (v:=v) (l:=l) (l':=l'),UZ (v:=v) (l:=l) (l':=l')]
theorem jc (mu:Bool) (ops:Array Oper) (o:Oper):LY P ⟨v,l⟩ mu ops o=LY P ⟨v,l'⟩ mu ops o:=by unfold LY;rw[aDz (l':=l')]
theorem XS (mu:Bool) (ops:Array Oper):∀x,lY P ⟨v,l⟩ mu ops x=lY P ⟨v,l'⟩ mu ops x:=by
 intro x
 induction x with
 |nil=>rfl
 |cons a r ih=>simp only[lY];rw[ih,jc (l':=l')]
theorem gm (mu:Bool) (c:Code):eQ P ⟨v,l⟩ mu c=eQ P ⟨v,l'⟩ mu c:=by
 induction c with
 |region id ops d=>cases d<;>simp only[eQ]<;>rw[XS (l':=l')]
 |seq a b qR uM=>simp only[eQ,qR,uM]
 |cond c a b qR uM=>simp only[eQ,qR,uM];rw[iA (l':=l')]
 |block id a ih=>simp only[eQ,ih]
 |loop a ih=>simp only[eQ,ih]
 |scope a ih=>simp only[eQ,ih]
 |rangeFunc c ps x y ihx ihy=>simp only[eQ,ihx,ihy];rw[iA (l':=l')]
 |_=>rfl
def mkG (P:Program) (v:Nat->Option (List AV)):bB:=
 ⟨v,fun k r=>r.params.toList=k.ps/\∃mu,eQ P ⟨v,fun _ _=>False⟩ mu r.assign=some k.LX/\eQ P ⟨v,fun _ _=>False⟩ mu r.body=some k.body/\k.LX.nd=true/\k.body.nd=true⟩
theorem b9 (hm:P.follows .mixedOrders=true):Fit P (mkG P v) where
 mixed:=hm
 lok:=fun k r=>by unfold mkG;simp only[gm (P:=P) (v:=v) (l':=fun _ _=>False)]
def LA (P:Program) (g:bB) (mu:Bool) (fn:Go.Func):Option BR:=
 match fn.body with
 |none=>none
 |some c=>match eQ P g mu c,uU P fn.results.toList with
  |some b,some r=>some ⟨fn.ntmps,r,b⟩
  |_,_=>none
def dU (P:Program) (g:bB) (mu:Bool):Code->Option cD
 |.skip=>some .skip
 |.label _=>some .skip
 |.region _ ops false=>(lY P g mu ops ops.toList).map .ops
 |.region _ ops true=>(lY P g mu ops ops.toList).map fun rl=>.draw rl (sW rl (Region.before ops).toList)
 |.seq a b=>match dU P g mu a,dU P g mu b with
  |some x,some y=>some (.seq x y)
  |_,_=>none
 |.cond c a b=>match bJ g c,dU P g mu a,dU P g mu b with
  |some z,some x,some y=>some (.cond z x y)
  |_,_,_=>none
 |.block id a=>(dU P g mu a).map (.block id)
 |.loop a=>(dU P g mu a).map .loop
 |.scope a=>dU P g mu a
 |.exit id=>some (.exit id)
 |.ret=>some .ret
 |.rangeFunc c ps x y=>match bJ g c,dU P g mu x,dU P g mu y with
  |some c',some x',some y'=>some (.oD c' ps.toList x' y')
  |_,_,_=>none
 |_=>none
theorem gl {P:Program} {g:bB} {mu:Bool}:∀{c:Code} {b:cD},eQ P g mu c=some b->dU P g mu c=some b:=by
 intro c
 induction c with
 |region k ops d=>
  intro b h
  cases d with
  |false=>exact h
  |true=>
   simp only[eQ] at h;simp only[dU];split at h
   · rename_i rl VM;split at h
     · cases h;rw[VM];rfl
     cases h
   cases h
 |seq a b qR uM=>
  intro r h;simp only[eQ] at h;split at h
  · rename_i x y hx hy;simp only[dU,qR hx,uM hy];exact h
  cases h
 |cond c a b qR uM=>
  intro r h;simp only[eQ] at h;split at h
  · rename_i z x y hz hx hy;simp only[dU,hz,qR hx,uM hy];exact h
  cases h
 |block i a qR=>intro r h;simp only[eQ,Ag] at h;obtain⟨x,hx,rfl⟩:=h;simp only[dU,qR hx,Bz]
 |loop a qR=>intro r h;simp only[eQ,Ag] at h;obtain⟨x,hx,rfl⟩:=h;simp only[dU,qR hx,Bz]
 |scope a qR=>intro r h;simp only[eQ] at h;simp only[dU];exact qR h
 |rangeFunc c ps x y ihx ihy=>
  intro r h;simp only[eQ] at h;split at h
  · rename_i c' x' y' hc hx hy;split at h
    · simp only[dU,hc,ihx hx,ihy hy];exact h
    cases h
  cases h
 |_=>intro r h;first|exact h|cases h
def mkX (P:Program) (g:bB) (mu:Bool) (fn:Go.Func):Option BR:=
 match fn.body with
 |none=>none
 |some c=>match dU P g mu c,uU P fn.results.toList with
  |some b,some r=>some ⟨fn.ntmps,r,b⟩
  |_,_=>none
theorem zh {P:Program} {g:bB} {mu:Bool} {fn:Go.Func} {F:BR} (h:(LA P g mu fn).isSome=true) (hx:mkX P g mu fn=some F):LA P g mu fn=some F:=by
 cases hm:LA P g mu fn with
 |none=>rw[hm] at h;cases h
 |some G=>
  have e:mkX P g mu fn=some G:=by
   unfold LA at hm;unfold mkX
   cases hc:fn.body with
   |none=>rw[hc] at hm;cases hm
   |some c=>
    rw[hc] at hm;simp only at hm ⊢;split at hm
    · rename_i b r hb hr;rw[gl hb,hr];exact hm
    cases hm
  rw[e] at hx;exact hx
def sqO:Option cD->Option cD->Option cD
 |some x,some y=>some (.seq x y)
 |_,_=>none
def cdO (c:Option Arg):Option cD->Option cD->Option cD
 |some x,some y=>match c with
  |some z=>some (.cond z x y)
  |none=>none
 |_,_=>none
theorem ax (P:Program) (g:bB) (mu:Bool):(∀a b,dU P g mu (.seq a b)=sqO (dU P g mu a) (dU P g mu b))/\(∀c a b,dU P g mu (.cond c a b)=cdO (bJ g c) (dU P g mu a) (dU P g mu b))/\
 (∀i a,dU P g mu (.block i a)=(dU P g mu a).map (.block i))/\(∀a,dU P g mu (.loop a)=(dU P g mu a).map .loop)/\(∀a,dU P g mu (.scope a)=dU P g mu a)/\
 (∀k ops,dU P g mu (.region k ops false)=(lY P g mu ops ops.toList).map .ops)/\(∀k ops,dU P g mu (.region k ops true)=(lY P g mu ops ops.toList).map fun rl=>.draw rl (sW rl (Region.before ops).toList)):=by
 refine⟨fun a b=>?_,fun c a b=>?_,fun i a=>rfl,fun a=>rfl,fun a=>rfl,fun k ops=>rfl,fun k ops=>rfl⟩
 · conv=>lhs;unfold dU
   unfold sqO;cases dU P g mu a<;>cases dU P g mu b<;>rfl
 conv=>lhs;unfold dU
 unfold cdO;cases bJ g c<;>cases dU P g mu a<;>cases dU P g mu b<;>rfl
theorem iZ {g:bB} {mu:Bool} {f:FuncId} {fn:Go.Func} {F:BR} (h1:P.funcs[f]?=some fn) (h2:(fn.name== "runtime.NumGoroutine")=false) (h:LA P g mu fn=some F):kP P g mu f F:=by
 unfold LA at h;split at h
 · cases h
 rename_i c hc;split at h
 · rename_i b r hb hr;cases h;exact⟨fn,c,h1,hc,h2,hb,rfl,hr⟩
 cases h
end
end
section
def bD.rJ (o:bD):Bool:=match o.op with|.lC _ _=>false|_=>true
def cD.rJ:cD->Bool
 |.ops rl=>rl.all bD.rJ
 |.seq a b|.cond _ a b=>a.rJ&&b.rJ
 |.block _ a|.loop a=>a.rJ
 |.oD _ _ _ _=>false
 |_=>true
def cD.wr:cD->List Nat
 |.ops rl|.draw rl _=>rl.filterMap (·.dst)
 |.seq a b|.cond _ a b=>a.wr++b.wr
 |.block _ a|.loop a=>a.wr
 |_=>[]
def sU (t:Nat):List Nat->Bool
 |[]=>false
 |x::l=>Nat.beq t x||sU t l
theorem Vd {t:Nat}:∀{l:List Nat},sU t l=true↔t∈l
 |[]=>by simp[sU]
 |x::l=>by simp[sU,Vd]
theorem rH {t:Nat} {l:List Nat}:sU t l=false↔t∉l:=by rw[<-Vd];simp
def jS (W:List Nat) (f0 f:dD):Prop:=∀t,sU t W=false->f t=f0 t
theorem jS.aAt {W:List Nat} {f:dD}:jS W f f:=fun _ _=>rfl
def Kp (W:List Nat) (f0:dD) (nd:Bool) (ds0:List gH) (f:dD) (ds:List gH):Prop:=jS W f0 f/\(nd=true->ds=ds0)
theorem jS.put {W:List Nat} {f0 f:dD} {n:Nat} (h:jS W f0 f) (dst:Option Nat) (hd:∀d,dst=some d->d∈W) (v:AV):jS W f0 (fN n f dst v):=by
 cases dst with
 |none=>exact h
 |some d=>
  intro t ht
  have cK:t≠d:=fun e=>by subst e;exact rH.1 ht (hd _ rfl)
  simp only[fN];split
  · rw[oI _ _ cK];exact h t ht
  exact h t ht
section
variable {P:Program} {g:bB} {n:Nat} {W:List Nat} {f0:dD} {nd:Bool} {ds0:List gH}
theorem fq {rl:List bD}:∀{f:dD} {ds:List gH} {H:aA} {Q:FQ},(∀o∈rl,∀d,o.dst=some d->d∈W)->(nd=true->rl.all bD.rJ=true)->Kp W f0 nd ds0 f ds->
 bY P g n rl f ds H Q->bY P g n rl f ds H (fun e f' fO H'=>Kp W f0 nd ds0 f' fO/\Q e f' fO H'):=by
 induction rl with
 |nil=>exact fun _ _ hk h=>⟨hk,h⟩
 |cons o r ih=>
  intro f ds H Q hw hn hk h;have lM:=fun o ho=>hw o (Ay _ ho)
  have JZ:nd=true->r.all bD.rJ=true:=fun e=>by have :=hn e;simp only[Ho,Am] at this;exact this.2
  have FD:∀v,Kp W f0 nd ds0 (fN n f o.dst v) ds:=fun v=>⟨hk.1.put _ (hw o Ax) v,hk.2⟩;unfold bY at h ⊢;split
  · rename_i QK;rw[if_pos QK] at h;split at h
    · obtain⟨out,H',h1,h3⟩:=h;refine⟨out,H',h1,?_⟩
      cases out with
      |ret v=>exact ih lM JZ (FD v) h3
      |KC v=>exact⟨hk,h3⟩
    · obtain⟨t,v,h1,h2⟩:=h;exact⟨t,v,h1,hk,h2⟩
    · rename_i c az fP;obtain⟨p,h1,h2⟩:=h;refine⟨p,h1,ih lM JZ ⟨(FD _).1,fun e=>?_⟩ h2⟩;have :=hn e;simp only[Ho,Am] at this;have h3:=this.1;rw[bD.rJ,fP] at h3;cases h3
    · obtain⟨m,es,h1,h2,h3⟩:=h;exact⟨m,es,h1,h2,fun bs c mb k1 k2=>ih lM JZ (FD _) (h3 bs c mb k1 k2)⟩
    · obtain⟨it,m,mb,c,seen,es,bs,h1,h2,h3,h4,h5⟩:=h;exact⟨it,m,mb,c,seen,es,bs,h1,h2,h3,fun k=>ih lM JZ (FD _) (h4 k),fun j k1 k2=>ih lM JZ (FD _) (h5 j k1 k2)⟩
    · obtain⟨it,m,mb,c,seen,es,bs,j,h1,h2,h3,h4,h5⟩:=h;exact⟨it,m,mb,c,seen,es,bs,j,h1,h2,h3,h4,ih lM JZ (FD _) h5⟩
    unfold mF at h ⊢;split at h
    · exact ih lM JZ (FD _) h
    exact h.elim
  rename_i QK;rw[if_neg QK] at h;exact ih lM JZ (FD _) h
theorem sk {pairs:List (Nat×Nat)} {base:Nat} {rl:List bD}:∀{i k:Nat} {rd:List (Nat×Nat)} {ef:List (Nat×aA×aA)} {f:dD} {H:aA} {Q:dD->aA->Prop},(∀o∈rl,∀d,o.dst=some d->d∈W)->jS W f0 f->
 XA P g n pairs base i k rl rd ef f H Q->XA P g n pairs base i k rl rd ef f H (fun f' H'=>jS W f0 f'/\Q f' H'):=by
 induction rl with
 |nil=>exact fun _ hk h=>⟨hk,h⟩
 |cons r rs ih=>
  intro i k rd ef f H Q hw hk h;have lM:=fun o ho=>hw o (Ay _ ho);have FD:∀v,jS W f0 (fN n f r.dst v):=fun v=>hk.put _ (hw r Ax) v;unfold XA at h ⊢;split
  · rename_i QK;rw[if_pos QK] at h;split
    · rename_i hf;rw[if_pos hf] at h;obtain⟨ob,val,h1,h2,h3⟩:=h;exact⟨ob,val,h1,h2,ih lM (FD _) h3⟩
    rename_i hf;rw[if_neg hf] at h;split
    · rename_i he;rw[if_pos he] at h;obtain⟨v,H',h1,h2,h3,h4⟩:=h;exact⟨v,H',h1,h2,h3,ih lM (FD _) h4⟩
    rename_i he;rw[if_neg he] at h;obtain⟨v,h1,h2,h3⟩:=h;exact⟨v,h1,h2,ih lM (FD _) h3⟩
  rename_i QK;rw[if_neg QK] at h;exact ih lM (FD _) h
theorem zg {rl:List bD} (hw:∀d∈rl.filterMap (·.dst),d∈W):∀o∈rl,∀d,o.dst=some d->d∈W:=fun o ho d hd=>hw d (List.mem_filterMap.2 ⟨o,ho,hd⟩)
theorem si {c:cD}:∀{f:dD} {ds:List gH} {H:aA} {Q:FQ},(∀d∈c.wr,d∈W)->(nd=true->c.rJ=true)->Kp W f0 nd ds0 f ds->FC P g n c f ds H Q->FC P g n c f ds H (fun e f' fO H'=>Kp W f0 nd ds0 f' fO/\Q e f' fO H'):=by
 induction c with
 |skip=>exact fun _ _ hk h=>⟨hk,h⟩
 |ops rl=>exact fun hw hn hk h=>fq (zg hw) hn hk h
 |draw rl pairs=>exact fun hw _ hk h=>h.imp (fun h=>⟨h.1,UM (fun _ _ h=>⟨⟨h.1,hk.2⟩,h.2⟩) (sk (zg hw) hk.1 h.2)⟩) fun h hb=>let⟨x,f',H',h1,h2,h3,h4⟩:=h hb;⟨x,f',H',h1,h2,h3,⟨fun t ht=>(h3 t fun hm=>rH.1 ht (hw t hm)).trans (hk.1 t ht),hk.2⟩,h4⟩
 |seq a b qR uM=>
  intro f ds H Q hw hn hk h;simp only[cD.wr,An] at hw;simp only[cD.rJ,Am] at hn;show FC P g n a f ds H _;refine iY (fun e f ds H h=>?_) (qR (fun d hd=>hw d (.inl hd)) (fun e=>(hn e).1) hk h)
  cases e with
  |normal=>exact uM (fun d hd=>hw d (.inr hd)) (fun e=>(hn e).2) h.1 h.2
  |_=>exact h
 |cond c a b qR uM=>
  intro f ds H Q hw hn hk h;simp only[cD.wr,An] at hw;simp only[cD.rJ,Am] at hn;obtain⟨t,h1,h2⟩:=h;refine⟨t,h1,?_⟩
  cases t with
  |true=>exact qR (fun d hd=>hw d (.inl hd)) (fun e=>(hn e).1) hk h2
  |false=>exact uM (fun d hd=>hw d (.inr hd)) (fun e=>(hn e).2) hk h2
 |block id a ih=>
  intro f ds H Q hw hn hk h;show FC P g n a f ds H _;refine iY (fun e f ds H h=>?_) (ih hw hn hk h)
  cases e with
  |exit i=>
   obtain⟨h0,h⟩:=h;simp only[dN] at h ⊢;split
   · rename_i hi;rw[if_pos hi] at h;exact⟨h0,h⟩
   rename_i hi;rw[if_neg hi] at h;exact⟨h0,h⟩
  |_=>exact h
 |loop a ih=>
  intro f ds H Q hw hn hk h;obtain⟨I,m,h0,hI⟩:=h;refine⟨fun m f ds H=>Kp W f0 nd ds0 f ds/\I m f ds H,m,⟨hk,h0⟩,fun m f ds H hi=>iY (fun e f ds H h=>?_) (ih hw hn hi.1 (hI m f ds H hi.2))⟩
  cases e with
  |normal=>obtain⟨h1,k,hk,hi⟩:=h;exact⟨k,hk,h1,hi⟩
  |_=>exact h
 |exit id=>exact fun _ _ hk h=>⟨hk,h⟩
 |ret=>exact fun _ _ hk h=>⟨hk,h⟩
 |oD c ps a b qR uM=>
  intro f ds H Q hw hn hk h;obtain⟨pS,fs,cs,v,He,k',s',st,Hf,h1,h2,h3,h4,h5⟩:=h;have rF:∀pA,Kp W f0 nd ds0 f pA:=fun pA=>⟨hk.1,fun e=>by cases hn e⟩;refine⟨pS,fs,cs,v,He,k',s',st,Hf,h1,h2,h3,h4,?_⟩
  cases st with
  |ready=>exact⟨rF _,h5⟩
  |done e=>cases e<;>exact⟨rF _,h5⟩
  |busy=>exact h5.elim
  |over _=>exact h5.elim
theorem GJ {c:cD} {f:dD} {ds:List gH} {H:aA} {Q:FQ} (h:FC P g n c f ds H Q):FC P g n c f ds H (fun e f' fO H'=>jS c.wr f f'/\(c.rJ=true->fO=ds)/\Q e f' fO H'):=
 iY (fun _ _ _ _ h=>⟨h.1.1,h.1.2,h.2⟩) (si (nd:=c.rJ) (ds0:=ds) (fun _ h=>h) id ⟨.aAt,fun _=>rfl⟩ h)
theorem jS.trans {W:List Nat} {f f' Qs:dD} (h:jS W f f') (h':jS W f' Qs):jS W f Qs:=fun t ht=>(h' t ht).trans (h t ht)
theorem jS.sub {W W':List Nat} {f f':dD} (h:jS W' f f') (hs:∀d∈W',d∈W):jS W f f':=fun t ht=>h t (rH.2 fun hm=>rH.1 ht (hs t hm))
theorem iG {a:cD} {f:dD} {ds:List gH} {H:aA} {Q:FQ} (cs:List Nat) (I:Nat->List AV->aA->Prop) (m:Nat) (hn:a.rJ=true) (h0:I m (cs.map f) H)
 (h:∀m f' H',jS a.wr f f'->I m (cs.map f') H'->FC P g n a f' ds H' (gZ (fun Qs _ GM=>∃k,k<m/\I k (cs.map Qs) GM) Q)):FC P g n (.loop a) f ds H Q:=by
 refine⟨fun m f' fO H'=>jS a.wr f f'/\fO=ds/\I m (cs.map f') H',m,⟨.aAt,rfl,h0⟩,?_⟩;rintro m f' fO H' ⟨hk,rfl,hi⟩;refine iY (fun e f2 Qn H2 hh=>?_) (GJ (h m f' H' hk hi));obtain⟨h1,h2,h3⟩:=hh
 cases e with
 |normal=>obtain⟨k,dP,Pc⟩:=h3;exact⟨k,dP,hk.trans h1,h2 hn,Pc⟩
 |_=>exact h3
def bBv (n cmp ix ln nx:Nat) (cs:List Nat) (B:cD):Bool:=
 Nat.blt cmp n&&Nat.blt ix n&&Nat.blt nx n&& !Nat.beq cmp ix&& !Nat.beq cmp ln&& !Nat.beq nx ix&& !Nat.beq nx ln&& !Nat.beq ix ln&& !sU cmp cs&& !sU ix cs&& !sU nx cs&& !sU ix B.wr&& !sU ln B.wr&&B.rJ
theorem IY {cs:List Nat} {f:dD} {d:Nat} {v:AV} (h:sU d cs=false):cs.map (jM f d v)=cs.map f:=
 Ej fun t ht=>oI f v fun e=>rH.1 h (e▸ht)
def UC (cmp ix nx:Nat) (B:cD):List Nat:=cmp::nx::ix::B.wr
theorem bO {id cmp ix ln nx:Nat} {B:cD} {f:dD} {ds:List gH} {H:aA} {Q:FQ} (cs:List Nat) (J:Nat->List AV->aA->Prop) (N:Nat) (hN:(N:Int)<2^63)
 (hs:bBv n cmp ix ln nx cs B=true) (h1:f ix=.int .i64 0) (h2:f ln=.int .i64 N) (h0:J 0 (cs.map f) H)
 (body:∀(i:Nat) (f':dD) (H':aA),i<N->jS (UC cmp ix nx B) f f'->f' ix=.int .i64 i->J i (cs.map f') H'->FC P g n B f' ds H' (gZ (fun Qs _ GM=>J (i+1) (cs.map Qs) GM) (dN id Q)))
 (done:∀(f':dD) (H':aA),jS (UC cmp ix nx B) f f'->J N (cs.map f') H'->Q .normal f' ds H'):
 FC P g n (.block id (.loop (.seq (.ops [⟨some cmp,.bin .lss (.tmp ix) (.tmp ln),none⟩]) (.seq (.cond (.tmp cmp) .skip (.exit id)) (.seq B
  (.ops [⟨some nx,.bin .add (.tmp ix) (.const (.int .i64 1)),none⟩,⟨some ix,.TM (.tmp nx),none⟩])))))) f ds H Q:=by
 simp only[bBv,Am,Cp,Gr] at hs;obtain⟨⟨⟨⟨⟨⟨⟨⟨⟨⟨⟨⟨⟨s1,s2⟩,s3⟩,s4⟩,s5⟩,s6⟩,s7⟩,s8⟩,c1⟩,c2⟩,c3⟩,b1⟩,b2⟩,b3⟩:=hs;have ne:∀{a b:Nat},Nat.beq a b=false->a≠b:=fun h e=>by subst e;simp at h
 have kpU:∀{f':dD} {d:Nat} {v:AV},d∈UC cmp ix nx B->jS (UC cmp ix nx B) f f'->jS (UC cmp ix nx B) f (jM f' d v):=fun {f' d v} hd hk t ht=>by have cK:t≠d:=fun e=>rH.1 ht (by rw[e];exact hd);rw[oI _ _ cK];exact hk t ht
 refine sj (id:=id) (cmp:=cmp) (ix:=ix) (ln:=ln) (nx:=nx) (B:=B) (fun i f' H'=>jS (UC cmp ix nx B) f f'/\J i (cs.map f') H') N hN ⟨s1,s2,s3,ne s4,ne s5,ne s6,ne s7,ne s8⟩ h1 h2 ⟨.aAt,h0⟩ ?_ ?_ ?_
 · rintro i f' H' d v hd ⟨hk,hj⟩
   have hm:sU d cs=false/\d∈UC cmp ix nx B:=(by rcases hd with rfl|rfl|rfl<;>simp[c1,c2,c3,UC]);exact⟨kpU hm.2 hk,by rw[IY hm.1];exact hj⟩
 · rintro i f' H' hi e1 e2 ⟨hk,hj⟩;refine iY (fun e f2 Qn H2 hh=>?_) (GJ (body i f' H' hi hk e1 hj));obtain⟨k1,k2,k3⟩:=hh
   cases e with
   |normal=>exact⟨k2 b3,by rw[k1 _ b1];exact e1,by rw[k1 _ b2];exact e2,hk.trans (k1.sub fun d hd=>by simp[UC,hd]),k3⟩
   |_=>exact k3
 rintro f' H' e2 ⟨hk,hj⟩;exact done f' H' hk hj
def bBs (n cmp ix nx:Nat) (cs:List Nat) (B:cD):Bool:=
 Nat.blt cmp n&&Nat.blt ix n&&Nat.blt nx n&& !Nat.beq cmp ix&& !Nat.beq nx ix&& !sU cmp cs&& !sU ix cs&& !sU nx cs&& !sU ix B.wr&&B.rJ
theorem fJ {id cmp ix nx:Nat} {N':Int} {B:cD} {f:dD} {ds:List gH} {H:aA} {Q:FQ} (cs:List Nat) (J:Nat->List AV->aA->Prop) (N:Nat) (hN:(N:Int)<2^63) (hNN:N'=(N:Int))
 (hs:bBs n cmp ix nx cs B=true) (h1:f ix=.int .i64 0) (h0:J 0 (cs.map f) H)
 (body:∀(i:Nat) (f':dD) (H':aA),i<N->jS (UC cmp ix nx B) f f'->f' ix=.int .i64 i->J i (cs.map f') H'->FC P g n B f' ds H' (gZ (fun Qs _ GM=>J (i+1) (cs.map Qs) GM) (dN id Q)))
 (done:∀(f':dD) (H':aA),jS (UC cmp ix nx B) f f'->J N (cs.map f') H'->Q .normal f' ds H'):
 FC P g n (.block id (.loop (.seq (.ops [⟨some cmp,.bin .lss (.tmp ix) (.const (.int .i64 N')),none⟩]) (.seq (.cond (.tmp cmp) .skip (.exit id)) (.seq B
  (.ops [⟨some nx,.bin .add (.tmp ix) (.const (.int .i64 1)),none⟩,⟨some ix,.TM (.tmp nx),none⟩])))))) f ds H Q:=by
 simp only[bBs,Am,Cp,Gr] at hs;obtain⟨⟨⟨⟨⟨⟨⟨⟨⟨s1,s2⟩,s3⟩,s4⟩,s6⟩,c1⟩,c2⟩,c3⟩,b1⟩,b3⟩:=hs;have ne:∀{a b:Nat},Nat.beq a b=false->a≠b:=fun h e=>by subst e;simp at h
 have kpU:∀{f':dD} {d:Nat} {v:AV},d∈UC cmp ix nx B->jS (UC cmp ix nx B) f f'->jS (UC cmp ix nx B) f (jM f' d v):=fun {f' d v} hd hk t ht=>by have cK:t≠d:=fun e=>rH.1 ht (by rw[e];exact hd);rw[oI _ _ cK];exact hk t ht
 refine ff (id:=id) (cmp:=cmp) (ix:=ix) (nx:=nx) (B:=B) (fun i f' H'=>jS (UC cmp ix nx B) f f'/\J i (cs.map f') H') N hN hNN ⟨s1,s2,s3,ne s4,ne s6⟩ h1 ⟨.aAt,h0⟩ ?_ ?_ ?_
 · rintro i f' H' d v hd ⟨hk,hj⟩
   have hm:sU d cs=false/\d∈UC cmp ix nx B:=(by rcases hd with rfl|rfl|rfl<;>simp[c1,c2,c3,UC]);exact⟨kpU hm.2 hk,by rw[IY hm.1];exact hj⟩
 · rintro i f' H' hi e1 ⟨hk,hj⟩;refine iY (fun e f2 Qn H2 hh=>?_) (GJ (body i f' H' hi hk e1 hj));obtain⟨k1,k2,k3⟩:=hh
   cases e with
   |normal=>exact⟨k2 b3,by rw[k1 _ b1];exact e1,hk.trans (k1.sub fun d hd=>by simp[UC,hd]),k3⟩
   |_=>exact k3
 rintro f' H' ⟨hk,hj⟩;exact done f' H' hk hj
theorem ZE {nw tag:Nat} (h:Nat.blt tag 2=true):FW none nw tag=tag:=by
 rw[Gr] at h
 match tag,h with
 |0,_=>rfl
 |1,_=>rfl
theorem xG {H:aA} {nw:Nat} {v:AV} (h:v.free=true):gK H none nw 0 v=some v:=by
 have key:fU H none nw v=some v:=by
  cases v<;>first
   |(simp only[AV.free] at h;cases h;done)
   |(simp only[AV.free,Am] at h;simp only[fU,h.2,ZE h.1];done)
   |(simp only[fU,h])
 cases v<;>exact key
theorem dL {mu:Bool} (hm:Fit P g) (hg:CZ g) {k:FuncId} {F:BR} (hF:kP P g mu k F) {args:List AV} {v':AV} (hl:args.length<=F.ntmps) (ha:bL args=true)
 (h:FC P g F.ntmps F.body (fG args) [] ⟨0,.nil⟩ (MZ F.results fun o H2=>∃v n,o=.ret v/\∀nw,gK H2 none nw n v=some v')) (H:aA):Sound P g k args H (.ret v') H:=by
 refine(GQ hm hF (rf hl h)).frame hg ha H fun out H2 hR=>?_;obtain⟨v,n,rfl,hs⟩:=hR;exact⟨none,n,v',fun k hk=>(by cases hk),hs _,rfl,rfl⟩
theorem Rp {rs:List GH} {R R':Out->aA->Prop} (h:∀o H,R o H->R' o H) {e:AEx} {f:dD} {ds:List gH} {H:aA} (hr:MZ rs R e f ds H):MZ rs R' e f ds H:=by
 cases e with
 |normal=>obtain⟨h1,vs,h2,h3⟩:=hr;exact⟨h1,vs,h2,h _ _ h3⟩
 |ret=>obtain⟨h1,vs,h2,h3⟩:=hr;exact⟨h1,vs,h2,h _ _ h3⟩
 |panic v=>obtain⟨h1,h3⟩:=hr;exact⟨h1,h _ _ h3⟩
 |exit _=>exact hr
theorem EF {mu:Bool} (hm:Fit P g) (hg:CZ g) {k:FuncId} {F:BR} (hF:kP P g mu k F) {args:List AV} {v:AV} (hl:args.length<=F.ntmps) (ha:bL args=true) (hv:v.free=true)
 (h:FC P g F.ntmps F.body (fG args) [] ⟨0,.nil⟩ (MZ F.results fun o _=>o=.ret v)) (H:aA):Sound P g k args H (.ret v) H:=
 dL hm hg hF hl ha (iY (fun _ _ _ _=>Rp fun o H2 e=>⟨v,0,e,fun _=>xG hv⟩) h) H
end
end
end Go.Av
namespace Go.sK
def W:Nat:=4294967296
theorem NH:0<W:=by decide
theorem lQ (k:Nat):0<W^k:=Nat.pow_pos NH
def bF (n k:Nat):Nat:=n / W^k%W
theorem jQ (n k:Nat):bF n k<W:=Dg _ NH
theorem mod_succ (n k:Nat):n%W^(k+1)=n%W^k+W^k*bF n k:=Nat.mod_pow_succ
theorem CD {n k:Nat} (h:n<W^k):bF n k=0:=by unfold bF;rw[Ei h];rfl
theorem RU {n m k:Nat} (h:n<W^m) (hk:m<=k):bF n k=0:=
 CD (Ca h (Ds NH hk))
def cr (a b k:Nat):Nat:=(a%W^k+b%W^k) / W^k
theorem aEb (a b:Nat):cr a b 0=0:=by simp[cr,Nat.mod_one]
theorem aEa (a b k:Nat):cr a b (k+1)=(cr a b k+bF a k+bF b k) / W:=by
 unfold cr;rw[mod_succ,mod_succ,Eh,<-Ig];congr 1
 rw[show a%W^k+W^k*bF a k+(b%W^k+W^k*bF b k)=a%W^k+b%W^k+W^k*(bF a k+bF b k) by rw[Er];omega,
  Hc _ _ (lQ k)]
 omega
theorem aIg (a b k:Nat):cr a b k<=1:=by unfold cr;have h1:=Dg a (lQ k);have h2:=Dg b (lQ k);have :(a%W^k+b%W^k) / W^k<2:=(Ea (lQ k)).2 (by omega);omega
theorem XZ (a b k:Nat):(a+b) / W^k=a / W^k+b / W^k+cr a b k:=by
 unfold cr;have h1:=Fj a (W^k);have h2:=Fj b (W^k);have :a+b=a%W^k+b%W^k+W^k*(a / W^k+b / W^k):=by rw[Er];omega
 rw[this,Hc _ _ (lQ k)];omega
theorem yz (a b k:Nat):bF (a+b) k=(cr a b k+bF a k+bF b k)%W:=by unfold bF;rw[XZ];simp only[W];omega
theorem aPz {a b k:Nat} (ha:a<W^k) (hb:b<W^k):cr a b k=if a+b<W^k then 0 else 1:=by
 have h:=aIg a b k;unfold cr at *;rw[Db ha,Db hb] at *;split
 · rename_i hl;exact Ei hl
 rename_i hl;have :=Nat.div_pos (show W^k<=a+b by omega) (lQ k);omega
def bw (a b k:Nat):Nat:=if a%W^k<b%W^k then 1 else 0
theorem aDq (a b:Nat):bw a b 0=0:=by simp[bw,Nat.mod_one]
theorem aDp (a b k:Nat):bw a b (k+1)=if bF a k<bF b k+bw a b k then 1 else 0:=by
 unfold bw;rw[mod_succ,mod_succ];have h1:=Dg a (lQ k);have h2:=Dg b (lQ k);generalize a%W^k=r at *;generalize b%W^k=s at *;generalize bF a k=x;generalize bF b k=y;generalize W^k=P at *
 rcases Ji x y with h|h|h
 · have :P*(x+1)<=P*y:=Ev P h;rw[Er,Dt] at this;rw[if_pos (by omega),if_pos (by omega)]
 · subst h;split<;>split<;>(try split at *)<;>omega
 have :P*(y+1)<=P*x:=Ev P h;rw[Er,Dt] at this;rw[if_neg (by omega),if_neg (by split<;>omega)]
theorem za {a b:Nat} (h:b<=a) (k:Nat):(bF (a -b) k:Int)=((bF a k:Int) -bF b k -bw a b k)%(W:Int):=by
 have h1:=Fj a (W^k);have h2:=Fj b (W^k);have l1:=Dg a (lQ k);have l2:=Dg b (lQ k)
 have e:((a -b) / W^k:Nat)=a / W^k -b / W^k -bw a b k/\b / W^k+bw a b k<=a / W^k:=by
  unfold bw;generalize a%W^k=r at *;generalize b%W^k=s at *;generalize a / W^k=x at *;generalize b / W^k=y at *;generalize hP:W^k=P at *;have hPp:0<P:=hP▸lQ k
  have hxy:y<=x:=by
   rcases Gd x y with hc|hc
   · have :P*(x+1)<=P*y:=Ev P hc;rw[Er,Dt] at this;omega
   exact hc
  split
  · rename_i hrs;have cK:y≠x:=fun e=>by subst e;omega
    have hm:P*(x -y -1)=P*x -P*y -P:=(by rw[Nat.mul_sub,Nat.mul_sub,Dt]);have hm2:P*(y+1)<=P*x:=Ev P (by omega);rw[Er,Dt] at hm2;refine⟨?_,by omega⟩;have :a -b=(r+P -s)+P*(x -y -1):=(by omega);rw[this,Hc _ _ hPp,Ei (by omega)];omega
  have hm:P*(x -y)=P*x -P*y:=Nat.mul_sub ..;have hm2:P*y<=P*x:=Ev P hxy;refine⟨?_,by omega⟩;have :a -b=(r -s)+P*(x -y):=by omega
  rw[this,Hc _ _ hPp,Ei (by omega)];omega
 unfold bF;rw[e.1];have :=e.2;simp only[W] at *;omega
theorem HE (a k:Nat):a / W^k=a / W^(k+1)*W+bF a k:=by unfold bF;rw[Eh,<-Ig];have :=Fj (a / W^k) W;rw[Dk] at this;omega
theorem Qq {a b k:Nat} (h:a / W^(k+1)=b / W^(k+1)) (hk:bF a k=bF b k):a / W^k=b / W^k:=by rw[HE a,HE b,h,hk]
theorem OW {a b k:Nat} (h:a / W^(k+1)=b / W^(k+1)) (hk:bF a k<bF b k):a<b:=by
 have h1:a / W^k<b / W^k:=by rw[HE a,HE b,h];omega
 rcases Gd a b with h2|h2
 · exact h2
 have :=Nat.div_le_div_right (c:=W^k) h2;omega
theorem Ul {a b m:Nat} (ha:a<W^m) (hb:b<W^m) (h:∀k,k<m->bF a k=bF b k):a=b:=by
 have :∀j,j<=m->a / W^(m -j)=b / W^(m -j):=by
  intro j
  induction j with
  |zero=>intro _;rw[Ic,Ei ha,Ei hb]
  |succ j ih=>intro hj;refine Qq (k:=m -(j+1)) ?_ (h _ (by omega));rw[show m -(j+1)+1=m -j by omega];exact ih (by omega)
 have :=this m (Ak _);simpa using this
def CF:List Nat->Nat
 |[]=>0
 |x::l=>x+W*CF l
theorem TQ:∀(l:List Nat),(∀x∈l,x<W)->CF l<W^l.length
 |[],_=>by decide
 |x::l,h=>by have h1:=TQ l fun y hy=>h y (by simp[hy]);have h2:=h x (by simp);simp only[CF,Aq,Eh];have :W*(CF l+1)<=W*W^l.length:=Ev W h1;rw[Er,Dt] at this;rw[Dk (W^l.length)];omega
theorem IS:∀(l:List Nat) (k:Nat),(∀x∈l,x<W)->bF (CF l) k=l.getD k 0
 |[],k,_=>by simp[CF,bF]
 |x::l,0,h=>by have :=h x (by simp);simp only[CF,bF,Nat.pow_zero,Nat.div_one,Dn];rw[Nat.add_mul_mod_self_left,Db this]
 |x::l,k+1,h=>by have h1:=h x (by simp);have h2:=IS l k fun y hy=>h y (by simp[hy]);rw[Ge,<-h2];simp only[CF,bF];rw[Eh,Dk (W^k),<-Ig,Hc _ _ NH,Ei h1,Cv]
def bC (m n:Nat):List Nat:=(List.range m).map (bF n)
theorem cM (m n:Nat):(bC m n).length=m:=by simp[bC]
theorem kM {m n k:Nat} (h:k<m):(bC m n).getD k 0=bF n k:=by simp[bC,List.getD,h]
theorem IT {m n:Nat}:∀x∈bC m n,x<W:=by intro x hx;simp only[bC,Bf] at hx;obtain⟨k,_,rfl⟩:=hx;exact jQ _ _
theorem iX {m n:Nat} (h:n<W^m):CF (bC m n)=n:=by
 refine Ul (m:=m) ?_ h fun k hk=>?_
 · have :=TQ (bC m n) IT
   rwa [cM] at this
 rw[IS _ _ IT,kM hk]
theorem RV {l:List Nat} (h:∀x∈l,x<W):bC l.length (CF l)=l:=by refine Gj (by simp[bC]) fun k h1 h2=>?_;simp only[bC,Ch,Ht];rw[IS _ _ h];simp[List.getD,h2]
def dv:Nat->Nat->Nat
 |0,_=>0
 |k+1,a=>if bF a k=0 then dv k a else k+1
def sz (a:Nat):Nat:=dv 16 a
theorem ZC:∀k a,dv k a<=k
 |0,_=>Ak _
 |k+1,a=>by
  unfold dv;split
  · exact Nat.le_succ_of_le (ZC k a)
  exact Ak _
theorem ZD:∀k a,a<W^k->a<W^dv k a
 |0,_,h=>h
 |k+1,a,h=>by
  unfold dv;split
  · rename_i hl;refine ZD k a ?_;unfold bF at hl;have h1:a / W^k<W:=by rw[Ea (lQ k),Dk,<-Eh];exact h
    rw[Db h1] at hl
    rcases Gd a (W^k) with h2|h2
    · exact h2
    have :=Nat.div_pos h2 (lQ k);omega
  exact h
theorem My:∀k a,dv k a=0\/bF a (dv k a -1)≠0
 |0,_=>.inl rfl
 |k+1,a=>by
  unfold dv;split
  · exact My k a
  exact .inr (by simpa)
theorem dw {a:Nat} (h:a<W^16):a<W^sz a:=ZD 16 a h
theorem aBx (a:Nat):sz a<=16:=ZC 16 a
theorem aHo {a:Nat} (h:a<W^16):sz a=0↔a=0:=by
 constructor
 · intro e;have :=dw h;rw[e] at this;simpa using this
 rintro rfl;decide
theorem bo {a k:Nat} (h:bF a k≠0):W^k<=a:=by
 rcases Gd a (W^k) with h1|h1
 · exact absurd (CD h1) h
 exact h1
theorem bCa {a:Nat} (h:sz a≠0):W^(sz a -1)<=a:=by
 rcases My 16 a with h1|h1
 · exact absurd h1 h
 exact bo h1
def fF (a:Nat):Nat:=if a=0 then 0 else Nat.log2 a+1
theorem oK {a n:Nat}:fF a<=n↔a<2^n:=by
 unfold fF;split
 · rename_i h;subst h;simp[Nat.pow_pos]
 rename_i h;rw[<-Nat.log2_lt h];omega
theorem ia {a n:Nat} (h1:a<2^(n+1)) (h2:2^n<=a):fF a=n+1:=by
 have a1:fF a<=n+1:=oK.2 h1;have a2:¬fF a<=n:=fun h=>by have :=oK.1 h;omega
 omega
theorem sL {a k:Nat} (h:a / 2^k≠0):fF a=fF (a / 2^k)+k:=by
 obtain⟨n,hn⟩:∃n,fF (a / 2^k)=n+1:=⟨Nat.log2 (a / 2^k),by unfold fF;rw[if_neg h]⟩;have h1:a / 2^k<2^(n+1):=oK.1 (by omega);have h2:¬a / 2^k<2^n:=fun h=>by have :=oK.2 h;omega
 rw[hn,show n+1+k=(n+k)+1 by omega];refine ia ?_ ?_
 · rw[Ea (Nat.pow_pos (by decide))] at h1
   rwa [show n+k+1=n+1+k by omega,Ka]
 rw[Ea (Nat.pow_pos (by decide))] at h2;rw[Ka];omega
theorem ic {a:Nat} (h:a<W^16) (h0:sz a≠0):fF a=32*(sz a -1)+fF (bF a (sz a -1)):=by
 have e:W^(sz a -1)=2^(32*(sz a -1)):=by rw[Nat.pow_mul];rfl
 have h1:=bCa h0;have h2:=dw h
 have h3:a / W^(sz a -1)<W:=by
  rw[Ea (lQ _),Dk,<-Eh]
  rwa [show(sz a -1).succ=sz a by omega]
 have h4:bF a (sz a -1)=a / 2^(32*(sz a -1)):=by unfold bF;rw[Db h3,e]
 have h5:=Nat.div_pos h1 (lQ (sz a -1));rw[h4,sL (k:=32*(sz a -1)) (by rw[<-e];omega)];omega
theorem Mr:∀(l:List Nat) (j d:Nat),j<l.length->CF (l.set j d)+l.getD j 0*W^j=CF l+d*W^j
 |[],_,_,h=>by simp at h
 |x::l,0,d,_=>by simp[CF];omega
 |x::l,j+1,d,h=>by
  have ih:=Mr l j d (by simpa using h);simp only[List.set_cons_succ,CF,Ge,Eh];have e:∀t,t*(W^j*W)=W*(t*W^j):=fun t=>by rw[Dk (W^j),<-Gt,Dk t,Gt]
  rw[e,e,Bm,Bm,<-Er,<-Er,ih]
theorem vq {l:List Nat} {j d k:Nat} (h:j<l.length):(l.set j d).getD k 0=if k=j then d else l.getD k 0:=by
 simp only[List.getD,Gy];by_cases e:j=k
 · subst e;simp[h]
 rw[if_neg e,if_neg (Ne.symm e)]
def LW (n:Nat) (l:List Nat):Prop:=l.length=n/\∀d∈l,d<W
theorem LW.set {n:Nat} {l:List Nat} (h:LW n l) (j:Nat) {d:Nat} (hd:d<W):LW n (l.set j d):=⟨by rw[Jt];exact h.1,fun x hx=>by
 rcases List.mem_or_eq_of_mem_set hx with h1|h1
 · exact h.2 x h1
 omega⟩
theorem LW.getD {n:Nat} {l:List Nat} (h:LW n l) (j:Nat):l.getD j 0<W:=by
 by_cases hj:j<l.length
 · rw[List.getD,Ab hj];exact h.2 _ (Ac hj)
 rw[List.getD,Bs (by omega)];decide
theorem LW.lt {n:Nat} {l:List Nat} (h:LW n l):CF l<W^n:=by
 have :=TQ l h.2
 rwa [h.1] at this
theorem LW.eq {n:Nat} {l:List Nat} (h:LW n l):l=bC n (CF l):=by have :=RV h.2;rw[h.1] at this;exact this.symm
theorem LW.bF {n:Nat} {l:List Nat} (h:LW n l) (k:Nat):bF (CF l) k=l.getD k 0:=IS l k h.2
theorem zj {o:List Nat} {i k c D P b:Nat} (ho:LW 32 o) (hik:i+k<32) (he:CF o+c*W^(i+k)=P+D*W^i*(b%W^k)):
 let t:=c+D*bF b k+o.getD (i+k) 0
 CF (o.set (i+k) (t%W))+t / W*W^(i+(k+1))=P+D*W^i*(b%W^(k+1)):=by
 intro t;have h1:=Mr o (i+k) (t%W) (by rw[ho.1];exact hik)
 have h2:t / W*W^(i+(k+1))+t%W*W^(i+k)=t*W^(i+k):=by rw[show i+(k+1)=(i+k)+1 by omega,Eh,Dk (W^(i+k)),<-Gt,<-Cn,Dk (t / W)];rw[Fj]
 have h3:b%W^(k+1)=b%W^k+W^k*bF b k:=mod_succ b k
 have h4:D*W^i*(W^k*bF b k)=D*bF b k*W^(i+k):=by rw[Ka];simp only[Dk,Nat.mul_left_comm,Gt]
 have h5:t*W^(i+k)=c*W^(i+k)+D*bF b k*W^(i+k)+o.getD (i+k) 0*W^(i+k):=by show(c+D*bF b k+o.getD (i+k) 0)*_=_;rw[Cn,Cn]
 rw[h3,Er,h4];omega
theorem aFq {o:List Nat} {i m c D a b:Nat} (ho:LW 32 o) (him:i+m<32) (hb:b<W^m) (hD:D=bF a i) (he:CF o+c*W^(i+m)=a%W^i*b+D*W^i*(b%W^m)) (hz:o.getD (i+m) 0=0):
 CF (o.set (i+m) c)=a%W^(i+1)*b:=by
 have h1:=Mr o (i+m) c (by rw[ho.1];exact him);rw[hz,Ja,Cy] at h1;rw[h1,he,Db hb,mod_succ,hD,Cn,Dk (bF a i)]
theorem OU {m n X:Nat} (h:X<W^n) (hz:∀k,m<=k->k<n->bF X k=0):X<W^m:=by
 have h1:=ZD n X h;have h2:=ZC n X
 rcases Gd m (dv n X) with h3|h3
 · rcases My n X with h4|h4
   · omega
   exact absurd (hz _ (by omega) (by omega)) h4
 exact Ca h1 (Ds NH h3)
theorem YL {m n X:Nat} (h:m<=n):(bC n X).take m=bC m X:=by unfold bC;rw[<-List.map_take,List.take_range,Jq h]
theorem YK {X:Nat} (h:X<W^32):X<W^16↔(bC 32 X).drop 16=List.replicate 16 0:=by
 constructor
 · intro hx;refine Gj (by simp[bC]) fun k h1 h2=>?_;simp only[List.getElem_drop,bC,Ch,Ht,List.getElem_replicate];exact RU hx (by omega)
 intro e;refine OU h fun k hk1 dP=>?_;have :((bC 32 X).drop 16).getD (k -16) 0=0:=by rw[e,List.getD,Gf];split<;>rfl
 rw[List.getD,Fx,show 16+(k -16)=k by omega] at this;have h2:=kM (n:=X) dP;rw[List.getD] at h2;omega
end Go.sK
namespace Go.aI
structure V where
 x:Int
 y:Int
 z:Int
deriving DecidableEq,Inhabited
def dot (a b:V):Int:=a.x*b.x+a.y*b.y+a.z*b.z
def aT (a b:V):V:=⟨a.y*b.z -a.z*b.y,a.z*b.x -a.x*b.z,a.x*b.y -a.y*b.x⟩
def sub (a b:V):V:=⟨a.x-b.x,a.y-b.y,a.z-b.z⟩
def add (a b:V):V:=⟨a.x+b.x,a.y+b.y,a.z+b.z⟩
def smul (c:Int) (a:V):V:=⟨c*a.x,c*a.y,c*a.z⟩
def V0:V:=⟨0,0,0⟩
def dJ (n a b:V):Int:=dot n (aT a b)
theorem V.ext' {a b:V} (h1:a.x=b.x) (h2:a.y=b.y) (h3:a.z=b.z):a=b:=by cases a;cases b;simp_all
theorem sq_pos {a:Int} (h:a≠0):0<a*a:=by
 rcases Int.lt_or_gt_of_ne h with h|h
 · exact Int.mul_pos_of_neg_of_neg h h
 exact Iv h h
theorem sq_nonneg (a:Int):0<=a*a:=by
 by_cases h:a=0
 · simp[h]
 exact Int.le_of_lt (sq_pos h)
theorem yQ (a:V):0<=dot a a:=by have :=sq_nonneg a.x;have :=sq_nonneg a.y;have :=sq_nonneg a.z;simp only[dot];omega
theorem dB {a:V} (h:a≠V0):0<dot a a:=by
 have h1:=sq_nonneg a.x;have h2:=sq_nonneg a.y;have h3:=sq_nonneg a.z
 rcases Decidable.em (a.x=0) with hx|hx
 · rcases Decidable.em (a.y=0) with hy|hy
   · rcases Decidable.em (a.z=0) with hz|hz
     · exact absurd (V.ext' hx hy hz) h
     have :=sq_pos hz;simp only[dot];omega
   have :=sq_pos hy;simp only[dot];omega
 have :=sq_pos hx;simp only[dot];omega
theorem Pv {a:V} (h:dot a a<=0):a=V0:=
 Ey fun hc=>absurd (dB hc) (by omega)
theorem sub_eq_zero {a b:V} (h:sub a b=V0):a=b:=by have h1:a.x -b.x=0:=Bc V.x h;have h2:a.y -b.y=0:=Bc V.y h;have h3:a.z -b.z=0:=Bc V.z h;exact V.ext' (by omega) (by omega) (by omega)
theorem aTa {a b:V} (h:a≠b):sub a b≠V0:=fun e=>h (sub_eq_zero e)
theorem qU {c a:Int} (hc:0<c) (h:0<=c*a):0<=a:=by
 rcases Eu a 0 with h'|h'|h'
 · have :=Int.mul_neg_of_pos_of_neg hc h';omega
 · omega
 omega
theorem eK {c a:Int} (hc:0<c) (h:c*a=0):a=0:=by rcases Jv.1 h with h|h<;>omega
theorem EO (n u v w t:V):dJ u v w*dot n t=dJ n v w*dot u t+dJ n w u*dot v t+dJ n u v*dot w t:=by
 simp only[dJ,dot,aT]
 grind
theorem Uf {n u v w:V} (hn:n≠V0) (hu:dot n u=0) (hv:dot n v=0) (hw:dot n w=0):dJ u v w=0:=by
 have h:=EO n u v w n;have e:∀a:V,dot a n=dot n a:=fun a=>by simp only[dot];grind
 rw[e u,e v,e w,hu,hv,hw] at h;have :=dB hn;simp only[Gs,Int.add_zero] at h
 rcases Jv.1 h with h|h
 · exact h
 omega
theorem three {n u v w:V} (hn:n≠V0) (hu:dot n u=0) (hv:dot n v=0) (hw:dot n w=0):add (add (smul (dJ n v w) u) (smul (dJ n w u) v)) (smul (dJ n u v) w)=V0:=by
 have h:=Uf hn hu hv hw;have hx:dJ u v w*n.x=dJ n v w*u.x+dJ n w u*v.x+dJ n u v*w.x:=by simp only[dJ,dot,aT];grind
 have hy:dJ u v w*n.y=dJ n v w*u.y+dJ n w u*v.y+dJ n u v*w.y:=by simp only[dJ,dot,aT];grind
 have hz:dJ u v w*n.z=dJ n v w*u.z+dJ n w u*v.z+dJ n u v*w.z:=by simp only[dJ,dot,aT];grind
 rw[h,Int.zero_mul] at hx hy hz;exact V.ext' (by simp only[add,smul,V0];omega) (by simp only[add,smul,V0];omega) (by simp only[add,smul,V0];omega)
theorem para {n u v:V} (hn:n≠V0) (hu:dot n u=0) (hv:dot n v=0) (h:dJ n u v=0):smul (dot u u) v=smul (dot u v) u:=by
 have hp:=dB hn;have e1:dot n n*(aT u v).x=dJ n u v*n.x+dot n v*(n.z*u.y -n.y*u.z) -dot n u*(n.z*v.y -n.y*v.z):=by simp only[dJ,dot,aT];grind
 have e2:dot n n*(aT u v).y=dJ n u v*n.y+dot n v*(n.x*u.z -n.z*u.x) -dot n u*(n.x*v.z -n.z*v.x):=by simp only[dJ,dot,aT];grind
 have e3:dot n n*(aT u v).z=dJ n u v*n.z+dot n v*(n.y*u.x -n.x*u.y) -dot n u*(n.y*v.x -n.x*v.y):=by simp only[dJ,dot,aT];grind
 rw[hu,hv,h] at e1 e2 e3;have c1:=eK hp (by rw[e1];simp);have c2:=eK hp (by rw[e2];simp);have c3:=eK hp (by rw[e3];simp);simp only[aT] at c1 c2 c3;refine V.ext' ?_ ?_ ?_<;>simp only[smul,dot]<;>grind
structure SL (P:V->Prop):Prop where
 add:∀u v,P u->P v->P (add u v)
 smul:∀c u,0<c->P u->P (smul c u)
 zero:¬P V0
theorem smul_zero (u:V):smul 0 u=V0:=by simp[smul,V0]
theorem add_zero (u:V):add u V0=u:=by simp[add,V0]
theorem zero_add (u:V):add V0 u=u:=by simp[add,V0]
theorem SL.comb {P:V->Prop} (h:SL P) {u v w:V} {a b c:Int} (hu:P u) (hv:P v) (hw:P w) (ha:0<=a) (hb:0<=b) (hc:0<=c) (hz:aI.add (aI.add (aI.smul a u) (aI.smul b v)) (aI.smul c w)=V0):a=0/\b=0/\c=0:=by
 have two:∀{u v:V} {a b:Int},P u->P v->0<=a->0<=b->(a=0/\b=0)\/P (aI.add (aI.smul a u) (aI.smul b v)):=by
  intro u v a b hu hv ha hb;by_cases h1:a=0
  · by_cases h2:b=0
    · exact .inl ⟨h1,h2⟩
    right;subst h1;rw[smul_zero,zero_add];exact h.smul _ _ (by omega) hv
  by_cases h2:b=0
  · right;subst h2;rw[smul_zero,add_zero];exact h.smul _ _ (by omega) hu
  right;exact h.add _ _ (h.smul _ _ (by omega) hu) (h.smul _ _ (by omega) hv)
 rcases two hu hv ha hb with ⟨h1,h2⟩|h1
 · refine⟨h1,h2,?_⟩;by_cases h3:c=0
   · exact h3
   exfalso;subst h1 h2;rw[smul_zero,smul_zero,add_zero,zero_add] at hz;exact h.zero (hz▸h.smul _ _ (by omega) hw)
 exfalso;by_cases h3:c=0
 · subst h3;rw[smul_zero,add_zero] at hz;exact h.zero (hz▸h1)
 exact h.zero (hz▸h.add _ _ h1 (h.smul _ _ (by omega) hw))
theorem NV (f g h:V->Int) (hf:∀u v,f (add u v)=f u+f v) (hg:∀u v,g (add u v)=g u+g v) (hh:∀u v,h (add u v)=h u+h v)
 (Zw:∀c u,f (smul c u)=c*f u) (hg':∀c u,g (smul c u)=c*g u) (hh':∀c u,h (smul c u)=c*h u):
 SL fun v=>0<f v\/(f v=0/\(0<g v\/(g v=0/\0<h v))) where
 add u v hu hv:=by simp only[hf,hg,hh];omega
 smul c u hc hu:=by
  simp only[Zw,hg',hh']
  rcases hu with hu|⟨h1,hu|⟨h2,hu⟩⟩
  · exact .inl (Iv hc hu)
  · exact .inr ⟨by rw[h1];simp,.inl (Iv hc hu)⟩
  exact .inr ⟨by rw[h1];simp,.inr ⟨by rw[h2];simp,Iv hc hu⟩⟩
 zero:=by
  have z:∀(f:V->Int),(∀c u,f (smul c u)=c*f u)->f V0=0:=fun f hf=>by have :=hf 0 V0;rw[smul_zero] at this;omega
  rw[z f Zw,z g hg',z h hh'];omega
section
def vec (p:Nat->V) (a b:Nat):V:=sub (p b) (p a)
def Sd (n:V) (p:Nat->V) (on:List Nat) (a b:Nat):Prop:=
 b∈on/\b≠a/\∀k∈on,0<=dJ n (vec p a b) (vec p a k)/\
  (dJ n (vec p a b) (vec p a k)=0->0<=dot (vec p a k) (vec p a b)/\dot (vec p a k) (vec p a b)<=dot (vec p a b) (vec p a b))
def Crn (p:Nat->V) (on:List Nat) (a:Nat):Prop:=∃P,SL P/\∀k∈on,k≠a->P (vec p a k)
structure Pl (n:V) (p:Nat->V) (on:List Nat):Prop where
 hn:n≠V0
 inj:∀a∈on,∀b∈on,p a=p b->a=b
 pl:∀a∈on,∀b∈on,dot n (vec p a b)=0
theorem Pl.ne {n:V} {p:Nat->V} {on:List Nat} (h:Pl n p on) {a b:Nat} (ha:a∈on) (hb:b∈on) (CQ:b≠a):vec p a b≠V0:=
 aTa fun e=>CQ (h.inj b hb a ha e)
theorem AE (n u:V):dJ n u u=0:=by simp only[dJ,dot,aT];grind
theorem AD (n u v:V):dJ n v u= -dJ n u v:=by simp only[dJ,dot,aT];grind
theorem jX (u v:V):dot u v=dot v u:=by simp only[dot];grind
theorem Zc (n u v w:V):dJ n u (add v w)=dJ n u v+dJ n u w:=by simp only[dJ,dot,aT,add];grind
theorem Ud (n u v:V) (c:Int):dJ n u (smul c v)=c*dJ n u v:=by simp only[dJ,dot,aT,smul];grind
theorem Zd (u v w:V):dot u (add v w)=dot u v+dot u w:=by simp only[dot,add];grind
theorem Ui (u v:V) (c:Int):dot u (smul c v)=c*dot u v:=by simp only[dot,smul];grind
theorem il (n e:V):SL fun v=>0<dJ n e v\/(dJ n e v=0/\0<dot e v):=by have h:=NV (dJ n e) (dot e) (fun _=>0) (Zc n e) (Zd e) (fun _ _=>rfl) (fun c u=>Ud n e u c) (fun c u=>Ui e u c) (fun c _=>by simp);simpa using h
theorem XN (n e:V):SL fun v=>0<dJ n e v\/(dJ n e v=0/\dot e v<0):=by have h:=NV (dJ n e) (fun v=> -dot e v) (fun _=>0) (Zc n e) (fun u v=>by rw[Zd];omega) (fun _ _=>rfl) (fun c u=>Ud n e u c) (fun c u=>by rw[Ui,Int.mul_neg]) (fun c _=>by simp);simpa using h
theorem ue:SL fun v=>0<v.x\/(v.x=0/\(0<v.y\/(v.y=0/\0<v.z))):=
 NV V.x V.y V.z (fun _ _=>rfl) (fun _ _=>rfl) (fun _ _=>rfl) (fun _ _=>rfl) (fun _ _=>rfl) (fun _ _=>rfl)
theorem uG {c:Int} (hc:c≠0) {u v:V} (h:smul c u=smul c v):u=v:=by have h1:c*u.x=c*v.x:=Bc V.x h;have h2:c*u.y=c*v.y:=Bc V.y h;have h3:c*u.z=c*v.z:=Bc V.z h;exact V.ext' (Jh hc h1) (Jh hc h2) (Jh hc h3)
variable {n:V} {p:Nat->V} {on:List Nat}
theorem NW (H:Pl n p on) {P:V->Prop} (hP:SL P) {u v w:V} (hu:dot n u=0) (hv:dot n v=0) (hw:dot n w=0) (pu:P u) (pv:P v) (pw:P w)
 (h1:0<=dJ n u v) (h2:0<=dJ n v w):0<=dJ n u w/\(0<dJ n u v\/0<dJ n v w->0<dJ n u w):=by
 have h:=three H.hn hu hv hw;have a:=AD n u w;by_cases h3:0<dJ n u w
 · exact⟨by omega,fun _=>h3⟩
 obtain⟨c1,c2,c3⟩:=hP.comb pu pv pw h2 (by omega) h1 h;exact⟨by omega,fun _=>by omega⟩
theorem Qi (H:Pl n p on) {P:V->Prop} (hP:SL P) {u v:V} (hu:dot n u=0) (hv:dot n v=0) (pu:P u) (pv:P v) (h:dJ n u v=0):0<dot u v:=by
 have h1:=para H.hn hu hv h;have hu0:u≠V0:=fun e=>hP.zero (e▸pu);have :=dB hu0;have e1:=Bc V.x h1;have e2:=Bc V.y h1;have e3:=Bc V.z h1;simp only[smul] at e1 e2 e3;by_cases h2:0<dot u v
 · exact h2
 exfalso;have z:=hP.comb (a:=dot u u) (b:= -dot u v) (c:=0) pv pu pu (by omega) (by omega) (by omega) (V.ext' (by simp only[add,smul,V0,Iu];omega) (by simp only[add,smul,V0,Iu];omega) (by simp only[add,smul,V0,Iu];omega));omega
theorem IN (n u v:V) (hu:dot n u=0) (hv:dot n v=0):dot n n*(dot u u*dot v v -dot u v*dot u v)=dJ n u v*dJ n u v:=by
 simp only[dJ,dot,aT] at *
 grind
theorem aQc {n u v:V} (hn:n≠V0) (hu:dot n u=0) (hv:dot n v=0) (h:dJ n u v=0) (hl:dot v v<=dot u u):dot u v<=dot u u:=by
 have h1:=IN n u v hu hv;rw[h] at h1;have h2:=eK (dB hn) (by rw[h1];simp);have h3:=yQ u;by_cases h4:dot u v<=dot u u
 · exact h4
 exfalso;have h5:dot u u*dot u v<dot u v*dot u v:=Hb (by omega) (by omega);have h6:dot u u*dot v v<=dot u u*dot u v:=El (by omega) h3;omega
theorem Sd.crn (H:Pl n p on) {a b:Nat} (ha:a∈on) (h:Sd n p on a b):Crn p on a:=by
 refine⟨_,il n (vec p a b),fun k hk Lo=>?_⟩;obtain⟨h1,h2⟩:=h.2.2 k hk
 rcases Ep h1 with h1|h1
 · exact .inl h1
 refine .inr ⟨h1.symm,?_⟩;obtain⟨h3,h4⟩:=h2 h1.symm;rw[jX] at h3
 rcases Ep h3 with h3|h3
 · exact h3
 exfalso;have e:=para H.hn (H.pl a ha b h.1) (H.pl a ha k hk) h1.symm;rw[<-h3,smul_zero] at e;have cK:=dB (H.ne ha h.1 h.2.1);exact H.ne ha hk Lo (uG (c:=dot (vec p a b) (vec p a b)) (by omega) (by rw[e];simp[smul,V0]))
theorem yO (p:Nat->V) (a b k:Nat):vec p b k=sub (vec p a k) (vec p a b):=by simp only[vec,sub];refine V.ext' ?_ ?_ ?_<;>simp only <;>omega
theorem Ue (n u v w:V):dJ n u (sub v w)=dJ n u v -dJ n u w:=by simp only[dJ,dot,aT,sub];grind
theorem ur (u v w:V):dot u (sub v w)=dot u v -dot u w:=by simp only[dot,sub];grind
theorem Sd.next (H:Pl n p on) {a b:Nat} (ha:a∈on) (h:Sd n p on a b):Crn p on b:=by
 refine⟨_,XN n (vec p a b),fun k hk hkb=>?_⟩;obtain⟨h1,h2⟩:=h.2.2 k hk;rw[yO p a b k,Ue,ur,AE,jX _ (vec p a k)]
 rcases Ep h1 with h1|h1
 · exact .inl (by omega)
 refine .inr ⟨by omega,?_⟩;obtain⟨h3,h4⟩:=h2 h1.symm
 rcases Ep h4 with h4|h4
 · omega
 exfalso;have e:=para H.hn (H.pl a ha b h.1) (H.pl a ha k hk) h1.symm;rw[jX _ (vec p a k),h4] at e;have cK:=dB (H.ne ha h.1 h.2.1);have :=uG (by omega) e;refine hkb (H.inj k hk b h.1 ?_);simp only[vec,sub,V.mk.injEq] at this;exact V.ext' (by omega) (by omega) (by omega)
theorem Sd.uniq (H:Pl n p on) {a b c:Nat} (ha:a∈on) (h:Sd n p on a b) (h':Sd n p on a c):b=c:=by
 obtain⟨h1,h2⟩:=h.2.2 c h'.1;obtain⟨h3,h4⟩:=h'.2.2 b h.1;rw[AD] at h3;have hz:dJ n (vec p a b) (vec p a c)=0:=by omega
 obtain⟨k1,k2⟩:=h2 hz;obtain⟨k3,k4⟩:=h4 (by rw[AD];omega);have e:=para H.hn (H.pl a ha b h.1) (H.pl a ha c h'.1) hz;have hl:=IN n (vec p a b) (vec p a c) (H.pl a ha b h.1) (H.pl a ha c h'.1);rw[hz] at hl;have hl:=eK (dB H.hn) (by rw[hl];simp);have cK:=dB (H.ne ha h.1 h.2.1);have hnc:=dB (H.ne ha h'.1 h'.2.1);rw[jX] at k1 k2;generalize hm:dot (vec p a b) (vec p a c)=m at *;generalize hB:dot (vec p a b) (vec p a b)=B at *;generalize hC:dot (vec p a c) (vec p a c)=C at *
 have e1:m=B:=by
  have q1:B*m<=B*C:=El (by omega) (by omega);by_cases hmB:m=B
  · exact hmB
  exfalso;by_cases Xw:m=0
  · subst Xw;have :=Iv cK hnc;omega
  have :m*m<B*m:=Hb (by omega) (by omega);omega
 rw[e1] at e;have :=uG (by omega) e;refine(H.inj c h'.1 b h.1 ?_).symm;simp only[vec,sub,V.mk.injEq] at this;exact V.ext' (by omega) (by omega) (by omega)
theorem Sd.inj (H:Pl n p on) {a b c:Nat} (ha:a∈on) (hb:b∈on) (h:Sd n p on a c) (h':Sd n p on b c):a=b:=by
 obtain⟨h1,h2⟩:=h.2.2 b hb;obtain⟨h3,h4⟩:=h'.2.2 a ha
 have e:dJ n (vec p b c) (vec p b a)= -dJ n (vec p a c) (vec p a b):=by simp only[vec,dJ,dot,aT,sub];grind
 have hz:dJ n (vec p a c) (vec p a b)=0:=by omega
 obtain⟨k1,k2⟩:=h2 hz;obtain⟨k3,k4⟩:=h4 (by omega);have hl:=IN n (vec p a c) (vec p a b) (H.pl a ha c h.1) (H.pl a ha b hb);rw[hz] at hl;have hl:=eK (dB H.hn) (by rw[hl];simp);have hp:=para H.hn (H.pl a ha c h.1) (H.pl a ha b hb) hz;have hE:=dB (H.ne ha h.1 h.2.1)
 have e2:dot (vec p b a) (vec p b c)=dot (vec p a b) (vec p a b) -dot (vec p a b) (vec p a c):=by simp only[vec,dot,sub];grind
 rw[jX (vec p a c) (vec p a b)] at hl hp;generalize hm:dot (vec p a b) (vec p a c)=m at *;generalize hB:dot (vec p a b) (vec p a b)=B at *;generalize hC:dot (vec p a c) (vec p a c)=C at *
 have q:m=0\/m=C:=by
  by_cases Xw:m=0
  · exact .inl Xw
  right;by_cases hmC:m=C
  · exact hmC
  exfalso;have q1:m*m<C*m:=Hb (by omega) (by omega);have q2:C*m<=C*B:=El (by omega) (by omega);omega
 rcases q with q|q
 · rw[q,smul_zero] at hp;have :vec p a b=V0:=uG (c:=C) (by omega) (by rw[hp];simp[smul,V0]);exact(H.inj b hb a ha (sub_eq_zero this)).symm
 rw[q] at hp;have :=uG (c:=C) (by omega) hp;exfalso;refine h'.2.1 (H.inj c h.1 b hb ?_);simp only[vec,sub,V.mk.injEq] at this;exact V.ext' (by omega) (by omega) (by omega)
end
section
variable {n:V} {p:Nat->V} {on:List Nat}
def vC (x:Int):Int:=if x<0 then -1 else if 0<x then 1 else 0
theorem Tj {x:Int}:vC x<0↔x<0:=by unfold vC;split<;>(try split)<;>omega
theorem PJ {x:Int}:vC x=0↔x=0:=by unfold vC;split<;>(try split)<;>omega
theorem Ti (x y:Int):vC (x*y)=vC x*vC y:=by
 rcases Eu x 0 with h|h|h
 · rcases Eu y 0 with k|k|k
   · have :=Int.mul_pos_of_neg_of_neg h k;simp only[vC,h,k,if_true,if_neg (show ¬x*y<0 by omega),this];rfl
   · subst k;simp[vC]
   have :=Int.mul_neg_of_neg_of_pos h k;simp only[vC,h,this,k,if_true,if_neg (show ¬y<0 by omega)];rfl
 · subst h;simp[vC]
 rcases Eu y 0 with k|k|k
 · have :=Int.mul_neg_of_pos_of_neg h k;simp only[vC,h,this,k,if_true,if_neg (show ¬x<0 by omega)];rfl
 · subst k;simp[vC]
 have :=Iv h k;simp only[vC,h,this,k,if_true,if_neg (show ¬x<0 by omega),if_neg (show ¬y<0 by omega),if_neg (show ¬x*y<0 by omega)];rfl
theorem dq {x:Int} (h:0<x):vC x=1:=by simp[vC,h,show ¬x<0 by omega]
def sD (n c:V):Int:=if n.x≠0 then vC c.x*vC n.x else if n.y≠0 then vC c.y*vC n.y else if n.z≠0 then vC c.z*vC n.z else 0
theorem Tm {a b:V} (hn:n≠V0) (ha:dot n a=0) (hb:dot n b=0):sD n (aT a b)=vC (dJ n a b):=by
 have hp:=dB hn;have e1:dot n n*(aT a b).x=dJ n a b*n.x+dot n b*(n.z*a.y -n.y*a.z) -dot n a*(n.z*b.y -n.y*b.z):=by simp only[dJ,dot,aT];grind
 have e2:dot n n*(aT a b).y=dJ n a b*n.y+dot n b*(n.x*a.z -n.z*a.x) -dot n a*(n.x*b.z -n.z*b.x):=by simp only[dJ,dot,aT];grind
 have e3:dot n n*(aT a b).z=dJ n a b*n.z+dot n b*(n.y*a.x -n.x*a.y) -dot n a*(n.y*b.x -n.x*b.y):=by simp only[dJ,dot,aT];grind
 rw[ha,hb] at e1 e2 e3
 have key:∀c m:Int,m≠0->dot n n*c=dJ n a b*m+0*0 -0->vC c*vC m=vC (dJ n a b):=by
  intro c m hm e;have h1:vC (dot n n*c*m)=vC (dJ n a b*(m*m)):=by rw[e];congr 1;grind
  rw[Ti,Ti,Ti (dJ n a b),dq hp,dq (sq_pos hm)] at h1;simpa using h1
 unfold sD;split
 · rename_i h;exact key _ _ h (by omega)
 split
 · rename_i h;exact key _ _ h (by omega)
 split
 · rename_i h;exact key _ _ h (by omega)
 rename_i h1 h2 h3;exact absurd (V.ext' (by simpa [V0] using h1) (by simpa [V0] using h2) (by simpa [V0] using h3)) hn
def better (n:V) (p:Nat->V) (a b k:Nat):Bool:=
 decide (sD n (aT (vec p a b) (vec p a k))<0)||(decide (sD n (aT (vec p a b) (vec p a k))=0)&&decide (dot (vec p a k) (vec p a k)>dot (vec p a b) (vec p a b)))
def gQ (n:V) (p:Nat->V) (a:Nat) (xO:Option Nat) (k:Nat):Option Nat:=
 if k=a then xO else match xO with
  |none=>some k
  |some b=>if better n p a b k then some k else some b
def Ls (n:V) (p:Nat->V) (on:List Nat) (a:Nat):Option Nat:=on.foldl (gQ n p a) none
theorem tM (H:Pl n p on) {a b k:Nat} (ha:a∈on) (hb:b∈on) (hk:k∈on):
 better n p a b k=true↔dJ n (vec p a b) (vec p a k)<0\/(dJ n (vec p a b) (vec p a k)=0/\dot (vec p a b) (vec p a b)<dot (vec p a k) (vec p a k)):=by
 unfold better;rw[Tm H.hn (H.pl a ha b hb) (H.pl a ha k hk)];simp only[Dp,Am,Bg,Tj,PJ]
theorem kv (H:Pl n p on) {a:Nat} (ha:a∈on) (hc:Crn p on a):∀(l:List Nat) (done:List Nat) (xO:Option Nat),(∀k∈l,k∈on)->(∀k∈done,k∈on)->
 (match xO with|none=>∀k∈done,k=a|some b=>b∈on/\b≠a/\∀k∈done,k≠a->better n p a b k=false)->
 match l.foldl (gQ n p a) xO with|none=>∀k∈done++l,k=a|some b=>b∈on/\b≠a/\∀k∈done++l,k≠a->better n p a b k=false:=by
 obtain⟨P,hP,gG⟩:=hc
 have refl:∀k∈on,better n p a k k=false:=fun k hk=>by
  have :=tM H ha hk hk;rw[AE] at this
  cases hb:better n p a k k with
  |false=>rfl
  |true=>have :=this.1 hb;omega
 intro l
 induction l with
 |nil=>intro done xO _ _ h;simpa using h
 |cons k l ih=>
  intro done xO hl hd h;have hk:k∈on:=hl k (by simp);have :=ih (done++[k]) (gQ n p a xO k) (fun x hx=>hl x (by simp[hx])) (fun x hx=>by simp only[An,Bn] at hx;exact hx.elim (hd x) fun e=>e▸hk) ?_
  · simpa using this
  unfold gQ;by_cases Lo:k=a
  · subst Lo;simp only[if_true]
    cases xO with
    |none=>intro x hx;simp only[An,Bn] at hx;exact hx.elim (h x) id
    |some b=>
     refine⟨h.1,h.2.1,fun x hx Wq=>?_⟩;simp only[An,Bn] at hx
     rcases hx with hx|rfl
     · exact h.2.2 x hx Wq
     exact absurd rfl Wq
  simp only[Lo,Cm]
  cases xO with
  |none=>
   refine⟨hk,Lo,fun x hx Wq=>?_⟩;simp only[An,Bn] at hx
   rcases hx with hx|rfl
   · exact absurd (h x hx) Wq
   exact refl _ hk
  |some b=>
   obtain⟨hb,hba,hbd⟩:=h;dsimp only;by_cases hbk:better n p a b k=true
   · rw[if_pos hbk];refine⟨hk,Lo,fun x hx Wq=>?_⟩;simp only[An,Bn] at hx
     rcases hx with hx|rfl
     · have h1:=hbd x hx Wq;have qx:=hd x hx;have i1:=(tM H ha hb hk).1 hbk
       have i2:¬(dJ n (vec p a b) (vec p a x)<0\/(dJ n (vec p a b) (vec p a x)=0/\dot (vec p a b) (vec p a b)<dot (vec p a x) (vec p a x))):=fun h=>by rw[(tM H ha hb qx).2 h] at h1;cases h1
       cases hkx:better n p a k x with
       |false=>rfl
       |true=>
        exfalso;have i3:=(tM H ha hk qx).1 hkx;have a1:=AD n (vec p a b) (vec p a k);obtain⟨t1,t2⟩:=NW H hP (H.pl a ha k hk) (H.pl a ha b hb) (H.pl a ha x qx) (gG k hk Lo) (gG b hb hba) (gG x qx Wq) (by omega) (by omega);by_cases hz:dJ n (vec p a k) (vec p a b)=0
        · by_cases hz2:dJ n (vec p a b) (vec p a x)=0
          · omega
          have :=t2 (.inr (by omega));omega
        have :=t2 (.inl (by omega));omega
     exact refl _ hk
   rw[if_neg hbk];refine⟨hb,hba,fun x hx Wq=>?_⟩;simp only[An,Bn] at hx
   rcases hx with hx|rfl
   · exact hbd x hx Wq
   simpa using hbk
theorem Vh (H:Pl n p on) {a:Nat} (ha:a∈on) (hc:Crn p on a) (hm:∃k∈on,k≠a):∃b,Ls n p on a=some b/\Sd n p on a b:=by
 have h:=kv H ha hc on [] none (fun _ h=>h) (fun k hk=>by cases hk) (fun k hk=>by cases hk);unfold Ls;split at h
 · obtain⟨k,hk,Lo⟩:=hm;exact absurd (h k (by simpa using hk)) Lo
 rename_i b hb;refine⟨b,hb,h.1,h.2.1,fun k hk=>?_⟩;obtain⟨P,hP,gG⟩:=hc;by_cases Lo:k=a
 · subst Lo;have :vec p k k=V0:=by simp[vec,sub,V0]
   rw[this];have hq:=yQ (vec p k b);constructor
   · simp[dJ,dot,aT,V0]
   intro _;constructor<;>simp[dot,V0]<;>simpa [dot] using hq
 have h1:=h.2.2 k (by simpa using hk) Lo
 have i2:¬(dJ n (vec p a b) (vec p a k)<0\/(dJ n (vec p a b) (vec p a k)=0/\dot (vec p a b) (vec p a b)<dot (vec p a k) (vec p a k))):=fun hh=>by rw[(tM H ha h.1 hk).2 hh] at h1;cases h1
 refine⟨by omega,fun hz=>?_⟩;have q:=Qi H hP (H.pl a ha b h.1) (H.pl a ha k hk) (gG b h.1 h.2.1) (gG k hk Lo) hz;rw[jX];exact⟨by omega,aQc H.hn (H.pl a ha b h.1) (H.pl a ha k hk) hz (by omega)⟩
def MC (n:V) (p:Nat->V) (on:List Nat) (a b:Nat):Bool:=on.all fun k=>!(decide (sD n (aT (vec p a b) (vec p a k))<0)||(decide (sD n (aT (vec p a b) (vec p a k))=0)&&(decide (dot (vec p a k) (vec p a b)<0)||decide (dot (vec p a k) (vec p a b)>dot (vec p a b) (vec p a b)))))
theorem Rv (H:Pl n p on) {a b:Nat} (ha:a∈on) (hb:b∈on) (hba:b≠a):MC n p on a b=true↔Sd n p on a b:=by
 unfold MC Sd;simp only[Aw];constructor
 · intro h;refine⟨hb,hba,fun k hk=>?_⟩;have :=h k hk;rw[Tm H.hn (H.pl a ha b hb) (H.pl a ha k hk)] at this;simp only[Cp,Eg,Jy,Bk,Tj,PJ] at this;omega
 intro h k hk;have :=h.2.2 k hk;rw[Tm H.hn (H.pl a ha b hb) (H.pl a ha k hk)];simp only[Cp,Eg,Jy,Bk,Tj,PJ];omega
def Rc (n:V) (p:Nat->V) (on:List Nat) (a:Nat):Option Nat:=on.find? fun k=>decide (k≠a)&&MC n p on a k
theorem zk (H:Pl n p on) {a b:Nat} (ha:a∈on) (h:Sd n p on a b):Rc n p on a=some b:=by
 unfold Rc
 cases hf:on.find? fun k=>decide (k≠a)&&MC n p on a k with
 |none=>have :=Hv.1 hf b h.1;simp[h.2.1,(Rv H ha h.1 h.2.1).2 h] at this
 |some c=>have h1:=List.find?_some hf;have h2:=List.mem_of_find?_eq_some hf;simp only[Am,Bg] at h1;rw[Sd.uniq H ha ((Rv H ha h2 h1.1).1 h1.2) h]
end
section
variable {n:V} {p:Nat->V} {on:List Nat}
def iter (f:Nat->Nat):Nat->Nat->Nat
 |0,s=>s
 |i+1,s=>f (iter f i s)
theorem Rf:∀(l on:List Nat),l.Nodup->(∀x∈l,x∈on)->l.length<=on.length
 |[],_,_,_=>Az _
 |x::l,on,hn,h=>by rw[Js] at hn;have h1:=Rf l (on.erase x) hn.2 fun y hy=>(List.mem_erase_of_ne fun e=>hn.1 (by rw[<-e];exact hy)).2 (h y (by simp[hy]));have h2:=List.length_erase_of_mem (h x (by simp));have h3:0<on.length:=List.length_pos_of_mem (h x (by simp));simp only[Aq];omega
theorem aTk {A:Nat->Prop} {f:Nat->Nat} (on:List Nat) (hA:∀a,A a->a∈on) (hf:∀a,A a->A (f a)) (hi:∀a b,A a->A b->f a=f b->a=b) {s:Nat} (hs:A s):
 ∃m,0<m/\m<=on.length/\iter f m s=s/\(∀i,0<i->i<m->iter f i s≠s)/\∀i,A (iter f i s):=by
 have bM:∀i,A (iter f i s):=fun i=>by
  induction i with
  |zero=>exact hs
  |succ i ih=>exact hf _ ih
 have back:∀i d,iter f i s=iter f (i+d) s->iter f d s=s:=fun i=>by
  induction i with
  |zero=>intro d h;rw[Cv] at h;exact h.symm
  |succ i ih=>intro d h;refine ih d (hi _ _ (bM _) (bM _) ?_);rw[show i+1+d=(i+d)+1 by omega] at h;exact h
 have ex:∃m,0<m/\m<=on.length/\iter f m s=s:=by
  refine Cu fun hc=>?_
  have hd:((List.range (on.length+1)).map fun i=>iter f i s).Nodup:=by rw[List.Nodup,Ih];refine Jj ?_ Jn;intro i j hi hj yS e;simp only[Ba] at hi hj;exact hc ⟨j -i,by omega,by omega,back i (j -i) (by rw[show i+(j -i)=j by omega];exact e)⟩
  have :=Rf _ on hd (fun x hx=>by
   simp only[Bf] at hx;obtain⟨i,_,rfl⟩:=hx
   exact hA _ (bM i))
  simp at this;omega
 have least:∀(k m:Nat),m<=k->0<m->m<=on.length->iter f m s=s->∃m,0<m/\m<=on.length/\iter f m s=s/\∀i,0<i->i<m->iter f i s≠s:=by
  intro k
  induction k with
  |zero=>intro m h1 h2;omega
  |succ k ih=>
   intro m h1 h2 h3 h4;by_cases hc:∃i,0<i/\i<m/\iter f i s=s
   · obtain⟨i,i1,i2,i3⟩:=hc;exact ih i (by omega) i1 (by omega) i3
   exact⟨m,h2,h3,h4,fun i i1 i2 e=>hc ⟨i,i1,i2,e⟩⟩
 obtain⟨m,h1,h2,h3⟩:=ex;obtain⟨m,h1,h2,h3,h4⟩:=least m m (Ak _) h1 h2 h3;exact⟨m,h1,h2,h3,h4,bM⟩
structure Way (n:V) (p:Nat->V) (on:List Nat) (s m:Nat) (f:Nat->Nat):Prop where
 H:Pl n p on
 hs:s∈on
 pos:0<m
 le:m<=on.length
 back:iter f m s=s
 first:∀i,0<i->i<m->iter f i s≠s
 side:∀i,iter f i s∈on/\Sd n p on (iter f i s) (iter f (i+1) s)
def uR (n:V) (p:Nat->V) (on:List Nat) (a:Nat):Nat:=(Ls n p on a).getD 0
theorem way (H:Pl n p on) {s:Nat} (hs:s∈on) (hc:Crn p on s) (hm:∀a∈on,∃k∈on,k≠a):∃m,Way n p on s m (uR n p on):=by
 have hS:∀a,a∈on/\Crn p on a->Sd n p on a (uR n p on a):=fun a ⟨ha,hc⟩=>by obtain⟨b,h1,h2⟩:=Vh H ha hc (hm a ha);unfold uR;rw[h1];exact h2
 obtain⟨m,h1,h2,h3,h4,h5⟩:=aTk (A:=fun a=>a∈on/\Crn p on a) (f:=uR n p on) on (fun a h=>h.1) (fun a h=>⟨(hS a h).1,(hS a h).next H h.1⟩)
  (fun a b ha hb e=>Sd.inj H ha.1 hb.1 (hS a ha) (by rw[e];exact hS b hb)) ⟨hs,hc⟩
 exact⟨m,H,hs,h1,h2,h3,h4,fun i=>⟨(h5 i).1,hS _ (h5 i)⟩⟩
theorem Way.cover {s m:Nat} {f:Nat->Nat} (W:Way n p on s m f) {a b:Nat} (ha:a∈on) (h:Sd n p on a b):∃i,i<m/\iter f i s=a:=by
 refine Cu fun hc=>?_
 have cK:∀i,iter f i s≠a:=by
  have :∀i,i<m->iter f i s≠a:=fun i hi e=>hc ⟨i,hi,e⟩
  have per:∀i,∃j,j<m/\iter f i s=iter f j s:=fun i=>by
   induction i with
   |zero=>exact⟨0,W.pos,rfl⟩
   |succ i ih=>
    obtain⟨j,hj,e⟩:=ih;by_cases hjm:j+1<m
    · exact⟨j+1,hjm,by simp only[iter];rw[e]⟩
    refine⟨0,W.pos,?_⟩;have :j+1=m:=(by omega);simp only[iter];rw[e];have h2:=W.back;rw[<-this] at h2;exact h2
  intro i e;obtain⟨j,hj,e2⟩:=per i;exact this j hj (e2.symm.trans e)
 obtain⟨P,hP,gG⟩:=h.crn W.H ha;have hPi:∀i,P (vec p a (iter f i s)):=fun i=>gG _ (W.side i).1 (cK i);have qQ:∀i,dot n (vec p a (iter f i s))=0:=fun i=>W.H.pl a ha _ (W.side i).1
 have left:∀i,0<dJ n (vec p a (iter f i s)) (vec p a (iter f (i+1) s)):=by
  intro i;obtain⟨hx,hS⟩:=W.side i;generalize hxi:iter f i s=x at *;generalize hyi:iter f (i+1) s=y at *;have e:dJ n (vec p x y) (vec p x a)=dJ n (vec p a x) (vec p a y):=by simp only[vec,dJ,dot,aT,sub];grind
  obtain⟨h1,h2⟩:=hS.2.2 a ha;rw[e] at h1 h2;have Wq:x≠a:=by rw[<-hxi];exact cK i
  have hya:y≠a:=by rw[<-hyi];exact cK (i+1)
  rcases Ep h1 with h1|h1
  · exact h1
  exfalso;obtain⟨h3,h4⟩:=h2 h1.symm;have px:P (vec p a x):=gG x hx Wq;have py:P (vec p a y):=gG y hS.1 hya;have hd:=Qi W.H hP (W.H.pl a ha x hx) (W.H.pl a ha y hS.1) px py h1.symm;have hp:=para W.H.hn (W.H.pl a ha x hx) (W.H.pl a ha y hS.1) h1.symm;have hu0:=dB (W.H.ne ha hx Wq);have e5:dot (vec p x a) (vec p x y)=dot (vec p a x) (vec p a x) -dot (vec p a x) (vec p a y):=by simp only[vec,dot,sub];grind
  have e6:dot (vec p x y) (vec p x y)=dot (vec p a x) (vec p a x) -2*dot (vec p a x) (vec p a y)+dot (vec p a y) (vec p a y):=by simp only[vec,dot,sub];grind
  have hl:=IN n _ _ (W.H.pl a ha x hx) (W.H.pl a ha y hS.1);rw[<-h1] at hl;have hl:=eK (dB W.H.hn) (by rw[hl];simp);rw[e5] at h3 h4;rw[e6] at h4;generalize hA:dot (vec p a x) (vec p a x)=A at *;generalize hB:dot (vec p a x) (vec p a y)=B at *;generalize hC:dot (vec p a y) (vec p a y)=C at *
  have :B=A:=by
   by_cases hBA:B=A
   · exact hBA
   exfalso;have q1:B*B<A*B:=Hb (by omega) hd;have q2:A*B<=A*C:=El (by omega) (by omega);omega
  rw[this] at hp;have e7:=uG (c:=A) (by omega) hp;refine hS.2.1 (W.H.inj y hS.1 x hx ?_);simp only[vec,sub,V.mk.injEq] at e7;exact V.ext' (by omega) (by omega) (by omega)
 have chain:∀i,0<dJ n (vec p a s) (vec p a (iter f (i+1) s)):=by
  intro i
  induction i with
  |zero=>exact left 0
  |succ i ih=>exact(NW W.H hP (qQ 0) (qQ (i+1)) (qQ (i+2)) (hPi 0) (hPi (i+1)) (hPi (i+2)) (Int.le_of_lt ih) (Int.le_of_lt (left (i+1)))).2 (.inl ih)
 have :=chain (m -1);rw[show m -1+1=m from Nat.succ_pred_eq_of_pos W.pos,W.back,AE] at this;omega
end
section
def kA (p:Nat->V) (N:Nat) (n:V) (d:Int):List Nat:=(List.range N).filter fun k=>decide (dot n (p k)=d)
theorem dK {p:Nat->V} {N:Nat} {n:V} {d:Int} {k:Nat}:k∈kA p N n d↔k<N/\dot n (p k)=d:=by simp[kA]
structure sq (p:Nat->V) (N:Nat) (n:V) (d:Int):Prop where
 hn:n≠V0
 le:∀k,k<N->dot n (p k)<=d
 lt:∃k,k<N/\dot n (p k)<d
 tri:∃a∈kA p N n d,∃b∈kA p N n d,∃c∈kA p N n d,dJ n (vec p a b) (vec p a c)≠0
def iI (a b:V):Prop:=a.x<b.x\/(a.x=b.x/\(a.y<b.y\/(a.y=b.y/\a.z<b.z)))
def rp (p:Nat->V) (N:Nat):Prop:=∀i j,i<j->j<N->iI (p i) (p j)
variable {p:Nat->V} {N:Nat} {n:V} {d:Int}
theorem rp.inj (A:rp p N) {i j:Nat} (hi:i<N) (hj:j<N) (h:p i=p j):i=j:=by
 rcases Ji i j with h1|h1|h1
 · have :=A i j h1 hj;rw[h] at this;unfold iI at this;omega
 · exact h1
 have :=A j i h1 hi;rw[h] at this;unfold iI at this;omega
theorem nL (n:V) (p:Nat->V) (a b:Nat):dot n (vec p a b)=dot n (p b) -dot n (p a):=by simp only[dot,vec,sub];grind
theorem sq.pl (A:rp p N) (F:sq p N n d):Pl n p (kA p N n d) where
 hn:=F.hn
 inj a ha b hb h:=A.inj (dK.1 ha).1 (dK.1 hb).1 h
 pl a ha b hb:=by rw[nL,(dK.1 ha).2,(dK.1 hb).2];omega
theorem sq.more (F:sq p N n d) (a:Nat):∃k∈kA p N n d,k≠a:=by obtain⟨x,hx,y,hy,z,hz,h⟩:=F.tri;refine Cu fun hc=>?_;have e:∀k∈kA p N n d,k=a:=fun k hk=>Cu fun h=>hc ⟨k,hk,h⟩;rw[e x hx,e y hy,e z hz,AE] at h;exact h rfl
theorem sq.head (F:sq p N n d):∃s r,kA p N n d=s::r:=by
 obtain⟨k,hk,_⟩:=F.more 0
 cases h:kA p N n d with
 |nil=>rw[h] at hk;cases hk
 |cons s r=>exact⟨s,r,rfl⟩
theorem Og (p:Nat->V) (N:Nat) (n:V) (d:Int):(kA p N n d).Pairwise (· < ·):=List.Pairwise.filter _ Jn
theorem lj (A:rp p N) {s:Nat} {r:List Nat} (h:kA p N n d=s::r):Crn p (kA p N n d) s:=by
 refine⟨_,ue,fun k hk hks=>?_⟩;have hs:=Og p N n d;have hkN:=(dK.1 hk).1;rw[h] at hk hs;simp only[Ap] at hk
 rcases hk with hk|hk
 · exact absurd hk hks
 have h1:=(Cl.1 hs).1 k hk;have :=A s k h1 hkN;unfold iI at this;simp only[vec,sub];omega
theorem sq.way (A:rp p N) (F:sq p N n d) {s:Nat} {r:List Nat} (h:kA p N n d=s::r):∃m,Way n p (kA p N n d) s m (uR n p (kA p N n d)):=
 aI.way (F.pl A) (by rw[h];simp) (lj A h) fun a _=>F.more a
theorem Way.aTg (F:sq p N n d) {s m:Nat} {f:Nat->Nat} (W:Way n p (kA p N n d) s m f) (i:Nat):
 0<dJ n (vec p (iter f i s) (iter f (i+1) s)) (vec p (iter f i s) (iter f (i+2) s)):=by
 obtain⟨hx,hS⟩:=W.side i;obtain⟨hy,hT⟩:=W.side (i+1);generalize iter f i s=x at *;generalize iter f (i+1) s=y at *;rw[show i+1+1=i+2 from rfl] at hT;generalize iter f (i+2) s=z at *;obtain⟨h1,h2⟩:=hS.2.2 z hT.1
 rcases Ep h1 with h1|h1
 · exact h1
 exfalso;obtain⟨h3,h4⟩:=h2 h1.symm;have hp:=para W.H.hn (W.H.pl x hx y hS.1) (W.H.pl x hx z hT.1) h1.symm;have hE:=dB (W.H.ne hx hS.1 hS.2.1);rw[jX (vec p x z)] at h3 h4
 have h5:dot (vec p x y) (vec p x z)<dot (vec p x y) (vec p x y):=by
  rcases Ep h4 with h4|h4
  · exact h4
  exfalso;rw[h4] at hp;have e7:=uG (c:=dot (vec p x y) (vec p x y)) (by omega) hp;refine hT.2.1 (W.H.inj z hT.1 y hS.1 ?_);simp only[vec,sub,V.mk.injEq] at e7;exact V.ext' (by omega) (by omega) (by omega)
 have flat:∀k∈kA p N n d,dJ n (vec p x y) (vec p x k)=0:=by
  intro k hk;have g1:=(hS.2.2 k hk).1;have g2:=(hT.2.2 k hk).1
  have e1:smul (dot (vec p x y) (vec p x y)) (vec p y z)=smul (dot (vec p x y) (vec p x z) -dot (vec p x y) (vec p x y)) (vec p x y):=by rw[yO p x y z];have a1:=Bc V.x hp;have a2:=Bc V.y hp;have a3:=Bc V.z hp;simp only[smul] at a1 a2 a3;refine V.ext' ?_ ?_ ?_<;>simp only[smul,sub,Int.mul_sub,Int.sub_mul]<;>omega
  have e2:dot (vec p x y) (vec p x y)*dJ n (vec p y z) (vec p y k)=(dot (vec p x y) (vec p x z) -dot (vec p x y) (vec p x y))*dJ n (vec p x y) (vec p x k):=by
   have l:∀(c:Int) (u v:V),dJ n (smul c u) v=c*dJ n u v:=fun c u v=>by simp only[dJ,dot,aT,smul];grind
   rw[<-l,e1,l,yO p x y k,Ue,AE];simp
  have g3:0<=(dot (vec p x y) (vec p x z) -dot (vec p x y) (vec p x y))*dJ n (vec p x y) (vec p x k):=by rw[<-e2];exact Int.mul_nonneg (by omega) g2
  rcases Ep g1 with g1|g1
  · have :=Int.mul_neg_of_neg_of_pos (a:=dot (vec p x y) (vec p x z) -dot (vec p x y) (vec p x y)) (by omega) g1;omega
  exact g1.symm
 obtain⟨a,ha,b,hb,c,hc,h⟩:=F.tri;refine h ?_;have fa:=flat a ha;have fb:=flat b hb;have fc:=flat c hc;rw[yO p x a b,yO p x a c];have e0:=W.H.ne hx hS.1 hS.2.1;have pa:=para W.H.hn (W.H.pl x hx y hS.1) (W.H.pl x hx a ha) fa;have pb:=para W.H.hn (W.H.pl x hx y hS.1) (W.H.pl x hx b hb) fb;have pc:=para W.H.hn (W.H.pl x hx y hS.1) (W.H.pl x hx c hc) fc
 have q:∀k l:Nat,smul (dot (vec p x y) (vec p x y)) (vec p x k)=smul (dot (vec p x y) (vec p x k)) (vec p x y)->dJ n (vec p x y) (vec p x l)=0->dJ n (vec p x k) (vec p x l)=0:=by
  intro k l hk hl;have l1:∀(c:Int) (u v:V),dJ n (smul c u) v=c*dJ n u v:=fun c u v=>by simp only[dJ,dot,aT,smul];grind
  refine eK hE ?_;rw[<-l1,hk,l1,hl,Gs]
 have r:∀u v w:V,dJ n (sub u v) (sub w v)=dJ n u w -dJ n u v -dJ n v w:=fun u v w=>by simp only[dJ,dot,aT,sub];grind
 rw[r,q b c pb fc,q b a pb fa,q a c pa fc];rfl
end
section
def gE (v:V):Nat:=Int.gcd v.x (Int.gcd v.y v.z)
def gJ (v:V):V:=⟨v.x / gE v,v.y / gE v,v.z / gE v⟩
theorem LG (v:V):smul (gE v) (gJ v)=v:=by have h1:((gE v:Nat):Int)∣v.x:=Fu v.x (Int.gcd v.y v.z);have h0:((gE v:Nat):Int)∣((Int.gcd v.y v.z:Nat):Int):=Ed v.x (Int.gcd v.y v.z);have h2:((gE v:Nat):Int)∣v.y:=Gu h0 (Fu v.y v.z);have h3:((gE v:Nat):Int)∣v.z:=Gu h0 (Ed v.y v.z);exact V.ext' (Kd h1) (Kd h2) (Kd h3)
theorem uI {v:V} (h:v≠V0):0<gE v:=by
 rcases Hr (gE v) with h1|h1
 · exfalso;have :=LG v;rw[h1] at this;exact h (by rw[<-this];simp[smul,V0])
 exact h1
theorem dh {v:V} (h:v≠V0):gJ v≠V0:=fun e=>by have :=LG v;rw[e] at this;exact h (by rw[<-this];simp[smul,V0])
theorem AF (v w:V):(gE v:Int)*dot (gJ v) w=dot v w:=by
 have h:=LG v;have :dot (smul (gE v) (gJ v)) w=(gE v:Int)*dot (gJ v) w:=by simp only[dot,smul];grind
 rw[<-this,h]
theorem um (v u w:V):(gE v:Int)*dJ (gJ v) u w=dJ v u w:=AF v _
structure pP (p:Nat->V) (N:Nat) (n:V) (d:Int):Prop where
 le:∀k,k<N->dot n (p k)<=d
 lt:∃k,k<N/\dot n (p k)<d
 tri:∃a b c,a<N/\b<N/\c<N/\aT (vec p a b) (vec p a c)≠V0/\n=gJ (aT (vec p a b) (vec p a c))/\d=dot n (p a)
variable {p:Nat->V} {N:Nat} {n:V} {d:Int}
theorem pP.Zj (F:pP p N n d):sq p N n d:=by
 obtain⟨a,b,c,ha,hb,hc,hw,hn,hd⟩:=F.tri;have hg:=uI hw
 have on:∀k,k<N->dot (aT (vec p a b) (vec p a c)) (vec p a k)=0->k∈kA p N n d:=by intro k hk h;rw[dK];refine⟨hk,?_⟩;rw[<-AF,<-hn] at h;have h2:=eK (by omega) h;rw[nL] at h2;omega
 refine⟨by rw[hn];exact dh hw,F.le,F.lt,a,on a ha (by simp only[dot,vec,sub];grind),b,on b hb ?_,c,on c hc ?_,?_⟩
 · simp only[dot,aT];grind
 · simp only[dot,aT];grind
 intro h;rw[hn] at h;have h2:=um (aT (vec p a b) (vec p a c)) (vec p a b) (vec p a c);rw[h] at h2;exact absurd (Pv (a:=aT (vec p a b) (vec p a c)) (by simp only[dJ] at h2;omega)) hw
theorem pP.uniq (F:pP p N n d) {d':Int} (F':pP p N n d'):d=d':=by obtain⟨a,_,_,ha,_,_,_,_,e⟩:=F.tri;obtain⟨b,_,_,hb,_,_,_,_,e'⟩:=F'.tri;have :=F.le b hb;have :=F'.le a ha;omega
theorem OP (α β:Nat->Int):∀(l:List Nat),l≠[]->(∀k∈l,0<α k)->∃q∈l,∀k∈l,β q*α k<=β k*α q
 |[],h,_=>absurd rfl h
 |[x],_,_=>⟨x,by simp,by simp⟩
 |x::y::l,_,h=>by
  obtain⟨q,hq,hm⟩:=OP α β (y::l) (by simp) fun k hk=>h k (by simp only[Ap] at hk ⊢;exact .inr hk)
  by_cases hx:β q*α x<=β x*α q
  · refine⟨q,Ay _ hq,fun k hk=>?_⟩
    rcases Ap.1 hk with rfl|hk
    · exact hx
    exact hm k hk
  refine⟨x,Ax,fun k hk=>?_⟩
  rcases Ap.1 hk with rfl|hk
  · exact Int.le_refl _
  have h1:=hm k hk;have aq:=h q (Ay _ hq);have ax:=h x Ax;have ak:=h k (Ay _ hk);refine Int.le_of_mul_le_mul_left (a:=α q) ?_ aq;have e1:α k*(β x*α q)<=α k*(β q*α x):=El (by omega) (by omega);have e2:α x*(β q*α k)<=α x*(β k*α q):=El h1 (by omega);have r1:α q*(β x*α k)=α k*(β x*α q):=by grind
  have r2:α k*(β q*α x)=α x*(β q*α k):=by grind
  have r3:α x*(β k*α q)=α q*(β k*α x):=by grind
  omega
theorem pP.adj (F:pP p N n d) (A:rp p N) {a b:Nat} (ha:a∈kA p N n d) (h:Sd n p (kA p N n d) a b):
 ∃n' d',pP p N n' d'/\a∈kA p N n' d'/\b∈kA p N n' d'/\Sd n' p (kA p N n' d') b a/\∃q∈kA p N n' d',q∉kA p N n d:=by
 have H:=F.Zj.pl A;have hb:=h.1;have hE:=dB (H.ne ha hb h.2.1);have haN:=dK.1 ha;have hbN:=dK.1 hb
 let α:Nat->Int:=fun k=> -dot n (vec p a k)
 let β:Nat->Int:=fun k=>dJ n (vec p a b) (vec p a k)
 have hα:∀k,k<N->0<=α k:=fun k hk=>by have :=F.le k hk;show 0<=-dot n (vec p a k);rw[nL];omega
 have hα0:∀k,k<N->α k=0->k∈kA p N n d:=fun k hk e=>by rw[dK];refine⟨hk,?_⟩;have : -dot n (vec p a k)=0:=e;rw[nL] at this;omega
 obtain⟨k0,hk0,bIb⟩:=F.lt
 obtain⟨q,hq,aUi⟩:=OP α β ((List.range N).filter fun k=>decide (0<α k)) (by
  intro e
  have :k0∈(List.range N).filter fun k=>decide (0<α k):=by simp only[Fk,Ba,Bg];refine⟨hk0,?_⟩;show 0< -dot n (vec p a k0);rw[nL];omega
  rw[e] at this;cases this) (fun k hk=>by simp only[Fk,Bg] at hk;exact hk.2)
 simp only[Fk,Ba,Bg] at hq aUi;obtain⟨hqN,hαq⟩:=hq;have cK:dot n (vec p a b)=0:=H.pl a ha b hb
 have key:∀k,dot n n*dot (aT (vec p a b) (vec p a q)) (vec p a k)=β k*α q -β q*α k:=fun k=>by
  have :=EO n (vec p a b) (vec p a q) (vec p a k) n;rw[jX (vec p a b) n,jX (vec p a q) n,jX (vec p a k) n,cK] at this;have e2:dJ (vec p a b) (vec p a q) (vec p a k)=dot (aT (vec p a b) (vec p a q)) (vec p a k):=by simp only[dJ,dot,aT];grind
  have e3:=AD n (vec p a b) (vec p a k);rw[e2] at this;show _=dJ n (vec p a b) (vec p a k)*(-dot n (vec p a q)) -dJ n (vec p a b) (vec p a q)*(-dot n (vec p a k));rw[e3] at this
  grind
 have hnn:=dB F.Zj.hn
 have side:∀k,k<N->0<=dot (aT (vec p a b) (vec p a q)) (vec p a k):=fun k hk=>by
  refine qU hnn ?_;rw[key];by_cases hz:0<α k
  · have :=aUi k ⟨hk,hz⟩;omega
  have hz:α k=0:=by have :=hα k hk;omega
  rw[hz,Gs,Int.sub_zero];exact Int.mul_nonneg (h.2.2 k (hα0 k hk hz)).1 (by omega)
 have hN0:aT (vec p a b) (vec p a q)≠V0:=by
  intro e;have h1:dot (aT n (vec p a b)) (aT n (vec p a b))=dot n n*dot (vec p a b) (vec p a b) -dot n (vec p a b)*dot n (vec p a b):=by simp only[dot,aT];grind
  have h2:dot (aT n (vec p a b)) (aT (vec p a b) (vec p a q))=dot n (vec p a b)*dot (vec p a b) (vec p a q) -dot n (vec p a q)*dot (vec p a b) (vec p a b):=by simp only[dot,aT];grind
  rw[e,cK] at h2;have h3:dot (aT n (vec p a b)) V0=0:=by simp[dot,V0]
  have h4:0<α q*dot (vec p a b) (vec p a b):=Iv hαq hE;have h5:α q= -dot n (vec p a q):=rfl;rw[h5,Iu] at h4;omega
 have aUr:aT (vec p a q) (vec p a b)=smul (-1) (aT (vec p a b) (vec p a q)):=by simp only[aT,smul,V.mk.injEq];grind
 have aTt:aT (vec p a q) (vec p a b)≠V0:=fun e=>hN0 (by
  rw[aUr] at e;simp only[smul,V0,V.mk.injEq] at e
  exact V.ext' (by simp only[V0];omega) (by simp only[V0];omega) (by simp only[V0];omega))
 have hg:=uI aTt;generalize JZ:gJ (aT (vec p a q) (vec p a b))=n'
 have dn:∀v:V,(gE (aT (vec p a q) (vec p a b)):Int)*dot n' v= -dot (aT (vec p a b) (vec p a q)) v:=fun v=>by rw[<-JZ,AF,aUr];simp only[dot,smul];grind
 have on:∀k,k<N->(k∈kA p N n' (dot n' (p a))↔dot (aT (vec p a b) (vec p a q)) (vec p a k)=0):=fun k hk=>by
  rw[dK];have :=dn (vec p a k);rw[nL n'] at this;constructor
  · rintro⟨_,e⟩;rw[e,Int.sub_self,Gs] at this;omega
  intro e;rw[e] at this;have :=eK (by omega) (show(gE (aT (vec p a q) (vec p a b)):Int)*(dot n' (p k) -dot n' (p a))=0 by omega);exact⟨hk,by omega⟩
 have Xp:∀k,k<N->dot n' (p k)<=dot n' (p a):=fun k hk=>by have h1:=dn (vec p a k);have h2:=side k hk;rw[nL n'] at h1;have h3:=qU (c:=(gE (aT (vec p a q) (vec p a b)):Int)) (a:= -(dot n' (p k) -dot n' (p a))) (by omega) (by rw[Int.mul_neg];omega);omega
 have ha':a∈kA p N n' (dot n' (p a)):=dK.2 ⟨haN.1,rfl⟩;have IA:b∈kA p N n' (dot n' (p a)):=(on b hbN.1).2 (by simp only[dot,aT];grind);have Wl:q∈kA p N n' (dot n' (p a)):=(on q hqN).2 (by simp only[dot,aT];grind);refine⟨n',dot n' (p a),⟨Xp,?_,a,q,b,haN.1,hqN,hbN.1,aTt,JZ.symm,rfl⟩,ha',IA,⟨ha',fun e=>h.2.1 e.symm,fun k hk=>?_⟩,q,Wl,fun hqo=>?_⟩
 ·
  refine Cu fun hc=>?_
  have all:∀k∈kA p N n d,dJ n (vec p a b) (vec p a k)=0:=fun k hk=>by
   have hkN:=dK.1 hk
   have h1:dot n' (p k)=dot n' (p a):=by
    have :=Xp k hkN.1
    rcases Ep this with h|h
    · exact absurd ⟨k,hkN.1,h⟩ hc
    exact h
   have h2:=key k;rw[(on k hkN.1).1 (dK.2 ⟨hkN.1,h1⟩)] at h2;have h3:α k=0:=(by show -dot n (vec p a k)=0;rw[H.pl a ha k hk];rfl);rw[h3,Gs,Gs,Int.sub_zero] at h2;have h4:α q*β k=0:=(by rw[Int.mul_comm];exact h2.symm);exact eK hαq h4
  obtain⟨x,hx,y,hy,z,hz,bEp⟩:=F.Zj.tri;refine bEp ?_;have l1:∀(c:Int) (u v:V),dJ n (smul c u) v=c*dJ n u v:=fun c u v=>by simp only[dJ,dot,aT,smul];grind
  have qq:∀k l:Nat,k∈kA p N n d->l∈kA p N n d->dJ n (vec p a k) (vec p a l)=0:=by intro k l hk hl;have pk:=para H.hn (H.pl a ha b hb) (H.pl a ha k hk) (all k hk);refine eK hE ?_;rw[<-l1,pk,l1,all l hl,Gs]
  have r:∀u v w:V,dJ n (sub u v) (sub w v)=dJ n u w -dJ n u v -dJ n v w:=fun u v w=>by simp only[dJ,dot,aT,sub];grind
  rw[yO p a x y,yO p a x z,r,qq y z hy hz,qq y x hy hx,qq x z hx hz];rfl
 ·
  have hkN:=dK.1 hk;have hkz:=(on k hkN.1).1 hk
  have hde:dJ (vec p a b) (vec p a q) (vec p a k)=0:=by have e2:dJ (vec p a b) (vec p a q) (vec p a k)=dot (aT (vec p a b) (vec p a q)) (vec p a k):=(by simp only[dJ,dot,aT];grind);rw[e2,hkz]
  have hnv:dot n (vec p a k)<=0:=by have :=hα k hkN.1;show dot n (vec p a k)<=0;have h5:α k= -dot n (vec p a k):=rfl;omega
  have hnu:dot n (vec p a q)<0:=by have h5:α q= -dot n (vec p a q):=rfl;omega
  have e1:dJ n' (vec p b a) (vec p b k)= -dJ n' (vec p a b) (vec p a k):=by simp only[vec,dJ,dot,aT,sub];grind
  have e2:(gE (aT (vec p a q) (vec p a b)):Int)*dJ n' (vec p b a) (vec p b k)=dot (aT (vec p a b) (vec p a q)) (aT (vec p a b) (vec p a k)):=by rw[e1,Int.mul_neg];have :=dn (aT (vec p a b) (vec p a k));simp only[dJ];omega
  generalize he:vec p a b=e at *;generalize vec p a q=u at *;generalize hv:vec p a k=v at *
  have c1:dot n u*(aT e v).x=dot n v*(aT e u).x:=by have :dot n u*(aT e v).x=dot n v*(aT e u).x -n.x*dJ e u v -(aT v u).x*dot n e:=(by simp only[dJ,dot,aT];grind);rw[hde,cK] at this;omega
  have c2:dot n u*(aT e v).y=dot n v*(aT e u).y:=by have :dot n u*(aT e v).y=dot n v*(aT e u).y -n.y*dJ e u v -(aT v u).y*dot n e:=(by simp only[dJ,dot,aT];grind);rw[hde,cK] at this;omega
  have c3:dot n u*(aT e v).z=dot n v*(aT e u).z:=by have :dot n u*(aT e v).z=dot n v*(aT e u).z -n.z*dJ e u v -(aT v u).z*dot n e:=(by simp only[dJ,dot,aT];grind);rw[hde,cK] at this;omega
  have hNN:=dB hN0
  have c4:dot n u*dot (aT e u) (aT e v)=dot n v*dot (aT e u) (aT e u):=by
   have :dot n u*dot (aT e u) (aT e v)=(aT e u).x*(dot n u*(aT e v).x)+(aT e u).y*(dot n u*(aT e v).y)+(aT e u).z*(dot n u*(aT e v).z):=by simp only[dot];grind
   rw[this,c1,c2,c3];simp only[dot];grind
  have c5:0<=dot (aT e u) (aT e v):=by refine qU (c:= -dot n u) (by omega) ?_;rw[Iu,c4,<-Iu];exact Int.mul_nonneg (by omega) (by omega)
  refine⟨qU (c:=(gE (aT u e):Int)) (by omega) (by rw[e2];exact c5),fun hz=>?_⟩;rw[hz,Gs] at e2;rw[<-e2,Gs] at c4
  have bDx:dot n v=0:=by have :=eK (c:=dot (aT e u) (aT e u)) (a:=dot n v) hNN (by rw[Int.mul_comm];exact c4.symm);exact this
  have qi:k∈kA p N n d:=hα0 k hkN.1 (by show -dot n (vec p a k)=0;rw[hv];omega);rw[bDx,Int.zero_mul] at c1 c2 c3
  have hz':dJ n e v=0:=by
   have z:∀c:Int,dot n u*c=0->c=0:=fun c hc=>by rcases Jv.1 hc with h|h<;>omega
   simp only[dJ,dot];rw[z _ c1,z _ c2,z _ c3];simp
  have g:=(h.2.2 k qi).2;rw[hv,he] at g;have g:=g hz';have b1:dot (vec p b k) (vec p b a)=dot (vec p a b) (vec p a b) -dot (vec p a k) (vec p a b):=by simp only[vec,dot,sub];grind
  have b2:dot (vec p b a) (vec p b a)=dot (vec p a b) (vec p a b):=by simp only[vec,dot,sub];grind
  rw[b1,b2,hv,he];omega
 have :=dK.1 hqo;have h5:α q= -dot n (vec p a q):=rfl;rw[nL] at h5;omega
theorem FR {n n':V} {d d':Int} (JZ:n'≠V0) {a b c q:Nat} (ha:a∈kA p N n d) (hb:b∈kA p N n d) (hc:c∈kA p N n d) (h:dJ n (vec p a b) (vec p a c)≠0)
 (ha':a∈kA p N n' d') (IA:b∈kA p N n' d') (hc':c∈kA p N n' d') (hq:q∈kA p N n' d'):q∈kA p N n d:=by
 have o:∀{n:V} {d:Int} {x y:Nat},x∈kA p N n d->y∈kA p N n d->dot n (vec p x y)=0:=fun {n d x y} hx hy=>by rw[nL,(dK.1 hx).2,(dK.1 hy).2];omega
 have hz:=Uf JZ (o ha' IA) (o ha' hc') (o ha' hq);have :=EO n (vec p a b) (vec p a c) (vec p a q) n;rw[hz,jX (vec p a b) n,jX (vec p a c) n,jX (vec p a q) n,o ha hb,o ha hc] at this;have h2:dJ n (vec p a b) (vec p a c)*dot n (vec p a q)=0:=by omega
 rcases Jv.1 h2 with h3|h3
 · exact absurd h3 h
 rw[nL] at h3;exact dK.2 ⟨(dK.1 hq).1,by have :=(dK.1 ha).2;omega⟩
theorem pP.four (F:pP p N n d) (A:rp p N):∃n1 d1 n2 d2 n3 d3,pP p N n1 d1/\pP p N n2 d2/\pP p N n3 d3/\n1≠n/\n2≠n/\n3≠n/\n1≠n2/\n1≠n3/\n2≠n3:=by
 obtain⟨s,r,hsr⟩:=F.Zj.head;obtain⟨m,W⟩:=F.Zj.way A hsr;generalize uR n p (kA p N n d)=f at W;obtain⟨o0,s0⟩:=W.side 0;obtain⟨o1,s1⟩:=W.side 1;obtain⟨o2,s2⟩:=W.side 2;obtain⟨o3,_⟩:=W.side 3;obtain⟨n1,d1,F1,a1,b1,_,q1,KB,aRf⟩:=F.adj A o0 s0;obtain⟨n2,d2,F2,a2,b2,_,q2,Mm,aUq⟩:=F.adj A o1 s1;obtain⟨n3,d3,F3,a3,b3,_,q3,xz,bEe⟩:=F.adj A o2 s2;have t0:=W.aTg F.Zj 0;have t1:=W.aTg F.Zj 1
 have oth:∀{n':V} {d':Int},pP p N n' d'->(∃q∈kA p N n' d',q∉kA p N n d)->n'≠n:=by rintro n' d' F' ⟨q,h1,h2⟩ rfl;rw[F.uniq F'] at h2;exact h2 h1
 refine⟨n1,d1,n2,d2,n3,d3,F1,F2,F3,oth F1 ⟨q1,KB,aRf⟩,oth F2 ⟨q2,Mm,aUq⟩,oth F3 ⟨q3,xz,bEe⟩,?_,?_,?_⟩
 · rintro rfl;rw[F2.uniq F1] at a2 b2;exact aRf (FR F1.Zj.hn o0 o1 o2 (Jb t0) a1 b1 b2 KB)
 · rintro rfl;rw[F3.uniq F1] at a3 b3;exact aRf (FR F1.Zj.hn o0 o1 o2 (Jb t0) a1 b1 a3 KB)
 rintro rfl;rw[F3.uniq F2] at a3 b3;exact aUq (FR F2.Zj.hn o1 o2 o3 (Jb t1) a2 b2 b3 Mm)
end
section
def neg (a:V):V:=⟨-a.x,-a.y,-a.z⟩
theorem neg_neg (a:V):neg (neg a)=a:=by simp[neg]
theorem TO {a:V} (h:a≠V0):neg a≠V0:=fun e=>h (by
 have :=Bc neg e;rw[neg_neg] at this
 rw[this];rfl)
theorem aCg (a:V):gE (neg a)=gE a:=by simp[gE,neg,Int.gcd]
theorem JJ (a:V):gJ (neg a)=neg (gJ a):=by have d1:(gE a:Int)∣a.x:=Fu ..;have d2:(gE a:Int)∣a.y:=Gu (Ed ..) (Fu ..);have d3:(gE a:Int)∣a.z:=Gu (Ed ..) (Ed ..);unfold gJ;rw[aCg];simp only[neg];rw[Kg d1,Kg d2,Kg d3]
theorem oZ (a b:V):dot (neg a) b= -dot a b:=by simp only[dot,neg];grind
variable {p:Nat->V} {N:Nat} {n:V} {d:Int}
def vY (p:Nat->V) (a b c:Nat) (n:V):Prop:=
 aT (vec p a b) (vec p a c)≠V0/\(n=gJ (aT (vec p a b) (vec p a c))\/n=neg (gJ (aT (vec p a b) (vec p a c))))
theorem NZ (a b c:Nat):aT (vec p a c) (vec p a b)=neg (aT (vec p a b) (vec p a c)):=by simp only[aT,neg];apply V.ext'<;>simp only <;>grind
theorem XW (a b c:Nat):aT (vec p b a) (vec p b c)=neg (aT (vec p a b) (vec p a c)):=by simp only[aT,neg,vec,sub];apply V.ext'<;>simp only <;>grind
theorem vY.swap {a b c:Nat} (h:vY p a b c n):vY p a c b n:=by unfold vY at h ⊢;rw[NZ a b c,JJ,neg_neg];exact⟨TO h.1,h.2.symm⟩
theorem vY.sD {a b c:Nat} (h:vY p a b c n):vY p b a c n:=by unfold vY at h ⊢;rw[XW a b c,JJ,neg_neg];exact⟨TO h.1,h.2.symm⟩
theorem vY.aTm {a b c:Nat} (h:vY p a b c n):dot n (p b)=dot n (p a)/\dot n (p c)=dot n (p a):=by
 have hg:=uI h.1
 have key:∀k,dot (aT (vec p a b) (vec p a c)) (vec p a k)=0->dot n (p k)=dot n (p a):=by
  intro k hk;rw[<-AF] at hk;have h2:=eK (by omega) hk
  have h3:dot n (vec p a k)=0:=by
   rcases h.2 with rfl|rfl
   · exact h2
   rw[oZ,h2];rfl
  rw[nL] at h3;omega
 exact⟨key b (by simp only[dot,aT];grind),key c (by simp only[dot,aT];grind)⟩
theorem vY.ne {a b c:Nat} (h:vY p a b c n):a≠b/\a≠c/\b≠c:=by refine⟨?_,?_,?_⟩<;>rintro rfl<;>refine h.1 ?_<;>simp only[aT,vec,sub,V0]<;>apply V.ext'<;>simp only <;>grind
theorem vY.isF {a b c:Nat} (h:vY p a b c n) (ha:a<N) (hb:b<N) (hc:c<N) (le:∀k,k<N->dot n (p k)<=d) (lt:∃k,k<N/\dot n (p k)<d) (hd:d=dot n (p a)):pP p N n d:=by
 rcases h.2 with e|e
 · exact⟨le,lt,a,b,c,ha,hb,hc,h.1,e,hd⟩
 refine⟨le,lt,a,c,b,ha,hc,hb,h.swap.1,?_,hd⟩;rw[NZ,JJ];exact e
theorem pP.bCh (F:pP p N n d):∃a b c,a<N/\b<N/\c<N/\vY p a b c n/\d=dot n (p a):=by obtain⟨a,b,c,ha,hb,hc,hw,hn,hd⟩:=F.tri;exact⟨a,b,c,ha,hb,hc,⟨hw,.inl hn⟩,hd⟩
theorem pP.up (F:pP p N n d):∃i j k,i<j/\j<k/\k<N/\vY p i j k n/\d=dot n (p i):=by
 obtain⟨a,b,c,ha,hb,hc,h,hd⟩:=F.bCh
 have ho:∃a b c,b<c/\a<N/\b<N/\c<N/\vY p a b c n/\d=dot n (p a):=by
  have hn:=h.ne;by_cases hbc:b<c
  · exact⟨a,b,c,hbc,ha,hb,hc,h,hd⟩
  exact⟨a,c,b,by omega,ha,hc,hb,h.swap,hd⟩
 obtain⟨a,b,c,hbc,ha,hb,hc,h,hd⟩:=ho;have hn:=h.ne;have hs:=h.aTm;by_cases h1:a<b
 · exact⟨a,b,c,h1,hbc,hc,h,hd⟩
 by_cases h2:a<c
 · exact⟨b,a,c,by omega,h2,hc,h.sD,by rw[hs.1];exact hd⟩
 exact⟨b,c,a,hbc,by omega,ha,h.sD.swap,by rw[hs.1];exact hd⟩
theorem pP.down (F:pP p N n d):∃i j k,k<j/\j<i/\i<N/\vY p i j k n/\d=dot n (p i):=by obtain⟨i,j,k,h1,h2,h3,h,hd⟩:=F.up;have hs:=h.aTm;exact⟨k,j,i,h1,h2,h3,h.sD.swap.sD,by rw[hs.2];exact hd⟩
theorem iI.km (a:V):¬iI a a:=by unfold iI;omega
theorem iI.trans {a b c:V} (h:iI a b) (h':iI b c):iI a c:=by unfold iI at *;omega
theorem iI.total {a b:V} (h:a≠b):iI a b\/iI b a:=by refine Cu fun hc=>h ?_;unfold iI at hc;apply V.ext'<;>omega
theorem BJ {α:Type} {R:α->α->Prop} (ir:∀a,¬R a a) (tr:∀{a b c},R a b->R b c->R a c):∀{l l':List α},l.Pairwise R->l'.Pairwise R->(∀x,x∈l↔x∈l')->l=l'
 |[],[],_,_,_=>rfl
 |[],y::l',_,_,h=>absurd ((h y).2 Ax) (by simp)
 |x::l,[],_,_,h=>absurd ((h x).1 Ax) (by simp)
 |x::l,y::l',hl,oU,h=>by
  rw[Cl] at hl oU
  have hxy:x=y:=by
   rcases Ap.1 ((h x).1 Ax) with e|e
   · exact e
   rcases Ap.1 ((h y).2 Ax) with e'|e'
   · exact e'.symm
   exact absurd (tr (oU.1 x e) (hl.1 y e')) (ir y)
  subst hxy;rw[BJ ir tr hl.2 oU.2 fun z=>⟨fun hz=>?_,fun hz=>?_⟩]
  · rcases Ap.1 ((h z).1 (Ay _ hz)) with e|e
    · subst e;exact absurd (hl.1 z hz) (ir z)
    exact e
  rcases Ap.1 ((h z).2 (Ay _ hz)) with e|e
  · subst e;exact absurd (oU.1 z hz) (ir z)
  exact e
structure oV (p:Nat->V) (N:Nat) (L:List (V×Int)):Prop where
 mem:∀q,q∈L↔pP p N q.1 q.2
 Rw:L.Pairwise fun a b=>iI a.1 b.1
theorem oV.uniq {L L':List (V×Int)} (h:oV p N L) (h':oV p N L'):L=L':=
 BJ (R:=fun a b=>iI a.1 b.1) (fun a=>iI.km _) (fun {a b c} h h'=>iI.trans (a:=a.1) (b:=b.1) (c:=c.1) h h') h.Rw h'.Rw fun q=>(h.mem q).trans (h'.mem q).symm
theorem oV.cp {K S:List (V×Int)} (hn:K.Nodup) (hm:∀q,q∈K↔pP p N q.1 q.2) (hp:S.Perm K) (hs:S.Pairwise fun a b=>¬iI b.1 a.1):oV p N S where
 mem:=fun q=>(hp.mem_iff).trans (hm q)
 Rw:=by
  have hnS:S.Nodup:=hp.nodup_iff.2 hn;have gG:∀q∈S,pP p N q.1 q.2:=fun q hq=>(hm q).1 (hp.mem_iff.1 hq);have h2:S.Pairwise fun a b=>a≠b/\¬iI b.1 a.1:=List.Pairwise.and hnS hs;refine Jj (fun {a b} ha hb CQ=>?_) h2;by_cases he:a.1=b.1
  · have :=(gG a ha).uniq (d':=b.2) (by rw[he];exact gG b hb);exact absurd (Prod.ext he this) CQ.1
  exact(iI.total he).resolve_right CQ.2
theorem oV.four {L:List (V×Int)} (h:oV p N L) (A:rp p N) (cK:L≠[]):4<=L.length:=by
 cases L with
 |nil=>exact absurd rfl cK
 |cons q r=>
  obtain⟨n1,d1,n2,d2,n3,d3,f1,f2,f3,e1,e2,e3,e4,e5,e6⟩:=((h.mem q).1 Ax).four A
  have QE:[q,(n1,d1),(n2,d2),(n3,d3)].Nodup:=by simp only[Js,Ap,Br,Dq,not_or,Ia,Kb,and_true,Ah,not_and];refine⟨⟨fun e=>e1 (by rw[e]),fun e=>e2 (by rw[e]),fun e=>e3 (by rw[e])⟩,⟨fun e=>absurd e e4,fun e=>absurd e e5⟩,fun e=>absurd e e6⟩
  have AN:[q,(n1,d1),(n2,d2),(n3,d3)] ⊆ q::r:=by
   intro x hx;simp only[Ap,Br,Dq] at hx
   rcases hx with rfl|rfl|rfl|rfl
   · exact Ax
   · exact(h.mem _).2 f1
   · exact(h.mem _).2 f2
   exact(h.mem _).2 f3
  have :=List.Nodup.length_le_of_subset QE AN;simpa using this
end
section
variable {p:Nat->V} {N:Nat} {n:V} {d:Int}
structure Poly (p:Nat->V) (N:Nat) (n:V) (d:Int) (L:List Nat):Prop where
 ex:∃s r m,kA p N n d=s::r/\Way n p (kA p N n d) s m (uR n p (kA p N n d))/\L=(List.range m).map fun i=>iter (uR n p (kA p N n d)) i s
theorem Poly.exists (A:rp p N) (F:sq p N n d):∃L,Poly p N n d L:=by obtain⟨s,r,h⟩:=F.head;obtain⟨m,W⟩:=F.way A h;exact⟨_,⟨s,r,m,h,W,rfl⟩⟩
theorem Poly.uniq {L L':List Nat} (h:Poly p N n d L) (h':Poly p N n d L'):L=L':=by
 obtain⟨s,r,m,e,W,rfl⟩:=h.ex;obtain⟨s',r',m',e',W',rfl⟩:=h'.ex;rw[e] at e';cases e'
 have :m=m':=by
  rcases Ji m m' with hl|he|hl
  · exact absurd W.back (W'.first m W.pos hl)
  · exact he
  exact absurd W'.back (W.first m' W'.pos hl)
 rw[this]
def Next (L:List Nat) (a b:Nat):Prop:=∃i,i<L.length/\L[i]?=some a/\L[(i+1)%L.length]?=some b
theorem Poly.pJ {L:List Nat} (h:Poly p N n d L) {a b:Nat}:Next L a b↔a∈kA p N n d/\Sd n p (kA p N n d) a b:=by
 obtain⟨s,r,m,e,W,rfl⟩:=h.ex;have hlen:((List.range m).map fun i=>iter (uR n p (kA p N n d)) i s).length=m:=by simp
 have cT:∀i,i<m->((List.range m).map fun i=>iter (uR n p (kA p N n d)) i s)[i]?=some (iter (uR n p (kA p N n d)) i s):=fun i hi=>by rw[Cz,Iy hi];rfl
 have aIz:∀i,i<m->((List.range m).map fun i=>iter (uR n p (kA p N n d)) i s)[(i+1)%m]?=some (iter (uR n p (kA p N n d)) (i+1) s):=fun i hi=>by
  by_cases hm:i+1<m
  · rw[Db hm,cT _ hm]
  have :i+1=m:=by omega
  rw[this,Nat.mod_self,cT 0 W.pos,W.back];rfl
 unfold Next;rw[hlen];constructor
 · rintro⟨i,hi,h1,h2⟩;rw[cT i hi] at h1;rw[aIz i hi] at h2;cases h1;cases h2;exact W.side i
 rintro⟨ha,hS⟩;obtain⟨i,hi,rfl⟩:=W.cover ha hS;refine⟨i,hi,cT i hi,?_⟩;rw[aIz i hi,(W.side i).2.uniq W.H (W.side i).1 hS]
theorem Poly.back (A:rp p N) (F:pP p N n d) {L:List Nat} (h:Poly p N n d L) {a b:Nat} (hn:Next L a b):
 ∃n' d' L',pP p N n' d'/\Poly p N n' d' L'/\Next L' b a:=by
 obtain⟨ha,hS⟩:=h.pJ.1 hn;obtain⟨n',d',F',ha',IA,hS',_⟩:=F.adj A ha hS;obtain⟨L',h'⟩:=Poly.exists A F'.Zj;exact⟨n',d',L',F',h',h'.pJ.2 ⟨IA,hS'⟩⟩
theorem Poly.aSa {L:List Nat} (h:Poly p N n d L) {k:Nat} (hk:k∈L):k∈kA p N n d:=by obtain⟨s,r,m,e,W,rfl⟩:=h.ex;simp only[Bf,Ba] at hk;obtain⟨i,hi,rfl⟩:=hk;exact(W.side i).1
theorem Poly.Rc {L:List Nat} (h:Poly p N n d L) {k:Nat} (hk:k∈L):aI.Rc n p (kA p N n d) k=some (uR n p (kA p N n d) k):=by obtain⟨s,r,m,e,W,rfl⟩:=h.ex;simp only[Bf,Ba] at hk;obtain⟨i,hi,rfl⟩:=hk;exact zk W.H (W.side i).1 (W.side i).2
def ZA (n:V) (a b:List V):Prop:=∀u∈a,∀v∈b,dot n u<=dot n v
def Sep (a b:List V) (n:V):Prop:=ZA n a b\/ZA n b a
theorem Sep.symm {a b:List V}:Sep a b n↔Sep b a n:=Or.comm
theorem Sep.neg {a b:List V}:Sep a b (aI.neg n)↔Sep a b n:=by
 unfold Sep ZA;simp only[oZ];constructor
 · rintro(h|h)
   · exact .inr fun u hu v hv=>by have :=h v hv u hu;omega
   exact .inl fun u hu v hv=>by have :=h v hv u hu;omega
 rintro(h|h)
 · exact .inr fun u hu v hv=>by have :=h v hv u hu;omega
 exact .inl fun u hu v hv=>by have :=h v hv u hu;omega
theorem XU (a b:V):aT b a=aI.neg (aT a b):=by simp only[aT,aI.neg];apply V.ext'<;>simp only <;>grind
end
theorem natAbs_tmod (a b:Int):(a.tmod b).natAbs=a.natAbs%b.natAbs:=by
 first
  |exact Int.natAbs_tmod a b
  |(cases a<;>cases b<;>simp only[Int.tmod,Kc,Eo,Int.natAbs_negSucc,Int.ofNat_eq_natCast,Nat.succ_eq_add_one]<;>rfl)
theorem No (a b:Int):Int.gcd b (a.tmod b)=Int.gcd a b:=by unfold Int.gcd;rw[natAbs_tmod,Ie a.natAbs,Nat.gcd_rec b.natAbs a.natAbs];rw[Ie]
theorem aEq (a:Int):(Int.gcd a 0:Int)=if a< -a then -a else a:=by simp only[Int.gcd_zero_right];split<;>omega
theorem PU (v:V):Int.gcd (Int.gcd v.x v.y) v.z=gE v:=by unfold gE Int.gcd;simp only[Eo];exact Nat.gcd_assoc _ _ _
theorem aAi {v:V} (h:gE v<=1):gJ v=v:=by
 unfold gJ
 rcases Gd 0 (gE v) with h0|h0
 · have :gE v=1:=by omega
   rw[this];simp
 have hz:gE v=0:=by omega
 have hv:v=V0:=by refine Cu fun hc=>?_;have :=uI hc;omega
 subst hv;rw[hz];simp[V0]
theorem Rj (v:V):gJ v=⟨v.x.tdiv (gE v),v.y.tdiv (gE v),v.z.tdiv (gE v)⟩:=by have d1:(gE v:Int)∣v.x:=Fu ..;have d2:(gE v:Int)∣v.y:=Gu (Ed ..) (Fu ..);have d3:(gE v:Int)∣v.z:=Gu (Ed ..) (Ed ..);unfold gJ;rw[Hz d1,Hz d2,Hz d3]
def bT (B:Nat) (v:V):Prop:=v.x.natAbs<=B/\v.y.natAbs<=B/\v.z.natAbs<=B
theorem bV {a b:Int} {A B:Nat} (ha:a.natAbs<=A) (hb:b.natAbs<=B):(a*b).natAbs<=A*B:=by rw[Ga];exact Bq ha hb
theorem oY {a b:V} {A B:Nat} (ha:bT A a) (hb:bT B b):(dot a b).natAbs<=3*(A*B):=by have h1:=bV ha.1 hb.1;have h2:=bV ha.2.1 hb.2.1;have h3:=bV ha.2.2 hb.2.2;unfold dot;omega
theorem kK {a b:V} {A B:Nat} (ha:bT A a) (hb:bT B b):bT (2*(A*B)) (aT a b):=by
 obtain⟨a1,a2,a3⟩:=ha;obtain⟨b1,b2,b3⟩:=hb;refine⟨?_,?_,?_⟩<;>simp only[aT]
 · have h1:=bV a2 b3;have h2:=bV a3 b2;omega
 · have h1:=bV a3 b1;have h2:=bV a1 b3;omega
 have h1:=bV a1 b2;have h2:=bV a2 b1;omega
theorem fV {a b:V} {A B:Nat} (ha:bT A a) (hb:bT B b):bT (A+B) (sub a b):=by obtain⟨a1,a2,a3⟩:=ha;obtain⟨b1,b2,b3⟩:=hb;refine⟨?_,?_,?_⟩<;>simp only[sub]<;>omega
theorem tG {v:V} {B:Nat} (h:bT B v):bT B (gJ v):=by
 rw[Rj]
 have key:∀a:Int,a.natAbs<=B->(a.tdiv (gE v)).natAbs<=B:=fun a ha=>by rw[Int.natAbs_tdiv];exact Cb (Jr _ _) ha
 exact⟨key _ h.1,key _ h.2.1,key _ h.2.2⟩
theorem JB {v:V} {B:Nat} (h:bT B v):bT B (neg v):=by obtain⟨a1,a2,a3⟩:=h;refine⟨?_,?_,?_⟩<;>simp only[neg]<;>omega
end Go.aI
namespace Go.Av
open Go Go.sK
def wC (l:List Nat):List AV:=l.map fun(n:Nat)=>AV.int .u32 n
theorem dA (l:List Nat):(wC l).length=l.length:=by simp[wC]
def zs:List Nat:=List.replicate 16 0
theorem aTb:[AV.int .u32 0,.int .u32 0,.int .u32 0,.int .u32 0,.int .u32 0,.int .u32 0,.int .u32 0,.int .u32 0,.int .u32 0,.int .u32 0,.int .u32 0,.int .u32 0,.int .u32 0,.int .u32 0,.int .u32 0,.int .u32 0]=wC zs:=rfl
def SQ (l:List Nat):Prop:=l.length=16/\∀d∈l,d<W
theorem SQ.zs:SQ zs:=⟨rfl,fun d hd=>by rw[Hn hd];decide⟩
theorem SQ.bC (n:Nat):SQ (bC 16 n):=⟨cM _ _,IT⟩
theorem aHy {l:List Nat} {n:Nat} (h:l.length<=n):(wC l).take n=wC l:=Ar (by rw[dA];exact h)
theorem aHx {l:List Nat} {n:Nat} (h:l.length<=n):(wC l).drop n=[]:=Bt (by rw[dA];exact h)
theorem vH {l:List Nat} {i:Nat} (h:i<l.length):(wC l).getD i aD=.int .u32 (l.getD i 0):=by unfold wC;rw[Bw,Bw,Cz,Ab h];rfl
theorem CN {l:List Nat} {i:Nat} (h:i<l.length) (x:Nat):fY (wC l) i [.int .u32 (x:Int)]=wC (l.set i x):=by unfold fY wC;rw[List.map_set,List.set_eq_take_append_cons_drop,if_pos (by simpa using h)];simp
theorem Qp:∀(a b:List Nat),a.length=b.length->cJ (List.replicate a.length .i) (wC a) (wC b)=some (decide (a=b))
 |[],[],_=>rfl
 |[],y::b,h=>by simp at h
 |x::a,[],h=>by simp at h
 |x::a,y::b,h=>by have ih:=Qp a b (by simpa using h);simp only[wC,Bv,Aq,Dy,cJ,if_true] at ih ⊢;rw[ih];by_cases hx:x=y<;>by_cases CQ:a=b<;>simp[hx,CQ]<;>omega
theorem Qo {a b:List Nat} (ha:a.length=16) (hb:b.length=16):cJ [.i,.i,.i,.i,.i,.i,.i,.i,.i,.i,.i,.i,.i,.i,.i,.i] (wC a) (wC b)=some (decide (a=b)):=by
 have :=Qp a b (by omega)
 rwa [ha] at this
def cI (z:Int):List AV:=.bool false::.bool (decide (z<0))::wC (bC 16 z.natAbs)
def EI:List AV:=.bool true::.bool false::wC zs
def cO:Option Int->List AV
 |some z=>cI z
 |none=>EI
def norm (z:Int):Option Int:=if z.natAbs<W^16 then some z else none
def sg (neg:Bool) (n:Nat):Int:=if neg then -(n:Int) else n
def DG (b n:Bool) (l:List Nat):Bool:= !b&&(!n|| !decide (l=zs))
def QV (b n:Bool) (l:List Nat):Option Int:=if DG b n l then some (sg n (CF l)) else none
def iU (v:List AV) (x:Option Int):Prop:=∃b n l,SQ l/\v=.bool b::.bool n::wC l/\x=QV b n l
theorem YR:CF zs=0:=by decide
theorem FF:bC 16 0=zs:=by decide
theorem cm {l:List Nat} (h:SQ l):CF l<W^16:=by
 have :=TQ l h.2
 rwa [h.1] at this
theorem Kx {l:List Nat} (h:SQ l):bC 16 (CF l)=l:=by
 have :=RV h.2
 rwa [h.1] at this
theorem BB {l:List Nat} (h:SQ l):CF l=0↔l=zs:=by
 constructor
 · intro e;rw[<-Kx h,e,FF]
 rintro rfl;exact YR
theorem lB (n:Bool) (m:Nat):(sg n m).natAbs=m:=by cases n<;>simp[sg]
theorem SE {b n:Bool} {l:List Nat} {z:Int} (h:SQ l) (e:QV b n l=some z):b=false/\n=decide (z<0)/\l=bC 16 z.natAbs/\z.natAbs<W^16:=by
 unfold QV at e;split at e
 · rename_i hg;obtain rfl:=Aa e;simp only[DG,Am,Cp,Dp,Bk] at hg;refine⟨hg.1,?_,?_,?_⟩
   · cases n with
     |false=>simp[sg]
     |true=>
      have :CF l≠0:=fun e=>by
       rcases hg.2 with h2|h2
       · cases h2
       exact h2 ((BB h).1 e)
      simp[sg];omega
   · rw[lB,Kx h]
   rw[lB];exact cm h
 cases e
theorem iU.some {v:List AV} {z:Int} (h:iU v (some z)):v=cI z/\z.natAbs<W^16:=by obtain⟨b,n,l,hl,rfl,hv⟩:=h;obtain⟨rfl,rfl,rfl,h4⟩:=SE hl hv.symm;exact⟨rfl,h4⟩
theorem aCe {z:Int} (h:z.natAbs<W^16):QV false (decide (z<0)) (bC 16 z.natAbs)=Option.some z:=by
 have :DG false (decide (z<0)) (bC 16 z.natAbs)=true:=by
  simp only[DG,Gm,Cr,Dp,Cp,Bk];by_cases hz:z<0
  · refine .inr fun e=>?_;have :=iX h;rw[e,YR] at this;omega
  exact .inl hz
 unfold QV;rw[if_pos this,iX h];congr 1;by_cases hz:z<0<;>simp[sg,hz]<;>omega
theorem iU.enc {z:Int} (h:z.natAbs<W^16):iU (cI z) (Option.some z):=⟨false,_,_,.bC _,rfl,(aCe h).symm⟩
theorem iU.bad:iU EI none:=⟨true,false,zs,.zs,rfl,rfl⟩
theorem kz {z x:Int} (h:norm z=Option.some x):x=z/\z.natAbs<W^16:=by
 unfold norm at h;split at h
 · rename_i hz;exact⟨(Aa h).symm,hz⟩
 cases h
theorem iU.norm (z:Int):iU (cO (Av.norm z)) (Av.norm z):=by
 cases h:Av.norm z with
 |none=>exact .bad
 |some x=>exact .enc (by obtain⟨rfl,h2⟩:=kz h;exact h2)
theorem Ux:∀l,bL (wC l)=true
 |[]=>rfl
 |x::l=>by simp only[wC,Bv,bL,AV.free,Cr];exact Ux l
theorem sf:(∀l,bL (wC l)=true)/\(∀b,(AV.bool b).free=true)/\(∀k n,(AV.int k n).free=true)/\(∀s,(AV.str s).free=true)/\(∀cs,(AV.agg cs).free=bL cs)/\(∀cs,(AV.jR cs).free=bL cs)/\
 (∀sz els,(AV.aU 1 sz els).free=dM els)/\(∀sz els,(AV.aU 0 sz els).free=dM els)/\(∀x r,bL (x::r)=(x.free&&bL r))/\(bL []=true)/\(∀x r,dM (x::r)=(bL x&&dM r))/\(dM []=true)/\(∀b,(b&&true)=b)/\(∀b,(true&&b)=b)/\
 AV.aS.free=true/\AV.LD.free=true/\AV.wZ.free=true:=
 ⟨Ux,fun _=>by simp only[AV.free],fun _ _=>by simp only[AV.free],fun _=>by simp only[AV.free],fun _=>by simp only[AV.free],fun _=>by simp only[AV.free],fun _ _=>by simp[AV.free],fun _ _=>by simp[AV.free],fun _ _=>by simp only[bL],by simp only[bL],fun _ _=>by simp only[dM],by simp only[dM],Fs,Cr,by simp only[AV.free],by simp only[AV.free],by simp only[AV.free]⟩
theorem dC (z:Int):bL (cI z)=true:=by simp only[cI,sf]
theorem HO (x:Option Int):bL (cO x)=true:=by cases x<;>simp only[cO,cI,EI,sf]
theorem sfI:bL EI=true/\(∀z,bL (cI z)=true)/\∀x,bL (cO x)=true:=⟨HO none,dC,HO⟩
theorem dW {α:Type} {f:α->List AV} (h:∀x,bL (f x)=true):∀l:List α,dM (l.map f)=true
 |[]=>by simp only[Fg,dM]
 |x::l=>by simp only[Bv,dM,h,dW h l,Df]
theorem aB (k:IntKind) (n:Nat):asNat (.int k (n:Int))=some n:=by simp[asNat]
theorem nC:(∀k,asNat (.int k 0)=some 0)/\(∀k,asNat (.int k 1)=some 1)/\(∀k,asNat (.int k 2)=some 2)/\(∀k,asNat (.int k 3)=some 3):=⟨fun _=>rfl,fun _=>rfl,fun _=>rfl,fun _=>rfl⟩
theorem eR {α:Type} {f:α->List AV} {l:List α} {i:Nat} (h:i<l.length):(l.map f).getD i []=f l[i]:=by simp[List.getD,h]
theorem aBz {α:Type} {p:α->Bool} {l:List α} {i:Nat} (h:i<l.length) (ht:(l.take i).all p=true):(l.take (i+1)).all p=p l[i]:=by rw[Al,List.all_append,ht];simp[h]
structure zL where
 b:Bool
 n:Bool
 l:List Nat
 hl:SQ l
def zL.cells (r:zL):List AV:=.bool r.b::.bool r.n::wC r.l
def zL.Xn (r:zL):Bool:=DG r.b r.n r.l
theorem jm (r:zL):bL r.cells=true:=by simp only[zL.cells,sf]
theorem lI {a i:Nat} (h:i<16):(wC (bC 16 a)).getD i aD=.int .u32 (bF a i):=by rw[vH (by rw[cM];exact h),kM h]
def KT (a b:Nat):Int:=if a<b then -1 else if b<a then 1 else 0
theorem aDx {a b k:Nat} (h:a / W^(k+1)=b / W^(k+1)) (hk:bF a k≠bF b k):KT a b=KT (bF a k) (bF b k):=by
 unfold KT
 rcases Nat.lt_or_gt_of_ne hk with hc|hc
 · have :=OW h hc;rw[if_pos this,if_pos hc]
 have :=OW h.symm hc;rw[if_neg (by omega),if_pos this,if_neg (by omega),if_pos hc]
def TX (i:Nat) (l:List Nat):List Nat:=l.take i++List.replicate (l.length -i) 0
theorem yF {i:Nat} {l:List Nat}:(TX i l).length=l.length:=by simp[TX];omega
theorem aAf (l:List Nat):TX 0 l=List.replicate l.length 0:=by simp[TX]
theorem aGr (l:List Nat):TX l.length l=l:=by simp[TX]
theorem aGs {i:Nat} {l:List Nat} (h:i<l.length):(TX i l).set i (l.getD i 0)=TX (i+1) l:=by
 refine Gj (by simp[yF]) fun k h1 h2=>?_;have hk:k<l.length:=by rw[yF] at h2;exact h2
 rw[List.getElem_set];simp only[TX,List.getElem_append,Cq,List.getElem_take,List.getElem_replicate];split
 · rename_i e;subst e;rw[dif_pos (by omega)];simp[List.getD,h]
 rename_i e
 split<;>split<;>first|rfl|omega
theorem Ot (n:Nat):TX 0 (bC 16 n)=zs:=by rw[aAf,cM];rfl
theorem Rh (n:Nat):TX 16 (bC 16 n)=bC 16 n:=by
 have :=aGr (bC 16 n)
 rwa [cM] at this
theorem JH (i n:Nat):(wC (TX i (bC 16 n))).length=16:=by rw[dA,yF,cM]
theorem l9 {i n:Nat} (h:i<16) {x:Int} (hx:x=(bF n i:Nat)):fY (wC (TX i (bC 16 n))) i [.int .u32 x]=wC (TX (i+1) (bC 16 n)):=by rw[hx,CN (by rw[yF,cM];exact h),<-aGs (by rw[cM];exact h),kM h]
theorem Oq {i n:Nat} (h:i<16) {x:Int} (hx:x=(bF n i:Nat)):(wC (TX i (bC 16 n))).take i++[AV.int .u32 x]++(wC (TX i (bC 16 n))).drop (i+1)=wC (TX (i+1) (bC 16 n)):=l9 h hx
theorem ZL (u:Nat):IntKind.u32.wrap (u:Int)=((u%W:Nat):Int):=by simp[IntKind.wrap,IntKind.bits,IntKind.signed,W]
theorem sE {x:Int} {u:Nat} (h:u<2^64) (e:x=u\/x=u -2^64\/x=u+2^64):IntKind.u64.wrap x=u:=by simp only[IntKind.wrap,IntKind.bits,IntKind.signed];simp;omega
theorem Nh (u:Nat):(u:Int).fdiv (2^min (Int.toNat 32) IntKind.u64.bits)=((u / W:Nat):Int):=by show(u:Int).fdiv (2^32)=_;rw[Jg _ (by decide)];rfl
def NI:Option Int->Option Int->Option Int
 |some x,some y=>norm (x+y)
 |_,_=>none
def QM:Option Int->Option Int
 |some x=>some (-x)
 |none=>none
theorem iU.raw {v:List AV} {x:Option Int} (h:iU v x):∃r:zL,v=r.cells/\x=QV r.b r.n r.l/\r.Xn=x.isSome:=by obtain⟨b,n,l,hl,rfl,rfl⟩:=h;refine⟨⟨b,n,l,hl⟩,rfl,rfl,?_⟩;simp only[zL.Xn,QV];split<;>rename_i h<;>simp[h]
theorem iU.len {v:List AV} {x:Option Int} (h:iU v x):v.length=18:=by obtain⟨b,n,l,hl,rfl,rfl⟩:=h;simp[dA,hl.1]
theorem iU.free {v:List AV} {x:Option Int} (h:iU v x):bL v=true:=by obtain⟨b,n,l,hl,rfl,rfl⟩:=h;simp only[sf]
theorem dH (z:Int):(cI z).length=18:=by simp[cI,dA,cM]
theorem EJ (x:Option Int):(cO x).length=18:=by
 cases x
 · simp[cO,EI,dA,zs]
 exact dH _
theorem oL {cs:List AV} {n:Nat} (h:cs.length=n):cs.length=n/\cs.take n=cs/\cs.drop n=[]:=⟨h,Ar (by omega),Bt (by omega)⟩
theorem cOl:(∀x,(cO x).length=18)/\(∀x,(cO x).take 18=cO x)/\(∀x,(cO x).drop 18=[])/\(∀x,(cI x).length=18)/\(∀x,(cI x).take 18=cI x)/\(∀x,(cI x).drop 18=[]):=
 ⟨EJ,fun x=>(oL (EJ x)).2.1,fun x=>(oL (EJ x)).2.2,dH,fun x=>(oL (dH x)).2.1,fun x=>(oL (dH x)).2.2⟩
theorem iU.add {x y:Option Int}:iU (cO (NI x y)) (NI x y):=by cases x<;>cases y<;>first|exact .norm _|exact .bad
theorem iU.neg {x:Option Int} {v:List AV} (h:iU v x):iU (cO (QM x)) (QM x):=by
 cases x with
 |none=>exact .bad
 |some z=>exact .enc (by have :=h.some.2;rwa [Kc])
def MW:Option Int->Option Int->Option Int
 |some x,some y=>norm (x*y)
 |_,_=>none
def smO (x y:Nat->Option Int):Nat->Option Int
 |0=>some 0
 |i+1=>NI (smO x y i) (MW (x i) (y i))
theorem iU.mul {x y:Option Int}:iU (cO (MW x y)) (MW x y):=by cases x<;>cases y<;>first|exact .norm _|exact .bad
theorem iU.sm {x y:Nat->Option Int}:∀i,iU (cO (smO x y i)) (smO x y i)
 |0=>.enc (by decide)
 |i+1=>.add
def XT (x y:Nat->Option Int) (i:Nat):Option Int:=NI (MW (x ((i+1)%3)) (y ((i+2)%3))) (QM (MW (x ((i+2)%3)) (y ((i+1)%3))))
theorem iU.fit {v:List AV} {z:Int} (h:iU v (Option.some z)):z.natAbs<W^16:=h.some.2
theorem iL {l:List Nat} (h:SQ l):(wC l).length=16/\l.length=16/\(wC l).take 16=wC l/\(wC l).drop 16=[]/\cJ [.i,.i,.i,.i,.i,.i,.i,.i,.i,.i,.i,.i,.i,.i,.i,.i] (wC l) (wC zs)=some (decide (l=zs)):=
 ⟨by rw[dA,h.1],h.1,aHy (by rw[h.1];omega),aHx (by rw[h.1];omega),Qo h.1 rfl⟩
theorem iz:(wC zs).length=16/\(wC zs).take 16=wC zs/\(wC zs).drop 16=[]:=⟨(iL .zs).1,(iL .zs).2.2.1,(iL .zs).2.2.2.1⟩
def c3 (c:Nat->List AV):List AV:=c 0++(c 1++c 2)
theorem fX {c:Nat->List AV} (h:∀i,i<3->(c i).length=18):(c3 c).length=54:=by simp[c3,h 0 (by decide),h 1 (by decide),h 2 (by decide)]
theorem rT {c:Nat->List AV} (h:∀i,i<3->(c i).length=18) {i:Nat} (hi:i<3):((c3 c).drop (i*18)).take 18=c i:=by
 have h0:=h 0 (by decide);have h1:=h 1 (by decide);have h2:=h 2 (by decide)
 match i,hi with
 |0,_=>simp[c3,Ip,h0]
 |1,_=>simp[c3,Ft,Ip,h0,h1]
 |2,_=>simp[c3,Ft,Ip,h0,h1,h2,Bt (show(c 0).length<=36 by omega),Ar (show(c 2).length<=18 by omega)]
theorem GY {c d:Nat->List AV} (h:∀i,i<3->c i=d i):c3 c=c3 d:=by simp only[c3,h 0 (by decide),h 1 (by decide),h 2 (by decide)]
theorem tz {c:Nat->List AV} (h:∀i,i<3->(c i).length=18) {i:Nat} (hi:i<3) {x:List AV} (hx:x.length=18):
 (c3 c).take (i*18)++x++(c3 c).drop (i*18+18)=c3 (fun j=>if j=i then x else c j):=by
 have h0:=h 0 (by decide);have h1:=h 1 (by decide);have h2:=h 2 (by decide)
 match i,hi with
 |0,_=>simp[c3,Ft,h0]
 |1,_=>simp[c3,Ft,Ip,h0,h1]
 |2,_=>simp[c3,Ft,Ip,h0,h1,h2,Ar (show(c 0).length<=36 by omega),Bt (show(c 0).length<=54 by omega),Bt (show(c 1).length<=36 by omega),Bt (show(c 2).length<=18 by omega)]
theorem kJ {c:Nat->List AV} (h:∀i,i<3->bL (c i)=true):bL (c3 c)=true:=by simp[c3,gS,h 0 (by decide),h 1 (by decide),h 2 (by decide)]
theorem aDr:cI 0=.bool false::.bool false::wC zs:=by simp[cI,FF]
theorem yP: .bool false::.bool false::.int .u32 0::.int .u32 0::.int .u32 0::.int .u32 0::.int .u32 0::.int .u32 0::.int .u32 0::.int .u32 0::.int .u32 0::.int .u32 0::.int .u32 0::.int .u32 0::.int .u32 0::.int .u32 0::.int .u32 0::.int .u32 0::.bool false::.bool false::.int .u32 0::.int .u32 0::.int .u32 0::.int .u32 0::.int .u32 0::.int .u32 0::.int .u32 0::.int .u32 0::.int .u32 0::.int .u32 0::.int .u32 0::.int .u32 0::.int .u32 0::.int .u32 0::.int .u32 0::.int .u32 0::.bool false::.bool false::wC zs=c3 (fun _=>cI 0):=by simp only[aDr];rfl
def _root_.Go.aI.V.at (v:aI.V) (i:Nat):Int:=match i with
 |0=>v.x
 |1=>v.y
 |_=>v.z
def cG (v:aI.V):List AV:=[.int .i64 v.x,.int .i64 v.y,.int .i64 v.z]
theorem aM (v:aI.V):(cG v).length=3:=rfl
theorem jP (v:aI.V) {i:Nat} (hi:i<3):(cG v).getD i aD=.int .i64 (v.at i):=by
 match i,hi with
 |0,_=>rfl
 |1,_=>rfl
 |2,_=>rfl
theorem cE (v:aI.V):bL (cG v)=true:=by simp only[cG,sf]
end Go.Av
namespace Go.Av
open Go
section
section
variable {P:Program} {g:bB} {n:Nat} {r:List bD} {f:dD} {ds:List gH} {H:aA} {Q:FQ}
theorem LU {d m:Nat} {x:Arg} {es:List (AV×AV)} (hd:d<n) (hx:nY g f x=.map m) (hm:H.get m=some (.map es))
 (h:∀bs c mb,bs.length=es.length->bs.Nodup->bY P g n r (jM f d (.ref H.next 0)) ds ((H.set m (.sT es bs c mb)).alloc (.iter m mb c [])) Q):
 bY P g n (⟨some d,.vQ x,none⟩::r) f ds H Q:=by
 have :∀v,fN n f (some d) v=jM f d v:=fun v=>by simp[fN,hd]
 unfold bY;simp only[gW,if_true,this];exact⟨m,es,hx,hm,h⟩
theorem NF {d it m mb c:Nat} {x:Arg} {es:List (AV×AV)} {seen bs:List Nat} (hd:d<n) (hx:nY g f x=.ref it 0) (hi:H.get it=some (.iter m mb c seen)) (hm:H.get m=some (.sT es bs c mb))
 (h0:(∀b∈bs,b∈seen)->bY P g n r (jM f d (.jR [.bool false])) ds H Q)
 (h1:∀j,j<bs.length->bs.getD j 0∉seen->bY P g n r (jM f d (.jR [.bool true,(es.getD j (aD,aD)).1,(es.getD j (aD,aD)).2])) ds (H.set it (.iter m mb c (seen++[bs.getD j 0]))) Q):
 bY P g n (⟨some d,.DN x,none⟩::r) f ds H Q:=by
 have :∀v,fN n f (some d) v=jM f d v:=fun v=>by simp[fN,hd]
 unfold bY;simp only[gW,if_true,this];exact⟨it,m,mb,c,seen,es,bs,hx,hi,hm,h0,h1⟩
theorem UO {d it m mb c j:Nat} {x:Arg} {es:List (AV×AV)} {seen bs:List Nat} (hd:d<n) (hx:nY g f x=.ref it 0) (hi:H.get it=some (.iter m mb c (seen++[bs.getD j 0]))) (hm:H.get m=some (.sT es bs c mb)) (hj:j<bs.length)
 (h:bY P g n r (jM f d (.jR [(es.getD j (aD,aD)).1,(es.getD j (aD,aD)).2])) ds H Q):
 bY P g n (⟨some d,.yB x,none⟩::r) f ds H Q:=by
 have :∀v,fN n f (some d) v=jM f d v:=fun v=>by simp[fN,hd]
 unfold bY;simp only[gW,if_true,this];exact⟨it,m,mb,c,seen,es,bs,j,hx,hi,hm,hj,h⟩
end
def cW (H:aA):Prop:=∀j,H.next<=j->H.get j=none
theorem cW.nil (n:Nat):cW ⟨n,.nil⟩:=fun _ _=>rfl
theorem cW.alloc {H:aA} (h:cW H) (o:fE):cW (H.alloc o):=fun j hj=>by simp only[aA.aZ] at hj;rw[aA.aJ,if_neg (by omega)];exact h j (by omega)
theorem cW.set {H:aA} (h:cW H) {id:Nat} (hi:id<H.next) (o:fE):cW (H.set id o):=fun j hj=>by simp only[aA.aW] at hj;rw[aA.aC,if_neg (by omega)];exact h j hj
theorem cW.at1 {H:aA} (h:cW H):mQ H 1=true:=by simp only[mQ,Cy,h _ (Ak _)];rfl
theorem cW.at2 {H:aA} (h:cW H):mQ H 2=true:=by simp only[mQ,Cy,h _ (Ak _),h (H.next+1) (by omega)];rfl
def kC (sz:Nat) (els:List (List AV)):AV:=if els=[] then .aS else .aU 0 sz els
theorem np {sz:Nat} {els:List (List AV)} (h:dM els=true):(kC sz els).free=true:=by unfold kC;split<;>simp[AV.free,h]
theorem NU {sz:Nat}:∀{els:List (List AV)},(∀e∈els,e.length=sz)->fS sz els.length els.flatten=els
 |[],_=>rfl
 |e::els,h=>by have he:=h e Ax;simp only[Aq,fS,Bx];rw[Co (by omega),Ar (by omega),It (by omega),Bt (by omega),Dw,NU fun x hx=>h x (Ay _ hx)]
theorem oN {sz:Nat}:∀{els:List (List AV)},(∀e∈els,e.length=sz)->els.flatten.length=els.length*sz
 |[],_=>by simp
 |e::els,h=>by have he:=h e Ax;have :=oN fun x hx=>h x (Ay e hx);simp only[Bx,Au,Aq,Cn,Gp];omega
theorem WQ {H2:aA} {id sz cap:Nat} {els:List (List AV)} {eI:Bool} (hg:H2.get id=some (.cells els.flatten eI)) (hu:∀e∈els,e.length=sz) (hf:dM els=true) (nw:Nat):
 gK H2 none nw 0 (.sl id sz 0 els.length cap)=some (.aU 0 sz els):=by
 have hc:H2.eW id=some els.flatten:=by simp[aA.eW,hg]
 have hl:Nat.ble (0+els.length*sz) els.flatten.length=true:=by rw[oN hu];simp
 simp only[gK,fU,hc,Ef,hl,mA hf,Df,NU hu]
theorem zS {H:aA} {sz bytes:Nat} {ys:List (List AV)} (hy:ys.isEmpty=false) (hb:ys.length*bytes<=2^40):eF H sz bytes true .aS ys=some (.sl H.next sz 0 ys.length ys.length,H.alloc (.cells ys.flatten true)):=by simp[eF,hy,hb,lJ]
theorem zT {H:aA} {id n sz bytes:Nat} {cs:List AV} {ys:List (List AV)} (hg:H.get id=some (.cells cs true)) (hc:cs.length=n*sz) (hy:ys.isEmpty=false) (hb:(n+ys.length)*bytes<=2^40) (hs:1<=sz):
 eF H sz bytes true (.sl id sz 0 n n) ys=some (.sl H.next sz 0 (n+ys.length) (n+ys.length),(H.set id .dead).alloc (.cells (cs++ys.flatten) true)):=by
 have hl:0<ys.length:=by cases ys with
  |nil=>simp at hy
  |cons _ _=>simp
 simp only[eF,hy,Be,Cm,hg,hb,hs,and_self,if_true];rw[if_neg (by omega),if_neg (by simp[hc]),if_pos ⟨trivial,trivial,trivial,hc⟩]
def Has (H:aA) (sz:Nat) (v:AV) (els:List (List AV)):Prop:=v=.aU 1 sz els\/Own H sz v els
theorem Has.push {H:aA} {sz bytes:Nat} {v:AV} {els ys:List (List AV)} (h:Has H sz v els) (hy:ys.isEmpty=false) (hb:(els.length+ys.length)*bytes<=2^40):
 ∃H',eF H sz bytes false v ys=some (.aU (H.next+2) sz (els++ys),H')/\H'.next=H.next+1/\H'.get H.next=some .tok/\(∀id,id<H.next->H.get id≠some .tok->H'.get id=H.get id)/\(cW H->cW H'):=by
 have fresh:∀AG:List (List AV),eF H sz bytes false v ys=some (lJ H false sz AG)->∃H',eF H sz bytes false v ys=some (.aU (H.next+2) sz AG,H')/\H'.next=H.next+1/\H'.get H.next=some .tok/\(∀id,id<H.next->H.get id≠some .tok->H'.get id=H.get id)/\(cW H->cW H'):=fun AG e=>⟨H.alloc .tok,e,by simp,by rw[aA.aJ,if_pos rfl],fun id h1 _=>by rw[aA.aJ,if_neg (by omega)],fun hf=>hf.alloc _⟩
 rcases h with rfl|⟨rfl,rfl⟩|⟨k,rfl,xm,hk⟩
 · exact fresh _ (by simp[eF,hy,hb])
 · simp only[Bj,Cv] at hb;exact fresh _ (by simp[eF,hy,hb])
 refine⟨(H.set k .dead).alloc .tok,by simp[eF,hy,hb,hk],by simp,by rw[aA.aJ,aA.aW,if_pos rfl],fun id h1 h2=>?_,fun hf=>(hf.set xm _).alloc _⟩;rw[aA.aJ,aA.aW,if_neg (by omega),aA.aC,if_neg];rintro rfl;exact h2 hk
theorem Has.yq {H H':aA} {sz:Nat} {v:AV} {els:List (List AV)} (h:Has H sz v els) (hn:H.next<=H'.next) (hk:∀k,k<H.next->H.get k=some .tok->H'.get k=some .tok):Has H' sz v els:=by
 rcases h with rfl|⟨rfl,rfl⟩|⟨k,rfl,h1,h2⟩
 · exact .inl rfl
 · exact .inr (.inl ⟨rfl,rfl⟩)
 exact .inr (.inr ⟨k,rfl,by omega,hk k h1 h2⟩)
theorem Has.shut {H2:aA} {sz:Nat} {v:AV} {els:List (List AV)} (h:Has H2 sz v els) (cK:els≠[]) (hl:v≠ .aU 1 sz els) (hf:dM els=true) (nw:Nat):gK H2 none nw 0 v=some (.aU 0 sz els):=by
 rcases h with rfl|⟨rfl,rfl⟩|⟨k,rfl,h1,h2⟩
 · exact absurd rfl hl
 · exact absurd rfl cK
 simp[gK,fU,hf,FW]
end
end Go.Av
namespace Go.Av
open Go Go.Proofs Go.Shelf Go.Lib Go.Sort
abbrev BU (k:Nat):={l:List Int // l.length=k}
instance (k:Nat):Inhabited (BU k):=⟨⟨List.replicate k 0,by simp⟩⟩
def wH {k:Nat} (x:BU k):List Value:=x.1.map (Value.int .i64)
def Uj {k:Nat} (x:BU k):List AV:=x.1.map (AV.int .i64)
def mD {k:Nat} (d:List (BU k)):List Int:=d.flatMap (·.1)
theorem uz {k:Nat} (x:BU k):(wH x).length=k:=by simp[wH,x.2]
def Gno:Gh:=⟨fun _=>none,fun _ _=>False,true⟩
theorem WR.empty {g:bB} (hg:∀n,g n=none) (w:World):WR g Gno ⟨0,.nil⟩ w where
 cells:=fun id l cs eI h=>by cases h
 room:=fun id l h=>by cases h
 kT:=fun id kG l l' _ h=>by cases h
 jY:=fun id l h=>by cases h
 iM:=fun id l o h=>by cases h
 lt:=fun id l h=>by cases h
 iR:=fun b o h=>h.elim
 jA:=fun n cs h=>by rw[hg n] at h;cases h
 CA:=fun n cs h h0=>by rw[hg n] at h;cases h
 mo:=by unfold bB.mo;rw[hg];rfl
theorem iF.ints {G:Gh} {w:World} (l:List Int):iF G w (l.map (AV.int .i64)) (l.map (Value.int .i64)):=by
 refine⟨by simp,fun j hj=>?_⟩;have GA:j<l.length:=by simpa using hj
 have e1:(l.map (AV.int .i64)).getD j aD=.int .i64 l[j]:=by simp[List.getD,GA]
 have e2:(l.map (Value.int .i64)).getD j undef=.int .i64 l[j]:=by simp[List.getD,GA]
 rw[e1,e2];exact .int ..
theorem Tp {G':Gh} {H':aA} {w w':World} (e:Ext Gno ⟨0,.nil⟩ w G' H' w'):∃q os',w'=grow (w.drewN q) os':=by
 refine⟨w'.drawn -w.drawn,w'.heap.extract w.heap.size w'.heap.size,?_⟩
 have hh:w'.heap=w.heap++w'.heap.extract w.heap.size w'.heap.size:=by
  apply Array.ext_getElem?;intro b;rw[Array.getElem?_append];have hs:=e.size;split
  · rename_i hb;exact e.frame b hb (fun id l h=>by cases h)
  rename_i hb;rw[Array.getElem?_extract];by_cases h2:b<w'.heap.size
  · rw[if_pos (by omega)];congr 1;omega
  rw[if_neg (by omega),Ij (by omega)]
 obtain⟨h1,h2,h3,h4⟩:=e.same
 replace h4:=h4 rfl
 cases w';cases w;simp only[grow,World.drewN,World.mk.injEq] at *;exact⟨hh,h3,by omega,h1,h2⟩
theorem SZ {P:Program} {f:FuncId} (pG:MG P f) (args:Array Value) (w:World):(callFunc f args).run P w=.ok (.enter f args) w:=by
 obtain⟨fn,h1,h2,h3⟩:=pG;have hb:¬fn.body=none:=fun hh=>by rw[hh] at h2;cases h2
 have h3':¬fn.name= "runtime.NumGoroutine" :=by simpa using h3
 simp[callFunc,program,Sem.run,h1,h3',hb]
theorem aDw {P:Program} {g:bB} (hg:∀n,g n=none) {k:Nat} {gf:FuncId} {cf:BU k->BU k->Int}
 (Zt:∀x y,Sound P g gf [.agg (Uj x),.agg (Uj y)] ⟨0,.nil⟩ (.ret (.int .i64 (cf x y))) ⟨0,.nil⟩) (cY off size:Nat) (w:World):CmpLays P gf #[] wH k cf cY off size w:=by
 intro m os dk hs x y
 have hv:∀z:BU k,VR Gno (sortWorldK wH k w cY off m dk os) (.agg (Uj z)) (.agg (wH z).toArray):=fun z=>by have :=iF.ints (G:=Gno) (w:=sortWorldK wH k w cY off m dk os) z.1;exact .agg _ _ this.1 (fun c hc=>by obtain⟨n,_,rfl⟩:=Bf.1 hc;rfl) this.2
 refine((Zt x y).2 Gno (sortWorldK wH k w cY off m dk os) [.agg (wH x).toArray,.agg (wH y).toArray] (WR.empty hg _) ⟨rfl,fun j hj=>?_⟩).mono fun e w' he=>?_
 · match j,hj with
   |0,_=>exact hv x
   |1,_=>exact hv y
 obtain⟨G',h1,h2,h3⟩:=he;refine⟨?_,Tp h2⟩
 cases e with
 |returned u=>cases h3;rfl
 |_=>exact h3.elim
theorem Rq {k:Nat} (hk:1<=k):∀(d:List (BU k)) (t:Nat),t<d.length*k->(mD d)[t]?=some ((d[t / k]?.getD default).1[t%k]?.getD 0)
 |[],t,h=>by simp at h
 |x::d,t,h=>by
  have hx:=x.2;simp only[mD,Dr];rw[Dh];split
  · rename_i h1;rw[Ei (by omega),Db (by omega)];simp[Ab h1]
  rename_i h1;have h2:k<=t:=by omega
  have h3:t -k<d.length*k:=by simp only[Aq,Cn,Gp] at h;omega
  have e1:t / k=(t -k) / k+1:=by rw[<-Nat.add_div_right _ (by omega)];congr 1;omega
  have e2:t%k=(t -k)%k:=by rw[<-Nat.mod_eq_sub_mod h2]
  rw[hx,e1,e2,Gi];exact Rq hk d (t -k) h3
theorem kW {k:Nat}:∀d:List (BU k),(mD d).length=d.length*k
 |[]=>by simp[mD]
 |x::d=>by have :=kW d;simp only[mD,Dr,Au,Aq,x.2,Cn,Gp] at this ⊢;omega
theorem Ut {k:Nat} (hk:1<=k) (d:List (BU k)):flatK wH k d.toArray=((mD d).map (Value.int .i64)).toArray:=by
 refine ext_get! (by simp[kW]) fun t ht=>?_;have ht':t<d.length*k:=by simpa using ht
 rw[get_flatK _ _ _ _ (by simpa using ht')];have h1:=Rq hk d t ht';have hm:t%k<k:=Dg _ (by omega);have hd:t / k<d.length:=by rwa [Ea (by omega)]
 have hl:(d[t / k]).1.length=k:=(d[t / k]).2
 have e2:(((mD d).map (Value.int .i64)).toArray)[t]! =.int .i64 ((d[t / k]).1[t%k]'(by omega)):=by
  rw[getElem!_pos _ _ (by simpa [kW] using ht')];have h3:t<(mD d).length:=by rw[kW];exact ht'
  rw[Ab h3] at h1;simp only[List.getElem_toArray,Ch];rw[Aa h1];simp[hd,Ab (show t%k<(d[t / k]).1.length by omega)]
 rw[e2,getElem!_pos d.toArray (t / k) (by simpa using hd)];simp only[wH,List.getElem_toArray];rw[getElem!_pos _ _ (by simp;omega)];simp
theorem ZH {k:Nat} (hk:1<=k) {w:World} {cY off n:Nat} {d':List (BU k)} {c:Array Value} {el:TypeId} {fz:Nat×Nat} (tV:w.heap[cY]?=some (.cells c el fz)):
 Tu w (putRowK wH k (Sort.ahead w n) cY off d'.toArray) cY off ((mD d').map (Value.int .i64)) where
 size:=by simp[putRowK,putRow,mapBlock,Sort.ahead]
 other:=fun b' hb=>by simp only[putRowK,putRow,mapBlock,Sort.ahead,Gv];rw[if_neg (Ne.symm hb)]
 row:=fun c1 el1 fz1 h=>by
  rw[tV] at h;cases h;refine⟨putCells id off (flatK wH k d'.toArray) c,?_,by simp[putCells],fun o ho=>?_,fun j hj eZ=>?_⟩
  · simp[putRowK,putRow,mapBlock,Sort.ahead,Gv,tV,onCells]
  · simp only[putCells,Array.getElem?_mapIdx,size_flatK]
    have :¬(off<=o/\o<off+d'.toArray.size*k):=by simp only[Ai,kW,Gx] at ho ⊢;omega
    simp only[if_neg this]
    cases c[o]?<;>rfl
  simp only[Ai,kW] at hj;simp only[putCells,Array.getElem?_mapIdx,size_flatK];rw[Dv eZ,Bz,if_pos (by simp;omega)];rw[show off+j -off=j by omega,Ut hk,getElem!_pos _ _ (by simpa [kW] using hj)];simp[List.getD,kW,hj]
 same:=.now (h4:=Hh _ _)
theorem EG {P:Program} {g:bB} (hg:∀n,g n=none) {ρ:Ren} (L:SlLaysF0.n6 P ρ) {k:Nat} (hk:1<=k) (aE:∀w,(isAgg (ρ.t 24)).run P w=.ok true w) (zE:∀w,(Go.sizeOf (ρ.t 24)).run P w=.ok k w)
 {gf sf:FuncId} (hsf:sf=ρ.f 6) (hfs:MG P sf) (hfg:MG P gf) {cf:BU k->BU k->Int} (hO:SWO (ltOf cf))
 (Zt:∀x y,Sound P g gf [.agg (Uj x),.agg (Uj y)] ⟨0,.nil⟩ (.ret (.int .i64 (cf x y))) ⟨0,.nil⟩) (d:List (BU k)) (hd:d.length<4611686018427387904):
 ∃d':List (BU k),d'.Perm d/\(d'.Pairwise fun a b=>¬cf b a<0)/\∀(H:aA) (id:Nat) (eI:Bool),H.get id=some (.cells ((mD d).map (AV.int .i64)) eI)->
  Sound P g sf [.sl id k 0 d.length d.length,.func (.func gf) [] []] H (.ret (.jR [])) (H.set id (.cells ((mD d').map (AV.int .i64)) eI)):=by
 subst hsf;have hp:=pdq_sorts (ltOf cf) hO d.toArray 0 d.toArray.size (Lib.bitLen d.toArray.size) true true (Az _) (Ak _) (Or.inl rfl);generalize hD:pdq (ltOf cf) d.toArray 0 d.toArray.size (Lib.bitLen d.toArray.size) true true=D at hp;obtain⟨⟨q1,q2,q3⟩,q4⟩:=hp
 have aIx:D.toList.Perm d:=by
  rw[<-q1] at q3;have e1:(D.extract 0 D.size).toList=D.toList:=by simp
  have e2:(d.toArray.extract 0 D.size).toList=d:=by rw[q1];simp
  rwa [e1,e2] at q3
 have hlen:D.toList.length=d.length:=aIx.length_eq;refine⟨D.toList,aIx,?_,fun H id eI cT=>⟨hfs,fun G w vs hw lH=>?_⟩⟩
 · rw[Gc];intro i j hi hj yS;have :=q4 i j (Az _) yS (by simp at hj hlen ⊢;omega);simp only[ltOf,Bk] at this;simp only[Cx] at hi hj;rw[getElem!_pos D i hi,getElem!_pos D j hj] at this;simpa using this
 obtain⟨hl,hv⟩:=lH
 match vs,hl with
 |[u0,u1],_=>
  have v0:=hv 0 (by simp);have v1:=hv 1 (by simp);simp only[Dn,Ge] at v0 v1
  cases v0 with
  |sl _ _ _ _ _ jV l sP hle gG qJ=>
   cases v1 with
   |func _ _ _ az bz ha hb _ _=>
    obtain rfl:az=[]:=Cw ha;obtain rfl:bz=[]:=Cw hb;obtain⟨a1,a2,a3,a4,a5⟩:=hw.cells id l _ eI sP cT;obtain⟨c,el,fz,b1,b2,b3⟩:=hw.room id l sP (.inl ⟨_,_,cT⟩);have aTx:((mD d).map (AV.int .i64)).length=d.length*k:=by simp[kW]
    have hH:HoldsK wH k w l.cY (l.base+0) d.toArray:=by intro j hj;rw[size_flatK] at hj;have GA:j<d.length*k:=(by simpa using hj);obtain⟨u,e1,e2⟩:=a5 j (by rw[aTx];exact GA);have hjf:j<(mD d).length:=(by rw[kW];exact GA);have e3:((mD d).map (AV.int .i64)).getD j aD=.int .i64 (mD d)[j]:=(by simp[List.getD,hjf]);rw[e3] at e2;cases e2;refine⟨?_,b3 j (by rw[a1,aTx] at a2;omega)⟩;rw[Cy,e1,Ut hk,getElem!_pos _ _ (by simpa using hjf)];simp
    have hblk:l.cY<w.heap.size:=by
     rcases Gd l.cY w.heap.size with h|h
     · exact h
     rw[Ij h] at b1;cases b1
    have aTy:=AnyQ.slices_SortFunc_eq L k aE zE (wH (k:=k)) uz (fun x v hv=>by obtain⟨n,_,rfl⟩:=Bf.1 hv;rfl) cf hO gf #[] l.cY (l.base+0) jV d.toArray w (fun args w=>SZ hfg args w) (aDw hg Zt _ _ _ _) hH hblk (by simpa using hd);rw[hD] at aTy;refine aTy.mono fun e w' he=>?_;obtain⟨rfl,n,os,rfl⟩:=he;have hup:=ZH hk (w:=w) (cY:=l.cY) (off:=l.base+0) (n:=n) (d':=D.toList) b1
    have ya:fY ((mD d).map (AV.int .i64)) 0 ((mD D.toList).map (AV.int .i64))=(mD D.toList).map (AV.int .i64):=by simp only[fY,Es,Dw,Cv];rw[Bt (by simp[kW,hlen]),Cd]
    obtain⟨r1,r2⟩:=hw.store sP cT (iF.ints (mD D.toList)) (fun c hc=>by obtain⟨n,_,rfl⟩:=Bf.1 hc;rfl) (by simp[kW,hlen]) hup;rw[ya] at r1 r2
    have VI:∀b,b<(putRowK wH k (Sort.ahead w n) l.cY (l.base+0) D.toList.toArray).heap.size->(grow (putRowK wH k (Sort.ahead w n) l.cY (l.base+0) D.toList.toArray) os).heap[b]?=(putRowK wH k (Sort.ahead w n) l.cY (l.base+0) D.toList.toArray).heap[b]?:=fun b hb=>by simp only[grow];rw[Array.getElem?_append_left hb]
    have e0:sortWorldK wH k w l.cY (l.base+0) n D os=grow (putRowK wH k (Sort.ahead w n) l.cY (l.base+0) D.toList.toArray) os:=(by simp[sortWorldK]);rw[e0];refine⟨G,r1.grow VI,r2.trans (Ext.grow r1.iR VI (by simp[grow]) .now),?_⟩;exact .jR _ [] rfl fun j hj=>absurd hj (As _)
theorem lP {P:Program} {g:bB} {ρ:Ren} (L:SlLaysF0.n6 P ρ) {sf:FuncId} (hsf:sf=ρ.f 6) (hfs:MG P sf) (gf:FuncId) (H:aA):Sound P g sf [.aS,.func (.func gf) [] []] H (.ret (.jR [])) H:=by
 subst hsf;refine⟨hfs,fun G w vs hw lH=>?_⟩;obtain⟨hl,hv⟩:=lH
 match vs,hl with
 |[u0,u1],_=>have v0:=hv 0 (by simp);simp only[Dn] at v0;cases v0;refine(AnyF.slices_SortFunc_none L none 0 u1 w).mono fun e w' he=>?_;obtain⟨rfl,rfl⟩:=he;exact⟨G,hw,Ext.refl G H _,.jR _ [] rfl fun j hj=>absurd hj (As _)⟩
end Go.Av
