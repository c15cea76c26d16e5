/-
  Part of the proof of statement 12
-/
import Derived.Test.YtgggiembljfnhaaGreatDoorB05
import Derived.Test.YtgggiembljfnhaaGreatDoorB01
import Derived.Shelf.SlSortCmp.NoneTotal
set_option linter.unusedVariables false
set_option linter.unusedSimpArgs false
set_option linter.unusedSectionVars false
namespace Go.Av
open Go
section
section
variable {P:Program} {g:bG} {n:Nat}
theorem BL {Q:aA->Prop}:∀{ds:List gN} {H:aA},Wa P g ds H Q->∃Hf,Q Hf/\Wa P g ds H fun H'=>H'=Hf
 |[],H,h=>⟨H,h,rfl⟩
 |.call _ _::ds,H,h=>by obtain⟨H1,h1,h2⟩:=h;obtain⟨Hf,q,h3⟩:=BL h2;exact⟨Hf,q,H1,h1,h3⟩
 |.mark _::ds,H,h=>by obtain⟨h1,h2⟩:=h;obtain⟨Hf,q,h3⟩:=BL h2;exact⟨Hf,q,h1,h3⟩
theorem tA {Q Q':aA->Prop} (hq:∀H,Q H->Q' H):∀{ds:List gN} {H:aA},Wa P g ds H Q->Wa P g ds H Q'
 |[],H,h=>hq H h
 |.call _ _::ds,H,h=>by obtain⟨H1,h1,h2⟩:=h;exact⟨H1,h1,tA hq h2⟩
 |.mark _::ds,H,h=>⟨h.1,tA hq h.2⟩
def aKw (P:Program) (g:bG) (rs:List GD) (R:Out->aA->Prop):FQ
 |.normal,f,ds,H|.ret,f,ds,H=>Wa P g ds H fun H1=>∃vs,BC f H1 rs=some vs/\R (.ret (nB vs)) H1
 |.panic v,f,ds,H=>match ds with
  |[]=>R (.JL v) H
  |.mark _::_=>False
  |.call df azs::ds=>∃H1,SB P g df azs (some v) H H1/\Wa P g ds H1 fun H2=>∃vs,BC f H2 rs=some vs/\R (.ret (nB vs)) H2
 |.exit _,_,_,_=>False
theorem aCo {F:BM} {args:List AV} (ha:args.length<=F.ntmps) {H:aA} {R:Out->aA->Prop} (h:FC P g F.ntmps F.body (fN args) [] H (aKw P g F.results R)):
 AC P g F.body (iW F args) [] H (aKx P g F R):=by
 obtain⟨hb,hl⟩:=Ku ha;unfold iW;rw[<-hl];refine fY (fun e s ds H hq=>?_) (GH F.body _ [] H _ hb h);obtain⟨f,rfl,HM,hq⟩:=hq
 have conv:∀H1,(∃vs,BC f H1 F.results=some vs/\R (.ret (nB vs)) H1)->∃vs,lY (LF F.ntmps f) H1 F.results=some vs/\R (.ret (nB vs)) H1:=fun H1 ⟨vs,h1,h2⟩=>⟨vs,by rw[<-IU HM];exact h1,h2⟩
 cases e with
 |normal=>exact tA conv hq
 |ret=>exact tA conv hq
 |panic v=>
  cases ds with
  |nil=>exact hq
  |cons d ds=>
   cases d with
   |mark _=>exact hq.elim
   |call _ _=>obtain⟨H1,h1,h2⟩:=hq;exact⟨H1,h1,tA conv h2⟩
 |exit id=>exact hq
theorem GO {mu:Bool} (hm:Fit P g) {f:FuncId} {F:BM} (hF:kM P g mu f F) {args:List AV} (ha:args.length<=F.ntmps) {H:aA} {R:Out->aA->Prop}
 (h:FC P g F.ntmps F.body (fN args) [] H (aKw P g F.results R)) (hdt:F.body.dO=true:=by first|rfl|decide):∃out H',R out H'/\Sound P g f args H out H':=by
 obtain⟨ae,s,ds,H',q,hA⟩:=Tm hdt (aCo ha h)
 have norm:(ae=.normal\/ae=.ret)->(Wa P g ds H' fun H1=>∃vs,lY s H1 F.results=some vs/\R (.ret (nB vs)) H1)->∃out H',R out H'/\Sound P g f args H out H':=by
  intro hae q;obtain⟨Hf,⟨vs,h1,h2⟩,h3⟩:=BL q;refine⟨_,Hf,h2,pD hm hF (fY (fun e s1 d hh he=>?_) hA)⟩;obtain⟨rfl,rfl,rfl,rfl⟩:=he;have :Wa P g d hh fun H1=>∃WZ,lY s1 H1 F.results=some WZ/\(Out.ret (nB WZ)=Out.ret (nB vs)/\H1=Hf):=tA (fun H1 e=>by subst e;exact⟨vs,h1,rfl,rfl⟩) h3
  rcases hae with rfl|rfl<;>exact this
 cases ae with
 |exit id=>exact q.elim
 |normal=>exact norm (.inl rfl) q
 |ret=>exact norm (.inr rfl) q
 |panic v=>
  cases ds with
  |nil=>refine⟨.JL v,H',q,pD hm hF (fY (fun e s1 d hh he=>?_) hA)⟩;obtain⟨rfl,rfl,rfl,rfl⟩:=he;exact⟨rfl,rfl⟩
  |cons d ds=>
   cases d with
   |mark _=>exact q.elim
   |call _ _=>obtain⟨H1,h1,h2⟩:=q;obtain⟨Hf,⟨vs,q1,q2⟩,q3⟩:=BL h2;refine⟨.ret (nB vs),Hf,q2,pD hm hF (fY (fun e s1 d1 hh he=>?_) hA)⟩;obtain⟨rfl,rfl,rfl,rfl⟩:=he;exact⟨H1,h1,tA (fun H1 e=>by subst e;exact⟨vs,q1,rfl,rfl⟩) q3⟩
variable {r:List bK} {f:dE} {ds:List gN} {H:aA} {Q:FQ}
end
end
section
section
variable {P:Program} {v:Nat->Option (List AV)} {l l':Mq->Loop->Prop}
theorem iJ:bN ⟨v,l⟩=bN ⟨v,l'⟩:=by funext x;cases x<;>rfl
theorem NA:nZ ⟨v,l⟩=nZ ⟨v,l'⟩:=by
 funext x
 induction x with
 |nil=>rfl
 |cons a r ih=>simp only[nZ];rw[ih,iJ (l':=l')]
theorem YE:mZ ⟨v,l⟩=mZ ⟨v,l'⟩:=by
 funext x
 cases x with
 |none=>rfl
 |some a=>simp only[mZ];rw[iJ (l':=l')]
theorem YI (f:Nat->Option (Nat×Nat)):vH ⟨v,l⟩ f=vH ⟨v,l'⟩ f:=by
 funext x
 induction x with
 |nil=>rfl
 |cons a r ih=>simp only[vH];rw[ih,iJ (l':=l')]
theorem za:∀(n:Nat) (x),IB ⟨v,l⟩ n x=IB ⟨v,l'⟩ n x:=by
 intro n x
 induction x generalizing n with
 |nil=>rfl
 |cons a r ih=>simp only[IB];rw[ih,iJ (l':=l')]
theorem Wx (op:BinOp) (t:TypeId) (x y:Operand):pZ P ⟨v,l⟩ op t x y=pZ P ⟨v,l'⟩ op t x y:=by unfold pZ;rw[iJ (l':=l')]
theorem UM (a b:TypeId) (x:Operand):mI P ⟨v,l⟩ a b x=mI P ⟨v,l'⟩ a b x:=by unfold mI;rw[iJ (l':=l')]
theorem SG (t:TypeId) (x:Operand) (a b c:Option Operand):kB P ⟨v,l⟩ t x a b c=kB P ⟨v,l'⟩ t x a b c:=by unfold kB;rw[iJ (l':=l'),YE (l':=l')]
theorem Wz (c:Call):qA P ⟨v,l⟩ c=qA P ⟨v,l'⟩ c:=by unfold qA;rw[iJ (l':=l')]
theorem PZ (mu:Bool) (c:Call):iK P ⟨v,l⟩ mu c=iK P ⟨v,l'⟩ mu c:=by unfold iK;rw[iJ (l':=l')]
theorem UL (mu:Bool) (c:Call):nO P ⟨v,l⟩ mu c=nO P ⟨v,l'⟩ mu c:=by unfold nO;rw[iJ (l':=l'),NA (l':=l'),Wz (l':=l'),PZ (l':=l')]
theorem aEm (mu:Bool) (o:Oper):NR P ⟨v,l⟩ mu o=NR P ⟨v,l'⟩ mu o:=by unfold NR;simp only[iJ (v:=v) (l:=l) (l':=l'),NA (v:=v) (l:=l) (l':=l'),YI (v:=v) (l:=l) (l':=l'),za (v:=v) (l:=l) (l':=l'),Wx (v:=v) (l:=l) (l':=l'),UM (v:=v) (l:=l) (l':=l'),SG (v:=v) (l:=l) (l':=l'),UL (v:=v) (l:=l) (l':=l')]
theorem ik (mu:Bool) (ops:Array Oper) (o:Oper):LD P ⟨v,l⟩ mu ops o=LD P ⟨v,l'⟩ mu ops o:=by unfold LD;rw[aEm (l':=l')]
theorem XB (mu:Bool) (ops:Array Oper):∀x,lT P ⟨v,l⟩ mu ops x=lT P ⟨v,l'⟩ mu ops x:=by
 intro x
 induction x with
 |nil=>rfl
 |cons a r ih=>simp only[lT];rw[ih,ik (l':=l')]
theorem fg (mu:Bool) (c:Code):eV P ⟨v,l⟩ mu c=eV P ⟨v,l'⟩ mu c:=by
 induction c with
 |region id ops d=>cases d<;>simp only[eV]<;>rw[XB (l':=l')]
 |seq a b rT uP=>simp only[eV,rT,uP]
 |cond c a b rT uP=>simp only[eV,rT,uP];rw[iJ (l':=l')]
 |block id a ih=>simp only[eV,ih]
 |loop a ih=>simp only[eV,ih]
 |scope a ih=>simp only[eV,ih]
 |rangeFunc c ps x y ihx ihy=>simp only[eV,ihx,ihy];rw[iJ (l':=l')]
 |_=>rfl
def mkG (P:Program) (v:Nat->Option (List AV)):bG:=
 ⟨v,fun k r=>r.params.toList=k.ps/\∃mu,eV P ⟨v,fun _ _=>False⟩ mu r.assign=some k.PM/\eV P ⟨v,fun _ _=>False⟩ mu r.body=some k.body/\k.PM.nd=true/\k.body.nd=true⟩
theorem a8 (hm:P.follows .mixedOrders=true):Fit P (mkG P v) where
 mixed:=hm
 lok:=fun k r=>by unfold mkG;simp only[fg (P:=P) (v:=v) (l':=fun _ _=>False)]
def KS (P:Program) (g:bG) (mu:Bool) (fn:Go.Func):Option BM:=
 match fn.body with
 |none=>none
 |some c=>match eV P g mu c,uJ P fn.results.toList with
  |some b,some r=>some ⟨fn.ntmps,r,b⟩
  |_,_=>none
def dV (P:Program) (g:bG) (mu:Bool):Code->Option cF
 |.skip=>some .skip
 |.label _=>some .skip
 |.region _ ops false=>(lT P g mu ops ops.toList).map .ops
 |.region _ ops true=>(lT P g mu ops ops.toList).map fun rl=>.draw rl (sP rl (Region.before ops).toList)
 |.seq a b=>match dV P g mu a,dV P g mu b with
  |some x,some y=>some (.seq x y)
  |_,_=>none
 |.cond c a b=>match bN g c,dV P g mu a,dV P g mu b with
  |some z,some x,some y=>some (.cond z x y)
  |_,_,_=>none
 |.block id a=>(dV P g mu a).map (.block id)
 |.loop a=>(dV P g mu a).map .loop
 |.scope a=>dV P g mu a
 |.exit id=>some (.exit id)
 |.ret=>some .ret
 |.rangeFunc c ps x y=>match bN g c,dV P g mu x,dV P g mu y with
  |some c',some x',some y'=>some (.oG c' ps.toList x' y')
  |_,_,_=>none
 |_=>none
theorem ff {P:Program} {g:bG} {mu:Bool}:∀{c:Code} {b:cF},eV P g mu c=some b->dV P g mu c=some b:=by
 intro c
 induction c with
 |region k ops d=>
  intro b h
  cases d with
  |false=>exact h
  |true=>
   simp only[eV] at h;simp only[dV];split at h
   . rename_i rl CV;split at h
     . cases h;rw[CV];rfl
     cases h
   cases h
 |seq a b rT uP=>
  intro r h;simp only[eV] at h;split at h
  . rename_i x y hx hy;simp only[dV,rT hx,uP hy];exact h
  cases h
 |cond c a b rT uP=>
  intro r h;simp only[eV] at h;split at h
  . rename_i z x y hz hx hy;simp only[dV,hz,rT hx,uP hy];exact h
  cases h
 |block i a rT=>intro r h;simp only[eV,Ah] at h;obtain⟨x,hx,rfl⟩:=h;simp only[dV,rT hx,Bu]
 |loop a rT=>intro r h;simp only[eV,Ah] at h;obtain⟨x,hx,rfl⟩:=h;simp only[dV,rT hx,Bu]
 |scope a rT=>intro r h;simp only[eV] at h;simp only[dV];exact rT h
 |rangeFunc c ps x y ihx ihy=>
  intro r h;simp only[eV] at h;split at h
  . rename_i c' x' y' hc hx hy;split at h
    . simp only[dV,hc,ihx hx,ihy hy];exact h
    cases h
  cases h
 |_=>intro r h;first|exact h|cases h
def mkX (P:Program) (g:bG) (mu:Bool) (fn:Go.Func):Option BM:=
 match fn.body with
 |none=>none
 |some c=>match dV P g mu c,uJ P fn.results.toList with
  |some b,some r=>some ⟨fn.ntmps,r,b⟩
  |_,_=>none
theorem zh {P:Program} {g:bG} {mu:Bool} {fn:Go.Func} {F:BM} (h:(KS P g mu fn).isSome=true) (hx:mkX P g mu fn=some F):KS P g mu fn=some F:=by
 cases hm:KS P g mu fn with
 |none=>rw[hm] at h;cases h
 |some G=>
  have e:mkX P g mu fn=some G:=by
   unfold KS at hm;unfold mkX
   cases hc:fn.body with
   |none=>rw[hc] at hm;cases hm
   |some c=>
    rw[hc] at hm;simp only at hm ⊢;split at hm
    . rename_i b r hb hr;rw[ff hb,hr];exact hm
    cases hm
  rw[e] at hx;exact hx
def sqO:Option cF->Option cF->Option cF
 |some x,some y=>some (.seq x y)
 |_,_=>none
def cdO (c:Option Arg):Option cF->Option cF->Option cF
 |some x,some y=>match c with
  |some z=>some (.cond z x y)
  |none=>none
 |_,_=>none
theorem ax (P:Program) (g:bG) (mu:Bool):(∀a b,dV P g mu (.seq a b)=sqO (dV P g mu a) (dV P g mu b))/\(∀c a b,dV P g mu (.cond c a b)=cdO (bN g c) (dV P g mu a) (dV P g mu b))/\
 (∀i a,dV P g mu (.block i a)=(dV P g mu a).map (.block i))/\(∀a,dV P g mu (.loop a)=(dV P g mu a).map .loop)/\(∀a,dV P g mu (.scope a)=dV P g mu a)/\
 (∀k ops,dV P g mu (.region k ops false)=(lT P g mu ops ops.toList).map .ops)/\(∀k ops,dV P g mu (.region k ops true)=(lT P g mu ops ops.toList).map fun rl=>.draw rl (sP rl (Region.before ops).toList)):=by
 refine⟨fun a b=>?_,fun c a b=>?_,fun i a=>rfl,fun a=>rfl,fun a=>rfl,fun k ops=>rfl,fun k ops=>rfl⟩
 . conv=>lhs;unfold dV
   unfold sqO;cases dV P g mu a<;>cases dV P g mu b<;>rfl
 conv=>lhs;unfold dV
 unfold cdO;cases bN g c<;>cases dV P g mu a<;>cases dV P g mu b<;>rfl
theorem jF {g:bG} {mu:Bool} {f:FuncId} {fn:Go.Func} {F:BM} (h1:P.funcs[f]?=some fn) (h2:(fn.name== "runtime.NumGoroutine")=false) (h:KS P g mu fn=some F):kM P g mu f F:=by
 unfold KS at h;split at h
 . cases h
 rename_i c hc;split at h
 . rename_i b r hb hr;cases h;exact⟨fn,c,h1,hc,h2,hb,rfl,hr⟩
 cases h
end
end
section
def bK.rF (o:bK):Bool:=match o.op with|.lD _ _=>false|_=>true
def cF.rF:cF->Bool
 |.ops rl=>rl.all bK.rF
 |.seq a b|.cond _ a b=>a.rF&&b.rF
 |.block _ a|.loop a=>a.rF
 |.oG _ _ _ _=>false
 |_=>true
def cF.wr:cF->List Nat
 |.ops rl|.draw rl _=>rl.filterMap (·.dst)
 |.seq a b|.cond _ a b=>a.wr++b.wr
 |.block _ a|.loop a=>a.wr
 |_=>[]
def sO (t:Nat):List Nat->Bool
 |[]=>false
 |x::l=>Nat.beq t x||sO t l
theorem VJ {t:Nat}:∀{l:List Nat},sO t l=true↔t∈l
 |[]=>by simp[sO]
 |x::l=>by simp[sO,VJ]
theorem rD {t:Nat} {l:List Nat}:sO t l=false↔t∉l:=by rw[<-VJ];simp
def jW (W:List Nat) (f0 f:dE):Prop:=∀t,sO t W=false->f t=f0 t
theorem jW.mh {W:List Nat} {f:dE}:jW W f f:=fun _ _=>rfl
def Kp (W:List Nat) (f0:dE) (nd:Bool) (ds0:List gN) (f:dE) (ds:List gN):Prop:=jW W f0 f/\(nd=true->ds=ds0)
theorem jW.put {W:List Nat} {f0 f:dE} {n:Nat} (h:jW W f0 f) (dst:Option Nat) (hd:∀d,dst=some d->d∈W) (v:AV):jW W f0 (fM n f dst v):=by
 cases dst with
 |none=>exact h
 |some d=>
  intro t ht
  have cQ:t≠d:=fun e=>by subst e;exact rD.1 ht (hd _ rfl)
  simp only[fM];split
  . rw[oM _ _ cQ];exact h t ht
  exact h t ht
section
variable {P:Program} {g:bG} {n:Nat} {W:List Nat} {f0:dE} {nd:Bool} {ds0:List gN}
theorem ei {rl:List bK}:∀{f:dE} {ds:List gN} {H:aA} {Q:FQ},(∀o∈rl,∀d,o.dst=some d->d∈W)->(nd=true->rl.all bK.rF=true)->Kp W f0 nd ds0 f ds->
 bS P g n rl f ds H Q->bS P g n rl f ds H (fun e f' fQ H'=>Kp W f0 nd ds0 f' fQ/\Q e f' fQ H'):=by
 induction rl with
 |nil=>exact fun _ _ hk h=>⟨hk,h⟩
 |cons o r ih=>
  intro f ds H Q hw hn hk h;have lM:=fun o ho=>hw o (Au _ ho)
  have JJ:nd=true->r.all bK.rF=true:=fun e=>by have :=hn e;simp only[Ik,Al] at this;exact this.2
  have oF:∀v,Kp W f0 nd ds0 (fM n f o.dst v) ds:=fun v=>⟨hk.1.put _ (hw o Ar) v,hk.2⟩;unfold bS at h ⊢;split
  . rename_i Pt;rw[if_pos Pt] at h;split at h
    . obtain⟨out,H',h1,h3⟩:=h;refine⟨out,H',h1,?_⟩
      cases out with
      |ret v=>exact ih lM JJ (oF v) h3
      |JL v=>exact⟨hk,h3⟩
    . obtain⟨t,v,h1,h2⟩:=h;exact⟨t,v,h1,hk,h2⟩
    . rename_i c az fK;obtain⟨p,h1,h2⟩:=h;refine⟨p,h1,ih lM JJ ⟨(oF _).1,fun e=>?_⟩ h2⟩;have :=hn e;simp only[Ik,Al] at this;have h3:=this.1;rw[bK.rF,fK] at h3;cases h3
    . obtain⟨m,es,h1,h2,h3⟩:=h;exact⟨m,es,h1,h2,fun bs c mb k1 k2=>ih lM JJ (oF _) (h3 bs c mb k1 k2)⟩
    . obtain⟨it,m,mb,c,seen,es,bs,h1,h2,h3,h4,h5⟩:=h;exact⟨it,m,mb,c,seen,es,bs,h1,h2,h3,fun k=>ih lM JJ (oF _) (h4 k),fun j k1 k2=>ih lM JJ (oF _) (h5 j k1 k2)⟩
    . obtain⟨it,m,mb,c,seen,es,bs,j,h1,h2,h3,h4,h5⟩:=h;exact⟨it,m,mb,c,seen,es,bs,j,h1,h2,h3,h4,ih lM JJ (oF _) h5⟩
    unfold mA at h ⊢;split at h
    . exact ih lM JJ (oF _) h
    exact h.elim
  rename_i Pt;rw[if_neg Pt] at h;exact ih lM JJ (oF _) h
theorem qt {pairs:List (Nat×Nat)} {base:Nat} {rl:List bK}:∀{i k:Nat} {rd:List (Nat×Nat)} {ef:List (Nat×aA×aA)} {f:dE} {H:aA} {Q:dE->aA->Prop},(∀o∈rl,∀d,o.dst=some d->d∈W)->jW W f0 f->
 Wf P g n pairs base i k rl rd ef f H Q->Wf P g n pairs base i k rl rd ef f H (fun f' H'=>jW W f0 f'/\Q f' H'):=by
 induction rl with
 |nil=>exact fun _ hk h=>⟨hk,h⟩
 |cons r rs ih=>
  intro i k rd ef f H Q hw hk h;have lM:=fun o ho=>hw o (Au _ ho);have oF:∀v,jW W f0 (fM n f r.dst v):=fun v=>hk.put _ (hw r Ar) v;unfold Wf at h ⊢;split
  . rename_i Pt;rw[if_pos Pt] at h;split
    . rename_i hf;rw[if_pos hf] at h;obtain⟨ob,val,h1,h2,h3⟩:=h;exact⟨ob,val,h1,h2,ih lM (oF _) h3⟩
    rename_i hf;rw[if_neg hf] at h;split
    . rename_i he;rw[if_pos he] at h;obtain⟨v,H',h1,h2,h3,h4⟩:=h;exact⟨v,H',h1,h2,h3,ih lM (oF _) h4⟩
    rename_i he;rw[if_neg he] at h;obtain⟨v,h1,h2,h3⟩:=h;exact⟨v,h1,h2,ih lM (oF _) h3⟩
  rename_i Pt;rw[if_neg Pt] at h;exact ih lM (oF _) h
theorem zg {rl:List bK} (hw:∀d∈rl.filterMap (·.dst),d∈W):∀o∈rl,∀d,o.dst=some d->d∈W:=fun o ho d hd=>hw d (List.mem_filterMap.2 ⟨o,ho,hd⟩)
theorem qm {c:cF}:∀{f:dE} {ds:List gN} {H:aA} {Q:FQ},(∀d∈c.wr,d∈W)->(nd=true->c.rF=true)->Kp W f0 nd ds0 f ds->FC P g n c f ds H Q->FC P g n c f ds H (fun e f' fQ H'=>Kp W f0 nd ds0 f' fQ/\Q e f' fQ H'):=by
 induction c with
 |skip=>exact fun _ _ hk h=>⟨hk,h⟩
 |ops rl=>exact fun hw hn hk h=>ei (zg hw) hn hk h
 |draw rl pairs=>exact fun hw _ hk h=>h.imp (fun h=>⟨h.1,Tv (fun _ _ h=>⟨⟨h.1,hk.2⟩,h.2⟩) (qt (zg hw) hk.1 h.2)⟩) fun h hb=>let⟨x,f',H',h1,h2,h3,h4⟩:=h hb;⟨x,f',H',h1,h2,h3,⟨fun t ht=>(h3 t fun hm=>rD.1 ht (hw t hm)).trans (hk.1 t ht),hk.2⟩,h4⟩
 |seq a b rT uP=>
  intro f ds H Q hw hn hk h;simp only[cF.wr,Ao] at hw;simp only[cF.rF,Al] at hn;show FC P g n a f ds H _;refine jS (fun e f ds H h=>?_) (rT (fun d hd=>hw d (.inl hd)) (fun e=>(hn e).1) hk h)
  cases e with
  |normal=>exact uP (fun d hd=>hw d (.inr hd)) (fun e=>(hn e).2) h.1 h.2
  |_=>exact h
 |cond c a b rT uP=>
  intro f ds H Q hw hn hk h;simp only[cF.wr,Ao] at hw;simp only[cF.rF,Al] at hn;obtain⟨t,h1,h2⟩:=h;refine⟨t,h1,?_⟩
  cases t with
  |true=>exact rT (fun d hd=>hw d (.inl hd)) (fun e=>(hn e).1) hk h2
  |false=>exact uP (fun d hd=>hw d (.inr hd)) (fun e=>(hn e).2) hk h2
 |block id a ih=>
  intro f ds H Q hw hn hk h;show FC P g n a f ds H _;refine jS (fun e f ds H h=>?_) (ih hw hn hk h)
  cases e with
  |exit i=>
   obtain⟨h0,h⟩:=h;simp only[dP] at h ⊢;split
   . rename_i hi;rw[if_pos hi] at h;exact⟨h0,h⟩
   rename_i hi;rw[if_neg hi] at h;exact⟨h0,h⟩
  |_=>exact h
 |loop a ih=>
  intro f ds H Q hw hn hk h;obtain⟨I,m,h0,hI⟩:=h;refine⟨fun m f ds H=>Kp W f0 nd ds0 f ds/\I m f ds H,m,⟨hk,h0⟩,fun m f ds H hi=>jS (fun e f ds H h=>?_) (ih hw hn hi.1 (hI m f ds H hi.2))⟩
  cases e with
  |normal=>obtain⟨h1,k,hk,hi⟩:=h;exact⟨k,hk,h1,hi⟩
  |_=>exact h
 |exit id=>exact fun _ _ hk h=>⟨hk,h⟩
 |ret=>exact fun _ _ hk h=>⟨hk,h⟩
 |oG c ps a b rT uP=>
  intro f ds H Q hw hn hk h;obtain⟨fid,fs,cs,v,He,k',s',st,Hf,h1,h2,h3,h4,h5⟩:=h;have rR:∀rL,Kp W f0 nd ds0 f rL:=fun rL=>⟨hk.1,fun e=>by cases hn e⟩;refine⟨fid,fs,cs,v,He,k',s',st,Hf,h1,h2,h3,h4,?_⟩
  cases st with
  |ready=>exact⟨rR _,h5⟩
  |done e=>cases e<;>exact⟨rR _,h5⟩
  |busy=>exact h5.elim
  |over _=>exact h5.elim
theorem GG {c:cF} {f:dE} {ds:List gN} {H:aA} {Q:FQ} (h:FC P g n c f ds H Q):FC P g n c f ds H (fun e f' fQ H'=>jW c.wr f f'/\(c.rF=true->fQ=ds)/\Q e f' fQ H'):=
 jS (fun _ _ _ _ h=>⟨h.1.1,h.1.2,h.2⟩) (qm (nd:=c.rF) (ds0:=ds) (fun _ h=>h) id ⟨.mh,fun _=>rfl⟩ h)
theorem jW.trans {W:List Nat} {f f' Qe:dE} (h:jW W f f') (h':jW W f' Qe):jW W f Qe:=fun t ht=>(h' t ht).trans (h t ht)
theorem jW.sub {W W':List Nat} {f f':dE} (h:jW W' f f') (hs:∀d∈W',d∈W):jW W f f':=fun t ht=>h t (rD.2 fun hm=>rD.1 ht (hs t hm))
theorem iP {a:cF} {f:dE} {ds:List gN} {H:aA} {Q:FQ} (cs:List Nat) (I:Nat->List AV->aA->Prop) (m:Nat) (hn:a.rF=true) (h0:I m (cs.map f) H)
 (h:∀m f' H',jW a.wr f f'->I m (cs.map f') H'->FC P g n a f' ds H' (iX (fun Qe _ GK=>∃k,k<m/\I k (cs.map Qe) GK) Q)):FC P g n (.loop a) f ds H Q:=by
 refine⟨fun m f' fQ H'=>jW a.wr f f'/\fQ=ds/\I m (cs.map f') H',m,⟨.mh,rfl,h0⟩,?_⟩;rintro m f' fQ H' ⟨hk,rfl,hi⟩;refine jS (fun e f2 Te H2 hh=>?_) (GG (h m f' H' hk hi));obtain⟨h1,h2,h3⟩:=hh
 cases e with
 |normal=>obtain⟨k,eP,EY⟩:=h3;exact⟨k,eP,hk.trans h1,h2 hn,EY⟩
 |_=>exact h3
def bDz (n cmp ix ln nx:Nat) (cs:List Nat) (B:cF):Bool:=
 Nat.blt cmp n&&Nat.blt ix n&&Nat.blt nx n&& !Nat.beq cmp ix&& !Nat.beq cmp ln&& !Nat.beq nx ix&& !Nat.beq nx ln&& !Nat.beq ix ln&& !sO cmp cs&& !sO ix cs&& !sO nx cs&& !sO ix B.wr&& !sO ln B.wr&&B.rF
theorem IE {cs:List Nat} {f:dE} {d:Nat} {v:AV} (h:sO d cs=false):cs.map (kH f d v)=cs.map f:=
 Fl fun t ht=>oM f v fun e=>rD.1 h (e▸ht)
def Tk (cmp ix nx:Nat) (B:cF):List Nat:=cmp::nx::ix::B.wr
theorem cV {id cmp ix ln nx:Nat} {B:cF} {f:dE} {ds:List gN} {H:aA} {Q:FQ} (cs:List Nat) (J:Nat->List AV->aA->Prop) (N:Nat) (hN:(N:Int)<2^63)
 (hs:bDz n cmp ix ln nx cs B=true) (h1:f ix=.int .i64 0) (h2:f ln=.int .i64 N) (h0:J 0 (cs.map f) H)
 (body:∀(i:Nat) (f':dE) (H':aA),i<N->jW (Tk cmp ix nx B) f f'->f' ix=.int .i64 i->J i (cs.map f') H'->FC P g n B f' ds H' (iX (fun Qe _ GK=>J (i+1) (cs.map Qe) GK) (dP id Q)))
 (done:∀(f':dE) (H':aA),jW (Tk cmp ix nx B) f f'->J N (cs.map f') H'->Q .normal f' ds H'):
 FC P g n (.block id (.loop (.seq (.ops [⟨some cmp,.bin .lss (.tmp ix) (.tmp ln),none⟩]) (.seq (.cond (.tmp cmp) .skip (.exit id)) (.seq B
  (.ops [⟨some nx,.bin .add (.tmp ix) (.const (.int .i64 1)),none⟩,⟨some ix,.TC (.tmp nx),none⟩])))))) f ds H Q:=by
 simp only[bDz,Al,Cn,Gq] at hs;obtain⟨⟨⟨⟨⟨⟨⟨⟨⟨⟨⟨⟨⟨s1,s2⟩,s3⟩,s4⟩,s5⟩,s6⟩,s7⟩,s8⟩,c1⟩,c2⟩,c3⟩,b1⟩,b2⟩,b3⟩:=hs;have ne:∀{a b:Nat},Nat.beq a b=false->a≠b:=fun h e=>by subst e;simp at h
 have kpU:∀{f':dE} {d:Nat} {v:AV},d∈Tk cmp ix nx B->jW (Tk cmp ix nx B) f f'->jW (Tk cmp ix nx B) f (kH f' d v):=fun {f' d v} hd hk t ht=>by have cQ:t≠d:=fun e=>rD.1 ht (by rw[e];exact hd);rw[oM _ _ cQ];exact hk t ht
 refine qp (id:=id) (cmp:=cmp) (ix:=ix) (ln:=ln) (nx:=nx) (B:=B) (fun i f' H'=>jW (Tk cmp ix nx B) f f'/\J i (cs.map f') H') N hN ⟨s1,s2,s3,ne s4,ne s5,ne s6,ne s7,ne s8⟩ h1 h2 ⟨.mh,h0⟩ ?_ ?_ ?_
 . rintro i f' H' d v hd ⟨hk,hj⟩
   have hm:sO d cs=false/\d∈Tk cmp ix nx B:=(by rcases hd with rfl|rfl|rfl<;>simp[c1,c2,c3,Tk]);exact⟨kpU hm.2 hk,by rw[IE hm.1];exact hj⟩
 . rintro i f' H' hi e1 e2 ⟨hk,hj⟩;refine jS (fun e f2 Te H2 hh=>?_) (GG (body i f' H' hi hk e1 hj));obtain⟨k1,k2,k3⟩:=hh
   cases e with
   |normal=>exact⟨k2 b3,by rw[k1 _ b1];exact e1,by rw[k1 _ b2];exact e2,hk.trans (k1.sub fun d hd=>by simp[Tk,hd]),k3⟩
   |_=>exact k3
 rintro f' H' e2 ⟨hk,hj⟩;exact done f' H' hk hj
def bDy (n cmp ix nx:Nat) (cs:List Nat) (B:cF):Bool:=
 Nat.blt cmp n&&Nat.blt ix n&&Nat.blt nx n&& !Nat.beq cmp ix&& !Nat.beq nx ix&& !sO cmp cs&& !sO ix cs&& !sO nx cs&& !sO ix B.wr&&B.rF
theorem jL {id cmp ix nx:Nat} {N':Int} {B:cF} {f:dE} {ds:List gN} {H:aA} {Q:FQ} (cs:List Nat) (J:Nat->List AV->aA->Prop) (N:Nat) (hN:(N:Int)<2^63) (hNN:N'=(N:Int))
 (hs:bDy n cmp ix nx cs B=true) (h1:f ix=.int .i64 0) (h0:J 0 (cs.map f) H)
 (body:∀(i:Nat) (f':dE) (H':aA),i<N->jW (Tk cmp ix nx B) f f'->f' ix=.int .i64 i->J i (cs.map f') H'->FC P g n B f' ds H' (iX (fun Qe _ GK=>J (i+1) (cs.map Qe) GK) (dP id Q)))
 (done:∀(f':dE) (H':aA),jW (Tk cmp ix nx B) f f'->J N (cs.map f') H'->Q .normal f' ds H'):
 FC P g n (.block id (.loop (.seq (.ops [⟨some cmp,.bin .lss (.tmp ix) (.const (.int .i64 N')),none⟩]) (.seq (.cond (.tmp cmp) .skip (.exit id)) (.seq B
  (.ops [⟨some nx,.bin .add (.tmp ix) (.const (.int .i64 1)),none⟩,⟨some ix,.TC (.tmp nx),none⟩])))))) f ds H Q:=by
 simp only[bDy,Al,Cn,Gq] at hs;obtain⟨⟨⟨⟨⟨⟨⟨⟨⟨s1,s2⟩,s3⟩,s4⟩,s6⟩,c1⟩,c2⟩,c3⟩,b1⟩,b3⟩:=hs;have ne:∀{a b:Nat},Nat.beq a b=false->a≠b:=fun h e=>by subst e;simp at h
 have kpU:∀{f':dE} {d:Nat} {v:AV},d∈Tk cmp ix nx B->jW (Tk cmp ix nx B) f f'->jW (Tk cmp ix nx B) f (kH f' d v):=fun {f' d v} hd hk t ht=>by have cQ:t≠d:=fun e=>rD.1 ht (by rw[e];exact hd);rw[oM _ _ cQ];exact hk t ht
 refine dt (id:=id) (cmp:=cmp) (ix:=ix) (nx:=nx) (B:=B) (fun i f' H'=>jW (Tk cmp ix nx B) f f'/\J i (cs.map f') H') N hN hNN ⟨s1,s2,s3,ne s4,ne s6⟩ h1 ⟨.mh,h0⟩ ?_ ?_ ?_
 . rintro i f' H' d v hd ⟨hk,hj⟩
   have hm:sO d cs=false/\d∈Tk cmp ix nx B:=(by rcases hd with rfl|rfl|rfl<;>simp[c1,c2,c3,Tk]);exact⟨kpU hm.2 hk,by rw[IE hm.1];exact hj⟩
 . rintro i f' H' hi e1 ⟨hk,hj⟩;refine jS (fun e f2 Te H2 hh=>?_) (GG (body i f' H' hi hk e1 hj));obtain⟨k1,k2,k3⟩:=hh
   cases e with
   |normal=>exact⟨k2 b3,by rw[k1 _ b1];exact e1,hk.trans (k1.sub fun d hd=>by simp[Tk,hd]),k3⟩
   |_=>exact k3
 rintro f' H' ⟨hk,hj⟩;exact done f' H' hk hj
theorem Yr {nw tag:Nat} (h:Nat.blt tag 2=true):IZ none nw tag=tag:=by
 rw[Gq] at h
 match tag,h with
 |0,_=>rfl
 |1,_=>rfl
theorem CM {H:aA} {nw:Nat} {v:AV} (h:v.free=true):fG H none nw 0 v=some v:=by
 have key:fA H none nw v=some v:=by
  cases v<;>first
   |(simp only[AV.free] at h;cases h;done)
   |(simp only[AV.free,Al] at h;simp only[fA,h.2,Yr h.1];done)
   |(simp only[fA,h])
 cases v<;>exact key
theorem eC {mu:Bool} (hm:Fit P g) (hg:DF g) {k:FuncId} {F:BM} (hF:kM P g mu k F) {args:List AV} {v':AV} (hl:args.length<=F.ntmps) (ha:bO args=true)
 (h:FC P g F.ntmps F.body (fN args) [] ⟨0,.nil⟩ (MA F.results fun o H2=>∃v n,o=.ret v/\∀nw,fG H2 none nw n v=some v')) (H:aA):Sound P g k args H (.ret v') H:=by
 refine(GN hm hF (qh hl h)).frame hg ha H fun out H2 hR=>?_;obtain⟨v,n,rfl,hs⟩:=hR;exact⟨none,n,v',fun k hk=>(by cases hk),hs _,rfl,rfl⟩
theorem RY {rs:List GD} {R R':Out->aA->Prop} (h:∀o H,R o H->R' o H) {e:AEx} {f:dE} {ds:List gN} {H:aA} (hr:MA rs R e f ds H):MA rs R' e f ds H:=by
 cases e with
 |normal=>obtain⟨h1,vs,h2,h3⟩:=hr;exact⟨h1,vs,h2,h _ _ h3⟩
 |ret=>obtain⟨h1,vs,h2,h3⟩:=hr;exact⟨h1,vs,h2,h _ _ h3⟩
 |panic v=>obtain⟨h1,h3⟩:=hr;exact⟨h1,h _ _ h3⟩
 |exit _=>exact hr
theorem EF {mu:Bool} (hm:Fit P g) (hg:DF g) {k:FuncId} {F:BM} (hF:kM P g mu k F) {args:List AV} {v:AV} (hl:args.length<=F.ntmps) (ha:bO args=true) (hv:v.free=true)
 (h:FC P g F.ntmps F.body (fN args) [] ⟨0,.nil⟩ (MA F.results fun o _=>o=.ret v)) (H:aA):Sound P g k args H (.ret v) H:=
 eC hm hg hF hl ha (jS (fun _ _ _ _=>RY fun o H2 e=>⟨v,0,e,fun _=>CM hv⟩) h) H
end
end
end Go.Av
namespace Go.uE
def W:Nat:=4294967296
theorem Mw:0<W:=by decide
theorem lO (k:Nat):0<W^k:=Nat.pow_pos Mw
def bL (n k:Nat):Nat:=n / W^k%W
theorem jU (n k:Nat):bL n k<W:=Di _ Mw
theorem mod_succ (n k:Nat):n%W^(k+1)=n%W^k+W^k*bL n k:=Nat.mod_pow_succ
theorem CB {n k:Nat} (h:n<W^k):bL n k=0:=by unfold bL;rw[Eh h];rfl
theorem RD {n m k:Nat} (h:n<W^m) (hk:m<=k):bL n k=0:=
 CB (Ck h (Ds Mw hk))
def cr (a b k:Nat):Nat:=(a%W^k+b%W^k) / W^k
theorem aEo (a b:Nat):cr a b 0=0:=by simp[cr,Nat.mod_one]
theorem aEn (a b k:Nat):cr a b (k+1)=(cr a b k+bL a k+bL b k) / W:=by
 unfold cr;rw[mod_succ,mod_succ,Eg,<-Ia];congr 1
 rw[show a%W^k+W^k*bL a k+(b%W^k+W^k*bL b k)=a%W^k+b%W^k+W^k*(bL a k+bL b k) by rw[Ep];omega,
  Hd _ _ (lO k)]
 omega
theorem aIu (a b k:Nat):cr a b k<=1:=by unfold cr;have h1:=Di a (lO k);have h2:=Di b (lO k);have :(a%W^k+b%W^k) / W^k<2:=(Ea (lO k)).2 (by omega);omega
theorem XG (a b k:Nat):(a+b) / W^k=a / W^k+b / W^k+cr a b k:=by
 unfold cr;have h1:=Ff a (W^k);have h2:=Ff b (W^k);have :a+b=a%W^k+b%W^k+W^k*(a / W^k+b / W^k):=by rw[Ep];omega
 rw[this,Hd _ _ (lO k)];omega
theorem yy (a b k:Nat):bL (a+b) k=(cr a b k+bL a k+bL b k)%W:=by unfold bL;rw[XG];simp only[W];omega
theorem aRl {a b k:Nat} (ha:a<W^k) (hb:b<W^k):cr a b k=if a+b<W^k then 0 else 1:=by
 have h:=aIu a b k;unfold cr at *;rw[Dl ha,Dl hb] at *;split
 . rename_i hl;exact Eh hl
 rename_i hl;have :=Nat.div_pos (show W^k<=a+b by omega) (lO k);omega
def bw (a b k:Nat):Nat:=if a%W^k<b%W^k then 1 else 0
theorem aEa (a b:Nat):bw a b 0=0:=by simp[bw,Nat.mod_one]
theorem aDz (a b k:Nat):bw a b (k+1)=if bL a k<bL b k+bw a b k then 1 else 0:=by
 unfold bw;rw[mod_succ,mod_succ];have h1:=Di a (lO k);have h2:=Di b (lO k);generalize a%W^k=r at *;generalize b%W^k=s at *;generalize bL a k=x;generalize bL b k=y;generalize W^k=P at *
 rcases Jh x y with h|h|h
 . have :P*(x+1)<=P*y:=Eu P h;rw[Ep,Ed] at this;rw[if_pos (by omega),if_pos (by omega)]
 . subst h;split<;>split<;>(try split at *)<;>omega
 have :P*(y+1)<=P*x:=Eu P h;rw[Ep,Ed] at this;rw[if_neg (by omega),if_neg Za4]
theorem yz {a b:Nat} (h:b<=a) (k:Nat):(bL (a -b) k:Int)=((bL a k:Int) -bL b k -bw a b k)%(W:Int):=by
 have h1:=Ff a (W^k);have h2:=Ff b (W^k);have l1:=Di a (lO k);have l2:=Di b (lO k)
 have e:((a -b) / W^k:Nat)=a / W^k -b / W^k -bw a b k/\b / W^k+bw a b k<=a / W^k:=by
  unfold bw;generalize a%W^k=r at *;generalize b%W^k=s at *;generalize a / W^k=x at *;generalize b / W^k=y at *;generalize hP:W^k=P at *;have hPp:0<P:=hP▸lO k
  have hxy:y<=x:=by
   rcases Gp x y with hc|hc
   . have :P*(x+1)<=P*y:=Eu P hc;rw[Ep,Ed] at this;omega
   exact hc
  split
  . rename_i hrs;have cQ:y≠x:=fun e=>by subst e;omega
    have hm:P*(x -y -1)=P*x -P*y -P:=(by rw[Nat.mul_sub,Nat.mul_sub,Ed]);have WQ:P*(y+1)<=P*x:=Eu P (by omega);rw[Ep,Ed] at WQ;refine⟨?_,by omega⟩;have :a -b=(r+P -s)+P*(x -y -1):=(by omega);rw[this,Hd _ _ hPp,Eh (by omega)];omega
  have hm:P*(x -y)=P*x -P*y:=Nat.mul_sub ..;have WQ:P*y<=P*x:=Eu P hxy;refine⟨?_,by omega⟩;have :a -b=(r -s)+P*(x -y):=by omega
  rw[this,Hd _ _ hPp,Eh (by omega)];omega
 unfold bL;rw[e.1];have :=e.2;simp only[W] at *;omega
theorem GS (a k:Nat):a / W^k=a / W^(k+1)*W+bL a k:=by unfold bL;rw[Eg,<-Ia];have :=Ff (a / W^k) W;rw[Dg] at this;omega
theorem Qc {a b k:Nat} (h:a / W^(k+1)=b / W^(k+1)) (hk:bL a k=bL b k):a / W^k=b / W^k:=by rw[GS a,GS b,h,hk]
theorem OM {a b k:Nat} (h:a / W^(k+1)=b / W^(k+1)) (hk:bL a k<bL b k):a<b:=by
 have h1:a / W^k<b / W^k:=by rw[GS a,GS b,h];omega
 rcases Gp a b with h2|h2
 . exact h2
 have :=Nat.div_le_div_right (c:=W^k) h2;omega
theorem UY {a b m:Nat} (ha:a<W^m) (hb:b<W^m) (h:∀k,k<m->bL a k=bL b k):a=b:=by
 have :∀j,j<=m->a / W^(m -j)=b / W^(m -j):=by
  intro j
  induction j with
  |zero=>intro _;rw[Ix,Eh ha,Eh hb]
  |succ j ih=>intro hj;refine Qc (k:=m -(j+1)) ?_ (h _ (by omega));rw[show m -(j+1)+1=m -j by omega];exact ih (by omega)
 have :=this m (Ab _);simpa using this
def CD:List Nat->Nat
 |[]=>0
 |x::l=>x+W*CD l
theorem TH:∀(l:List Nat),(∀x∈l,x<W)->CD l<W^l.length
 |[],_=>by decide
 |x::l,h=>by have h1:=TH l fun y hy=>h y (by simp[hy]);have h2:=h x (by simp);simp only[CD,As,Eg];have :W*(CD l+1)<=W*W^l.length:=Eu W h1;rw[Ep,Ed] at this;rw[Dg (W^l.length)];omega
theorem HZ:∀(l:List Nat) (k:Nat),(∀x∈l,x<W)->bL (CD l) k=l.getD k 0
 |[],k,_=>by simp[CD,bL]
 |x::l,0,h=>by have :=h x (by simp);simp only[CD,bL,Nat.pow_zero,Nat.div_one,Dy];rw[Nat.add_mul_mod_self_left,Dl this]
 |x::l,k+1,h=>by have h1:=h x (by simp);have h2:=HZ l k fun y hy=>h y (by simp[hy]);rw[Gg,<-h2];simp only[CD,bL];rw[Eg,Dg (W^k),<-Ia,Hd _ _ Mw,Eh h1,Cq]
def bJ (m n:Nat):List Nat:=(List.range m).map (bL n)
theorem cW (m n:Nat):(bJ m n).length=m:=by simp[bJ]
theorem kR {m n k:Nat} (h:k<m):(bJ m n).getD k 0=bL n k:=by simp[bJ,List.getD,h]
theorem IA {m n:Nat}:∀x∈bJ m n,x<W:=by intro x hx;simp only[bJ,Bf] at hx;obtain⟨k,_,rfl⟩:=hx;exact jU _ _
theorem jE {m n:Nat} (h:n<W^m):CD (bJ m n)=n:=by
 refine UY (m:=m) ?_ h fun k hk=>?_
 . have :=TH (bJ m n) IA
   rwa [cW] at this
 rw[HZ _ _ IA,kR hk]
theorem RE {l:List Nat} (h:∀x∈l,x<W):bJ l.length (CD l)=l:=by refine Fs (by simp[bJ]) fun k h1 h2=>?_;simp only[bJ,Dq,Hr];rw[HZ _ _ h];simp[List.getD,h2]
def cx:Nat->Nat->Nat
 |0,_=>0
 |k+1,a=>if bL a k=0 then cx k a else k+1
def sz (a:Nat):Nat:=cx 16 a
theorem Yp:∀k a,cx k a<=k
 |0,_=>Ab _
 |k+1,a=>by
  unfold cx;split
  . exact Nat.le_succ_of_le (Yp k a)
  exact Ab _
theorem Yq:∀k a,a<W^k->a<W^cx k a
 |0,_,h=>h
 |k+1,a,h=>by
  unfold cx;split
  . rename_i hl;refine Yq k a ?_;unfold bL at hl;have h1:a / W^k<W:=by rw[Ea (lO k),Dg,<-Eg];exact h
    rw[Dl h1] at hl
    rcases Gp a (W^k) with h2|h2
    . exact h2
    have :=Nat.div_pos h2 (lO k);omega
  exact h
theorem Mg:∀k a,cx k a=0\/bL a (cx k a -1)≠0
 |0,_=>.inl rfl
 |k+1,a=>by
  unfold cx;split
  . exact Mg k a
  exact .inr (by simpa)
theorem cy {a:Nat} (h:a<W^16):a<W^sz a:=Yq 16 a h
theorem aCc (a:Nat):sz a<=16:=Yp 16 a
theorem aIa {a:Nat} (h:a<W^16):sz a=0↔a=0:=by
 constructor
 . intro e;have :=cy h;rw[e] at this;simpa using this
 rintro rfl;decide
theorem ai {a k:Nat} (h:bL a k≠0):W^k<=a:=by
 rcases Gp a (W^k) with h1|h1
 . exact absurd (CB h1) h
 exact h1
theorem bEf {a:Nat} (h:sz a≠0):W^(sz a -1)<=a:=by
 rcases Mg 16 a with h1|h1
 . exact absurd h1 h
 exact ai h1
def fH (a:Nat):Nat:=if a=0 then 0 else Nat.log2 a+1
theorem oO {a n:Nat}:fH a<=n↔a<2^n:=by
 unfold fH;split
 . rename_i h;subst h;simp[Nat.pow_pos]
 rename_i h;rw[<-Nat.log2_lt h];omega
theorem fu {a n:Nat} (h1:a<2^(n+1)) (h2:2^n<=a):fH a=n+1:=by
 have a1:fH a<=n+1:=oO.2 h1;have a2:¬fH a<=n:=fun h=>by have :=oO.1 h;omega
 omega
theorem sG {a k:Nat} (h:a / 2^k≠0):fH a=fH (a / 2^k)+k:=by
 obtain⟨n,hn⟩:∃n,fH (a / 2^k)=n+1:=⟨Nat.log2 (a / 2^k),by unfold fH;rw[if_neg h]⟩;have h1:a / 2^k<2^(n+1):=oO.1 (by omega);have h2:¬a / 2^k<2^n:=fun h=>by have :=oO.2 h;omega
 rw[hn,show n+1+k=(n+k)+1 by omega];refine fu ?_ ?_
 . rw[Ea (Nat.pow_pos (by decide))] at h1
   rwa [show n+k+1=n+1+k by omega,Kc]
 rw[Ea (Nat.pow_pos (by decide))] at h2;rw[Kc];omega
theorem fw {a:Nat} (h:a<W^16) (h0:sz a≠0):fH a=32*(sz a -1)+fH (bL a (sz a -1)):=by
 have e:W^(sz a -1)=2^(32*(sz a -1)):=by rw[Nat.pow_mul];rfl
 have h1:=bEf h0;have h2:=cy h
 have h3:a / W^(sz a -1)<W:=by
  rw[Ea (lO _),Dg,<-Eg]
  rwa [show(sz a -1).succ=sz a by omega]
 have h4:bL a (sz a -1)=a / 2^(32*(sz a -1)):=by unfold bL;rw[Dl h3,e]
 have h5:=Nat.div_pos h1 (lO (sz a -1));rw[h4,sG (k:=32*(sz a -1)) (by rw[<-e];omega)];omega
theorem MX:∀(l:List Nat) (j d:Nat),j<l.length->CD (l.set j d)+l.getD j 0*W^j=CD l+d*W^j
 |[],_,_,h=>by simp at h
 |x::l,0,d,_=>by simp[CD];omega
 |x::l,j+1,d,h=>by
  have ih:=MX l j d Zbi;simp only[List.set_cons_succ,CD,Gg,Eg];have e:∀t,t*(W^j*W)=W*(t*W^j):=fun t=>by rw[Dg (W^j),<-Gu,Dg t,Gu]
  rw[e,e,Br,Br,<-Ep,<-Ep,ih]
theorem uw {l:List Nat} {j d k:Nat} (h:j<l.length):(l.set j d).getD k 0=if k=j then d else l.getD k 0:=by
 simp only[List.getD,Ha];by_cases e:j=k
 . subst e;simp[h]
 rw[if_neg e,if_neg (Ne.symm e)]
def LW (n:Nat) (l:List Nat):Prop:=l.length=n/\∀d∈l,d<W
theorem LW.set {n:Nat} {l:List Nat} (h:LW n l) (j:Nat) {d:Nat} (hd:d<W):LW n (l.set j d):=⟨by rw[Bx];exact h.1,fun x hx=>by
 rcases List.mem_or_eq_of_mem_set hx with h1|h1
 . exact h.2 x h1
 omega⟩
theorem LW.getD {n:Nat} {l:List Nat} (h:LW n l) (j:Nat):l.getD j 0<W:=by
 by_cases hj:j<l.length
 . rw[List.getD,Ad hj];exact h.2 _ (Ac hj)
 rw[List.getD,Bv (by omega)];decide
theorem LW.lt {n:Nat} {l:List Nat} (h:LW n l):CD l<W^n:=by
 have :=TH l h.2
 rwa [h.1] at this
theorem LW.eq {n:Nat} {l:List Nat} (h:LW n l):l=bJ n (CD l):=by have :=RE h.2;rw[h.1] at this;exact this.symm
theorem LW.bL {n:Nat} {l:List Nat} (h:LW n l) (k:Nat):bL (CD l) k=l.getD k 0:=HZ l k h.2
theorem zj {o:List Nat} {i k c D P b:Nat} (ho:LW 32 o) (hik:i+k<32) (he:CD o+c*W^(i+k)=P+D*W^i*(b%W^k)):
 let t:=c+D*bL b k+o.getD (i+k) 0
 CD (o.set (i+k) (t%W))+t / W*W^(i+(k+1))=P+D*W^i*(b%W^(k+1)):=by
 intro t;have h1:=MX o (i+k) (t%W) (by rw[ho.1];exact hik)
 have h2:t / W*W^(i+(k+1))+t%W*W^(i+k)=t*W^(i+k):=by rw[show i+(k+1)=(i+k)+1 by omega,Eg,Dg (W^(i+k)),<-Gu,<-Cs,Dg (t / W)];rw[Ff]
 have h3:b%W^(k+1)=b%W^k+W^k*bL b k:=mod_succ b k
 have h4:D*W^i*(W^k*bL b k)=D*bL b k*W^(i+k):=by rw[Kc];simp only[Dg,Nat.mul_left_comm,Gu]
 have h5:t*W^(i+k)=c*W^(i+k)+D*bL b k*W^(i+k)+o.getD (i+k) 0*W^(i+k):=by show(c+D*bL b k+o.getD (i+k) 0)*_=_;rw[Cs,Cs]
 rw[h3,Ep,h4];omega
theorem aGe {o:List Nat} {i m c D a b:Nat} (ho:LW 32 o) (him:i+m<32) (hb:b<W^m) (hD:D=bL a i) (he:CD o+c*W^(i+m)=a%W^i*b+D*W^i*(b%W^m)) (hz:o.getD (i+m) 0=0):
 CD (o.set (i+m) c)=a%W^(i+1)*b:=by
 have h1:=MX o (i+m) c (by rw[ho.1];exact him);rw[hz,Iw,Cw] at h1;rw[h1,he,Dl hb,mod_succ,hD,Cs,Dg (bL a i)]
theorem OL {m n X:Nat} (h:X<W^n) (hz:∀k,m<=k->k<n->bL X k=0):X<W^m:=by
 have h1:=Yq n X h;have h2:=Yp n X
 rcases Gp m (cx n X) with h3|h3
 . rcases Mg n X with h4|h4
   . omega
   exact absurd (hz _ (by omega) (by omega)) h4
 exact Ck h1 (Ds Mw h3)
theorem Xr {m n X:Nat} (h:m<=n):(bJ n X).take m=bJ m X:=by unfold bJ;rw[<-List.map_take,List.take_range,Nat.min_eq_left h]
theorem Xq {X:Nat} (h:X<W^32):X<W^16↔(bJ 32 X).drop 16=List.replicate 16 0:=by
 constructor
 . intro hx;refine Fs (by simp[bJ]) fun k h1 h2=>?_;simp only[List.getElem_drop,bJ,Dq,Hr,List.getElem_replicate];exact RD hx (by omega)
 intro e;refine OL h fun k DP eP=>?_;have :((bJ 32 X).drop 16).getD (k -16) 0=0:=by rw[e,List.getD,Gi];split<;>rfl
 rw[List.getD,Fv,show 16+(k -16)=k by omega] at this;have h2:=kR (n:=X) eP;rw[List.getD] at h2;omega
end Go.uE
namespace Go.aP
structure V where
 x:Int
 y:Int
 z:Int
deriving DecidableEq,Inhabited
def dot (a b:V):Int:=a.x*b.x+a.y*b.y+a.z*b.z
def bC (a b:V):V:=⟨a.y*b.z -a.z*b.y,a.z*b.x -a.x*b.z,a.x*b.y -a.y*b.x⟩
def sub (a b:V):V:=⟨a.x-b.x,a.y-b.y,a.z-b.z⟩
def add (a b:V):V:=⟨a.x+b.x,a.y+b.y,a.z+b.z⟩
def smul (c:Int) (a:V):V:=⟨c*a.x,c*a.y,c*a.z⟩
def V0:V:=⟨0,0,0⟩
def dO (n a b:V):Int:=dot n (bC a b)
theorem V.ext' {a b:V} (h1:a.x=b.x) (h2:a.y=b.y) (h3:a.z=b.z):a=b:=by cases a;cases b;simp_all
theorem sq_pos {a:Int} (h:a≠0):0<a*a:=by
 rcases Int.lt_or_gt_of_ne h with h|h
 . exact Int.mul_pos_of_neg_of_neg h h
 exact Io h h
theorem sq_nonneg (a:Int):0<=a*a:=by
 by_cases h:a=0
 . simp[h]
 exact Int.le_of_lt (sq_pos h)
theorem yK (a:V):0<=dot a a:=by have :=sq_nonneg a.x;have :=sq_nonneg a.y;have :=sq_nonneg a.z;simp only[dot];omega
theorem dF {a:V} (h:a≠V0):0<dot a a:=by
 have h1:=sq_nonneg a.x;have h2:=sq_nonneg a.y;have h3:=sq_nonneg a.z
 rcases Decidable.em (a.x=0) with hx|hx
 . rcases Decidable.em (a.y=0) with hy|hy
   . rcases Decidable.em (a.z=0) with hz|hz
     . exact absurd (V.ext' hx hy hz) h
     have :=sq_pos hz;simp only[dot];omega
   have :=sq_pos hy;simp only[dot];omega
 have :=sq_pos hx;simp only[dot];omega
theorem Pb {a:V} (h:dot a a<=0):a=V0:=
 Ew fun hc=>absurd (dF hc) (by omega)
theorem sub_eq_zero {a b:V} (h:sub a b=V0):a=b:=by have h1:a.x -b.x=0:=Bn V.x h;have h2:a.y -b.y=0:=Bn V.y h;have h3:a.z -b.z=0:=Bn V.z h;exact V.ext' (by omega) (by omega) (by omega)
theorem aUj {a b:V} (h:a≠b):sub a b≠V0:=fun e=>h (sub_eq_zero e)
theorem qS {c a:Int} (hc:0<c) (h:0<=c*a):0<=a:=by
 rcases Ge a 0 with h'|h'|h'
 . have :=Int.mul_neg_of_pos_of_neg hc h';omega
 . omega
 omega
theorem eO {c a:Int} (hc:0<c) (h:c*a=0):a=0:=by rcases Jv.1 h with h|h<;>omega
theorem EM (n u v w t:V):dO u v w*dot n t=dO n v w*dot u t+dO n w u*dot v t+dO n u v*dot w t:=by
 simp only[dO,dot,bC]
 grind
theorem UR {n u v w:V} (hn:n≠V0) (hu:dot n u=0) (hv:dot n v=0) (hw:dot n w=0):dO u v w=0:=by
 have h:=EM n u v w n;have e:∀a:V,dot a n=dot n a:=fun a=>by simp only[dot];grind
 rw[e u,e v,e w,hu,hv,hw] at h;have :=dF hn;simp only[Gt,Int.add_zero] at h
 rcases Jv.1 h with h|h
 . exact h
 omega
theorem three {n u v w:V} (hn:n≠V0) (hu:dot n u=0) (hv:dot n v=0) (hw:dot n w=0):add (add (smul (dO n v w) u) (smul (dO n w u) v)) (smul (dO n u v) w)=V0:=by
 have h:=UR hn hu hv hw;have hx:dO u v w*n.x=dO n v w*u.x+dO n w u*v.x+dO n u v*w.x:=by simp only[dO,dot,bC];grind
 have hy:dO u v w*n.y=dO n v w*u.y+dO n w u*v.y+dO n u v*w.y:=by simp only[dO,dot,bC];grind
 have hz:dO u v w*n.z=dO n v w*u.z+dO n w u*v.z+dO n u v*w.z:=by simp only[dO,dot,bC];grind
 rw[h,Int.zero_mul] at hx hy hz;exact V.ext' (by simp only[add,smul,V0];omega) (by simp only[add,smul,V0];omega) (by simp only[add,smul,V0];omega)
theorem para {n u v:V} (hn:n≠V0) (hu:dot n u=0) (hv:dot n v=0) (h:dO n u v=0):smul (dot u u) v=smul (dot u v) u:=by
 have hp:=dF hn;have e1:dot n n*(bC u v).x=dO n u v*n.x+dot n v*(n.z*u.y -n.y*u.z) -dot n u*(n.z*v.y -n.y*v.z):=by simp only[dO,dot,bC];grind
 have e2:dot n n*(bC u v).y=dO n u v*n.y+dot n v*(n.x*u.z -n.z*u.x) -dot n u*(n.x*v.z -n.z*v.x):=by simp only[dO,dot,bC];grind
 have e3:dot n n*(bC u v).z=dO n u v*n.z+dot n v*(n.y*u.x -n.x*u.y) -dot n u*(n.y*v.x -n.x*v.y):=by simp only[dO,dot,bC];grind
 rw[hu,hv,h] at e1 e2 e3;have c1:=eO hp (by rw[e1];simp);have c2:=eO hp (by rw[e2];simp);have c3:=eO hp (by rw[e3];simp);simp only[bC] at c1 c2 c3;refine V.ext' ?_ ?_ ?_<;>simp only[smul,dot]<;>grind
structure Rs (P:V->Prop):Prop where
 add:∀u v,P u->P v->P (add u v)
 smul:∀c u,0<c->P u->P (smul c u)
 zero:¬P V0
theorem smul_zero (u:V):smul 0 u=V0:=by simp[smul,V0]
theorem add_zero (u:V):add u V0=u:=by simp[add,V0]
theorem zero_add (u:V):add V0 u=u:=by simp[add,V0]
theorem Rs.comb {P:V->Prop} (h:Rs P) {u v w:V} {a b c:Int} (hu:P u) (hv:P v) (hw:P w) (ha:0<=a) (hb:0<=b) (hc:0<=c) (hz:aP.add (aP.add (aP.smul a u) (aP.smul b v)) (aP.smul c w)=V0):a=0/\b=0/\c=0:=by
 have two:∀{u v:V} {a b:Int},P u->P v->0<=a->0<=b->(a=0/\b=0)\/P (aP.add (aP.smul a u) (aP.smul b v)):=by
  intro u v a b hu hv ha hb;by_cases h1:a=0
  . by_cases h2:b=0
    . exact .inl ⟨h1,h2⟩
    right;subst h1;rw[smul_zero,zero_add];exact h.smul _ _ (by omega) hv
  by_cases h2:b=0
  . right;subst h2;rw[smul_zero,add_zero];exact h.smul _ _ (by omega) hu
  right;exact h.add _ _ (h.smul _ _ (by omega) hu) (h.smul _ _ (by omega) hv)
 rcases two hu hv ha hb with ⟨h1,h2⟩|h1
 . refine⟨h1,h2,?_⟩;by_cases h3:c=0
   . exact h3
   exfalso;subst h1 h2;rw[smul_zero,smul_zero,add_zero,zero_add] at hz;exact h.zero (hz▸h.smul _ _ (by omega) hw)
 exfalso;by_cases h3:c=0
 . subst h3;rw[smul_zero,add_zero] at hz;exact h.zero (hz▸h1)
 exact h.zero (hz▸h.add _ _ h1 (h.smul _ _ (by omega) hw))
theorem NO (f g h:V->Int) (hf:∀u v,f (add u v)=f u+f v) (hg:∀u v,g (add u v)=g u+g v) (hh:∀u v,h (add u v)=h u+h v)
 (hf':∀c u,f (smul c u)=c*f u) (hg':∀c u,g (smul c u)=c*g u) (hh':∀c u,h (smul c u)=c*h u):
 Rs fun v=>0<f v\/(f v=0/\(0<g v\/(g v=0/\0<h v))) where
 add u v hu hv:=by simp only[hf,hg,hh];omega
 smul c u hc hu:=by
  simp only[hf',hg',hh']
  rcases hu with hu|⟨h1,hu|⟨h2,hu⟩⟩
  . exact .inl (Io hc hu)
  . exact .inr ⟨by rw[h1];simp,.inl (Io hc hu)⟩
  exact .inr ⟨by rw[h1];simp,.inr ⟨by rw[h2];simp,Io hc hu⟩⟩
 zero:=by
  have z:∀(f:V->Int),(∀c u,f (smul c u)=c*f u)->f V0=0:=fun f hf=>by have :=hf 0 V0;rw[smul_zero] at this;omega
  rw[z f hf',z g hg',z h hh'];omega
section
def vec (p:Nat->V) (a b:Nat):V:=sub (p b) (p a)
def Sd (n:V) (p:Nat->V) (on:List Nat) (a b:Nat):Prop:=
 b∈on/\b≠a/\∀k∈on,0<=dO n (vec p a b) (vec p a k)/\
  (dO n (vec p a b) (vec p a k)=0->0<=dot (vec p a k) (vec p a b)/\dot (vec p a k) (vec p a b)<=dot (vec p a b) (vec p a b))
def Crn (p:Nat->V) (on:List Nat) (a:Nat):Prop:=∃P,Rs P/\∀k∈on,k≠a->P (vec p a k)
structure Pl (n:V) (p:Nat->V) (on:List Nat):Prop where
 hn:n≠V0
 inj:∀a∈on,∀b∈on,p a=p b->a=b
 pl:∀a∈on,∀b∈on,dot n (vec p a b)=0
theorem Pl.ne {n:V} {p:Nat->V} {on:List Nat} (h:Pl n p on) {a b:Nat} (ha:a∈on) (hb:b∈on) (FX:b≠a):vec p a b≠V0:=
 aUj fun e=>FX (h.inj b hb a ha e)
theorem AA (n u:V):dO n u u=0:=by simp only[dO,dot,bC];grind
theorem zZ (n u v:V):dO n v u= -dO n u v:=by simp only[dO,dot,bC];grind
theorem kC (u v:V):dot u v=dot v u:=by simp only[dot];grind
theorem ZO (n u v w:V):dO n u (add v w)=dO n u v+dO n u w:=by simp only[dO,dot,bC,add];grind
theorem UP (n u v:V) (c:Int):dO n u (smul c v)=c*dO n u v:=by simp only[dO,dot,bC,smul];grind
theorem ZP (u v w:V):dot u (add v w)=dot u v+dot u w:=by simp only[dot,add];grind
theorem UU (u v:V) (c:Int):dot u (smul c v)=c*dot u v:=by simp only[dot,smul];grind
theorem gu (n e:V):Rs fun v=>0<dO n e v\/(dO n e v=0/\0<dot e v):=by have h:=NO (dO n e) (dot e) (fun _=>0) (ZO n e) (ZP e) (fun _ _=>rfl) (fun c u=>UP n e u c) (fun c u=>UU e u c) (fun c _=>by simp);simpa using h
theorem Ww (n e:V):Rs fun v=>0<dO n e v\/(dO n e v=0/\dot e v<0):=by have h:=NO (dO n e) (fun v=> -dot e v) (fun _=>0) (ZO n e) (fun u v=>by rw[ZP];omega) (fun _ _=>rfl) (fun c u=>UP n e u c) (fun c u=>by rw[UU,Int.mul_neg]) (fun c _=>by simp);simpa using h
theorem tc:Rs fun v=>0<v.x\/(v.x=0/\(0<v.y\/(v.y=0/\0<v.z))):=
 NO V.x V.y V.z (fun _ _=>rfl) (fun _ _=>rfl) (fun _ _=>rfl) (fun _ _=>rfl) (fun _ _=>rfl) (fun _ _=>rfl)
theorem uB {c:Int} (hc:c≠0) {u v:V} (h:smul c u=smul c v):u=v:=by have h1:c*u.x=c*v.x:=Bn V.x h;have h2:c*u.y=c*v.y:=Bn V.y h;have h3:c*u.z=c*v.z:=Bn V.z h;exact V.ext' (Jf hc h1) (Jf hc h2) (Jf hc h3)
variable {n:V} {p:Nat->V} {on:List Nat}
theorem NP (H:Pl n p on) {P:V->Prop} (hP:Rs P) {u v w:V} (hu:dot n u=0) (hv:dot n v=0) (hw:dot n w=0) (pu:P u) (pv:P v) (pw:P w)
 (h1:0<=dO n u v) (h2:0<=dO n v w):0<=dO n u w/\(0<dO n u v\/0<dO n v w->0<dO n u w):=by
 have h:=three H.hn hu hv hw;have a:=zZ n u w;by_cases h3:0<dO n u w
 . exact⟨by omega,fun _=>h3⟩
 obtain⟨c1,c2,c3⟩:=hP.comb pu pv pw h2 (by omega) h1 h;exact⟨by omega,fun _=>by omega⟩
theorem QU (H:Pl n p on) {P:V->Prop} (hP:Rs P) {u v:V} (hu:dot n u=0) (hv:dot n v=0) (pu:P u) (pv:P v) (h:dO n u v=0):0<dot u v:=by
 have h1:=para H.hn hu hv h;have hu0:u≠V0:=fun e=>hP.zero (e▸pu);have :=dF hu0;have e1:=Bn V.x h1;have e2:=Bn V.y h1;have e3:=Bn V.z h1;simp only[smul] at e1 e2 e3;by_cases h2:0<dot u v
 . exact h2
 exfalso;have z:=hP.comb (a:=dot u u) (b:= -dot u v) (c:=0) pv pu pu (by omega) (by omega) (by omega) (V.ext' (by simp only[add,smul,V0,Im];omega) (by simp only[add,smul,V0,Im];omega) (by simp only[add,smul,V0,Im];omega));omega
theorem HW (n u v:V) (hu:dot n u=0) (hv:dot n v=0):dot n n*(dot u u*dot v v -dot u v*dot u v)=dO n u v*dO n u v:=by
 simp only[dO,dot,bC] at *
 grind
theorem aRp {n u v:V} (hn:n≠V0) (hu:dot n u=0) (hv:dot n v=0) (h:dO n u v=0) (hl:dot v v<=dot u u):dot u v<=dot u u:=by
 have h1:=HW n u v hu hv;rw[h] at h1;have h2:=eO (dF hn) (by rw[h1];simp);have h3:=yK u;by_cases h4:dot u v<=dot u u
 . exact h4
 exfalso;have h5:dot u u*dot u v<dot u v*dot u v:=Hc (by omega) (by omega);have h6:dot u u*dot v v<=dot u u*dot u v:=Em (by omega) h3;omega
theorem Sd.crn (H:Pl n p on) {a b:Nat} (ha:a∈on) (h:Sd n p on a b):Crn p on a:=by
 refine⟨_,gu n (vec p a b),fun k hk LS=>?_⟩;obtain⟨h1,h2⟩:=h.2.2 k hk
 rcases Eo h1 with h1|h1
 . exact .inl h1
 refine .inr ⟨h1.symm,?_⟩;obtain⟨h3,h4⟩:=h2 h1.symm;rw[kC] at h3
 rcases Eo h3 with h3|h3
 . exact h3
 exfalso;have e:=para H.hn (H.pl a ha b h.1) (H.pl a ha k hk) h1.symm;rw[<-h3,smul_zero] at e;have cQ:=dF (H.ne ha h.1 h.2.1);exact H.ne ha hk LS (uB (c:=dot (vec p a b) (vec p a b)) (by omega) (by rw[e];simp[smul,V0]))
theorem yJ (p:Nat->V) (a b k:Nat):vec p b k=sub (vec p a k) (vec p a b):=by simp only[vec,sub];refine V.ext' ?_ ?_ ?_<;>simp only <;>omega
theorem UQ (n u v w:V):dO n u (sub v w)=dO n u v -dO n u w:=by simp only[dO,dot,bC,sub];grind
theorem tp (u v w:V):dot u (sub v w)=dot u v -dot u w:=by simp only[dot,sub];grind
theorem Sd.next (H:Pl n p on) {a b:Nat} (ha:a∈on) (h:Sd n p on a b):Crn p on b:=by
 refine⟨_,Ww n (vec p a b),fun k hk hkb=>?_⟩;obtain⟨h1,h2⟩:=h.2.2 k hk;rw[yJ p a b k,UQ,tp,AA,kC _ (vec p a k)]
 rcases Eo h1 with h1|h1
 . exact .inl (by omega)
 refine .inr ⟨by omega,?_⟩;obtain⟨h3,h4⟩:=h2 h1.symm
 rcases Eo h4 with h4|h4
 . omega
 exfalso;have e:=para H.hn (H.pl a ha b h.1) (H.pl a ha k hk) h1.symm;rw[kC _ (vec p a k),h4] at e;have cQ:=dF (H.ne ha h.1 h.2.1);have :=uB (by omega) e;refine hkb (H.inj k hk b h.1 ?_);exact Zbg
theorem Sd.uniq (H:Pl n p on) {a b c:Nat} (ha:a∈on) (h:Sd n p on a b) (h':Sd n p on a c):b=c:=by
 obtain⟨h1,h2⟩:=h.2.2 c h'.1;obtain⟨h3,h4⟩:=h'.2.2 b h.1;rw[zZ] at h3;have hz:dO n (vec p a b) (vec p a c)=0:=by omega
 obtain⟨k1,k2⟩:=h2 hz;obtain⟨k3,k4⟩:=h4 (by rw[zZ];omega);have e:=para H.hn (H.pl a ha b h.1) (H.pl a ha c h'.1) hz;have hl:=HW n (vec p a b) (vec p a c) (H.pl a ha b h.1) (H.pl a ha c h'.1);rw[hz] at hl;have hl:=eO (dF H.hn) (by rw[hl];simp);have cQ:=dF (H.ne ha h.1 h.2.1);have hnc:=dF (H.ne ha h'.1 h'.2.1);rw[kC] at k1 k2;generalize hm:dot (vec p a b) (vec p a c)=m at *;generalize hB:dot (vec p a b) (vec p a b)=B at *;generalize hC:dot (vec p a c) (vec p a c)=C at *
 have e1:m=B:=by
  have q1:B*m<=B*C:=Em (by omega) (by omega);by_cases hmB:m=B
  . exact hmB
  exfalso;by_cases MR:m=0
  . subst MR;have :=Io cQ hnc;omega
  have :m*m<B*m:=Hc (by omega) (by omega);omega
 rw[e1] at e;have :=uB (by omega) e;refine(H.inj c h'.1 b h.1 ?_).symm;exact Zbg
theorem Sd.inj (H:Pl n p on) {a b c:Nat} (ha:a∈on) (hb:b∈on) (h:Sd n p on a c) (h':Sd n p on b c):a=b:=by
 obtain⟨h1,h2⟩:=h.2.2 b hb;obtain⟨h3,h4⟩:=h'.2.2 a ha
 have e:dO n (vec p b c) (vec p b a)= -dO n (vec p a c) (vec p a b):=by simp only[vec,dO,dot,bC,sub];grind
 have hz:dO n (vec p a c) (vec p a b)=0:=by omega
 obtain⟨k1,k2⟩:=h2 hz;obtain⟨k3,k4⟩:=h4 (by omega);have hl:=HW n (vec p a c) (vec p a b) (H.pl a ha c h.1) (H.pl a ha b hb);rw[hz] at hl;have hl:=eO (dF H.hn) (by rw[hl];simp);have hp:=para H.hn (H.pl a ha c h.1) (H.pl a ha b hb) hz;have hE:=dF (H.ne ha h.1 h.2.1)
 have e2:dot (vec p b a) (vec p b c)=dot (vec p a b) (vec p a b) -dot (vec p a b) (vec p a c):=by simp only[vec,dot,sub];grind
 rw[kC (vec p a c) (vec p a b)] at hl hp;generalize hm:dot (vec p a b) (vec p a c)=m at *;generalize hB:dot (vec p a b) (vec p a b)=B at *;generalize hC:dot (vec p a c) (vec p a c)=C at *
 have q:m=0\/m=C:=by
  by_cases MR:m=0
  . exact .inl MR
  right;by_cases hmC:m=C
  . exact hmC
  exfalso;have q1:m*m<C*m:=Hc (by omega) (by omega);have q2:C*m<=C*B:=Em (by omega) (by omega);omega
 rcases q with q|q
 . rw[q,smul_zero] at hp;have :vec p a b=V0:=uB (c:=C) (by omega) (by rw[hp];simp[smul,V0]);exact(H.inj b hb a ha (sub_eq_zero this)).symm
 rw[q] at hp;have :=uB (c:=C) (by omega) hp;exfalso;refine h'.2.1 (H.inj c h.1 b hb ?_);exact Zbg
end
section
variable {n:V} {p:Nat->V} {on:List Nat}
def uS (x:Int):Int:=if x<0 then -1 else if 0<x then 1 else 0
theorem TU {x:Int}:uS x<0↔x<0:=by unfold uS;split<;>(try split)<;>omega
theorem Ow {x:Int}:uS x=0↔x=0:=by unfold uS;split<;>(try split)<;>omega
theorem TT (x y:Int):uS (x*y)=uS x*uS y:=by
 rcases Ge x 0 with h|h|h
 . rcases Ge y 0 with k|k|k
   . have :=Int.mul_pos_of_neg_of_neg h k;simp only[uS,h,k,if_true,if_neg (show ¬x*y<0 by omega),this];rfl
   . subst k;simp[uS]
   have :=Int.mul_neg_of_neg_of_pos h k;simp only[uS,h,this,k,if_true,if_neg (show ¬y<0 by omega)];rfl
 . subst h;simp[uS]
 rcases Ge y 0 with k|k|k
 . have :=Int.mul_neg_of_pos_of_neg h k;simp only[uS,h,this,k,if_true,if_neg (show ¬x<0 by omega)];rfl
 . subst k;simp[uS]
 have :=Io h k;simp only[uS,h,this,k,if_true,if_neg (show ¬x<0 by omega),if_neg (show ¬y<0 by omega),if_neg (show ¬x*y<0 by omega)];rfl
theorem cq {x:Int} (h:0<x):uS x=1:=by simp[uS,h,show ¬x<0 by omega]
def rX (n c:V):Int:=if n.x≠0 then uS c.x*uS n.x else if n.y≠0 then uS c.y*uS n.y else if n.z≠0 then uS c.z*uS n.z else 0
theorem TW {a b:V} (hn:n≠V0) (ha:dot n a=0) (hb:dot n b=0):rX n (bC a b)=uS (dO n a b):=by
 have hp:=dF hn;have e1:dot n n*(bC a b).x=dO n a b*n.x+dot n b*(n.z*a.y -n.y*a.z) -dot n a*(n.z*b.y -n.y*b.z):=by simp only[dO,dot,bC];grind
 have e2:dot n n*(bC a b).y=dO n a b*n.y+dot n b*(n.x*a.z -n.z*a.x) -dot n a*(n.x*b.z -n.z*b.x):=by simp only[dO,dot,bC];grind
 have e3:dot n n*(bC a b).z=dO n a b*n.z+dot n b*(n.y*a.x -n.x*a.y) -dot n a*(n.y*b.x -n.x*b.y):=by simp only[dO,dot,bC];grind
 rw[ha,hb] at e1 e2 e3
 have key:∀c m:Int,m≠0->dot n n*c=dO n a b*m+0*0 -0->uS c*uS m=uS (dO n a b):=by
  intro c m hm e;have h1:uS (dot n n*c*m)=uS (dO n a b*(m*m)):=by rw[e];congr 1;grind
  rw[TT,TT,TT (dO n a b),cq hp,cq (sq_pos hm)] at h1;simpa using h1
 unfold rX;split
 . rename_i h;exact key _ _ h (by omega)
 split
 . rename_i h;exact key _ _ h (by omega)
 split
 . rename_i h;exact key _ _ h (by omega)
 rename_i h1 h2 h3;exact absurd (V.ext' (by simpa [V0] using h1) (by simpa [V0] using h2) (by simpa [V0] using h3)) hn
def better (n:V) (p:Nat->V) (a b k:Nat):Bool:=
 decide (rX n (bC (vec p a b) (vec p a k))<0)||(decide (rX n (bC (vec p a b) (vec p a k))=0)&&decide (dot (vec p a k) (vec p a k)>dot (vec p a b) (vec p a b)))
def gZ (n:V) (p:Nat->V) (a:Nat) (xH:Option Nat) (k:Nat):Option Nat:=
 if k=a then xH else match xH with
  |none=>some k
  |some b=>if better n p a b k then some k else some b
def LZ (n:V) (p:Nat->V) (on:List Nat) (a:Nat):Option Nat:=on.foldl (gZ n p a) none
theorem tF (H:Pl n p on) {a b k:Nat} (ha:a∈on) (hb:b∈on) (hk:k∈on):
 better n p a b k=true↔dO n (vec p a b) (vec p a k)<0\/(dO n (vec p a b) (vec p a k)=0/\dot (vec p a b) (vec p a b)<dot (vec p a k) (vec p a k)):=by
 unfold better;rw[TW H.hn (H.pl a ha b hb) (H.pl a ha k hk)];simp only[Dm,Al,Bd,TU,Ow]
theorem kc (H:Pl n p on) {a:Nat} (ha:a∈on) (hc:Crn p on a):∀(l:List Nat) (done:List Nat) (xH:Option Nat),(∀k∈l,k∈on)->(∀k∈done,k∈on)->
 (match xH with|none=>∀k∈done,k=a|some b=>b∈on/\b≠a/\∀k∈done,k≠a->better n p a b k=false)->
 match l.foldl (gZ n p a) xH with|none=>∀k∈done++l,k=a|some b=>b∈on/\b≠a/\∀k∈done++l,k≠a->better n p a b k=false:=by
 obtain⟨P,hP,gT⟩:=hc
 have refl:∀k∈on,better n p a k k=false:=fun k hk=>by
  have :=tF H ha hk hk;rw[AA] at this
  cases hb:better n p a k k with
  |false=>rfl
  |true=>have :=this.1 hb;omega
 intro l
 induction l with
 |nil=>intro done xH _ _ h;simpa using h
 |cons k l ih=>
  intro done xH hl hd h;have hk:k∈on:=hl k (by simp);have :=ih (done++[k]) (gZ n p a xH k) (fun x hx=>hl x (by simp[hx])) (fun x hx=>by simp only[Ao,Cc] at hx;exact hx.elim (hd x) fun e=>e▸hk) ?_
  . simpa using this
  unfold gZ;by_cases LS:k=a
  . subst LS;simp only[if_true]
    cases xH with
    |none=>intro x hx;simp only[Ao,Cc] at hx;exact hx.elim (h x) id
    |some b=>
     refine⟨h.1,h.2.1,fun x hx WU=>?_⟩;simp only[Ao,Cc] at hx
     rcases hx with hx|rfl
     . exact h.2.2 x hx WU
     exact absurd rfl WU
  simp only[LS,Bp]
  cases xH with
  |none=>
   refine⟨hk,LS,fun x hx WU=>?_⟩;simp only[Ao,Cc] at hx
   rcases hx with hx|rfl
   . exact absurd (h x hx) WU
   exact refl _ hk
  |some b=>
   obtain⟨hb,hba,hbd⟩:=h;dsimp only;by_cases hbk:better n p a b k=true
   . rw[if_pos hbk];refine⟨hk,LS,fun x hx WU=>?_⟩;simp only[Ao,Cc] at hx
     rcases hx with hx|rfl
     . have h1:=hbd x hx WU;have qc:=hd x hx;have i1:=(tF H ha hb hk).1 hbk
       have i2:¬(dO n (vec p a b) (vec p a x)<0\/(dO n (vec p a b) (vec p a x)=0/\dot (vec p a b) (vec p a b)<dot (vec p a x) (vec p a x))):=fun h=>by rw[(tF H ha hb qc).2 h] at h1;cases h1
       cases hkx:better n p a k x with
       |false=>rfl
       |true=>
        exfalso;have i3:=(tF H ha hk qc).1 hkx;have a1:=zZ n (vec p a b) (vec p a k);obtain⟨t1,t2⟩:=NP H hP (H.pl a ha k hk) (H.pl a ha b hb) (H.pl a ha x qc) (gT k hk LS) (gT b hb hba) (gT x qc WU) (by omega) (by omega);by_cases hz:dO n (vec p a k) (vec p a b)=0
        . by_cases hz2:dO n (vec p a b) (vec p a x)=0
          . omega
          have :=t2 (.inr (by omega));omega
        have :=t2 (.inl (by omega));omega
     exact refl _ hk
   rw[if_neg hbk];refine⟨hb,hba,fun x hx WU=>?_⟩;simp only[Ao,Cc] at hx
   rcases hx with hx|rfl
   . exact hbd x hx WU
   simpa using hbk
theorem VN (H:Pl n p on) {a:Nat} (ha:a∈on) (hc:Crn p on a) (hm:∃k∈on,k≠a):∃b,LZ n p on a=some b/\Sd n p on a b:=by
 have h:=kc H ha hc on [] none (fun _ h=>h) (fun k hk=>by cases hk) (fun k hk=>by cases hk);unfold LZ;split at h
 . obtain⟨k,hk,LS⟩:=hm;exact absurd (h k (by simpa using hk)) LS
 rename_i b hb;refine⟨b,hb,h.1,h.2.1,fun k hk=>?_⟩;obtain⟨P,hP,gT⟩:=hc;by_cases LS:k=a
 . subst LS;have :vec p k k=V0:=by simp[vec,sub,V0]
   rw[this];have hq:=yK (vec p k b);constructor
   . simp[dO,dot,bC,V0]
   intro _;constructor<;>simp[dot,V0]<;>simpa [dot] using hq
 have h1:=h.2.2 k (by simpa using hk) LS
 have i2:¬(dO n (vec p a b) (vec p a k)<0\/(dO n (vec p a b) (vec p a k)=0/\dot (vec p a b) (vec p a b)<dot (vec p a k) (vec p a k))):=fun hh=>by rw[(tF H ha h.1 hk).2 hh] at h1;cases h1
 refine⟨by omega,fun hz=>?_⟩;have q:=QU H hP (H.pl a ha b h.1) (H.pl a ha k hk) (gT b h.1 h.2.1) (gT k hk LS) hz;rw[kC];exact⟨by omega,aRp H.hn (H.pl a ha b h.1) (H.pl a ha k hk) hz (by omega)⟩
def Ll (n:V) (p:Nat->V) (on:List Nat) (a b:Nat):Bool:=on.all fun k=>!(decide (rX n (bC (vec p a b) (vec p a k))<0)||(decide (rX n (bC (vec p a b) (vec p a k))=0)&&(decide (dot (vec p a k) (vec p a b)<0)||decide (dot (vec p a k) (vec p a b)>dot (vec p a b) (vec p a b)))))
theorem Rg (H:Pl n p on) {a b:Nat} (ha:a∈on) (hb:b∈on) (hba:b≠a):Ll n p on a b=true↔Sd n p on a b:=by
 unfold Ll Sd;simp only[Aw];constructor
 . intro h;refine⟨hb,hba,fun k hk=>?_⟩;have :=h k hk;rw[TW H.hn (H.pl a ha b hb) (H.pl a ha k hk)] at this;simp only[Cn,Cy,Jz,Bh,TU,Ow] at this;omega
 intro h k hk;have :=h.2.2 k hk;rw[TW H.hn (H.pl a ha b hb) (H.pl a ha k hk)];simp only[Cn,Cy,Jz,Bh,TU,Ow];omega
def RL (n:V) (p:Nat->V) (on:List Nat) (a:Nat):Option Nat:=on.find? fun k=>decide (k≠a)&&Ll n p on a k
theorem zk (H:Pl n p on) {a b:Nat} (ha:a∈on) (h:Sd n p on a b):RL n p on a=some b:=by
 unfold RL
 cases hf:on.find? fun k=>decide (k≠a)&&Ll n p on a k with
 |none=>have :=Hu.1 hf b h.1;simp[h.2.1,(Rg H ha h.1 h.2.1).2 h] at this
 |some c=>have h1:=List.find?_some hf;have h2:=List.mem_of_find?_eq_some hf;simp only[Al,Bd] at h1;rw[Sd.uniq H ha ((Rg H ha h2 h1.1).1 h1.2) h]
end
section
variable {n:V} {p:Nat->V} {on:List Nat}
def iter (f:Nat->Nat):Nat->Nat->Nat
 |0,s=>s
 |i+1,s=>f (iter f i s)
theorem RM:∀(l on:List Nat),l.Nodup->(∀x∈l,x∈on)->l.length<=on.length
 |[],_,_,_=>Az _
 |x::l,on,hn,h=>by rw[Jt] at hn;have h1:=RM l (on.erase x) hn.2 fun y hy=>(List.mem_erase_of_ne fun e=>hn.1 (by rw[<-e];exact hy)).2 (h y (by simp[hy]));have h2:=List.length_erase_of_mem (h x (by simp));have h3:0<on.length:=List.length_pos_of_mem (h x (by simp));simp only[As];omega
theorem aUw {A:Nat->Prop} {f:Nat->Nat} (on:List Nat) (hA:∀a,A a->a∈on) (hf:∀a,A a->A (f a)) (hi:∀a b,A a->A b->f a=f b->a=b) {s:Nat} (hs:A s):
 ∃m,0<m/\m<=on.length/\iter f m s=s/\(∀i,0<i->i<m->iter f i s≠s)/\∀i,A (iter f i s):=by
 have bU:∀i,A (iter f i s):=fun i=>by
  induction i with
  |zero=>exact hs
  |succ i ih=>exact hf _ ih
 have back:∀i d,iter f i s=iter f (i+d) s->iter f d s=s:=fun i=>by
  induction i with
  |zero=>intro d h;rw[Cq] at h;exact h.symm
  |succ i ih=>intro d h;refine ih d (hi _ _ (bU _) (bU _) ?_);rw[show i+1+d=(i+d)+1 by omega] at h;exact h
 have ex:∃m,0<m/\m<=on.length/\iter f m s=s:=by
  refine Cr fun hc=>?_
  have hd:((List.range (on.length+1)).map fun i=>iter f i s).Nodup:=by rw[List.Nodup,Ji];refine Jk ?_ Jo;intro i j hi hj yL e;simp only[Ay] at hi hj;exact hc ⟨j -i,by omega,by omega,back i (j -i) (by rw[show i+(j -i)=j by omega];exact e)⟩
  have :=RM _ on hd (fun x hx=>by
   simp only[Bf] at hx;obtain⟨i,_,rfl⟩:=hx
   exact hA _ (bU i))
  simp at this;omega
 have least:∀(k m:Nat),m<=k->0<m->m<=on.length->iter f m s=s->∃m,0<m/\m<=on.length/\iter f m s=s/\∀i,0<i->i<m->iter f i s≠s:=by
  intro k
  induction k with
  |zero=>intro m h1 h2;omega
  |succ k ih=>
   intro m h1 h2 h3 h4;by_cases hc:∃i,0<i/\i<m/\iter f i s=s
   . obtain⟨i,i1,i2,i3⟩:=hc;exact ih i (by omega) i1 (by omega) i3
   exact⟨m,h2,h3,h4,fun i i1 i2 e=>hc ⟨i,i1,i2,e⟩⟩
 obtain⟨m,h1,h2,h3⟩:=ex;obtain⟨m,h1,h2,h3,h4⟩:=least m m (Ab _) h1 h2 h3;exact⟨m,h1,h2,h3,h4,bU⟩
structure Way (n:V) (p:Nat->V) (on:List Nat) (s m:Nat) (f:Nat->Nat):Prop where
 H:Pl n p on
 hs:s∈on
 pos:0<m
 le:m<=on.length
 back:iter f m s=s
 first:∀i,0<i->i<m->iter f i s≠s
 side:∀i,iter f i s∈on/\Sd n p on (iter f i s) (iter f (i+1) s)
def uH (n:V) (p:Nat->V) (on:List Nat) (a:Nat):Nat:=(LZ n p on a).getD 0
theorem way (H:Pl n p on) {s:Nat} (hs:s∈on) (hc:Crn p on s) (hm:∀a∈on,∃k∈on,k≠a):∃m,Way n p on s m (uH n p on):=by
 have hS:∀a,a∈on/\Crn p on a->Sd n p on a (uH n p on a):=fun a ⟨ha,hc⟩=>by obtain⟨b,h1,h2⟩:=VN H ha hc (hm a ha);unfold uH;rw[h1];exact h2
 obtain⟨m,h1,h2,h3,h4,h5⟩:=aUw (A:=fun a=>a∈on/\Crn p on a) (f:=uH n p on) on (fun a h=>h.1) (fun a h=>⟨(hS a h).1,(hS a h).next H h.1⟩)
  (fun a b ha hb e=>Sd.inj H ha.1 hb.1 (hS a ha) (by rw[e];exact hS b hb)) ⟨hs,hc⟩
 exact⟨m,H,hs,h1,h2,h3,h4,fun i=>⟨(h5 i).1,hS _ (h5 i)⟩⟩
theorem Way.cover {s m:Nat} {f:Nat->Nat} (W:Way n p on s m f) {a b:Nat} (ha:a∈on) (h:Sd n p on a b):∃i,i<m/\iter f i s=a:=by
 refine Cr fun hc=>?_
 have cQ:∀i,iter f i s≠a:=by
  have :∀i,i<m->iter f i s≠a:=fun i hi e=>hc ⟨i,hi,e⟩
  have per:∀i,∃j,j<m/\iter f i s=iter f j s:=fun i=>by
   induction i with
   |zero=>exact⟨0,W.pos,rfl⟩
   |succ i ih=>
    obtain⟨j,hj,e⟩:=ih;by_cases hjm:j+1<m
    . exact⟨j+1,hjm,by simp only[iter];rw[e]⟩
    refine⟨0,W.pos,?_⟩;have :j+1=m:=(by omega);simp only[iter];rw[e];have h2:=W.back;rw[<-this] at h2;exact h2
  intro i e;obtain⟨j,hj,e2⟩:=per i;exact this j hj (e2.symm.trans e)
 obtain⟨P,hP,gT⟩:=h.crn W.H ha;have hPi:∀i,P (vec p a (iter f i s)):=fun i=>gT _ (W.side i).1 (cQ i);have nS:∀i,dot n (vec p a (iter f i s))=0:=fun i=>W.H.pl a ha _ (W.side i).1
 have left:∀i,0<dO n (vec p a (iter f i s)) (vec p a (iter f (i+1) s)):=by
  intro i;obtain⟨hx,hS⟩:=W.side i;generalize hxi:iter f i s=x at *;generalize hyi:iter f (i+1) s=y at *;have e:dO n (vec p x y) (vec p x a)=dO n (vec p a x) (vec p a y):=by simp only[vec,dO,dot,bC,sub];grind
  obtain⟨h1,h2⟩:=hS.2.2 a ha;rw[e] at h1 h2;have WU:x≠a:=by rw[<-hxi];exact cQ i
  have hya:y≠a:=by rw[<-hyi];exact cQ (i+1)
  rcases Eo h1 with h1|h1
  . exact h1
  exfalso;obtain⟨h3,h4⟩:=h2 h1.symm;have px:P (vec p a x):=gT x hx WU;have py:P (vec p a y):=gT y hS.1 hya;have hd:=QU W.H hP (W.H.pl a ha x hx) (W.H.pl a ha y hS.1) px py h1.symm;have hp:=para W.H.hn (W.H.pl a ha x hx) (W.H.pl a ha y hS.1) h1.symm;have hu0:=dF (W.H.ne ha hx WU);have e5:dot (vec p x a) (vec p x y)=dot (vec p a x) (vec p a x) -dot (vec p a x) (vec p a y):=by simp only[vec,dot,sub];grind
  have e6:dot (vec p x y) (vec p x y)=dot (vec p a x) (vec p a x) -2*dot (vec p a x) (vec p a y)+dot (vec p a y) (vec p a y):=by simp only[vec,dot,sub];grind
  have hl:=HW n _ _ (W.H.pl a ha x hx) (W.H.pl a ha y hS.1);rw[<-h1] at hl;have hl:=eO (dF W.H.hn) (by rw[hl];simp);rw[e5] at h3 h4;rw[e6] at h4;generalize hA:dot (vec p a x) (vec p a x)=A at *;generalize hB:dot (vec p a x) (vec p a y)=B at *;generalize hC:dot (vec p a y) (vec p a y)=C at *
  have :B=A:=by
   by_cases hBA:B=A
   . exact hBA
   exfalso;have q1:B*B<A*B:=Hc (by omega) hd;have q2:A*B<=A*C:=Em (by omega) (by omega);omega
  rw[this] at hp;have e7:=uB (c:=A) (by omega) hp;refine hS.2.1 (W.H.inj y hS.1 x hx ?_);simp only[vec,sub,V.mk.injEq] at e7;exact V.ext' (by omega) (by omega) (by omega)
 have chain:∀i,0<dO n (vec p a s) (vec p a (iter f (i+1) s)):=by
  intro i
  induction i with
  |zero=>exact left 0
  |succ i ih=>exact(NP W.H hP (nS 0) (nS (i+1)) (nS (i+2)) (hPi 0) (hPi (i+1)) (hPi (i+2)) (Int.le_of_lt ih) (Int.le_of_lt (left (i+1)))).2 (.inl ih)
 have :=chain (m -1);rw[show m -1+1=m from Nat.succ_pred_eq_of_pos W.pos,W.back,AA] at this;omega
end
section
def kI (p:Nat->V) (N:Nat) (n:V) (d:Int):List Nat:=(List.range N).filter fun k=>decide (dot n (p k)=d)
theorem dX {p:Nat->V} {N:Nat} {n:V} {d:Int} {k:Nat}:k∈kI p N n d↔k<N/\dot n (p k)=d:=by simp[kI]
structure qx (p:Nat->V) (N:Nat) (n:V) (d:Int):Prop where
 hn:n≠V0
 le:∀k,k<N->dot n (p k)<=d
 lt:∃k,k<N/\dot n (p k)<d
 tri:∃a∈kI p N n d,∃b∈kI p N n d,∃c∈kI p N n d,dO n (vec p a b) (vec p a c)≠0
def iY (a b:V):Prop:=a.x<b.x\/(a.x=b.x/\(a.y<b.y\/(a.y=b.y/\a.z<b.z)))
def qk (p:Nat->V) (N:Nat):Prop:=∀i j,i<j->j<N->iY (p i) (p j)
variable {p:Nat->V} {N:Nat} {n:V} {d:Int}
theorem qk.inj (A:qk p N) {i j:Nat} (hi:i<N) (hj:j<N) (h:p i=p j):i=j:=by
 rcases Jh i j with h1|h1|h1
 . have :=A i j h1 hj;rw[h] at this;unfold iY at this;omega
 . exact h1
 have :=A j i h1 hi;rw[h] at this;unfold iY at this;omega
theorem nQ (n:V) (p:Nat->V) (a b:Nat):dot n (vec p a b)=dot n (p b) -dot n (p a):=by simp only[dot,vec,sub];grind
theorem qx.pl (A:qk p N) (F:qx p N n d):Pl n p (kI p N n d) where
 hn:=F.hn
 inj a ha b hb h:=A.inj (dX.1 ha).1 (dX.1 hb).1 h
 pl a ha b hb:=by rw[nQ,(dX.1 ha).2,(dX.1 hb).2];omega
theorem qx.more (F:qx p N n d) (a:Nat):∃k∈kI p N n d,k≠a:=by obtain⟨x,hx,y,hy,z,hz,h⟩:=F.tri;refine Cr fun hc=>?_;have e:∀k∈kI p N n d,k=a:=fun k hk=>Cr fun h=>hc ⟨k,hk,h⟩;rw[e x hx,e y hy,e z hz,AA] at h;exact h rfl
theorem qx.head (F:qx p N n d):∃s r,kI p N n d=s::r:=by
 obtain⟨k,hk,_⟩:=F.more 0
 cases h:kI p N n d with
 |nil=>rw[h] at hk;cases hk
 |cons s r=>exact⟨s,r,rfl⟩
theorem OY (p:Nat->V) (N:Nat) (n:V) (d:Int):(kI p N n d).Pairwise (· < ·):=List.Pairwise.filter _ Jo
theorem kj (A:qk p N) {s:Nat} {r:List Nat} (h:kI p N n d=s::r):Crn p (kI p N n d) s:=by
 refine⟨_,tc,fun k hk hks=>?_⟩;have hs:=OY p N n d;have hkN:=(dX.1 hk).1;rw[h] at hk hs;simp only[Am] at hk
 rcases hk with hk|hk
 . exact absurd hk hks
 have h1:=(Cl.1 hs).1 k hk;have :=A s k h1 hkN;unfold iY at this;simp only[vec,sub];omega
theorem qx.way (A:qk p N) (F:qx p N n d) {s:Nat} {r:List Nat} (h:kI p N n d=s::r):∃m,Way n p (kI p N n d) s m (uH n p (kI p N n d)):=
 aP.way (F.pl A) (by rw[h];simp) (kj A h) fun a _=>F.more a
theorem Way.aUt (F:qx p N n d) {s m:Nat} {f:Nat->Nat} (W:Way n p (kI p N n d) s m f) (i:Nat):
 0<dO n (vec p (iter f i s) (iter f (i+1) s)) (vec p (iter f i s) (iter f (i+2) s)):=by
 obtain⟨hx,hS⟩:=W.side i;obtain⟨hy,hT⟩:=W.side (i+1);generalize iter f i s=x at *;generalize iter f (i+1) s=y at *;rw[show i+1+1=i+2 from rfl] at hT;generalize iter f (i+2) s=z at *;obtain⟨h1,h2⟩:=hS.2.2 z hT.1
 rcases Eo h1 with h1|h1
 . exact h1
 exfalso;obtain⟨h3,h4⟩:=h2 h1.symm;have hp:=para W.H.hn (W.H.pl x hx y hS.1) (W.H.pl x hx z hT.1) h1.symm;have hE:=dF (W.H.ne hx hS.1 hS.2.1);rw[kC (vec p x z)] at h3 h4
 have h5:dot (vec p x y) (vec p x z)<dot (vec p x y) (vec p x y):=by
  rcases Eo h4 with h4|h4
  . exact h4
  exfalso;rw[h4] at hp;have e7:=uB (c:=dot (vec p x y) (vec p x y)) (by omega) hp;refine hT.2.1 (W.H.inj z hT.1 y hS.1 ?_);simp only[vec,sub,V.mk.injEq] at e7;exact V.ext' (by omega) (by omega) (by omega)
 have flat:∀k∈kI p N n d,dO n (vec p x y) (vec p x k)=0:=by
  intro k hk;have g1:=(hS.2.2 k hk).1;have g2:=(hT.2.2 k hk).1
  have e1:smul (dot (vec p x y) (vec p x y)) (vec p y z)=smul (dot (vec p x y) (vec p x z) -dot (vec p x y) (vec p x y)) (vec p x y):=by rw[yJ p x y z];have a1:=Bn V.x hp;have a2:=Bn V.y hp;have a3:=Bn V.z hp;simp only[smul] at a1 a2 a3;refine V.ext' ?_ ?_ ?_<;>simp only[smul,sub,Int.mul_sub,Int.sub_mul]<;>omega
  have e2:dot (vec p x y) (vec p x y)*dO n (vec p y z) (vec p y k)=(dot (vec p x y) (vec p x z) -dot (vec p x y) (vec p x y))*dO n (vec p x y) (vec p x k):=by
   have l:∀(c:Int) (u v:V),dO n (smul c u) v=c*dO n u v:=fun c u v=>by simp only[dO,dot,bC,smul];grind
   rw[<-l,e1,l,yJ p x y k,UQ,AA];simp
  have g3:0<=(dot (vec p x y) (vec p x z) -dot (vec p x y) (vec p x y))*dO n (vec p x y) (vec p x k):=by rw[<-e2];exact Int.mul_nonneg (by omega) g2
  rcases Eo g1 with g1|g1
  . have :=Int.mul_neg_of_neg_of_pos (a:=dot (vec p x y) (vec p x z) -dot (vec p x y) (vec p x y)) (by omega) g1;omega
  exact g1.symm
 obtain⟨a,ha,b,hb,c,hc,h⟩:=F.tri;refine h ?_;have fa:=flat a ha;have fb:=flat b hb;have fc:=flat c hc;rw[yJ p x a b,yJ p x a c];have e0:=W.H.ne hx hS.1 hS.2.1;have pa:=para W.H.hn (W.H.pl x hx y hS.1) (W.H.pl x hx a ha) fa;have pb:=para W.H.hn (W.H.pl x hx y hS.1) (W.H.pl x hx b hb) fb;have pc:=para W.H.hn (W.H.pl x hx y hS.1) (W.H.pl x hx c hc) fc
 have q:∀k l:Nat,smul (dot (vec p x y) (vec p x y)) (vec p x k)=smul (dot (vec p x y) (vec p x k)) (vec p x y)->dO n (vec p x y) (vec p x l)=0->dO n (vec p x k) (vec p x l)=0:=by
  intro k l hk hl;have l1:∀(c:Int) (u v:V),dO n (smul c u) v=c*dO n u v:=fun c u v=>by simp only[dO,dot,bC,smul];grind
  refine eO hE ?_;rw[<-l1,hk,l1,hl,Gt]
 have r:∀u v w:V,dO n (sub u v) (sub w v)=dO n u w -dO n u v -dO n v w:=fun u v w=>by simp only[dO,dot,bC,sub];grind
 rw[r,q b c pb fc,q b a pb fa,q a c pa fc];rfl
end
section
def gG (v:V):Nat:=Int.gcd v.x (Int.gcd v.y v.z)
def gL (v:V):V:=⟨v.x / gG v,v.y / gG v,v.z / gG v⟩
theorem KV (v:V):smul (gG v) (gL v)=v:=by have h1:((gG v:Nat):Int)∣v.x:=Ft v.x (Int.gcd v.y v.z);have h0:((gG v:Nat):Int)∣((Int.gcd v.y v.z:Nat):Int):=Ec v.x (Int.gcd v.y v.z);have h2:((gG v:Nat):Int)∣v.y:=Gv h0 (Ft v.y v.z);have h3:((gG v:Nat):Int)∣v.z:=Gv h0 (Ec v.y v.z);exact V.ext' (Kg h1) (Kg h2) (Kg h3)
theorem uC {v:V} (h:v≠V0):0<gG v:=by
 rcases Hq (gG v) with h1|h1
 . exfalso;have :=KV v;rw[h1] at this;exact h (by rw[<-this];simp[smul,V0])
 exact h1
theorem b9 {v:V} (h:v≠V0):gL v≠V0:=fun e=>by have :=KV v;rw[e] at this;exact h (by rw[<-this];simp[smul,V0])
theorem AD (v w:V):(gG v:Int)*dot (gL v) w=dot v w:=by
 have h:=KV v;have :dot (smul (gG v) (gL v)) w=(gG v:Int)*dot (gL v) w:=by simp only[dot,smul];grind
 rw[<-this,h]
theorem tl (v u w:V):(gG v:Int)*dO (gL v) u w=dO v u w:=AD v _
structure pS (p:Nat->V) (N:Nat) (n:V) (d:Int):Prop where
 le:∀k,k<N->dot n (p k)<=d
 lt:∃k,k<N/\dot n (p k)<d
 tri:∃a b c,a<N/\b<N/\c<N/\bC (vec p a b) (vec p a c)≠V0/\n=gL (bC (vec p a b) (vec p a c))/\d=dot n (p a)
variable {p:Nat->V} {N:Nat} {n:V} {d:Int}
theorem pS.ZU (F:pS p N n d):qx p N n d:=by
 obtain⟨a,b,c,ha,hb,hc,hw,hn,hd⟩:=F.tri;have hg:=uC hw
 have on:∀k,k<N->dot (bC (vec p a b) (vec p a c)) (vec p a k)=0->k∈kI p N n d:=by intro k hk h;rw[dX];refine⟨hk,?_⟩;rw[<-AD,<-hn] at h;have h2:=eO (by omega) h;rw[nQ] at h2;omega
 refine⟨by rw[hn];exact b9 hw,F.le,F.lt,a,on a ha (by simp only[dot,vec,sub];grind),b,on b hb ?_,c,on c hc ?_,?_⟩
 . simp only[dot,bC];grind
 . simp only[dot,bC];grind
 intro h;rw[hn] at h;have h2:=tl (bC (vec p a b) (vec p a c)) (vec p a b) (vec p a c);rw[h] at h2;exact absurd (Pb (a:=bC (vec p a b) (vec p a c)) (by simp only[dO] at h2;omega)) hw
theorem pS.uniq (F:pS p N n d) {d':Int} (F':pS p N n d'):d=d':=by obtain⟨a,_,_,ha,_,_,_,_,e⟩:=F.tri;obtain⟨b,_,_,hb,_,_,_,_,e'⟩:=F'.tri;have :=F.le b hb;have :=F'.le a ha;omega
theorem OE (α β:Nat->Int):∀(l:List Nat),l≠[]->(∀k∈l,0<α k)->∃q∈l,∀k∈l,β q*α k<=β k*α q
 |[],h,_=>absurd rfl h
 |[x],_,_=>⟨x,by simp,by simp⟩
 |x::y::l,_,h=>by
  obtain⟨q,hq,hm⟩:=OE α β (y::l) (by simp) fun k hk=>h k (by simp only[Am] at hk ⊢;exact .inr hk)
  by_cases hx:β q*α x<=β x*α q
  . refine⟨q,Au _ hq,fun k hk=>?_⟩
    rcases Am.1 hk with rfl|hk
    . exact hx
    exact hm k hk
  refine⟨x,Ar,fun k hk=>?_⟩
  rcases Am.1 hk with rfl|hk
  . exact Int.le_refl _
  have h1:=hm k hk;have aq:=h q (Au _ hq);have ax:=h x Ar;have ak:=h k (Au _ hk);refine Int.le_of_mul_le_mul_left (a:=α q) ?_ aq;have e1:α k*(β x*α q)<=α k*(β q*α x):=Em (by omega) (by omega);have e2:α x*(β q*α k)<=α x*(β k*α q):=Em h1 (by omega);have r1:α q*(β x*α k)=α k*(β x*α q):=by grind
  have r2:α k*(β q*α x)=α x*(β q*α k):=by grind
  have r3:α x*(β k*α q)=α q*(β k*α x):=by grind
  omega
theorem pS.adj (F:pS p N n d) (A:qk p N) {a b:Nat} (ha:a∈kI p N n d) (h:Sd n p (kI p N n d) a b):
 ∃n' d',pS p N n' d'/\a∈kI p N n' d'/\b∈kI p N n' d'/\Sd n' p (kI p N n' d') b a/\∃q∈kI p N n' d',q∉kI p N n d:=by
 have H:=F.ZU.pl A;have hb:=h.1;have hE:=dF (H.ne ha hb h.2.1);have haN:=dX.1 ha;have hbN:=dX.1 hb
 let α:Nat->Int:=fun k=> -dot n (vec p a k)
 let β:Nat->Int:=fun k=>dO n (vec p a b) (vec p a k)
 have hα:∀k,k<N->0<=α k:=fun k hk=>by have :=F.le k hk;show 0<=-dot n (vec p a k);rw[nQ];omega
 have hα0:∀k,k<N->α k=0->k∈kI p N n d:=fun k hk e=>by rw[dX];refine⟨hk,?_⟩;have : -dot n (vec p a k)=0:=e;rw[nQ] at this;omega
 obtain⟨k0,hk0,bJn⟩:=F.lt
 obtain⟨q,hq,aVx⟩:=OE α β ((List.range N).filter fun k=>decide (0<α k)) (by
  intro e
  have :k0∈(List.range N).filter fun k=>decide (0<α k):=by simp only[Fh,Ay,Bd];refine⟨hk0,?_⟩;show 0< -dot n (vec p a k0);rw[nQ];omega
  rw[e] at this;cases this) (fun k hk=>by simp only[Fh,Bd] at hk;exact hk.2)
 simp only[Fh,Ay,Bd] at hq aVx;obtain⟨hqN,hαq⟩:=hq;have cQ:dot n (vec p a b)=0:=H.pl a ha b hb
 have key:∀k,dot n n*dot (bC (vec p a b) (vec p a q)) (vec p a k)=β k*α q -β q*α k:=fun k=>by
  have :=EM n (vec p a b) (vec p a q) (vec p a k) n;rw[kC (vec p a b) n,kC (vec p a q) n,kC (vec p a k) n,cQ] at this;have e2:dO (vec p a b) (vec p a q) (vec p a k)=dot (bC (vec p a b) (vec p a q)) (vec p a k):=by simp only[dO,dot,bC];grind
  have e3:=zZ n (vec p a b) (vec p a k);rw[e2] at this;show _=dO n (vec p a b) (vec p a k)*(-dot n (vec p a q)) -dO n (vec p a b) (vec p a q)*(-dot n (vec p a k));rw[e3] at this
  grind
 have hnn:=dF F.ZU.hn
 have side:∀k,k<N->0<=dot (bC (vec p a b) (vec p a q)) (vec p a k):=fun k hk=>by
  refine qS hnn ?_;rw[key];by_cases hz:0<α k
  . have :=aVx k ⟨hk,hz⟩;omega
  have hz:α k=0:=by have :=hα k hk;omega
  rw[hz,Gt,Int.sub_zero];exact Int.mul_nonneg (h.2.2 k (hα0 k hk hz)).1 (by omega)
 have hN0:bC (vec p a b) (vec p a q)≠V0:=by
  intro e;have h1:dot (bC n (vec p a b)) (bC n (vec p a b))=dot n n*dot (vec p a b) (vec p a b) -dot n (vec p a b)*dot n (vec p a b):=by simp only[dot,bC];grind
  have h2:dot (bC n (vec p a b)) (bC (vec p a b) (vec p a q))=dot n (vec p a b)*dot (vec p a b) (vec p a q) -dot n (vec p a q)*dot (vec p a b) (vec p a b):=by simp only[dot,bC];grind
  rw[e,cQ] at h2;have h3:dot (bC n (vec p a b)) V0=0:=by simp[dot,V0]
  have h4:0<α q*dot (vec p a b) (vec p a b):=Io hαq hE;have h5:α q= -dot n (vec p a q):=rfl;rw[h5,Im] at h4;omega
 have aWf:bC (vec p a q) (vec p a b)=smul (-1) (bC (vec p a b) (vec p a q)):=by simp only[bC,smul,V.mk.injEq];grind
 have aVh:bC (vec p a q) (vec p a b)≠V0:=fun e=>hN0 (by
  rw[aWf] at e;simp only[smul,V0,V.mk.injEq] at e
  exact V.ext' (by simp only[V0];omega) (by simp only[V0];omega) (by simp only[V0];omega))
 have hg:=uC aVh;generalize JJ:gL (bC (vec p a q) (vec p a b))=n'
 have dn:∀v:V,(gG (bC (vec p a q) (vec p a b)):Int)*dot n' v= -dot (bC (vec p a b) (vec p a q)) v:=fun v=>by rw[<-JJ,AD,aWf];simp only[dot,smul];grind
 have on:∀k,k<N->(k∈kI p N n' (dot n' (p a))↔dot (bC (vec p a b) (vec p a q)) (vec p a k)=0):=fun k hk=>by
  rw[dX];have :=dn (vec p a k);rw[nQ n'] at this;constructor
  . rintro⟨_,e⟩;rw[e,Int.sub_self,Gt] at this;omega
  intro e;rw[e] at this;have :=eO (by omega) (show(gG (bC (vec p a q) (vec p a b)):Int)*(dot n' (p k) -dot n' (p a))=0 by omega);exact⟨hk,by omega⟩
 have hd0:∀k,k<N->dot n' (p k)<=dot n' (p a):=fun k hk=>by have h1:=dn (vec p a k);have h2:=side k hk;rw[nQ n'] at h1;have h3:=qS (c:=(gG (bC (vec p a q) (vec p a b)):Int)) (a:= -(dot n' (p k) -dot n' (p a))) (by omega) (by rw[Int.mul_neg];omega);omega
 have ha':a∈kI p N n' (dot n' (p a)):=dX.2 ⟨haN.1,rfl⟩;have HM:b∈kI p N n' (dot n' (p a)):=(on b hbN.1).2 (by simp only[dot,bC];grind);have j5:q∈kI p N n' (dot n' (p a)):=(on q hqN).2 (by simp only[dot,bC];grind);refine⟨n',dot n' (p a),⟨hd0,?_,a,q,b,haN.1,hqN,hbN.1,aVh,JJ.symm,rfl⟩,ha',HM,⟨ha',fun e=>h.2.1 e.symm,fun k hk=>?_⟩,q,j5,fun hqo=>?_⟩
 ·
  refine Cr fun hc=>?_
  have all:∀k∈kI p N n d,dO n (vec p a b) (vec p a k)=0:=fun k hk=>by
   have hkN:=dX.1 hk
   have h1:dot n' (p k)=dot n' (p a):=by
    have :=hd0 k hkN.1
    rcases Eo this with h|h
    . exact absurd ⟨k,hkN.1,h⟩ hc
    exact h
   have h2:=key k;rw[(on k hkN.1).1 (dX.2 ⟨hkN.1,h1⟩)] at h2;have h3:α k=0:=(by show -dot n (vec p a k)=0;rw[H.pl a ha k hk];rfl);rw[h3,Gt,Gt,Int.sub_zero] at h2;have h4:α q*β k=0:=(by rw[Int.mul_comm];exact h2.symm);exact eO hαq h4
  obtain⟨x,hx,y,hy,z,hz,bGw⟩:=F.ZU.tri;refine bGw ?_;have l1:∀(c:Int) (u v:V),dO n (smul c u) v=c*dO n u v:=fun c u v=>by simp only[dO,dot,bC,smul];grind
  have qq:∀k l:Nat,k∈kI p N n d->l∈kI p N n d->dO n (vec p a k) (vec p a l)=0:=by intro k l hk hl;have pk:=para H.hn (H.pl a ha b hb) (H.pl a ha k hk) (all k hk);refine eO hE ?_;rw[<-l1,pk,l1,all l hl,Gt]
  have r:∀u v w:V,dO n (sub u v) (sub w v)=dO n u w -dO n u v -dO n v w:=fun u v w=>by simp only[dO,dot,bC,sub];grind
  rw[yJ p a x y,yJ p a x z,r,qq y z hy hz,qq y x hy hx,qq x z hx hz];rfl
 ·
  have hkN:=dX.1 hk;have hkz:=(on k hkN.1).1 hk
  have hde:dO (vec p a b) (vec p a q) (vec p a k)=0:=by have e2:dO (vec p a b) (vec p a q) (vec p a k)=dot (bC (vec p a b) (vec p a q)) (vec p a k):=(by simp only[dO,dot,bC];grind);rw[e2,hkz]
  have hnv:dot n (vec p a k)<=0:=by have :=hα k hkN.1;show dot n (vec p a k)<=0;have h5:α k= -dot n (vec p a k):=rfl;omega
  have hnu:dot n (vec p a q)<0:=by have h5:α q= -dot n (vec p a q):=rfl;omega
  have e1:dO n' (vec p b a) (vec p b k)= -dO n' (vec p a b) (vec p a k):=by simp only[vec,dO,dot,bC,sub];grind
  have e2:(gG (bC (vec p a q) (vec p a b)):Int)*dO n' (vec p b a) (vec p b k)=dot (bC (vec p a b) (vec p a q)) (bC (vec p a b) (vec p a k)):=by rw[e1,Int.mul_neg];have :=dn (bC (vec p a b) (vec p a k));simp only[dO];omega
  generalize he:vec p a b=e at *;generalize vec p a q=u at *;generalize hv:vec p a k=v at *
  have c1:dot n u*(bC e v).x=dot n v*(bC e u).x:=by have :dot n u*(bC e v).x=dot n v*(bC e u).x -n.x*dO e u v -(bC v u).x*dot n e:=(by simp only[dO,dot,bC];grind);rw[hde,cQ] at this;omega
  have c2:dot n u*(bC e v).y=dot n v*(bC e u).y:=by have :dot n u*(bC e v).y=dot n v*(bC e u).y -n.y*dO e u v -(bC v u).y*dot n e:=(by simp only[dO,dot,bC];grind);rw[hde,cQ] at this;omega
  have c3:dot n u*(bC e v).z=dot n v*(bC e u).z:=by have :dot n u*(bC e v).z=dot n v*(bC e u).z -n.z*dO e u v -(bC v u).z*dot n e:=(by simp only[dO,dot,bC];grind);rw[hde,cQ] at this;omega
  have hNN:=dF hN0
  have c4:dot n u*dot (bC e u) (bC e v)=dot n v*dot (bC e u) (bC e u):=by
   have :dot n u*dot (bC e u) (bC e v)=(bC e u).x*(dot n u*(bC e v).x)+(bC e u).y*(dot n u*(bC e v).y)+(bC e u).z*(dot n u*(bC e v).z):=by simp only[dot];grind
   rw[this,c1,c2,c3];simp only[dot];grind
  have c5:0<=dot (bC e u) (bC e v):=by refine qS (c:= -dot n u) (by omega) ?_;rw[Im,c4,<-Im];exact Int.mul_nonneg (by omega) (by omega)
  refine⟨qS (c:=(gG (bC u e):Int)) (by omega) (by rw[e2];exact c5),fun hz=>?_⟩;rw[hz,Gt] at e2;rw[<-e2,Gt] at c4
  have bGa:dot n v=0:=by have :=eO (c:=dot (bC e u) (bC e u)) (a:=dot n v) hNN (by rw[Int.mul_comm];exact c4.symm);exact this
  have ph:k∈kI p N n d:=hα0 k hkN.1 (by show -dot n (vec p a k)=0;rw[hv];omega);rw[bGa,Int.zero_mul] at c1 c2 c3
  have hz':dO n e v=0:=by
   have z:∀c:Int,dot n u*c=0->c=0:=fun c hc=>by rcases Jv.1 hc with h|h<;>omega
   simp only[dO,dot];rw[z _ c1,z _ c2,z _ c3];simp
  have g:=(h.2.2 k ph).2;rw[hv,he] at g;have g:=g hz';have b1:dot (vec p b k) (vec p b a)=dot (vec p a b) (vec p a b) -dot (vec p a k) (vec p a b):=by simp only[vec,dot,sub];grind
  have b2:dot (vec p b a) (vec p b a)=dot (vec p a b) (vec p a b):=by simp only[vec,dot,sub];grind
  rw[b1,b2,hv,he];omega
 have :=dX.1 hqo;have h5:α q= -dot n (vec p a q):=rfl;rw[nQ] at h5;omega
theorem FR {n n':V} {d d':Int} (JJ:n'≠V0) {a b c q:Nat} (ha:a∈kI p N n d) (hb:b∈kI p N n d) (hc:c∈kI p N n d) (h:dO n (vec p a b) (vec p a c)≠0)
 (ha':a∈kI p N n' d') (HM:b∈kI p N n' d') (hc':c∈kI p N n' d') (hq:q∈kI p N n' d'):q∈kI p N n d:=by
 have o:∀{n:V} {d:Int} {x y:Nat},x∈kI p N n d->y∈kI p N n d->dot n (vec p x y)=0:=fun {n d x y} hx hy=>by rw[nQ,(dX.1 hx).2,(dX.1 hy).2];omega
 have hz:=UR JJ (o ha' HM) (o ha' hc') (o ha' hq);have :=EM n (vec p a b) (vec p a c) (vec p a q) n;rw[hz,kC (vec p a b) n,kC (vec p a c) n,kC (vec p a q) n,o ha hb,o ha hc] at this;have h2:dO n (vec p a b) (vec p a c)*dot n (vec p a q)=0:=by omega
 rcases Jv.1 h2 with h3|h3
 . exact absurd h3 h
 rw[nQ] at h3;exact dX.2 ⟨(dX.1 hq).1,by have :=(dX.1 ha).2;omega⟩
theorem pS.four (F:pS p N n d) (A:qk p N):∃n1 d1 n2 d2 n3 d3,pS p N n1 d1/\pS p N n2 d2/\pS p N n3 d3/\n1≠n/\n2≠n/\n3≠n/\n1≠n2/\n1≠n3/\n2≠n3:=by
 obtain⟨s,r,hsr⟩:=F.ZU.head;obtain⟨m,W⟩:=F.ZU.way A hsr;generalize uH n p (kI p N n d)=f at W;obtain⟨o0,s0⟩:=W.side 0;obtain⟨o1,s1⟩:=W.side 1;obtain⟨o2,s2⟩:=W.side 2;obtain⟨o3,_⟩:=W.side 3;obtain⟨n1,d1,F1,a1,b1,_,q1,JK,aSr⟩:=F.adj A o0 s0;obtain⟨n2,d2,F2,a2,b2,_,q2,Sb,aWe⟩:=F.adj A o1 s1;obtain⟨n3,d3,F3,a3,b3,_,q3,xt,bGh⟩:=F.adj A o2 s2;have t0:=W.aUt F.ZU 0;have t1:=W.aUt F.ZU 1
 have oth:∀{n':V} {d':Int},pS p N n' d'->(∃q∈kI p N n' d',q∉kI p N n d)->n'≠n:=by rintro n' d' F' ⟨q,h1,h2⟩ rfl;rw[F.uniq F'] at h2;exact h2 h1
 refine⟨n1,d1,n2,d2,n3,d3,F1,F2,F3,oth F1 ⟨q1,JK,aSr⟩,oth F2 ⟨q2,Sb,aWe⟩,oth F3 ⟨q3,xt,bGh⟩,?_,?_,?_⟩
 . rintro rfl;rw[F2.uniq F1] at a2 b2;exact aSr (FR F1.ZU.hn o0 o1 o2 (Jq t0) a1 b1 b2 JK)
 . rintro rfl;rw[F3.uniq F1] at a3 b3;exact aSr (FR F1.ZU.hn o0 o1 o2 (Jq t0) a1 b1 a3 JK)
 rintro rfl;rw[F3.uniq F2] at a3 b3;exact aWe (FR F2.ZU.hn o1 o2 o3 (Jq t1) a2 b2 b3 Sb)
end
section
def neg (a:V):V:=⟨-a.x,-a.y,-a.z⟩
theorem neg_neg (a:V):neg (neg a)=a:=by simp[neg]
theorem TF {a:V} (h:a≠V0):neg a≠V0:=fun e=>h (by
 have :=Bn neg e;rw[neg_neg] at this
 rw[this];rfl)
theorem aCk (a:V):gG (neg a)=gG a:=by simp[gG,neg,Int.gcd]
theorem IS (a:V):gL (neg a)=neg (gL a):=by have d1:(gG a:Int)∣a.x:=Ft ..;have d2:(gG a:Int)∣a.y:=Gv (Ec ..) (Ft ..);have d3:(gG a:Int)∣a.z:=Gv (Ec ..) (Ec ..);unfold gL;rw[aCk];simp only[neg];rw[Ki d1,Ki d2,Ki d3]
theorem pG (a b:V):dot (neg a) b= -dot a b:=by simp only[dot,neg];grind
variable {p:Nat->V} {N:Nat} {n:V} {d:Int}
def vP (p:Nat->V) (a b c:Nat) (n:V):Prop:=
 bC (vec p a b) (vec p a c)≠V0/\(n=gL (bC (vec p a b) (vec p a c))\/n=neg (gL (bC (vec p a b) (vec p a c))))
theorem NS (a b c:Nat):bC (vec p a c) (vec p a b)=neg (bC (vec p a b) (vec p a c)):=by simp only[bC,neg];apply V.ext'<;>simp only <;>grind
theorem XD (a b c:Nat):bC (vec p b a) (vec p b c)=neg (bC (vec p a b) (vec p a c)):=by simp only[bC,neg,vec,sub];apply V.ext'<;>simp only <;>grind
theorem vP.swap {a b c:Nat} (h:vP p a b c n):vP p a c b n:=by unfold vP at h ⊢;rw[NS a b c,IS,neg_neg];exact⟨TF h.1,h.2.symm⟩
theorem vP.rX {a b c:Nat} (h:vP p a b c n):vP p b a c n:=by unfold vP at h ⊢;rw[XD a b c,IS,neg_neg];exact⟨TF h.1,h.2.symm⟩
theorem vP.aUy {a b c:Nat} (h:vP p a b c n):dot n (p b)=dot n (p a)/\dot n (p c)=dot n (p a):=by
 have hg:=uC h.1
 have key:∀k,dot (bC (vec p a b) (vec p a c)) (vec p a k)=0->dot n (p k)=dot n (p a):=by
  intro k hk;rw[<-AD] at hk;have h2:=eO (by omega) hk
  have h3:dot n (vec p a k)=0:=by
   rcases h.2 with rfl|rfl
   . exact h2
   rw[pG,h2];rfl
  rw[nQ] at h3;omega
 exact⟨key b (by simp only[dot,bC];grind),key c (by simp only[dot,bC];grind)⟩
theorem vP.ne {a b c:Nat} (h:vP p a b c n):a≠b/\a≠c/\b≠c:=by refine⟨?_,?_,?_⟩<;>rintro rfl<;>refine h.1 ?_<;>simp only[bC,vec,sub,V0]<;>apply V.ext'<;>simp only <;>grind
theorem vP.isF {a b c:Nat} (h:vP p a b c n) (ha:a<N) (hb:b<N) (hc:c<N) (le:∀k,k<N->dot n (p k)<=d) (lt:∃k,k<N/\dot n (p k)<d) (hd:d=dot n (p a)):pS p N n d:=by
 rcases h.2 with e|e
 . exact⟨le,lt,a,b,c,ha,hb,hc,h.1,e,hd⟩
 refine⟨le,lt,a,c,b,ha,hc,hb,h.swap.1,?_,hd⟩;rw[NS,IS];exact e
theorem pS.bEk (F:pS p N n d):∃a b c,a<N/\b<N/\c<N/\vP p a b c n/\d=dot n (p a):=by obtain⟨a,b,c,ha,hb,hc,hw,hn,hd⟩:=F.tri;exact⟨a,b,c,ha,hb,hc,⟨hw,.inl hn⟩,hd⟩
theorem pS.up (F:pS p N n d):∃i j k,i<j/\j<k/\k<N/\vP p i j k n/\d=dot n (p i):=by
 obtain⟨a,b,c,ha,hb,hc,h,hd⟩:=F.bEk
 have ho:∃a b c,b<c/\a<N/\b<N/\c<N/\vP p a b c n/\d=dot n (p a):=by
  have hn:=h.ne;by_cases hbc:b<c
  . exact⟨a,b,c,hbc,ha,hb,hc,h,hd⟩
  exact⟨a,c,b,by omega,ha,hc,hb,h.swap,hd⟩
 obtain⟨a,b,c,hbc,ha,hb,hc,h,hd⟩:=ho;have hn:=h.ne;have hs:=h.aUy;by_cases h1:a<b
 . exact⟨a,b,c,h1,hbc,hc,h,hd⟩
 by_cases h2:a<c
 . exact⟨b,a,c,by omega,h2,hc,h.rX,by rw[hs.1];exact hd⟩
 exact⟨b,c,a,hbc,by omega,ha,h.rX.swap,by rw[hs.1];exact hd⟩
theorem pS.down (F:pS p N n d):∃i j k,k<j/\j<i/\i<N/\vP p i j k n/\d=dot n (p i):=by obtain⟨i,j,k,h1,h2,h3,h,hd⟩:=F.up;have hs:=h.aUy;exact⟨k,j,i,h1,h2,h3,h.rX.swap.rX,by rw[hs.2];exact hd⟩
theorem iY.j9 (a:V):¬iY a a:=by unfold iY;omega
theorem iY.trans {a b c:V} (h:iY a b) (h':iY b c):iY a c:=by unfold iY at *;omega
theorem iY.total {a b:V} (h:a≠b):iY a b\/iY b a:=by refine Cr fun hc=>h ?_;unfold iY at hc;apply V.ext'<;>omega
theorem BF {α:Type} {R:α->α->Prop} (ir:∀a,¬R a a) (tr:∀{a b c},R a b->R b c->R a c):∀{l l':List α},l.Pairwise R->l'.Pairwise R->(∀x,x∈l↔x∈l')->l=l'
 |[],[],_,_,_=>rfl
 |[],y::l',_,_,h=>absurd ((h y).2 Ar) (by simp)
 |x::l,[],_,_,h=>absurd ((h x).1 Ar) (by simp)
 |x::l,y::l',hl,pA,h=>by
  rw[Cl] at hl pA
  have hxy:x=y:=by
   rcases Am.1 ((h x).1 Ar) with e|e
   . exact e
   rcases Am.1 ((h y).2 Ar) with e'|e'
   . exact e'.symm
   exact absurd (tr (pA.1 x e) (hl.1 y e')) (ir y)
  subst hxy;rw[BF ir tr hl.2 pA.2 fun z=>⟨fun hz=>?_,fun hz=>?_⟩]
  . rcases Am.1 ((h z).1 (Au _ hz)) with e|e
    . subst e;exact absurd (hl.1 z hz) (ir z)
    exact e
  rcases Am.1 ((h z).2 (Au _ hz)) with e|e
  . subst e;exact absurd (pA.1 z hz) (ir z)
  exact e
structure pB (p:Nat->V) (N:Nat) (L:List (V×Int)):Prop where
 mem:∀q,q∈L↔pS p N q.1 q.2
 Rh:L.Pairwise fun a b=>iY a.1 b.1
theorem pB.uniq {L L':List (V×Int)} (h:pB p N L) (h':pB p N L'):L=L':=
 BF (R:=fun a b=>iY a.1 b.1) (fun a=>iY.j9 _) (fun {a b c} h h'=>iY.trans (a:=a.1) (b:=b.1) (c:=c.1) h h') h.Rh h'.Rh fun q=>(h.mem q).trans (h'.mem q).symm
theorem pB.bm {K S:List (V×Int)} (hn:K.Nodup) (hm:∀q,q∈K↔pS p N q.1 q.2) (hp:S.Perm K) (hs:S.Pairwise fun a b=>¬iY b.1 a.1):pB p N S where
 mem:=fun q=>(hp.mem_iff).trans (hm q)
 Rh:=by
  have hnS:S.Nodup:=hp.nodup_iff.2 hn;have gT:∀q∈S,pS p N q.1 q.2:=fun q hq=>(hm q).1 (hp.mem_iff.1 hq);have h2:S.Pairwise fun a b=>a≠b/\¬iY b.1 a.1:=List.Pairwise.and hnS hs;refine Jk (fun {a b} ha hb FX=>?_) h2;by_cases he:a.1=b.1
  . have :=(gT a ha).uniq (d':=b.2) (by rw[he];exact gT b hb);exact absurd (Prod.ext he this) FX.1
  exact(iY.total he).resolve_right FX.2
theorem pB.four {L:List (V×Int)} (h:pB p N L) (A:qk p N) (cQ:L≠[]):4<=L.length:=by
 cases L with
 |nil=>exact absurd rfl cQ
 |cons q r=>
  obtain⟨n1,d1,n2,d2,n3,d3,f1,f2,f3,e1,e2,e3,e4,e5,e6⟩:=((h.mem q).1 Ar).four A
  have Pm:[q,(n1,d1),(n2,d2),(n3,d3)].Nodup:=by simp only[Jt,Am,Bj,Df,not_or,Hy,Kd,Kb,Ak,not_and];refine⟨⟨fun e=>e1 (by rw[e]),fun e=>e2 (by rw[e]),fun e=>e3 (by rw[e])⟩,⟨fun e=>absurd e e4,fun e=>absurd e e5⟩,fun e=>absurd e e6⟩
  have FG:[q,(n1,d1),(n2,d2),(n3,d3)] ⊆ q::r:=by
   intro x hx;simp only[Am,Bj,Df] at hx
   rcases hx with rfl|rfl|rfl|rfl
   . exact Ar
   . exact(h.mem _).2 f1
   . exact(h.mem _).2 f2
   exact(h.mem _).2 f3
  have :=List.Nodup.length_le_of_subset Pm FG;simpa using this
end
section
variable {p:Nat->V} {N:Nat} {n:V} {d:Int}
structure Poly (p:Nat->V) (N:Nat) (n:V) (d:Int) (L:List Nat):Prop where
 ex:∃s r m,kI p N n d=s::r/\Way n p (kI p N n d) s m (uH n p (kI p N n d))/\L=(List.range m).map fun i=>iter (uH n p (kI p N n d)) i s
theorem Poly.exists (A:qk p N) (F:qx p N n d):∃L,Poly p N n d L:=by obtain⟨s,r,h⟩:=F.head;obtain⟨m,W⟩:=F.way A h;exact⟨_,⟨s,r,m,h,W,rfl⟩⟩
theorem Poly.uniq {L L':List Nat} (h:Poly p N n d L) (h':Poly p N n d L'):L=L':=by
 obtain⟨s,r,m,e,W,rfl⟩:=h.ex;obtain⟨s',r',m',e',W',rfl⟩:=h'.ex;rw[e] at e';cases e'
 have :m=m':=by
  rcases Jh m m' with hl|he|hl
  . exact absurd W.back (W'.first m W.pos hl)
  . exact he
  exact absurd W'.back (W.first m' W'.pos hl)
 rw[this]
def Next (L:List Nat) (a b:Nat):Prop:=∃i,i<L.length/\L[i]?=some a/\L[(i+1)%L.length]?=some b
theorem Poly.wN {L:List Nat} (h:Poly p N n d L) {a b:Nat}:Next L a b↔a∈kI p N n d/\Sd n p (kI p N n d) a b:=by
 obtain⟨s,r,m,e,W,rfl⟩:=h.ex;have hlen:((List.range m).map fun i=>iter (uH n p (kI p N n d)) i s).length=m:=by simp
 have cY:∀i,i<m->((List.range m).map fun i=>iter (uH n p (kI p N n d)) i s)[i]?=some (iter (uH n p (kI p N n d)) i s):=fun i hi=>by rw[Cv,Is hi];rfl
 have aJo:∀i,i<m->((List.range m).map fun i=>iter (uH n p (kI p N n d)) i s)[(i+1)%m]?=some (iter (uH n p (kI p N n d)) (i+1) s):=fun i hi=>by
  by_cases hm:i+1<m
  . rw[Dl hm,cY _ hm]
  have :i+1=m:=by omega
  rw[this,Nat.mod_self,cY 0 W.pos,W.back];rfl
 unfold Next;rw[hlen];constructor
 . rintro⟨i,hi,h1,h2⟩;rw[cY i hi] at h1;rw[aJo i hi] at h2;cases h1;cases h2;exact W.side i
 rintro⟨ha,hS⟩;obtain⟨i,hi,rfl⟩:=W.cover ha hS;refine⟨i,hi,cY i hi,?_⟩;rw[aJo i hi,(W.side i).2.uniq W.H (W.side i).1 hS]
theorem Poly.back (A:qk p N) (F:pS p N n d) {L:List Nat} (h:Poly p N n d L) {a b:Nat} (hn:Next L a b):
 ∃n' d' L',pS p N n' d'/\Poly p N n' d' L'/\Next L' b a:=by
 obtain⟨ha,hS⟩:=h.wN.1 hn;obtain⟨n',d',F',ha',HM,hS',_⟩:=F.adj A ha hS;obtain⟨L',h'⟩:=Poly.exists A F'.ZU;exact⟨n',d',L',F',h',h'.wN.2 ⟨HM,hS'⟩⟩
theorem Poly.aTi {L:List Nat} (h:Poly p N n d L) {k:Nat} (hk:k∈L):k∈kI p N n d:=by obtain⟨s,r,m,e,W,rfl⟩:=h.ex;simp only[Bf,Ay] at hk;obtain⟨i,hi,rfl⟩:=hk;exact(W.side i).1
theorem Poly.RL {L:List Nat} (h:Poly p N n d L) {k:Nat} (hk:k∈L):aP.RL n p (kI p N n d) k=some (uH n p (kI p N n d) k):=by obtain⟨s,r,m,e,W,rfl⟩:=h.ex;simp only[Bf,Ay] at hk;obtain⟨i,hi,rfl⟩:=hk;exact zk W.H (W.side i).1 (W.side i).2
def Ym (n:V) (a b:List V):Prop:=∀u∈a,∀v∈b,dot n u<=dot n v
def Sep (a b:List V) (n:V):Prop:=Ym n a b\/Ym n b a
theorem Sep.symm {a b:List V}:Sep a b n↔Sep b a n:=Or.comm
theorem Sep.neg {a b:List V}:Sep a b (aP.neg n)↔Sep a b n:=by
 unfold Sep Ym;simp only[pG];constructor
 . rintro(h|h)
   . exact .inr fun u hu v hv=>by have :=h v hv u hu;omega
   exact .inl fun u hu v hv=>by have :=h v hv u hu;omega
 rintro(h|h)
 . exact .inr fun u hu v hv=>by have :=h v hv u hu;omega
 exact .inl fun u hu v hv=>by have :=h v hv u hu;omega
theorem XC (a b:V):bC b a=aP.neg (bC a b):=by simp only[bC,aP.neg];apply V.ext'<;>simp only <;>grind
end
theorem natAbs_tmod (a b:Int):(a.tmod b).natAbs=a.natAbs%b.natAbs:=by
 first
  |exact Int.natAbs_tmod a b
  |(cases a<;>cases b<;>simp only[Int.tmod,Kf,En,Int.natAbs_negSucc,Int.ofNat_eq_natCast,Nat.succ_eq_add_one]<;>rfl)
theorem Ni (a b:Int):Int.gcd b (a.tmod b)=Int.gcd a b:=by unfold Int.gcd;rw[natAbs_tmod,Hz a.natAbs,Nat.gcd_rec b.natAbs a.natAbs];rw[Hz]
theorem aFc (a:Int):(Int.gcd a 0:Int)=if a< -a then -a else a:=by simp only[Int.gcd_zero_right];split<;>omega
theorem PG (v:V):Int.gcd (Int.gcd v.x v.y) v.z=gG v:=by unfold gG Int.gcd;simp only[En];exact Nat.gcd_assoc _ _ _
theorem aAk {v:V} (h:gG v<=1):gL v=v:=by
 unfold gL
 rcases Gp 0 (gG v) with h0|h0
 . have :gG v=1:=by omega
   rw[this];simp
 have hz:gG v=0:=by omega
 have hv:v=V0:=by refine Cr fun hc=>?_;have :=uC hc;omega
 subst hv;rw[hz];simp[V0]
theorem RS (v:V):gL v=⟨v.x.tdiv (gG v),v.y.tdiv (gG v),v.z.tdiv (gG v)⟩:=by have d1:(gG v:Int)∣v.x:=Ft ..;have d2:(gG v:Int)∣v.y:=Gv (Ec ..) (Ft ..);have d3:(gG v:Int)∣v.z:=Gv (Ec ..) (Ec ..);unfold gL;rw[Hx d1,Hx d2,Hx d3]
def cG (B:Nat) (v:V):Prop:=v.x.natAbs<=B/\v.y.natAbs<=B/\v.z.natAbs<=B
theorem cC {a b:Int} {A B:Nat} (ha:a.natAbs<=A) (hb:b.natAbs<=B):(a*b).natAbs<=A*B:=by rw[Ga];exact Bt ha hb
theorem AB {a b:V} {A B:Nat} (ha:cG A a) (hb:cG B b):(dot a b).natAbs<=3*(A*B):=by have h1:=cC ha.1 hb.1;have h2:=cC ha.2.1 hb.2.1;have h3:=cC ha.2.2 hb.2.2;unfold dot;omega
theorem oB {a b:V} {A B:Nat} (ha:cG A a) (hb:cG B b):cG (2*(A*B)) (bC a b):=by
 obtain⟨a1,a2,a3⟩:=ha;obtain⟨b1,b2,b3⟩:=hb;refine⟨?_,?_,?_⟩<;>simp only[bC]
 . have h1:=cC a2 b3;have h2:=cC a3 b2;omega
 . have h1:=cC a3 b1;have h2:=cC a1 b3;omega
 have h1:=cC a1 b2;have h2:=cC a2 b1;omega
theorem gM {a b:V} {A B:Nat} (ha:cG A a) (hb:cG B b):cG (A+B) (sub a b):=by obtain⟨a1,a2,a3⟩:=ha;obtain⟨b1,b2,b3⟩:=hb;refine⟨?_,?_,?_⟩<;>simp only[sub]<;>omega
theorem sZ {v:V} {B:Nat} (h:cG B v):cG B (gL v):=by
 rw[RS]
 have key:∀a:Int,a.natAbs<=B->(a.tdiv (gG v)).natAbs<=B:=fun a ha=>by rw[Int.natAbs_tdiv];exact Cd (Js _ _) ha
 exact⟨key _ h.1,key _ h.2.1,key _ h.2.2⟩
theorem IH {v:V} {B:Nat} (h:cG B v):cG B (neg v):=by obtain⟨a1,a2,a3⟩:=h;refine⟨?_,?_,?_⟩<;>simp only[neg]<;>omega
end Go.aP
namespace Go.Av
open Go Go.uE
def wC (l:List Nat):List AV:=l.map fun(n:Nat)=>AV.int .u32 n
theorem dM (l:List Nat):(wC l).length=l.length:=by simp[wC]
def zs:List Nat:=List.replicate 16 0
theorem aUl:[AV.int .u32 0,.int .u32 0,.int .u32 0,.int .u32 0,.int .u32 0,.int .u32 0,.int .u32 0,.int .u32 0,.int .u32 0,.int .u32 0,.int .u32 0,.int .u32 0,.int .u32 0,.int .u32 0,.int .u32 0,.int .u32 0]=wC zs:=rfl
def Rz (l:List Nat):Prop:=l.length=16/\∀d∈l,d<W
theorem Rz.zs:Rz zs:=⟨rfl,fun d hd=>by rw[Hn hd];decide⟩
theorem Rz.bJ (n:Nat):Rz (bJ 16 n):=⟨cW _ _,IA⟩
theorem aIk {l:List Nat} {n:Nat} (h:l.length<=n):(wC l).take n=wC l:=Aq (by rw[dM];exact h)
theorem aIj {l:List Nat} {n:Nat} (h:l.length<=n):(wC l).drop n=[]:=Ca (by rw[dM];exact h)
theorem uW {l:List Nat} {i:Nat} (h:i<l.length):(wC l).getD i aD=.int .u32 (l.getD i 0):=by unfold wC;rw[Bg,Bg,Cv,Ad h];rfl
theorem CO {l:List Nat} {i:Nat} (h:i<l.length) (x:Nat):fW (wC l) i [.int .u32 (x:Int)]=wC (l.set i x):=by unfold fW wC;rw[Ib,Es,if_pos Zbi];simp
theorem Qb:∀(a b:List Nat),a.length=b.length->cL (List.replicate a.length .i) (wC a) (wC b)=some (decide (a=b))
 |[],[],_=>rfl
 |[],y::b,h=>by simp at h
 |x::a,[],h=>by simp at h
 |x::a,y::b,h=>by have ih:=Qb a b Zbi;simp only[wC,Cb,As,Dx,cL,if_true] at ih ⊢;rw[ih];by_cases hx:x=y<;>by_cases FX:a=b<;>simp[hx,FX]<;>omega
theorem Qa {a b:List Nat} (ha:a.length=16) (hb:b.length=16):cL [.i,.i,.i,.i,.i,.i,.i,.i,.i,.i,.i,.i,.i,.i,.i,.i] (wC a) (wC b)=some (decide (a=b)):=by
 have :=Qb a b (by omega)
 rwa [ha] at this
def cI (z:Int):List AV:=.bool false::.bool (decide (z<0))::wC (bJ 16 z.natAbs)
def EI:List AV:=.bool true::.bool false::wC zs
def cO:Option Int->List AV
 |some z=>cI z
 |none=>EI
def norm (z:Int):Option Int:=if z.natAbs<W^16 then some z else none
def sg (neg:Bool) (n:Nat):Int:=if neg then -(n:Int) else n
def DK (b n:Bool) (l:List Nat):Bool:= !b&&(!n|| !decide (l=zs))
def QB (b n:Bool) (l:List Nat):Option Int:=if DK b n l then some (sg n (CD l)) else none
def mD (v:List AV) (x:Option Int):Prop:=∃b n l,Rz l/\v=.bool b::.bool n::wC l/\x=QB b n l
theorem Xz:CD zs=0:=by decide
theorem FI:bJ 16 0=zs:=by decide
theorem bj {l:List Nat} (h:Rz l):CD l<W^16:=by
 have :=TH l h.2
 rwa [h.1] at this
theorem KP {l:List Nat} (h:Rz l):bJ 16 (CD l)=l:=by
 have :=RE h.2
 rwa [h.1] at this
theorem AU {l:List Nat} (h:Rz l):CD l=0↔l=zs:=by
 constructor
 . intro e;rw[<-KP h,e,FI]
 rintro rfl;exact Xz
theorem lB (n:Bool) (m:Nat):(sg n m).natAbs=m:=by cases n<;>simp[sg]
theorem Rl {b n:Bool} {l:List Nat} {z:Int} (h:Rz l) (e:QB b n l=some z):b=false/\n=decide (z<0)/\l=bJ 16 z.natAbs/\z.natAbs<W^16:=by
 unfold QB at e;split at e
 . rename_i hg;obtain rfl:=Aa e;simp only[DK,Al,Cn,Dm,Bh] at hg;refine⟨hg.1,?_,?_,?_⟩
   . cases n with
     |false=>simp[sg]
     |true=>
      have :CD l≠0:=fun e=>by
       rcases hg.2 with h2|h2
       . cases h2
       exact h2 ((AU h).1 e)
      simp[sg];omega
   . rw[lB,KP h]
   rw[lB];exact bj h
 cases e
theorem mD.some {v:List AV} {z:Int} (h:mD v (some z)):v=cI z/\z.natAbs<W^16:=by obtain⟨b,n,l,hl,rfl,hv⟩:=h;obtain⟨rfl,rfl,rfl,h4⟩:=Rl hl hv.symm;exact⟨rfl,h4⟩
theorem aCi {z:Int} (h:z.natAbs<W^16):QB false (decide (z<0)) (bJ 16 z.natAbs)=Option.some z:=by
 have :DK false (decide (z<0)) (bJ 16 z.natAbs)=true:=by
  simp only[DK,Gb,Co,Dm,Cn,Bh];by_cases hz:z<0
  . refine .inr fun e=>?_;have :=jE h;rw[e,Xz] at this;omega
  exact .inl hz
 unfold QB;rw[if_pos this,jE h];congr 1;by_cases hz:z<0<;>simp[sg,hz]<;>omega
theorem mD.enc {z:Int} (h:z.natAbs<W^16):mD (cI z) (Option.some z):=⟨false,_,_,.bJ _,rfl,(aCi h).symm⟩
theorem mD.bad:mD EI none:=⟨true,false,zs,.zs,rfl,rfl⟩
theorem kf {z x:Int} (h:norm z=Option.some x):x=z/\z.natAbs<W^16:=by
 unfold norm at h;split at h
 . rename_i hz;exact⟨(Aa h).symm,hz⟩
 cases h
theorem mD.norm (z:Int):mD (cO (Av.norm z)) (Av.norm z):=by
 cases h:Av.norm z with
 |none=>exact .bad
 |some x=>exact .enc (by obtain⟨rfl,h2⟩:=kf h;exact h2)
theorem Uk:∀l,bO (wC l)=true
 |[]=>rfl
 |x::l=>by simp only[wC,Cb,bO,AV.free,Co];exact Uk l
theorem sf:(∀l,bO (wC l)=true)/\(∀b,(AV.bool b).free=true)/\(∀k n,(AV.int k n).free=true)/\(∀s,(AV.str s).free=true)/\(∀cs,(AV.agg cs).free=bO cs)/\(∀cs,(AV.iA cs).free=bO cs)/\
 (∀sz bB,(AV.bD 1 sz bB).free=dT bB)/\(∀sz bB,(AV.bD 0 sz bB).free=dT bB)/\(∀x r,bO (x::r)=(x.free&&bO r))/\(bO []=true)/\(∀x r,dT (x::r)=(bO x&&dT r))/\(dT []=true)/\(∀b,(b&&true)=b)/\(∀b,(true&&b)=b)/\
 AV.aO.free=true/\AV.KT.free=true/\AV.wP.free=true:=
 ⟨Uk,fun _=>by simp only[AV.free],fun _ _=>by simp only[AV.free],fun _=>by simp only[AV.free],fun _=>by simp only[AV.free],fun _=>by simp only[AV.free],fun _ _=>by simp[AV.free],fun _ _=>by simp[AV.free],fun _ _=>by simp only[bO],by simp only[bO],fun _ _=>by simp only[dT],by simp only[dT],Fb,Co,by simp only[AV.free],by simp only[AV.free],by simp only[AV.free]⟩
theorem dG (z:Int):bO (cI z)=true:=by simp only[cI,sf]
theorem SO (x:Option Int):bO (cO x)=true:=by cases x<;>simp only[cO,cI,EI,sf]
theorem sfI:bO EI=true/\(∀z,bO (cI z)=true)/\∀x,bO (cO x)=true:=⟨SO none,dG,SO⟩
theorem eK {α:Type} {f:α->List AV} (h:∀x,bO (f x)=true):∀l:List α,dT (l.map f)=true
 |[]=>by simp only[Fo,dT]
 |x::l=>by simp only[Cb,dT,h,eK h l,Cp]
theorem aB (k:IntKind) (n:Nat):asNat (.int k (n:Int))=some n:=by simp[asNat]
theorem sT:(∀k,asNat (.int k 0)=some 0)/\(∀k,asNat (.int k 1)=some 1)/\(∀k,asNat (.int k 2)=some 2)/\(∀k,asNat (.int k 3)=some 3):=⟨fun _=>rfl,fun _=>rfl,fun _=>rfl,fun _=>rfl⟩
theorem gK {α:Type} {f:α->List AV} {l:List α} {i:Nat} (h:i<l.length):(l.map f).getD i []=f l[i]:=by simp[List.getD,h]
theorem aCe {α:Type} {p:α->Bool} {l:List α} {i:Nat} (h:i<l.length) (ht:(l.take i).all p=true):(l.take (i+1)).all p=p l[i]:=by rw[An,List.all_append,ht];simp[h]
structure yZ where
 b:Bool
 n:Bool
 l:List Nat
 hl:Rz l
def yZ.cells (r:yZ):List AV:=.bool r.b::.bool r.n::wC r.l
def yZ.XW (r:yZ):Bool:=DK r.b r.n r.l
theorem jf (r:yZ):bO r.cells=true:=by simp only[yZ.cells,sf]
theorem lI {a i:Nat} (h:i<16):(wC (bJ 16 a)).getD i aD=.int .u32 (bL a i):=by rw[uW (by rw[cW];exact h),kR h]
def JV (a b:Nat):Int:=if a<b then -1 else if b<a then 1 else 0
theorem aEk {a b k:Nat} (h:a / W^(k+1)=b / W^(k+1)) (hk:bL a k≠bL b k):JV a b=JV (bL a k) (bL b k):=by
 unfold JV
 rcases Nat.lt_or_gt_of_ne hk with hc|hc
 . have :=OM h hc;rw[if_pos this,if_pos hc]
 have :=OM h.symm hc;rw[if_neg (by omega),if_pos this,if_neg (by omega),if_pos hc]
def TL (i:Nat) (l:List Nat):List Nat:=l.take i++List.replicate (l.length -i) 0
theorem xW {i:Nat} {l:List Nat}:(TL i l).length=l.length:=by simp[TL];omega
theorem aAh (l:List Nat):TL 0 l=List.replicate l.length 0:=by simp[TL]
theorem aHh (l:List Nat):TL l.length l=l:=by simp[TL]
theorem aHi {i:Nat} {l:List Nat} (h:i<l.length):(TL i l).set i (l.getD i 0)=TL (i+1) l:=by
 refine Fs (by simp[xW]) fun k h1 h2=>?_;have hk:k<l.length:=by rw[xW] at h2;exact h2
 rw[List.getElem_set];simp only[TL,List.getElem_append,Cz,List.getElem_take,List.getElem_replicate];split
 . rename_i e;subst e;rw[dif_pos (by omega)];simp[List.getD,h]
 rename_i e
 split<;>split<;>first|rfl|omega
theorem Of (n:Nat):TL 0 (bJ 16 n)=zs:=by rw[aAh,cW];rfl
theorem RQ (n:Nat):TL 16 (bJ 16 n)=bJ 16 n:=by
 have :=aHh (bJ 16 n)
 rwa [cW] at this
theorem IP (i n:Nat):(wC (TL i (bJ 16 n))).length=16:=by rw[dM,xW,cW]
theorem ky {i n:Nat} (h:i<16) {x:Int} (hx:x=(bL n i:Nat)):fW (wC (TL i (bJ 16 n))) i [.int .u32 x]=wC (TL (i+1) (bJ 16 n)):=by rw[hx,CO (by rw[xW,cW];exact h),<-aHi (by rw[cW];exact h),kR h]
theorem Oe {i n:Nat} (h:i<16) {x:Int} (hx:x=(bL n i:Nat)):(wC (TL i (bJ 16 n))).take i++[AV.int .u32 x]++(wC (TL i (bJ 16 n))).drop (i+1)=wC (TL (i+1) (bJ 16 n)):=ky h hx
theorem Yy (u:Nat):IntKind.u32.wrap (u:Int)=((u%W:Nat):Int):=by simp[IntKind.wrap,IntKind.bits,IntKind.signed,W]
theorem rY {x:Int} {u:Nat} (h:u<2^64) (e:x=u\/x=u -2^64\/x=u+2^64):IntKind.u64.wrap x=u:=by simp only[IntKind.wrap,IntKind.bits,IntKind.signed];simp;omega
theorem Na (u:Nat):(u:Int).fdiv (2^min (Int.toNat 32) IntKind.u64.bits)=((u / W:Nat):Int):=by show(u:Int).fdiv (2^32)=_;rw[Jd _ (by decide)];rfl
def Wn:Option Int->Option Int->Option Int
 |some x,some y=>norm (x+y)
 |_,_=>none
def Xw:Option Int->Option Int
 |some x=>some (-x)
 |none=>none
theorem mD.raw {v:List AV} {x:Option Int} (h:mD v x):∃r:yZ,v=r.cells/\x=QB r.b r.n r.l/\r.XW=x.isSome:=by obtain⟨b,n,l,hl,rfl,rfl⟩:=h;refine⟨⟨b,n,l,hl⟩,rfl,rfl,?_⟩;simp only[yZ.XW,QB];split<;>rename_i h<;>simp[h]
theorem mD.len {v:List AV} {x:Option Int} (h:mD v x):v.length=18:=by obtain⟨b,n,l,hl,rfl,rfl⟩:=h;simp[dM,hl.1]
theorem mD.free {v:List AV} {x:Option Int} (h:mD v x):bO v=true:=by obtain⟨b,n,l,hl,rfl,rfl⟩:=h;simp only[sf]
theorem dZ (z:Int):(cI z).length=18:=by simp[cI,dM,cW]
theorem Wu (x:Option Int):(cO x).length=18:=by
 cases x
 . simp[cO,EI,dM,zs]
 exact dZ _
theorem oL {cs:List AV} {n:Nat} (h:cs.length=n):cs.length=n/\cs.take n=cs/\cs.drop n=[]:=⟨h,Aq (by omega),Ca (by omega)⟩
theorem cOl:(∀x,(cO x).length=18)/\(∀x,(cO x).take 18=cO x)/\(∀x,(cO x).drop 18=[])/\(∀x,(cI x).length=18)/\(∀x,(cI x).take 18=cI x)/\(∀x,(cI x).drop 18=[]):=
 ⟨Wu,fun x=>(oL (Wu x)).2.1,fun x=>(oL (Wu x)).2.2,dZ,fun x=>(oL (dZ x)).2.1,fun x=>(oL (dZ x)).2.2⟩
theorem mD.add {x y:Option Int}:mD (cO (Wn x y)) (Wn x y):=by cases x<;>cases y<;>first|exact .norm _|exact .bad
theorem mD.neg {x:Option Int} {v:List AV} (h:mD v x):mD (cO (Xw x)) (Xw x):=by
 cases x with
 |none=>exact .bad
 |some z=>exact .enc (by have :=h.some.2;rwa [Kf])
def Xv:Option Int->Option Int->Option Int
 |some x,some y=>norm (x*y)
 |_,_=>none
def smO (x y:Nat->Option Int):Nat->Option Int
 |0=>some 0
 |i+1=>Wn (smO x y i) (Xv (x i) (y i))
theorem mD.mul {x y:Option Int}:mD (cO (Xv x y)) (Xv x y):=by cases x<;>cases y<;>first|exact .norm _|exact .bad
theorem mD.sm {x y:Nat->Option Int}:∀i,mD (cO (smO x y i)) (smO x y i)
 |0=>.enc (by decide)
 |i+1=>.add
theorem mD.fit {v:List AV} {z:Int} (h:mD v (Option.some z)):z.natAbs<W^16:=h.some.2
theorem iL {l:List Nat} (h:Rz l):(wC l).length=16/\l.length=16/\(wC l).take 16=wC l/\(wC l).drop 16=[]/\cL [.i,.i,.i,.i,.i,.i,.i,.i,.i,.i,.i,.i,.i,.i,.i,.i] (wC l) (wC zs)=some (decide (l=zs)):=
 ⟨by rw[dM,h.1],h.1,aIk (by rw[h.1];omega),aIj (by rw[h.1];omega),Qa h.1 rfl⟩
theorem iz:(wC zs).length=16/\(wC zs).take 16=wC zs/\(wC zs).drop 16=[]:=⟨(iL .zs).1,(iL .zs).2.2.1,(iL .zs).2.2.2.1⟩
def c3 (c:Nat->List AV):List AV:=c 0++(c 1++c 2)
theorem tH {c:Nat->List AV} (h:∀i,i<3->(c i).length=18):(c3 c).length=54:=by simp[c3,h 0 (by decide),h 1 (by decide),h 2 (by decide)]
theorem NG {c:Nat->List AV} (h:∀i,i<3->(c i).length=18) {i:Nat} (hi:i<3):((c3 c).drop (i*18)).take 18=c i:=by
 have h0:=h 0 (by decide);have h1:=h 1 (by decide);have h2:=h 2 (by decide)
 match i,hi with
 |0,_=>simp[c3,List.take_append,h0]
 |1,_=>simp[c3,Hj,List.take_append,h0,h1]
 |2,_=>simp[c3,Hj,List.take_append,h0,h1,h2,Ca (show(c 0).length<=36 by omega),Aq (show(c 2).length<=18 by omega)]
theorem xI {c:Nat->List AV} (h:∀i,i<3->bO (c i)=true):bO (c3 c)=true:=by simp[c3,gD,h 0 (by decide),h 1 (by decide),h 2 (by decide)]
theorem aEc:cI 0=.bool false::.bool false::wC zs:=by simp[cI,FI]
theorem Mk: .bool false::.bool false::.int .u32 0::.int .u32 0::.int .u32 0::.int .u32 0::.int .u32 0::.int .u32 0::.int .u32 0::.int .u32 0::.int .u32 0::.int .u32 0::.int .u32 0::.int .u32 0::.int .u32 0::.int .u32 0::.int .u32 0::.int .u32 0::.bool false::.bool false::.int .u32 0::.int .u32 0::.int .u32 0::.int .u32 0::.int .u32 0::.int .u32 0::.int .u32 0::.int .u32 0::.int .u32 0::.int .u32 0::.int .u32 0::.int .u32 0::.int .u32 0::.int .u32 0::.int .u32 0::.int .u32 0::.bool false::.bool false::wC zs=c3 (fun _=>cI 0):=by simp only[aEc];rfl
def _root_.Go.aP.V.at (v:aP.V) (i:Nat):Int:=match i with
 |0=>v.x
 |1=>v.y
 |_=>v.z
def cU (v:aP.V):List AV:=[.int .i64 v.x,.int .i64 v.y,.int .i64 v.z]
theorem aV (v:aP.V):(cU v).length=3:=rfl
theorem kQ (v:aP.V) {i:Nat} (hi:i<3):(cU v).getD i aD=.int .i64 (v.at i):=by
 match i,hi with
 |0,_=>rfl
 |1,_=>rfl
 |2,_=>rfl
theorem cT (v:aP.V):bO (cU v)=true:=by simp only[cU,sf]
end Go.Av
namespace Go.Av
open Go
section
section
variable {P:Program} {g:bG} {n:Nat} {r:List bK} {f:dE} {ds:List gN} {H:aA} {Q:FQ}
theorem Kz {d m:Nat} {x:Arg} {es:List (AV×AV)} (hd:d<n) (hx:nH g f x=.map m) (hm:H.get m=some (.map es))
 (h:∀bs c mb,bs.length=es.length->bs.Nodup->bS P g n r (kH f d (.ref H.next 0)) ds ((H.set m (.sN es bs c mb)).alloc (.iter m mb c [])) Q):
 bS P g n (⟨some d,.vG x,none⟩::r) f ds H Q:=by
 have :∀v,fM n f (some d) v=kH f d v:=fun v=>by simp[fM,hd]
 unfold bS;simp only[iE,if_true,this];exact⟨m,es,hx,hm,h⟩
theorem Mo {d it m mb c:Nat} {x:Arg} {es:List (AV×AV)} {seen bs:List Nat} (hd:d<n) (hx:nH g f x=.ref it 0) (hi:H.get it=some (.iter m mb c seen)) (hm:H.get m=some (.sN es bs c mb))
 (h0:(∀b∈bs,b∈seen)->bS P g n r (kH f d (.iA [.bool false])) ds H Q)
 (h1:∀j,j<bs.length->bs.getD j 0∉seen->bS P g n r (kH f d (.iA [.bool true,(es.getD j (aD,aD)).1,(es.getD j (aD,aD)).2])) ds (H.set it (.iter m mb c (seen++[bs.getD j 0]))) Q):
 bS P g n (⟨some d,.DR x,none⟩::r) f ds H Q:=by
 have :∀v,fM n f (some d) v=kH f d v:=fun v=>by simp[fM,hd]
 unfold bS;simp only[iE,if_true,this];exact⟨it,m,mb,c,seen,es,bs,hx,hi,hm,h0,h1⟩
theorem UA {d it m mb c j:Nat} {x:Arg} {es:List (AV×AV)} {seen bs:List Nat} (hd:d<n) (hx:nH g f x=.ref it 0) (hi:H.get it=some (.iter m mb c (seen++[bs.getD j 0]))) (hm:H.get m=some (.sN es bs c mb)) (hj:j<bs.length)
 (h:bS P g n r (kH f d (.iA [(es.getD j (aD,aD)).1,(es.getD j (aD,aD)).2])) ds H Q):
 bS P g n (⟨some d,.xV x,none⟩::r) f ds H Q:=by
 have :∀v,fM n f (some d) v=kH f d v:=fun v=>by simp[fM,hd]
 unfold bS;simp only[iE,if_true,this];exact⟨it,m,mb,c,seen,es,bs,j,hx,hi,hm,hj,h⟩
end
def cJ (H:aA):Prop:=∀j,H.next<=j->H.get j=none
theorem cJ.nil (n:Nat):cJ ⟨n,.nil⟩:=fun _ _=>rfl
theorem cJ.alloc {H:aA} (h:cJ H) (o:fB):cJ (H.alloc o):=fun j hj=>by simp only[aA.aR] at hj;rw[aA.aG,if_neg (by omega)];exact h j (by omega)
theorem cJ.set {H:aA} (h:cJ H) {id:Nat} (hi:id<H.next) (o:fB):cJ (H.set id o):=fun j hj=>by simp only[aA.aW] at hj;rw[aA.aC,if_neg (by omega)];exact h j hj
theorem cJ.at1 {H:aA} (h:cJ H):mR H 1=true:=by simp only[mR,Cw,h _ (Ab _)];rfl
theorem cJ.at2 {H:aA} (h:cJ H):mR H 2=true:=by simp only[mR,Cw,h _ (Ab _),h (H.next+1) (by omega)];rfl
def lG (sz:Nat) (bB:List (List AV)):AV:=if bB=[] then .aO else .bD 0 sz bB
theorem mr {sz:Nat} {bB:List (List AV)} (h:dT bB=true):(lG sz bB).free=true:=by unfold lG;split<;>simp[AV.free,h]
theorem NN {sz:Nat}:∀{bB:List (List AV)},(∀e∈bB,e.length=sz)->fI sz bB.length bB.flatten=bB
 |[],_=>rfl
 |e::bB,h=>by have he:=h e Ar;simp only[As,fI,Bl];rw[Ce (by omega),Aq (by omega),Il (by omega),Ca (by omega),Db,NN fun x hx=>h x (Au _ hx)]
theorem oQ {sz:Nat}:∀{bB:List (List AV)},(∀e∈bB,e.length=sz)->bB.flatten.length=bB.length*sz
 |[],_=>by simp
 |e::bB,h=>by have he:=h e Ar;have :=oQ fun x hx=>h x (Au e hx);simp only[Bl,Ba,As,Cs,Hv];omega
theorem aBu {H2:aA} {id sz cap:Nat} {bB:List (List AV)} {eN:Bool} (hg:H2.get id=some (.cells bB.flatten eN)) (hu:∀e∈bB,e.length=sz) (hf:dT bB=true) (nw:Nat):
 fG H2 none nw 0 (.sl id sz 0 bB.length cap)=some (.bD 0 sz bB):=by
 have hc:H2.eS id=some bB.flatten:=by simp[aA.eS,hg]
 have hl:Nat.ble (0+bB.length*sz) bB.flatten.length=true:=by rw[oQ hu];simp
 simp only[fG,fA,hc,Ee,hl,lV hf,Cp,NN hu]
theorem zH {H:aA} {sz bytes:Nat} {ys:List (List AV)} (hy:ys.isEmpty=false) (hb:ys.length*bytes<=2^40):dR H sz bytes true .aO ys=some (.sl H.next sz 0 ys.length ys.length,H.alloc (.cells ys.flatten true)):=by simp[dR,hy,hb,kS]
theorem zK {H:aA} {id n sz bytes:Nat} {cs:List AV} {ys:List (List AV)} (hg:H.get id=some (.cells cs true)) (hc:cs.length=n*sz) (hy:ys.isEmpty=false) (hb:(n+ys.length)*bytes<=2^40) (hs:1<=sz):
 dR H sz bytes true (.sl id sz 0 n n) ys=some (.sl H.next sz 0 (n+ys.length) (n+ys.length),(H.set id .dead).alloc (.cells (cs++ys.flatten) true)):=by
 have hl:0<ys.length:=by cases ys with
  |nil=>simp at hy
  |cons _ _=>simp
 simp only[dR,hy,Bb,Bp,hg,hb,hs,and_self,if_true];rw[if_neg (by omega),if_neg (by simp[hc]),if_pos ⟨trivial,trivial,trivial,hc⟩]
def Has (H:aA) (sz:Nat) (v:AV) (bB:List (List AV)):Prop:=v=.bD 1 sz bB\/Own H sz v bB
theorem Has.push {H:aA} {sz bytes:Nat} {v:AV} {bB ys:List (List AV)} (h:Has H sz v bB) (hy:ys.isEmpty=false) (hb:(bB.length+ys.length)*bytes<=2^40):
 ∃H',dR H sz bytes false v ys=some (.bD (H.next+2) sz (bB++ys),H')/\H'.next=H.next+1/\H'.get H.next=some .tok/\(∀id,id<H.next->H.get id≠some .tok->H'.get id=H.get id)/\(cJ H->cJ H'):=by
 have fresh:∀els':List (List AV),dR H sz bytes false v ys=some (kS H false sz els')->∃H',dR H sz bytes false v ys=some (.bD (H.next+2) sz els',H')/\H'.next=H.next+1/\H'.get H.next=some .tok/\(∀id,id<H.next->H.get id≠some .tok->H'.get id=H.get id)/\(cJ H->cJ H'):=fun els' e=>⟨H.alloc .tok,e,by simp,by rw[aA.aG,if_pos rfl],fun id h1 _=>by rw[aA.aG,if_neg (by omega)],fun hf=>hf.alloc _⟩
 rcases h with rfl|⟨rfl,rfl⟩|⟨k,rfl,xc,hk⟩
 . exact fresh _ (by simp[dR,hy,hb])
 . simp only[Bm,Cq] at hb;exact fresh _ (by simp[dR,hy,hb])
 refine⟨(H.set k .dead).alloc .tok,by simp[dR,hy,hb,hk],by simp,by rw[aA.aG,aA.aW,if_pos rfl],fun id h1 h2=>?_,fun hf=>(hf.set xc _).alloc _⟩;rw[aA.aG,aA.aW,if_neg (by omega),aA.aC,if_neg];rintro rfl;exact h2 hk
theorem Has.dH {H H':aA} {sz:Nat} {v:AV} {bB:List (List AV)} (h:Has H sz v bB) (hn:H.next<=H'.next) (hk:∀k,k<H.next->H.get k=some .tok->H'.get k=some .tok):Has H' sz v bB:=by
 rcases h with rfl|⟨rfl,rfl⟩|⟨k,rfl,h1,h2⟩
 . exact .inl rfl
 . exact .inr (.inl ⟨rfl,rfl⟩)
 exact .inr (.inr ⟨k,rfl,by omega,hk k h1 h2⟩)
theorem Has.shut {H2:aA} {sz:Nat} {v:AV} {bB:List (List AV)} (h:Has H2 sz v bB) (cQ:bB≠[]) (hl:v≠ .bD 1 sz bB) (hf:dT bB=true) (nw:Nat):fG H2 none nw 0 v=some (.bD 0 sz bB):=by
 rcases h with rfl|⟨rfl,rfl⟩|⟨k,rfl,h1,h2⟩
 . exact absurd rfl hl
 . exact absurd rfl cQ
 simp[fG,fA,hf,IZ]
end
end Go.Av
namespace Go.Av
open Go Go.Proofs Go.Shelf Go.Lib Go.Sort
abbrev JG (k:Nat):={l:List Int // l.length=k}
instance (k:Nat):Inhabited (JG k):=⟨⟨List.replicate k 0,by simp⟩⟩
def vY {k:Nat} (x:JG k):List Value:=x.1.map (Value.int .i64)
def XJ {k:Nat} (x:JG k):List AV:=x.1.map (AV.int .i64)
def pM {k:Nat} (d:List (JG k)):List Int:=d.flatMap (·.1)
theorem tw {k:Nat} (x:JG k):(vY x).length=k:=by simp[vY,x.2]
def Gno:Gh:=⟨fun _=>none,fun _ _=>False,true⟩
theorem WR.empty {g:bG} (hg:∀n,g n=none) (w:World):WR g Gno ⟨0,.nil⟩ w where
 cells:=fun id l cs eN h=>by cases h
 room:=fun id l h=>by cases h
 kT:=fun id kU l l' _ h=>by cases h
 kE:=fun id l h=>by cases h
 iV:=fun id l o h=>by cases h
 lt:=fun id l h=>by cases h
 jA:=fun b o h=>h.elim
 jG:=fun n cs h=>by rw[hg n] at h;cases h
 BV:=fun n cs h h0=>by rw[hg n] at h;cases h
 mo:=by unfold bG.mo;rw[hg];rfl
theorem iO.ints {G:Gh} {w:World} (l:List Int):iO G w (l.map (AV.int .i64)) (l.map (Value.int .i64)):=by
 refine⟨by simp,fun j hj=>?_⟩;have FA:j<l.length:=by simpa using hj
 have e1:(l.map (AV.int .i64)).getD j aD=.int .i64 l[j]:=by simp[List.getD,FA]
 have e2:(l.map (Value.int .i64)).getD j undef=.int .i64 l[j]:=by simp[List.getD,FA]
 rw[e1,e2];exact .int ..
theorem TZ {G':Gh} {H':aA} {w w':World} (e:Ext Gno ⟨0,.nil⟩ w G' H' w'):∃q os',w'=grow (w.drewN q) os':=by
 refine⟨w'.drawn -w.drawn,w'.heap.extract w.heap.size w'.heap.size,?_⟩
 have hh:w'.heap=w.heap++w'.heap.extract w.heap.size w'.heap.size:=by
  apply Array.ext_getElem?;intro b;rw[Array.getElem?_append];have hs:=e.size;split
  . rename_i hb;exact e.frame b hb (fun id l h=>by cases h)
  rename_i hb;rw[Array.getElem?_extract];by_cases h2:b<w'.heap.size
  . rw[if_pos (by omega)];congr 1;omega
  rw[if_neg (by omega),Jr (by omega)]
 obtain⟨h1,h2,h3,h4⟩:=e.same
 replace h4:=h4 rfl
 cases w';cases w;simp only[grow,World.drewN,World.mk.injEq] at *;exact⟨hh,h3,by omega,h1,h2⟩
theorem SD {P:Program} {f:FuncId} (qP:Mp P f) (args:Array Value) (w:World):(callFunc f args).run P w=.ok (.enter f args) w:=by
 obtain⟨fn,h1,h2,h3⟩:=qP;have hb:¬fn.body=none:=fun hh=>by rw[hh] at h2;cases h2
 have h3':¬fn.name= "runtime.NumGoroutine" :=by simpa using h3
 simp[callFunc,program,Sem.run,h1,h3',hb]
theorem aEj {P:Program} {g:bG} (hg:∀n,g n=none) {k:Nat} {gf:FuncId} {cf:JG k->JG k->Int}
 (Ze:∀x y,Sound P g gf [.agg (XJ x),.agg (XJ y)] ⟨0,.nil⟩ (.ret (.int .i64 (cf x y))) ⟨0,.nil⟩) (dB off size:Nat) (w:World):CmpLays P gf #[] vY k cf dB off size w:=by
 intro m os dk hs x y
 have hv:∀z:JG k,VR Gno (sortWorldK vY k w dB off m dk os) (.agg (XJ z)) (.agg (vY z).toArray):=fun z=>by have :=iO.ints (G:=Gno) (w:=sortWorldK vY k w dB off m dk os) z.1;exact .agg _ _ this.1 (fun c hc=>by obtain⟨n,_,rfl⟩:=Bf.1 hc;rfl) this.2
 refine((Ze x y).2 Gno (sortWorldK vY k w dB off m dk os) [.agg (vY x).toArray,.agg (vY y).toArray] (WR.empty hg _) ⟨rfl,fun j hj=>?_⟩).mono fun e w' he=>?_
 . match j,hj with
   |0,_=>exact hv x
   |1,_=>exact hv y
 obtain⟨G',h1,h2,h3⟩:=he;refine⟨?_,TZ h2⟩
 cases e with
 |returned u=>cases h3;rfl
 |_=>exact h3.elim
theorem RZ {k:Nat} (hk:1<=k):∀(d:List (JG k)) (t:Nat),t<d.length*k->(pM d)[t]?=some ((d[t / k]?.getD default).1[t%k]?.getD 0)
 |[],t,h=>by simp at h
 |x::d,t,h=>by
  have hx:=x.2;simp only[pM,Fe];rw[Du];split
  . rename_i h1;rw[Eh (by omega),Dl (by omega)];simp[Ad h1]
  rename_i h1;have h2:k<=t:=by omega
  have h3:t -k<d.length*k:=by simp only[As,Cs,Hv] at h;omega
  have e1:t / k=(t -k) / k+1:=by rw[<-Nat.add_div_right _ (by omega)];congr 1;omega
  have e2:t%k=(t -k)%k:=by rw[<-Nat.mod_eq_sub_mod h2]
  rw[hx,e1,e2,Gk];exact RZ hk d (t -k) h3
theorem kW {k:Nat}:∀d:List (JG k),(pM d).length=d.length*k
 |[]=>by simp[pM]
 |x::d=>by have :=kW d;simp only[pM,Fe,Ba,As,x.2,Cs,Hv] at this ⊢;omega
theorem Ug {k:Nat} (hk:1<=k) (d:List (JG k)):flatK vY k d.toArray=((pM d).map (Value.int .i64)).toArray:=by
 refine ext_get! (by simp[kW]) fun t ht=>?_;have ht':t<d.length*k:=by simpa using ht
 rw[get_flatK _ _ _ _ (by simpa using ht')];have h1:=RZ hk d t ht';have hm:t%k<k:=Di _ (by omega);have hd:t / k<d.length:=by rwa [Ea (by omega)]
 have hl:(d[t / k]).1.length=k:=(d[t / k]).2
 have e2:(((pM d).map (Value.int .i64)).toArray)[t]! =.int .i64 ((d[t / k]).1[t%k]'(by omega)):=by
  rw[getElem!_pos _ _ (by simpa [kW] using ht')];have h3:t<(pM d).length:=by rw[kW];exact ht'
  rw[Ad h3] at h1;simp only[List.getElem_toArray,Dq];rw[Aa h1];simp[hd,Ad (show t%k<(d[t / k]).1.length by omega)]
 rw[e2,getElem!_pos d.toArray (t / k) (by simpa using hd)];simp only[vY,List.getElem_toArray];rw[getElem!_pos _ _ Zah];simp
theorem Yu {k:Nat} (hk:1<=k) {w:World} {dB off n:Nat} {d':List (JG k)} {c:Array Value} {el:TypeId} {fz:Nat×Nat} (rB:w.heap[dB]?=some (.cells c el fz)):
 Td w (putRowK vY k (Sort.ahead w n) dB off d'.toArray) dB off ((pM d').map (Value.int .i64)) where
 size:=by simp[putRowK,putRow,mapBlock,Sort.ahead]
 other:=fun b' hb=>by simp only[putRowK,putRow,mapBlock,Sort.ahead,Gx];rw[if_neg (Ne.symm hb)]
 row:=fun c1 el1 fz1 h=>by
  rw[rB] at h;cases h;refine⟨putCells id off (flatK vY k d'.toArray) c,?_,by simp[putCells],fun o ho=>?_,fun j hj fJ=>?_⟩
  . simp[putRowK,putRow,mapBlock,Sort.ahead,Gx,rB,onCells]
  . simp only[putCells,Array.getElem?_mapIdx,size_flatK]
    have :¬(off<=o/\o<off+d'.toArray.size*k):=by simp only[Af,kW,Gz] at ho ⊢;omega
    simp only[if_neg this]
    cases c[o]?<;>rfl
  simp only[Af,kW] at hj;simp only[putCells,Array.getElem?_mapIdx,size_flatK];rw[Dv fJ,Bu,if_pos Zah];rw[show off+j -off=j by omega,Ug hk,getElem!_pos _ _ (by simpa [kW] using hj)];simp[List.getD,kW,hj]
 same:=.now (h4:=Hh _ _)
theorem Mv {P:Program} {g:bG} (hg:∀n,g n=none) {ρ:Ren} (L:SlLaysF0.n6 P ρ) {k:Nat} (hk:1<=k) (aE:∀w,(isAgg (ρ.t 24)).run P w=.ok true w) (zE:∀w,(Go.sizeOf (ρ.t 24)).run P w=.ok k w)
 {gf sf:FuncId} (hsf:sf=ρ.f 6) (hfs:Mp P sf) (hfg:Mp P gf) {cf:JG k->JG k->Int} (hO:SWO (ltOf cf))
 (Ze:∀x y,Sound P g gf [.agg (XJ x),.agg (XJ y)] ⟨0,.nil⟩ (.ret (.int .i64 (cf x y))) ⟨0,.nil⟩) (d:List (JG k)) (hd:d.length<4611686018427387904):
 ∃d':List (JG k),d'.Perm d/\(d'.Pairwise fun a b=>¬cf b a<0)/\∀(H:aA) (id:Nat) (eN:Bool),H.get id=some (.cells ((pM d).map (AV.int .i64)) eN)->
  Sound P g sf [.sl id k 0 d.length d.length,.func (.func gf) [] []] H (.ret (.iA [])) (H.set id (.cells ((pM d').map (AV.int .i64)) eN)):=by
 subst hsf;have hp:=pdq_sorts (ltOf cf) hO d.toArray 0 d.toArray.size (Lib.bitLen d.toArray.size) true true (Az _) (Ab _) (Or.inl rfl);generalize hD:pdq (ltOf cf) d.toArray 0 d.toArray.size (Lib.bitLen d.toArray.size) true true=D at hp;obtain⟨⟨q1,q2,q3⟩,q4⟩:=hp
 have aJm:D.toList.Perm d:=by
  rw[<-q1] at q3;have e1:(D.extract 0 D.size).toList=D.toList:=by simp
  have e2:(d.toArray.extract 0 D.size).toList=d:=by rw[q1];simp
  rwa [e1,e2] at q3
 have hlen:D.toList.length=d.length:=aJm.length_eq;refine⟨D.toList,aJm,?_,fun H id eN cY=>⟨hfs,fun G w vs hw oU=>?_⟩⟩
 . rw[Gc];intro i j hi hj yL;have :=q4 i j (Az _) yL (by simp at hj hlen ⊢;omega);simp only[ltOf,Bh] at this;simp only[Dc] at hi hj;rw[getElem!_pos D i hi,getElem!_pos D j hj] at this;simpa using this
 obtain⟨hl,hv⟩:=oU
 match vs,hl with
 |[u0,u1],_=>
  have v0:=hv 0 (by simp);have v1:=hv 1 (by simp);simp only[Dy,Gg] at v0 v1
  cases v0 with
  |sl _ _ _ _ _ kA l sM hle gT pQ=>
   cases v1 with
   |func _ _ _ az bz ha hb _ _=>
    obtain rfl:az=[]:=Cm ha;obtain rfl:bz=[]:=Cm hb;obtain⟨a1,a2,a3,a4,a5⟩:=hw.cells id l _ eN sM cY;obtain⟨c,el,fz,b1,b2,b3⟩:=hw.room id l sM (.inl ⟨_,_,cY⟩);have aVm:((pM d).map (AV.int .i64)).length=d.length*k:=by simp[kW]
    have hH:HoldsK vY k w l.dB (l.base+0) d.toArray:=by intro j hj;rw[size_flatK] at hj;have FA:j<d.length*k:=ZaC;obtain⟨u,e1,e2⟩:=a5 j (by rw[aVm];exact FA);have hjf:j<(pM d).length:=(by rw[kW];exact FA);have e3:((pM d).map (AV.int .i64)).getD j aD=.int .i64 (pM d)[j]:=(by simp[List.getD,hjf]);rw[e3] at e2;cases e2;refine⟨?_,b3 j (by rw[a1,aVm] at a2;omega)⟩;rw[Cw,e1,Ug hk,getElem!_pos _ _ (by simpa using hjf)];simp
    have hblk:l.dB<w.heap.size:=by
     rcases Gp l.dB w.heap.size with h|h
     . exact h
     rw[Jr h] at b1;cases b1
    have aVn:=AnyQ.slices_SortFunc_eq L k aE zE (vY (k:=k)) tw (fun x v hv=>by obtain⟨n,_,rfl⟩:=Bf.1 hv;rfl) cf hO gf #[] l.dB (l.base+0) kA d.toArray w (fun args w=>SD hfg args w) (aEj hg Ze _ _ _ _) hH hblk (by simpa using hd);rw[hD] at aVn;refine aVn.mono fun e w' he=>?_;obtain⟨rfl,n,os,rfl⟩:=he;have hup:=Yu hk (w:=w) (dB:=l.dB) (off:=l.base+0) (n:=n) (d':=D.toList) b1
    have hsp:fW ((pM d).map (AV.int .i64)) 0 ((pM D.toList).map (AV.int .i64))=(pM D.toList).map (AV.int .i64):=by simp only[fW,Fc,Db,Cq];rw[Ca (by simp[kW,hlen]),Ch]
    obtain⟨r1,r2⟩:=hw.store sM cY (iO.ints (pM D.toList)) (fun c hc=>by obtain⟨n,_,rfl⟩:=Bf.1 hc;rfl) (by simp[kW,hlen]) hup;rw[hsp] at r1 r2
    have Qu:∀b,b<(putRowK vY k (Sort.ahead w n) l.dB (l.base+0) D.toList.toArray).heap.size->(grow (putRowK vY k (Sort.ahead w n) l.dB (l.base+0) D.toList.toArray) os).heap[b]?=(putRowK vY k (Sort.ahead w n) l.dB (l.base+0) D.toList.toArray).heap[b]?:=fun b hb=>by simp only[grow];rw[Array.getElem?_append_left hb]
    have e0:sortWorldK vY k w l.dB (l.base+0) n D os=grow (putRowK vY k (Sort.ahead w n) l.dB (l.base+0) D.toList.toArray) os:=(by simp[sortWorldK]);rw[e0];refine⟨G,r1.grow Qu,r2.trans (Ext.grow r1.jA Qu (by simp[grow]) .now),?_⟩;exact .iA _ [] rfl fun j hj=>absurd hj (Ap _)
theorem pE {P:Program} {g:bG} {ρ:Ren} (L:SlLaysF0.n6 P ρ) {sf:FuncId} (hsf:sf=ρ.f 6) (hfs:Mp P sf) (gf:FuncId) (H:aA):Sound P g sf [.aO,.func (.func gf) [] []] H (.ret (.iA [])) H:=by
 subst hsf;refine⟨hfs,fun G w vs hw oU=>?_⟩;obtain⟨hl,hv⟩:=oU
 match vs,hl with
 |[u0,u1],_=>have v0:=hv 0 (by simp);simp only[Dy] at v0;cases v0;refine(AnyF.slices_SortFunc_none L none 0 u1 w).mono fun e w' he=>?_;obtain⟨rfl,rfl⟩:=he;exact⟨G,hw,Ext.refl G H _,.iA _ [] rfl fun j hj=>absurd hj (Ap _)⟩
end Go.Av
namespace Go.Av
open Go
section
section
variable {P:Program} {g:bG} {n:Nat}
theorem dq {k:Mq} {f:dE} {id:Nat} {args:List AV} {H2 H3:aA} {out:Out} (hb:pU n f) (h:Ry P g n k f id args H2 out H3):Rp P g k (LF n f) id args H2 out H3:=by
 unfold Rp;rw[QH];refine fY (fun e s1 rL H1 hq=>?_) (GH k.PM _ [] H2 _ (hb.qI _) h);obtain⟨f1,rfl,eQ,hq⟩:=hq
 cases e with
 |normal=>
  obtain⟨h1,k1,sn1,h2,h3⟩:=hq;refine⟨h1,k1,sn1,h2,fY (fun e s2 Te H4 hq=>?_) (GH k.body _ [] _ _ eQ h3)⟩;obtain⟨f2,rfl,gJ,hq⟩:=hq
  cases e with
  |panic v=>exact hq.elim
  |_=>exact hq
 |_=>exact hq.elim
theorem Wm (hm:Fit P g) {k:Mq} {f:dE} {id:Nat} {args:List AV} {H2 H3:aA} {out:Out} (hb:pU n f) (cY:H2.get id=some (.loop k (LF n f) .ready)) (hlen:args.length=k.ps.length) (h:Ry P g n k f id args H2 out H3):
 EG P g id args H2 out H3:=QL hm cY hlen (dq hb h)
variable {r:List bK} {f:dE} {ds:List gN} {H:aA} {Q:FQ}
theorem Wg {d:Nat} {c:Arg} {id:Nat} {azs:List Arg} {args:List AV} {v:AV} {H':aA} (hd:d<n) (hc:nH g f c=.yield id) (ha:azs.map (nH g f)=args)
 (hS:EG P g id args H (.ret v) H') (h:bS P g n r (kH f d v) ds H' Q):bS P g n (⟨some d,.call c azs,none⟩::r) f ds H Q:=by
 have :∀v,fM n f (some d) v=kH f d v:=fun v=>by simp[fM,hd]
 unfold bS;simp only[iE,if_true,this];exact⟨.ret v,H',.inr ⟨id,hc,by rw[ha];exact hS⟩,h⟩
theorem du {c:Arg} {ps:List Nat} {PM body:cF} {fid:FuncId} {fs cs:List AV} {v:AV} {He:aA} {k':Mq} {s':List AV} {st:LSt} (hc:nH g f c=.func (.func fid) fs cs)
 (hS:Sound P g fid (fs++[.yield (H.next+1)]++cs) ((H.alloc .SH).alloc (.loop ⟨ps,PM,body⟩ (LF n f) .ready)) (.ret v) He) (hl:He.get (H.next+1)=some (.loop k' s' st))
 (h:∀Hf,wL He (H.next+1) Hf->OJ st f (.mark H.next::ds) Hf Q):FC P g n (.oG c ps PM body) f ds H Q:=by
 have fJ:∃Hf,wL He (H.next+1) Hf:=⟨He.set (H.next+1) .dead,rfl,fun m=>by rw[aA.aC]⟩
 obtain⟨Hf,hf⟩:=fJ;exact⟨fid,fs,cs,v,He,k',s',st,Hf,hc,hS,hl,hf,h Hf hf⟩
theorem Mn {c:Arg} {ps:List Nat} {PM body:cF} {fid:FuncId} {fs cs:List AV} (hc:nH g f c=.func (.func fid) fs cs)
 (h:∃v He k' s' st,Sound P g fid (fs++[.yield (H.next+1)]++cs) ((H.alloc .SH).alloc (.loop ⟨ps,PM,body⟩ (LF n f) .ready)) (.ret v) He/\He.get (H.next+1)=some (.loop k' s' st)/\
   ∀Hf,wL He (H.next+1) Hf->OJ st f (.mark H.next::ds) Hf Q):FC P g n (.oG c ps PM body) f ds H Q:=by
 obtain⟨v,He,k',s',st,h1,h2,h3⟩:=h;exact du hc h1 h2 h3
theorem pU.kH {n:Nat} {f:dE} (h:pU n f) {d:Nat} (hd:d<n) (v:AV):pU n (kH f d v):=fun t ht=>by rw[oM _ _ (by omega)];exact h t ht
theorem bV {c:cF} {f0:dE} {ds:List gN} {H:aA} {Q:FQ} (h:∀f,f=f0->FC P g n c f ds H Q):FC P g n c f0 ds H Q:=h _ rfl
structure Over (H H':aA):Prop where
 le:H.next<=H'.next
 same:∀j,j<H.next->H'.get j=H.get j
theorem Over.refl (H:aA):Over H H:=⟨Ab _,fun _ _=>rfl⟩
theorem Over.alloc {H H':aA} (h:Over H H') (o:fB):Over H (H'.alloc o):=⟨by simp only[aA.aR];have :=h.le;omega,fun j hj=>by
 have :=h.le
 rw[aA.aG,if_neg (by omega)];exact h.same j hj⟩
theorem Over.set {H H':aA} (h:Over H H') {id:Nat} (dC:H.next<=id) (o:fB):Over H (H'.set id o):=⟨by rw[aA.aW];exact h.le,fun j hj=>by rw[aA.aC,if_neg (by omega)];exact h.same j hj⟩
end
end
end Go.Av
