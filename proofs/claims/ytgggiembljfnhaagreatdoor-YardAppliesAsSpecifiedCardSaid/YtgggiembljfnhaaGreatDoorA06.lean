/-
  Part of the proof of statement 11
-/
import Derived.Test.YtgggiembljfnhaaGreatDoorA05
import Derived.Test.YtgggiembljfnhaaGreatDoorA01
import Derived.Shelf.SlSortCmp.NoneTotal
set_option linter.unusedVariables false
set_option linter.unusedSimpArgs false
set_option linter.unusedSectionVars false
namespace Go.Av
open Go
section
section
variable {P:Program} {g:bG} {n:Nat}
theorem BQ {Q:aA->Prop}:∀{ds:List gM} {H:aA},WW P g ds H Q->∃Hf,Q Hf/\WW P g ds H fun H'=>H'=Hf
 |[],H,h=>⟨H,h,rfl⟩
 |.call _ _::ds,H,h=>by obtain⟨H1,h1,h2⟩:=h;obtain⟨Hf,q,h3⟩:=BQ h2;exact⟨Hf,q,H1,h1,h3⟩
 |.mark _::ds,H,h=>by obtain⟨h1,h2⟩:=h;obtain⟨Hf,q,h3⟩:=BQ h2;exact⟨Hf,q,h1,h3⟩
theorem sY {Q Q':aA->Prop} (hq:∀H,Q H->Q' H):∀{ds:List gM} {H:aA},WW P g ds H Q->WW P g ds H Q'
 |[],H,h=>hq H h
 |.call _ _::ds,H,h=>by obtain⟨H1,h1,h2⟩:=h;exact⟨H1,h1,sY hq h2⟩
 |.mark _::ds,H,h=>⟨h.1,sY hq h.2⟩
def aKh (P:Program) (g:bG) (rs:List GJ) (R:Out->aA->Prop):FQ
 |.normal,f,ds,H|.ret,f,ds,H=>WW P g ds H fun H1=>∃vs,BG f H1 rs=some vs/\R (.ret (nZ vs)) H1
 |.panic v,f,ds,H=>match ds with
  |[]=>R (.JP v) H
  |.mark _::_=>False
  |.call df azs::ds=>∃H1,Rv P g df azs (some v) H H1/\WW P g ds H1 fun H2=>∃vs,BG f H2 rs=some vs/\R (.ret (nZ vs)) H2
 |.exit _,_,_,_=>False
theorem aCa {F:BR} {args:List AV} (ha:args.length<=F.ntmps) {H:aA} {R:Out->aA->Prop} (h:FC P g F.ntmps F.body (fK args) [] H (aKh P g F.results R)):
 AC P g F.body (qI F args) [] H (aKi P g F R):=by
 obtain⟨hb,hl⟩:=Kr ha;unfold qI;rw[<-hl];refine fY (fun e s ds H hq=>?_) (GM F.body _ [] H _ hb h);obtain⟨f,rfl,CV,hq⟩:=hq
 have conv:∀H1,(∃vs,BG f H1 F.results=some vs/\R (.ret (nZ vs)) H1)->∃vs,lT (LF F.ntmps f) H1 F.results=some vs/\R (.ret (nZ vs)) H1:=fun H1 ⟨vs,h1,h2⟩=>⟨vs,by rw[<-IX CV];exact h1,h2⟩
 cases e with
 |normal=>exact sY conv hq
 |ret=>exact sY conv hq
 |panic v=>
  cases ds with
  |nil=>exact hq
  |cons d ds=>
   cases d with
   |mark _=>exact hq.elim
   |call _ _=>obtain⟨H1,h1,h2⟩:=hq;exact⟨H1,h1,sY conv h2⟩
 |exit id=>exact hq
theorem GS {mu:Bool} (hm:Fit P g) {f:FuncId} {F:BR} (hF:kH P g mu f F) {args:List AV} (ha:args.length<=F.ntmps) {H:aA} {R:Out->aA->Prop}
 (h:FC P g F.ntmps F.body (fK args) [] H (aKh P g F.results R)) (hdt:F.body.dO=true:=by first|rfl|decide):∃out H',R out H'/\Sound P g f args H out H':=by
 obtain⟨ae,s,ds,H',q,hA⟩:=Tg hdt (aCa ha h)
 have norm:(ae=.normal\/ae=.ret)->(WW P g ds H' fun H1=>∃vs,lT s H1 F.results=some vs/\R (.ret (nZ vs)) H1)->∃out H',R out H'/\Sound P g f args H out H':=by
  intro hae q;obtain⟨Hf,⟨vs,h1,h2⟩,h3⟩:=BQ q;refine⟨_,Hf,h2,oX hm hF (fY (fun e s1 d hh he=>?_) hA)⟩;obtain⟨rfl,rfl,rfl,rfl⟩:=he;have :WW P g d hh fun H1=>∃WV,lT s1 H1 F.results=some WV/\(Out.ret (nZ WV)=Out.ret (nZ vs)/\H1=Hf):=sY (fun H1 e=>by subst e;exact⟨vs,h1,rfl,rfl⟩) h3
  rcases hae with rfl|rfl<;>exact this
 cases ae with
 |exit id=>exact q.elim
 |normal=>exact norm (.inl rfl) q
 |ret=>exact norm (.inr rfl) q
 |panic v=>
  cases ds with
  |nil=>refine⟨.JP v,H',q,oX hm hF (fY (fun e s1 d hh he=>?_) hA)⟩;obtain⟨rfl,rfl,rfl,rfl⟩:=he;exact⟨rfl,rfl⟩
  |cons d ds=>
   cases d with
   |mark _=>exact q.elim
   |call _ _=>obtain⟨H1,h1,h2⟩:=q;obtain⟨Hf,⟨vs,q1,q2⟩,q3⟩:=BQ h2;refine⟨.ret (nZ vs),Hf,q2,oX hm hF (fY (fun e s1 d1 hh he=>?_) hA)⟩;obtain⟨rfl,rfl,rfl,rfl⟩:=he;exact⟨H1,h1,sY (fun H1 e=>by subst e;exact⟨vs,q1,rfl,rfl⟩) q3⟩
variable {r:List bK} {f:dE} {ds:List gM} {H:aA} {Q:FQ}
end
end
section
section
variable {P:Program} {v:Nat->Option (List AV)} {l l':Mo->Loop->Prop}
theorem iH:bN ⟨v,l⟩=bN ⟨v,l'⟩:=by funext x;cases x<;>rfl
theorem My:nN ⟨v,l⟩=nN ⟨v,l'⟩:=by
 funext x
 induction x with
 |nil=>rfl
 |cons a r ih=>simp only[nN];rw[ih,iH (l':=l')]
theorem YA:mY ⟨v,l⟩=mY ⟨v,l'⟩:=by
 funext x
 cases x with
 |none=>rfl
 |some a=>simp only[mY];rw[iH (l':=l')]
theorem YE (f:Nat->Option (Nat×Nat)):vN ⟨v,l⟩ f=vN ⟨v,l'⟩ f:=by
 funext x
 induction x with
 |nil=>rfl
 |cons a r ih=>simp only[vN];rw[ih,iH (l':=l')]
theorem yg:∀(n:Nat) (x),ID ⟨v,l⟩ n x=ID ⟨v,l'⟩ n x:=by
 intro n x
 induction x generalizing n with
 |nil=>rfl
 |cons a r ih=>simp only[ID];rw[ih,iH (l':=l')]
theorem Wr (op:BinOp) (t:TypeId) (x y:Operand):pV P ⟨v,l⟩ op t x y=pV P ⟨v,l'⟩ op t x y:=by unfold pV;rw[iH (l':=l')]
theorem UH (a b:TypeId) (x:Operand):mF P ⟨v,l⟩ a b x=mF P ⟨v,l'⟩ a b x:=by unfold mF;rw[iH (l':=l')]
theorem SC (t:TypeId) (x:Operand) (a b c:Option Operand):jW P ⟨v,l⟩ t x a b c=jW P ⟨v,l'⟩ t x a b c:=by unfold jW;rw[iH (l':=l'),YA (l':=l')]
theorem Wt (c:Call):pW P ⟨v,l⟩ c=pW P ⟨v,l'⟩ c:=by unfold pW;rw[iH (l':=l')]
theorem PW (mu:Bool) (c:Call):iI P ⟨v,l⟩ mu c=iI P ⟨v,l'⟩ mu c:=by unfold iI;rw[iH (l':=l')]
theorem UG (mu:Bool) (c:Call):nI P ⟨v,l⟩ mu c=nI P ⟨v,l'⟩ mu c:=by unfold nI;rw[iH (l':=l'),My (l':=l'),Wt (l':=l'),PW (l':=l')]
theorem aDx (mu:Bool) (o:Oper):NO P ⟨v,l⟩ mu o=NO P ⟨v,l'⟩ mu o:=by unfold NO;simp only[iH (v:=v) (l:=l) (l':=l'),My (v:=v) (l:=l) (l':=l'),YE (v:=v) (l:=l) (l':=l'),yg (v:=v) (l:=l) (l':=l'),Wr (v:=v) (l:=l) (l':=l'),UH (v:=v) (l:=l) (l':=l'),SC (v:=v) (l:=l) (l':=l'),UG (v:=v) (l:=l) (l':=l')]
theorem ie (mu:Bool) (ops:Array Oper) (o:Oper):Kz P ⟨v,l⟩ mu ops o=Kz P ⟨v,l'⟩ mu ops o:=by unfold Kz;rw[aDx (l':=l')]
theorem Wv (mu:Bool) (ops:Array Oper):∀x,lP P ⟨v,l⟩ mu ops x=lP P ⟨v,l'⟩ mu ops x:=by
 intro x
 induction x with
 |nil=>rfl
 |cons a r ih=>simp only[lP];rw[ih,ie (l':=l')]
theorem e8 (mu:Bool) (c:Code):eS P ⟨v,l⟩ mu c=eS P ⟨v,l'⟩ mu c:=by
 induction c with
 |region id ops d=>cases d<;>simp only[eS]<;>rw[Wv (l':=l')]
 |seq a b rR uT=>simp only[eS,rR,uT]
 |cond c a b rR uT=>simp only[eS,rR,uT];rw[iH (l':=l')]
 |block id a ih=>simp only[eS,ih]
 |loop a ih=>simp only[eS,ih]
 |scope a ih=>simp only[eS,ih]
 |rangeFunc c ps x y ihx ihy=>simp only[eS,ihx,ihy];rw[iH (l':=l')]
 |_=>rfl
def mkG (P:Program) (v:Nat->Option (List AV)):bG:=
 ⟨v,fun k r=>r.params.toList=k.ps/\∃mu,eS P ⟨v,fun _ _=>False⟩ mu r.assign=some k.PJ/\eS P ⟨v,fun _ _=>False⟩ mu r.body=some k.body/\k.PJ.nd=true/\k.body.nd=true⟩
theorem ao (hm:P.follows .mixedOrders=true):Fit P (mkG P v) where
 mixed:=hm
 lok:=fun k r=>by unfold mkG;simp only[e8 (P:=P) (v:=v) (l':=fun _ _=>False)]
def KU (P:Program) (g:bG) (mu:Bool) (fn:Go.Func):Option BR:=
 match fn.body with
 |none=>none
 |some c=>match eS P g mu c,uM P fn.results.toList with
  |some b,some r=>some ⟨fn.ntmps,r,b⟩
  |_,_=>none
def dT (P:Program) (g:bG) (mu:Bool):Code->Option cG
 |.skip=>some .skip
 |.label _=>some .skip
 |.region _ ops false=>(lP P g mu ops ops.toList).map .ops
 |.region _ ops true=>(lP P g mu ops ops.toList).map fun rl=>.draw rl (sM rl (Region.before ops).toList)
 |.seq a b=>match dT P g mu a,dT P g mu b with
  |some x,some y=>some (.seq x y)
  |_,_=>none
 |.cond c a b=>match bN g c,dT P g mu a,dT P g mu b with
  |some z,some x,some y=>some (.cond z x y)
  |_,_,_=>none
 |.block id a=>(dT P g mu a).map (.block id)
 |.loop a=>(dT P g mu a).map .loop
 |.scope a=>dT P g mu a
 |.exit id=>some (.exit id)
 |.ret=>some .ret
 |.rangeFunc c ps x y=>match bN g c,dT P g mu x,dT P g mu y with
  |some c',some x',some y'=>some (.nY c' ps.toList x' y')
  |_,_,_=>none
 |_=>none
theorem ey {P:Program} {g:bG} {mu:Bool}:∀{c:Code} {b:cG},eS P g mu c=some b->dT P g mu c=some b:=by
 intro c
 induction c with
 |region k ops d=>
  intro b h
  cases d with
  |false=>exact h
  |true=>
   simp only[eS] at h;simp only[dT];split at h
   . rename_i rl FJ;split at h
     . cases h;rw[FJ];rfl
     cases h
   cases h
 |seq a b rR uT=>
  intro r h;simp only[eS] at h;split at h
  . rename_i x y hx hy;simp only[dT,rR hx,uT hy];exact h
  cases h
 |cond c a b rR uT=>
  intro r h;simp only[eS] at h;split at h
  . rename_i z x y hz hx hy;simp only[dT,hz,rR hx,uT hy];exact h
  cases h
 |block i a rR=>intro r h;simp only[eS,Ah] at h;obtain⟨x,hx,rfl⟩:=h;simp only[dT,rR hx,Bx]
 |loop a rR=>intro r h;simp only[eS,Ah] at h;obtain⟨x,hx,rfl⟩:=h;simp only[dT,rR hx,Bx]
 |scope a rR=>intro r h;simp only[eS] at h;simp only[dT];exact rR h
 |rangeFunc c ps x y ihx ihy=>
  intro r h;simp only[eS] at h;split at h
  . rename_i c' x' y' hc hx hy;split at h
    . simp only[dT,hc,ihx hx,ihy hy];exact h
    cases h
  cases h
 |_=>intro r h;first|exact h|cases h
def mkX (P:Program) (g:bG) (mu:Bool) (fn:Go.Func):Option BR:=
 match fn.body with
 |none=>none
 |some c=>match dT P g mu c,uM P fn.results.toList with
  |some b,some r=>some ⟨fn.ntmps,r,b⟩
  |_,_=>none
theorem yq {P:Program} {g:bG} {mu:Bool} {fn:Go.Func} {F:BR} (h:(KU P g mu fn).isSome=true) (hx:mkX P g mu fn=some F):KU P g mu fn=some F:=by
 cases hm:KU P g mu fn with
 |none=>rw[hm] at h;cases h
 |some G=>
  have e:mkX P g mu fn=some G:=by
   unfold KU at hm;unfold mkX
   cases hc:fn.body with
   |none=>rw[hc] at hm;cases hm
   |some c=>
    rw[hc] at hm;simp only at hm ⊢;split at hm
    . rename_i b r hb hr;rw[ey hb,hr];exact hm
    cases hm
  rw[e] at hx;exact hx
def sqO:Option cG->Option cG->Option cG
 |some x,some y=>some (.seq x y)
 |_,_=>none
def cdO (c:Option Arg):Option cG->Option cG->Option cG
 |some x,some y=>match c with
  |some z=>some (.cond z x y)
  |none=>none
 |_,_=>none
theorem ax (P:Program) (g:bG) (mu:Bool):(∀a b,dT P g mu (.seq a b)=sqO (dT P g mu a) (dT P g mu b))/\(∀c a b,dT P g mu (.cond c a b)=cdO (bN g c) (dT P g mu a) (dT P g mu b))/\
 (∀i a,dT P g mu (.block i a)=(dT P g mu a).map (.block i))/\(∀a,dT P g mu (.loop a)=(dT P g mu a).map .loop)/\(∀a,dT P g mu (.scope a)=dT P g mu a)/\
 (∀k ops,dT P g mu (.region k ops false)=(lP P g mu ops ops.toList).map .ops)/\(∀k ops,dT P g mu (.region k ops true)=(lP P g mu ops ops.toList).map fun rl=>.draw rl (sM rl (Region.before ops).toList)):=by
 refine⟨fun a b=>?_,fun c a b=>?_,fun i a=>rfl,fun a=>rfl,fun a=>rfl,fun k ops=>rfl,fun k ops=>rfl⟩
 . conv=>lhs;unfold dT
   unfold sqO;cases dT P g mu a<;>cases dT P g mu b<;>rfl
 conv=>lhs;unfold dT
 unfold cdO;cases bN g c<;>cases dT P g mu a<;>cases dT P g mu b<;>rfl
theorem jC {g:bG} {mu:Bool} {f:FuncId} {fn:Go.Func} {F:BR} (h1:P.funcs[f]?=some fn) (h2:(fn.name== "runtime.NumGoroutine")=false) (h:KU P g mu fn=some F):kH P g mu f F:=by
 unfold KU at h;split at h
 . cases h
 rename_i c hc;split at h
 . rename_i b r hb hr;cases h;exact⟨fn,c,h1,hc,h2,hb,rfl,hr⟩
 cases h
end
end
section
def bK.rC (o:bK):Bool:=match o.op with|.kY _ _=>false|_=>true
def cG.rC:cG->Bool
 |.ops rl=>rl.all bK.rC
 |.seq a b|.cond _ a b=>a.rC&&b.rC
 |.block _ a|.loop a=>a.rC
 |.nY _ _ _ _=>false
 |_=>true
def cG.wr:cG->List Nat
 |.ops rl|.draw rl _=>rl.filterMap (·.dst)
 |.seq a b|.cond _ a b=>a.wr++b.wr
 |.block _ a|.loop a=>a.wr
 |_=>[]
def sL (t:Nat):List Nat->Bool
 |[]=>false
 |x::l=>Nat.beq t x||sL t l
theorem VF {t:Nat}:∀{l:List Nat},sL t l=true↔t∈l
 |[]=>by simp[sL]
 |x::l=>by simp[sL,VF]
theorem rA {t:Nat} {l:List Nat}:sL t l=false↔t∉l:=by rw[<-VF];simp
def jR (W:List Nat) (f0 f:dE):Prop:=∀t,sL t W=false->f t=f0 t
theorem jR.YU {W:List Nat} {f:dE}:jR W f f:=fun _ _=>rfl
def Kp (W:List Nat) (f0:dE) (nd:Bool) (ds0:List gM) (f:dE) (ds:List gM):Prop:=jR W f0 f/\(nd=true->ds=ds0)
theorem jR.put {W:List Nat} {f0 f:dE} {n:Nat} (h:jR W f0 f) (dst:Option Nat) (hd:∀d,dst=some d->d∈W) (v:AV):jR W f0 (fP n f dst v):=by
 cases dst with
 |none=>exact h
 |some d=>
  intro t ht
  have cP:t≠d:=fun e=>by subst e;exact rA.1 ht (hd _ rfl)
  simp only[fP];split
  . rw[oH _ _ cP];exact h t ht
  exact h t ht
section
variable {P:Program} {g:bG} {n:Nat} {W:List Nat} {f0:dE} {nd:Bool} {ds0:List gM}
theorem eg {rl:List bK}:∀{f:dE} {ds:List gM} {H:aA} {Q:FQ},(∀o∈rl,∀d,o.dst=some d->d∈W)->(nd=true->rl.all bK.rC=true)->Kp W f0 nd ds0 f ds->
 bS P g n rl f ds H Q->bS P g n rl f ds H (fun e f' fN H'=>Kp W f0 nd ds0 f' fN/\Q e f' fN H'):=by
 induction rl with
 |nil=>exact fun _ _ hk h=>⟨hk,h⟩
 |cons o r ih=>
  intro f ds H Q hw hn hk h;have lI:=fun o ho=>hw o (Aw _ ho)
  have JN:nd=true->r.all bK.rC=true:=fun e=>by have :=hn e;simp only[Ik,Al] at this;exact this.2
  have nX:∀v,Kp W f0 nd ds0 (fP n f o.dst v) ds:=fun v=>⟨hk.1.put _ (hw o Ar) v,hk.2⟩;unfold bS at h ⊢;split
  . rename_i Pq;rw[if_pos Pq] at h;split at h
    . obtain⟨out,H',h1,h3⟩:=h;refine⟨out,H',h1,?_⟩
      cases out with
      |ret v=>exact ih lI JN (nX v) h3
      |JP v=>exact⟨hk,h3⟩
    . obtain⟨t,v,h1,h2⟩:=h;exact⟨t,v,h1,hk,h2⟩
    . rename_i c az fL;obtain⟨p,h1,h2⟩:=h;refine⟨p,h1,ih lI JN ⟨(nX _).1,fun e=>?_⟩ h2⟩;have :=hn e;simp only[Ik,Al] at this;have h3:=this.1;rw[bK.rC,fL] at h3;cases h3
    . obtain⟨m,es,h1,h2,h3⟩:=h;exact⟨m,es,h1,h2,fun bs c mb k1 k2=>ih lI JN (nX _) (h3 bs c mb k1 k2)⟩
    . obtain⟨it,m,mb,c,seen,es,bs,h1,h2,h3,h4,h5⟩:=h;exact⟨it,m,mb,c,seen,es,bs,h1,h2,h3,fun k=>ih lI JN (nX _) (h4 k),fun j k1 k2=>ih lI JN (nX _) (h5 j k1 k2)⟩
    . obtain⟨it,m,mb,c,seen,es,bs,j,h1,h2,h3,h4,h5⟩:=h;exact⟨it,m,mb,c,seen,es,bs,j,h1,h2,h3,h4,ih lI JN (nX _) h5⟩
    unfold lY at h ⊢;split at h
    . exact ih lI JN (nX _) h
    exact h.elim
  rename_i Pq;rw[if_neg Pq] at h;exact ih lI JN (nX _) h
theorem qj {pairs:List (Nat×Nat)} {base:Nat} {rl:List bK}:∀{i k:Nat} {rd:List (Nat×Nat)} {ef:List (Nat×aA×aA)} {f:dE} {H:aA} {Q:dE->aA->Prop},(∀o∈rl,∀d,o.dst=some d->d∈W)->jR W f0 f->
 Wb P g n pairs base i k rl rd ef f H Q->Wb P g n pairs base i k rl rd ef f H (fun f' H'=>jR W f0 f'/\Q f' H'):=by
 induction rl with
 |nil=>exact fun _ hk h=>⟨hk,h⟩
 |cons r rs ih=>
  intro i k rd ef f H Q hw hk h;have lI:=fun o ho=>hw o (Aw _ ho);have nX:∀v,jR W f0 (fP n f r.dst v):=fun v=>hk.put _ (hw r Ar) v;unfold Wb at h ⊢;split
  . rename_i Pq;rw[if_pos Pq] at h;split
    . rename_i hf;rw[if_pos hf] at h;obtain⟨ob,val,h1,h2,h3⟩:=h;exact⟨ob,val,h1,h2,ih lI (nX _) h3⟩
    rename_i hf;rw[if_neg hf] at h;split
    . rename_i he;rw[if_pos he] at h;obtain⟨v,H',h1,h2,h3,h4⟩:=h;exact⟨v,H',h1,h2,h3,ih lI (nX _) h4⟩
    rename_i he;rw[if_neg he] at h;obtain⟨v,h1,h2,h3⟩:=h;exact⟨v,h1,h2,ih lI (nX _) h3⟩
  rename_i Pq;rw[if_neg Pq] at h;exact ih lI (nX _) h
theorem ym {rl:List bK} (hw:∀d∈rl.filterMap (·.dst),d∈W):∀o∈rl,∀d,o.dst=some d->d∈W:=fun o ho d hd=>hw d (List.mem_filterMap.2 ⟨o,ho,hd⟩)
theorem qh {c:cG}:∀{f:dE} {ds:List gM} {H:aA} {Q:FQ},(∀d∈c.wr,d∈W)->(nd=true->c.rC=true)->Kp W f0 nd ds0 f ds->FC P g n c f ds H Q->FC P g n c f ds H (fun e f' fN H'=>Kp W f0 nd ds0 f' fN/\Q e f' fN H'):=by
 induction c with
 |skip=>exact fun _ _ hk h=>⟨hk,h⟩
 |ops rl=>exact fun hw hn hk h=>eg (ym hw) hn hk h
 |draw rl pairs=>exact fun hw _ hk h=>h.imp (fun h=>⟨h.1,Tp (fun _ _ h=>⟨⟨h.1,hk.2⟩,h.2⟩) (qj (ym hw) hk.1 h.2)⟩) fun h hb=>let⟨x,f',H',h1,h2,h3,h4⟩:=h hb;⟨x,f',H',h1,h2,h3,⟨fun t ht=>(h3 t fun hm=>rA.1 ht (hw t hm)).trans (hk.1 t ht),hk.2⟩,h4⟩
 |seq a b rR uT=>
  intro f ds H Q hw hn hk h;simp only[cG.wr,Ap] at hw;simp only[cG.rC,Al] at hn;show FC P g n a f ds H _;refine jM (fun e f ds H h=>?_) (rR (fun d hd=>hw d (.inl hd)) (fun e=>(hn e).1) hk h)
  cases e with
  |normal=>exact uT (fun d hd=>hw d (.inr hd)) (fun e=>(hn e).2) h.1 h.2
  |_=>exact h
 |cond c a b rR uT=>
  intro f ds H Q hw hn hk h;simp only[cG.wr,Ap] at hw;simp only[cG.rC,Al] at hn;obtain⟨t,h1,h2⟩:=h;refine⟨t,h1,?_⟩
  cases t with
  |true=>exact rR (fun d hd=>hw d (.inl hd)) (fun e=>(hn e).1) hk h2
  |false=>exact uT (fun d hd=>hw d (.inr hd)) (fun e=>(hn e).2) hk h2
 |block id a ih=>
  intro f ds H Q hw hn hk h;show FC P g n a f ds H _;refine jM (fun e f ds H h=>?_) (ih hw hn hk h)
  cases e with
  |exit i=>
   obtain⟨h0,h⟩:=h;simp only[dP] at h ⊢;split
   . rename_i hi;rw[if_pos hi] at h;exact⟨h0,h⟩
   rename_i hi;rw[if_neg hi] at h;exact⟨h0,h⟩
  |_=>exact h
 |loop a ih=>
  intro f ds H Q hw hn hk h;obtain⟨I,m,h0,hI⟩:=h;refine⟨fun m f ds H=>Kp W f0 nd ds0 f ds/\I m f ds H,m,⟨hk,h0⟩,fun m f ds H hi=>jM (fun e f ds H h=>?_) (ih hw hn hi.1 (hI m f ds H hi.2))⟩
  cases e with
  |normal=>obtain⟨h1,k,hk,hi⟩:=h;exact⟨k,hk,h1,hi⟩
  |_=>exact h
 |exit id=>exact fun _ _ hk h=>⟨hk,h⟩
 |ret=>exact fun _ _ hk h=>⟨hk,h⟩
 |nY c ps a b rR uT=>
  intro f ds H Q hw hn hk h;obtain⟨fid,fs,cs,v,He,k',s',st,Hf,h1,h2,h3,h4,h5⟩:=h;have rN:∀rI,Kp W f0 nd ds0 f rI:=fun rI=>⟨hk.1,fun e=>by cases hn e⟩;refine⟨fid,fs,cs,v,He,k',s',st,Hf,h1,h2,h3,h4,?_⟩
  cases st with
  |ready=>exact⟨rN _,h5⟩
  |done e=>cases e<;>exact⟨rN _,h5⟩
  |busy=>exact h5.elim
  |over _=>exact h5.elim
theorem GL {c:cG} {f:dE} {ds:List gM} {H:aA} {Q:FQ} (h:FC P g n c f ds H Q):FC P g n c f ds H (fun e f' fN H'=>jR c.wr f f'/\(c.rC=true->fN=ds)/\Q e f' fN H'):=
 jM (fun _ _ _ _ h=>⟨h.1.1,h.1.2,h.2⟩) (qh (nd:=c.rC) (ds0:=ds) (fun _ h=>h) id ⟨.YU,fun _=>rfl⟩ h)
theorem jR.trans {W:List Nat} {f f' Qb:dE} (h:jR W f f') (h':jR W f' Qb):jR W f Qb:=fun t ht=>(h' t ht).trans (h t ht)
theorem jR.sub {W W':List Nat} {f f':dE} (h:jR W' f f') (hs:∀d∈W',d∈W):jR W f f':=fun t ht=>h t (rA.2 fun hm=>rA.1 ht (hs t hm))
theorem iM {a:cG} {f:dE} {ds:List gM} {H:aA} {Q:FQ} (cs:List Nat) (I:Nat->List AV->aA->Prop) (m:Nat) (hn:a.rC=true) (h0:I m (cs.map f) H)
 (h:∀m f' H',jR a.wr f f'->I m (cs.map f') H'->FC P g n a f' ds H' (iT (fun Qb _ GP=>∃k,k<m/\I k (cs.map Qb) GP) Q)):FC P g n (.loop a) f ds H Q:=by
 refine⟨fun m f' fN H'=>jR a.wr f f'/\fN=ds/\I m (cs.map f') H',m,⟨.YU,rfl,h0⟩,?_⟩;rintro m f' fN H' ⟨hk,rfl,hi⟩;refine jM (fun e f2 TX H2 hh=>?_) (GL (h m f' H' hk hi));obtain⟨h1,h2,h3⟩:=hh
 cases e with
 |normal=>obtain⟨k,eO,FB⟩:=h3;exact⟨k,eO,hk.trans h1,h2 hn,FB⟩
 |_=>exact h3
def bDf (n cmp ix ln nx:Nat) (cs:List Nat) (B:cG):Bool:=
 Nat.blt cmp n&&Nat.blt ix n&&Nat.blt nx n&& !Nat.beq cmp ix&& !Nat.beq cmp ln&& !Nat.beq nx ix&& !Nat.beq nx ln&& !Nat.beq ix ln&& !sL cmp cs&& !sL ix cs&& !sL nx cs&& !sL ix B.wr&& !sL ln B.wr&&B.rC
theorem IH {cs:List Nat} {f:dE} {d:Nat} {v:AV} (h:sL d cs=false):cs.map (kD f d v)=cs.map f:=
 Fl fun t ht=>oH f v fun e=>rA.1 h (e▸ht)
def Te (cmp ix nx:Nat) (B:cG):List Nat:=cmp::nx::ix::B.wr
theorem dD {id cmp ix ln nx:Nat} {B:cG} {f:dE} {ds:List gM} {H:aA} {Q:FQ} (cs:List Nat) (J:Nat->List AV->aA->Prop) (N:Nat) (hN:(N:Int)<2^63)
 (hs:bDf n cmp ix ln nx cs B=true) (h1:f ix=.int .i64 0) (h2:f ln=.int .i64 N) (h0:J 0 (cs.map f) H)
 (body:∀(i:Nat) (f':dE) (H':aA),i<N->jR (Te cmp ix nx B) f f'->f' ix=.int .i64 i->J i (cs.map f') H'->FC P g n B f' ds H' (iT (fun Qb _ GP=>J (i+1) (cs.map Qb) GP) (dP id Q)))
 (done:∀(f':dE) (H':aA),jR (Te cmp ix nx B) f f'->J N (cs.map f') H'->Q .normal f' ds H'):
 FC P g n (.block id (.loop (.seq (.ops [⟨some cmp,.bin .lss (.tmp ix) (.tmp ln),none⟩]) (.seq (.cond (.tmp cmp) .skip (.exit id)) (.seq B
  (.ops [⟨some nx,.bin .add (.tmp ix) (.const (.int .i64 1)),none⟩,⟨some ix,.Sv (.tmp nx),none⟩])))))) f ds H Q:=by
 simp only[bDf,Al,Cn,Gq] at hs;obtain⟨⟨⟨⟨⟨⟨⟨⟨⟨⟨⟨⟨⟨s1,s2⟩,s3⟩,s4⟩,s5⟩,s6⟩,s7⟩,s8⟩,c1⟩,c2⟩,c3⟩,b1⟩,b2⟩,b3⟩:=hs;have ne:∀{a b:Nat},Nat.beq a b=false->a≠b:=fun h e=>by subst e;simp at h
 have kpU:∀{f':dE} {d:Nat} {v:AV},d∈Te cmp ix nx B->jR (Te cmp ix nx B) f f'->jR (Te cmp ix nx B) f (kD f' d v):=fun {f' d v} hd hk t ht=>by have cP:t≠d:=fun e=>rA.1 ht (by rw[e];exact hd);rw[oH _ _ cP];exact hk t ht
 refine qi (id:=id) (cmp:=cmp) (ix:=ix) (ln:=ln) (nx:=nx) (B:=B) (fun i f' H'=>jR (Te cmp ix nx B) f f'/\J i (cs.map f') H') N hN ⟨s1,s2,s3,ne s4,ne s5,ne s6,ne s7,ne s8⟩ h1 h2 ⟨.YU,h0⟩ ?_ ?_ ?_
 . rintro i f' H' d v hd ⟨hk,hj⟩
   have hm:sL d cs=false/\d∈Te cmp ix nx B:=(by rcases hd with rfl|rfl|rfl<;>simp[c1,c2,c3,Te]);exact⟨kpU hm.2 hk,by rw[IH hm.1];exact hj⟩
 . rintro i f' H' hi e1 e2 ⟨hk,hj⟩;refine jM (fun e f2 TX H2 hh=>?_) (GL (body i f' H' hi hk e1 hj));obtain⟨k1,k2,k3⟩:=hh
   cases e with
   |normal=>exact⟨k2 b3,by rw[k1 _ b1];exact e1,by rw[k1 _ b2];exact e2,hk.trans (k1.sub fun d hd=>by simp[Te,hd]),k3⟩
   |_=>exact k3
 rintro f' H' e2 ⟨hk,hj⟩;exact done f' H' hk hj
def bDe (n cmp ix nx:Nat) (cs:List Nat) (B:cG):Bool:=
 Nat.blt cmp n&&Nat.blt ix n&&Nat.blt nx n&& !Nat.beq cmp ix&& !Nat.beq nx ix&& !sL cmp cs&& !sL ix cs&& !sL nx cs&& !sL ix B.wr&&B.rC
theorem jI {id cmp ix nx:Nat} {N':Int} {B:cG} {f:dE} {ds:List gM} {H:aA} {Q:FQ} (cs:List Nat) (J:Nat->List AV->aA->Prop) (N:Nat) (hN:(N:Int)<2^63) (hNN:N'=(N:Int))
 (hs:bDe n cmp ix nx cs B=true) (h1:f ix=.int .i64 0) (h0:J 0 (cs.map f) H)
 (body:∀(i:Nat) (f':dE) (H':aA),i<N->jR (Te cmp ix nx B) f f'->f' ix=.int .i64 i->J i (cs.map f') H'->FC P g n B f' ds H' (iT (fun Qb _ GP=>J (i+1) (cs.map Qb) GP) (dP id Q)))
 (done:∀(f':dE) (H':aA),jR (Te cmp ix nx B) f f'->J N (cs.map f') H'->Q .normal f' ds H'):
 FC P g n (.block id (.loop (.seq (.ops [⟨some cmp,.bin .lss (.tmp ix) (.const (.int .i64 N')),none⟩]) (.seq (.cond (.tmp cmp) .skip (.exit id)) (.seq B
  (.ops [⟨some nx,.bin .add (.tmp ix) (.const (.int .i64 1)),none⟩,⟨some ix,.Sv (.tmp nx),none⟩])))))) f ds H Q:=by
 simp only[bDe,Al,Cn,Gq] at hs;obtain⟨⟨⟨⟨⟨⟨⟨⟨⟨s1,s2⟩,s3⟩,s4⟩,s6⟩,c1⟩,c2⟩,c3⟩,b1⟩,b3⟩:=hs;have ne:∀{a b:Nat},Nat.beq a b=false->a≠b:=fun h e=>by subst e;simp at h
 have kpU:∀{f':dE} {d:Nat} {v:AV},d∈Te cmp ix nx B->jR (Te cmp ix nx B) f f'->jR (Te cmp ix nx B) f (kD f' d v):=fun {f' d v} hd hk t ht=>by have cP:t≠d:=fun e=>rA.1 ht (by rw[e];exact hd);rw[oH _ _ cP];exact hk t ht
 refine dq (id:=id) (cmp:=cmp) (ix:=ix) (nx:=nx) (B:=B) (fun i f' H'=>jR (Te cmp ix nx B) f f'/\J i (cs.map f') H') N hN hNN ⟨s1,s2,s3,ne s4,ne s6⟩ h1 ⟨.YU,h0⟩ ?_ ?_ ?_
 . rintro i f' H' d v hd ⟨hk,hj⟩
   have hm:sL d cs=false/\d∈Te cmp ix nx B:=(by rcases hd with rfl|rfl|rfl<;>simp[c1,c2,c3,Te]);exact⟨kpU hm.2 hk,by rw[IH hm.1];exact hj⟩
 . rintro i f' H' hi e1 ⟨hk,hj⟩;refine jM (fun e f2 TX H2 hh=>?_) (GL (body i f' H' hi hk e1 hj));obtain⟨k1,k2,k3⟩:=hh
   cases e with
   |normal=>exact⟨k2 b3,by rw[k1 _ b1];exact e1,hk.trans (k1.sub fun d hd=>by simp[Te,hd]),k3⟩
   |_=>exact k3
 rintro f' H' ⟨hk,hj⟩;exact done f' H' hk hj
theorem Yo {nw tag:Nat} (h:Nat.blt tag 2=true):JD none nw tag=tag:=by
 rw[Gq] at h
 match tag,h with
 |0,_=>rfl
 |1,_=>rfl
theorem CQ {H:aA} {nw:Nat} {v:AV} (h:v.free=true):fT H none nw 0 v=some v:=by
 have key:jH H none nw v=some v:=by
  cases v<;>first
   |(simp only[AV.free] at h;cases h;done)
   |(simp only[AV.free,Al] at h;simp only[jH,h.2,Yo h.1];done)
   |(simp only[jH,h])
 cases v<;>exact key
theorem eQ {mu:Bool} (hm:Fit P g) (hg:DH g) {k:FuncId} {F:BR} (hF:kH P g mu k F) {args:List AV} {v':AV} (hl:args.length<=F.ntmps) (ha:bO args=true)
 (h:FC P g F.ntmps F.body (fK args) [] ⟨0,.nil⟩ (Lz F.results fun o H2=>∃v n,o=.ret v/\∀nw,fT H2 none nw n v=some v')) (H:aA):Sound P g k args H (.ret v') H:=by
 refine(GR hm hF (pz hl h)).frame hg ha H fun out H2 hR=>?_;obtain⟨v,n,rfl,hs⟩:=hR;exact⟨none,n,v',fun k hk=>(by cases hk),hs _,rfl,rfl⟩
theorem RU {rs:List GJ} {R R':Out->aA->Prop} (h:∀o H,R o H->R' o H) {e:AEx} {f:dE} {ds:List gM} {H:aA} (hr:Lz rs R e f ds H):Lz rs R' e f ds H:=by
 cases e with
 |normal=>obtain⟨h1,vs,h2,h3⟩:=hr;exact⟨h1,vs,h2,h _ _ h3⟩
 |ret=>obtain⟨h1,vs,h2,h3⟩:=hr;exact⟨h1,vs,h2,h _ _ h3⟩
 |panic v=>obtain⟨h1,h3⟩:=hr;exact⟨h1,h _ _ h3⟩
 |exit _=>exact hr
theorem EH {mu:Bool} (hm:Fit P g) (hg:DH g) {k:FuncId} {F:BR} (hF:kH P g mu k F) {args:List AV} {v:AV} (hl:args.length<=F.ntmps) (ha:bO args=true) (hv:v.free=true)
 (h:FC P g F.ntmps F.body (fK args) [] ⟨0,.nil⟩ (Lz F.results fun o _=>o=.ret v)) (H:aA):Sound P g k args H (.ret v) H:=
 eQ hm hg hF hl ha (jM (fun _ _ _ _=>RU fun o H2 e=>⟨v,0,e,fun _=>CQ hv⟩) h) H
end
end
end Go.Av
namespace Go.uG
def W:Nat:=4294967296
theorem Mu:0<W:=by decide
theorem lK (k:Nat):0<W^k:=Nat.pow_pos Mu
def bL (n k:Nat):Nat:=n / W^k%W
theorem jP (n k:Nat):bL n k<W:=Di _ Mu
theorem mod_succ (n k:Nat):n%W^(k+1)=n%W^k+W^k*bL n k:=Nat.mod_pow_succ
theorem CF {n k:Nat} (h:n<W^k):bL n k=0:=by unfold bL;rw[Eg h];rfl
theorem Qz {n m k:Nat} (h:n<W^m) (hk:m<=k):bL n k=0:=
 CF (Cj h (Ds Mu hk))
def cr (a b k:Nat):Nat:=(a%W^k+b%W^k) / W^k
theorem aDz (a b:Nat):cr a b 0=0:=by simp[cr,Nat.mod_one]
theorem aDy (a b k:Nat):cr a b (k+1)=(cr a b k+bL a k+bL b k) / W:=by
 unfold cr;rw[mod_succ,mod_succ,Ef,<-Hy];congr 1
 rw[show a%W^k+W^k*bL a k+(b%W^k+W^k*bL b k)=a%W^k+b%W^k+W^k*(bL a k+bL b k) by rw[Eo];omega,
  Hc _ _ (lK k)]
 omega
theorem aIg (a b k:Nat):cr a b k<=1:=by unfold cr;have h1:=Di a (lK k);have h2:=Di b (lK k);have :(a%W^k+b%W^k) / W^k<2:=(Dx (lK k)).2 (by omega);omega
theorem XA (a b k:Nat):(a+b) / W^k=a / W^k+b / W^k+cr a b k:=by
 unfold cr;have h1:=Fe a (W^k);have h2:=Fe b (W^k);have :a+b=a%W^k+b%W^k+W^k*(a / W^k+b / W^k):=by rw[Eo];omega
 rw[this,Hc _ _ (lK k)];omega
theorem ya (a b k:Nat):bL (a+b) k=(cr a b k+bL a k+bL b k)%W:=by unfold bL;rw[XA];simp only[W];omega
theorem aQw {a b k:Nat} (ha:a<W^k) (hb:b<W^k):cr a b k=if a+b<W^k then 0 else 1:=by
 have h:=aIg a b k;unfold cr at *;rw[Dl ha,Dl hb] at *;split
 . rename_i hl;exact Eg hl
 rename_i hl;have :=Nat.div_pos (show W^k<=a+b by omega) (lK k);omega
def bw (a b k:Nat):Nat:=if a%W^k<b%W^k then 1 else 0
theorem aDl (a b:Nat):bw a b 0=0:=by simp[bw,Nat.mod_one]
theorem aDk (a b k:Nat):bw a b (k+1)=if bL a k<bL b k+bw a b k then 1 else 0:=by
 unfold bw;rw[mod_succ,mod_succ];have h1:=Di a (lK k);have h2:=Di b (lK k);generalize a%W^k=r at *;generalize b%W^k=s at *;generalize bL a k=x;generalize bL b k=y;generalize W^k=P at *
 rcases Jf x y with h|h|h
 . have :P*(x+1)<=P*y:=Et P h;rw[Eo,Ed] at this;rw[if_pos (by omega),if_pos (by omega)]
 . subst h;split<;>split<;>(try split at *)<;>omega
 have :P*(y+1)<=P*x:=Et P h;rw[Eo,Ed] at this;rw[if_neg (by omega),if_neg (by split<;>omega)]
theorem yc {a b:Nat} (h:b<=a) (k:Nat):(bL (a -b) k:Int)=((bL a k:Int) -bL b k -bw a b k)%(W:Int):=by
 have h1:=Fe a (W^k);have h2:=Fe b (W^k);have l1:=Di a (lK k);have l2:=Di b (lK k)
 have e:((a -b) / W^k:Nat)=a / W^k -b / W^k -bw a b k/\b / W^k+bw a b k<=a / W^k:=by
  unfold bw;generalize a%W^k=r at *;generalize b%W^k=s at *;generalize a / W^k=x at *;generalize b / W^k=y at *;generalize hP:W^k=P at *;have hPp:0<P:=hP▸lK k
  have hxy:y<=x:=by
   rcases Gp x y with hc|hc
   . have :P*(x+1)<=P*y:=Et P hc;rw[Eo,Ed] at this;omega
   exact hc
  split
  . rename_i hrs;have cP:y≠x:=fun e=>by subst e;omega
    have hm:P*(x -y -1)=P*x -P*y -P:=(by rw[Nat.mul_sub,Nat.mul_sub,Ed]);have WL:P*(y+1)<=P*x:=Et P (by omega);rw[Eo,Ed] at WL;refine⟨?_,by omega⟩;have :a -b=(r+P -s)+P*(x -y -1):=(by omega);rw[this,Hc _ _ hPp,Eg (by omega)];omega
  have hm:P*(x -y)=P*x -P*y:=Nat.mul_sub ..;have WL:P*y<=P*x:=Et P hxy;refine⟨?_,by omega⟩;have :a -b=(r -s)+P*(x -y):=by omega
  rw[this,Hc _ _ hPp,Eg (by omega)];omega
 unfold bL;rw[e.1];have :=e.2;simp only[W] at *;omega
theorem GX (a k:Nat):a / W^k=a / W^(k+1)*W+bL a k:=by unfold bL;rw[Ef,<-Hy];have :=Fe (a / W^k) W;rw[Dg] at this;omega
theorem QZ {a b k:Nat} (h:a / W^(k+1)=b / W^(k+1)) (hk:bL a k=bL b k):a / W^k=b / W^k:=by rw[GX a,GX b,h,hk]
theorem OJ {a b k:Nat} (h:a / W^(k+1)=b / W^(k+1)) (hk:bL a k<bL b k):a<b:=by
 have h1:a / W^k<b / W^k:=by rw[GX a,GX b,h];omega
 rcases Gp a b with h2|h2
 . exact h2
 have :=Nat.div_le_div_right (c:=W^k) h2;omega
theorem US {a b m:Nat} (ha:a<W^m) (hb:b<W^m) (h:∀k,k<m->bL a k=bL b k):a=b:=by
 have :∀j,j<=m->a / W^(m -j)=b / W^(m -j):=by
  intro j
  induction j with
  |zero=>intro _;rw[Ix,Eg ha,Eg hb]
  |succ j ih=>intro hj;refine QZ (k:=m -(j+1)) ?_ (h _ (by omega));rw[show m -(j+1)+1=m -j by omega];exact ih (by omega)
 have :=this m (Ab _);simpa using this
def CH:List Nat->Nat
 |[]=>0
 |x::l=>x+W*CH l
theorem TA:∀(l:List Nat),(∀x∈l,x<W)->CH l<W^l.length
 |[],_=>by decide
 |x::l,h=>by have h1:=TA l fun y hy=>h y (by simp[hy]);have h2:=h x (by simp);simp only[CH,Aq,Ef];have :W*(CH l+1)<=W*W^l.length:=Et W h1;rw[Eo,Ed] at this;rw[Dg (W^l.length)];omega
theorem IB:∀(l:List Nat) (k:Nat),(∀x∈l,x<W)->bL (CH l) k=l.getD k 0
 |[],k,_=>by simp[CH,bL]
 |x::l,0,h=>by have :=h x (by simp);simp only[CH,bL,Nat.pow_zero,Nat.div_one,Dw];rw[Nat.add_mul_mod_self_left,Dl this]
 |x::l,k+1,h=>by have h1:=h x (by simp);have h2:=IB l k fun y hy=>h y (by simp[hy]);rw[Gg,<-h2];simp only[CH,bL];rw[Ef,Dg (W^k),<-Hy,Hc _ _ Mu,Eg h1,Cs]
def bJ (m n:Nat):List Nat:=(List.range m).map (bL n)
theorem cU (m n:Nat):(bJ m n).length=m:=by simp[bJ]
theorem kK {m n k:Nat} (h:k<m):(bJ m n).getD k 0=bL n k:=by simp[bJ,List.getD,h]
theorem IC {m n:Nat}:∀x∈bJ m n,x<W:=by intro x hx;simp only[bJ,Bj] at hx;obtain⟨k,_,rfl⟩:=hx;exact jP _ _
theorem jB {m n:Nat} (h:n<W^m):CH (bJ m n)=n:=by
 refine US (m:=m) ?_ h fun k hk=>?_
 . have :=TA (bJ m n) IC
   rwa [cU] at this
 rw[IB _ _ IC,kK hk]
theorem RA {l:List Nat} (h:∀x∈l,x<W):bJ l.length (CH l)=l:=by refine Fs (by simp[bJ]) fun k h1 h2=>?_;simp only[bJ,Dq,Ho];rw[IB _ _ h];simp[List.getD,h2]
def cq:Nat->Nat->Nat
 |0,_=>0
 |k+1,a=>if bL a k=0 then cq k a else k+1
def sz (a:Nat):Nat:=cq 16 a
theorem Ym:∀k a,cq k a<=k
 |0,_=>Ab _
 |k+1,a=>by
  unfold cq;split
  . exact Nat.le_succ_of_le (Ym k a)
  exact Ab _
theorem Yn:∀k a,a<W^k->a<W^cq k a
 |0,_,h=>h
 |k+1,a,h=>by
  unfold cq;split
  . rename_i hl;refine Yn k a ?_;unfold bL at hl;have h1:a / W^k<W:=by rw[Dx (lK k),Dg,<-Ef];exact h
    rw[Dl h1] at hl
    rcases Gp a (W^k) with h2|h2
    . exact h2
    have :=Nat.div_pos h2 (lK k);omega
  exact h
theorem Me:∀k a,cq k a=0\/bL a (cq k a -1)≠0
 |0,_=>.inl rfl
 |k+1,a=>by
  unfold cq;split
  . exact Me k a
  exact .inr (by simpa)
theorem ct {a:Nat} (h:a<W^16):a<W^sz a:=Yn 16 a h
theorem aBo (a:Nat):sz a<=16:=Ym 16 a
theorem aHl {a:Nat} (h:a<W^16):sz a=0↔a=0:=by
 constructor
 . intro e;have :=ct h;rw[e] at this;simpa using this
 rintro rfl;decide
theorem Zz {a k:Nat} (h:bL a k≠0):W^k<=a:=by
 rcases Gp a (W^k) with h1|h1
 . exact absurd (CF h1) h
 exact h1
theorem bDl {a:Nat} (h:sz a≠0):W^(sz a -1)<=a:=by
 rcases Me 16 a with h1|h1
 . exact absurd h1 h
 exact Zz h1
def fE (a:Nat):Nat:=if a=0 then 0 else Nat.log2 a+1
theorem oJ {a n:Nat}:fE a<=n↔a<2^n:=by
 unfold fE;split
 . rename_i h;subst h;simp[Nat.pow_pos]
 rename_i h;rw[<-Nat.log2_lt h];omega
theorem fp {a n:Nat} (h1:a<2^(n+1)) (h2:2^n<=a):fE a=n+1:=by
 have a1:fE a<=n+1:=oJ.2 h1;have a2:¬fE a<=n:=fun h=>by have :=oJ.1 h;omega
 omega
theorem rZ {a k:Nat} (h:a / 2^k≠0):fE a=fE (a / 2^k)+k:=by
 obtain⟨n,hn⟩:∃n,fE (a / 2^k)=n+1:=⟨Nat.log2 (a / 2^k),by unfold fE;rw[if_neg h]⟩;have h1:a / 2^k<2^(n+1):=oJ.1 (by omega);have h2:¬a / 2^k<2^n:=fun h=>by have :=oJ.2 h;omega
 rw[hn,show n+1+k=(n+k)+1 by omega];refine fp ?_ ?_
 . rw[Dx (Nat.pow_pos (by decide))] at h1
   rwa [show n+k+1=n+1+k by omega,Jz]
 rw[Dx (Nat.pow_pos (by decide))] at h2;rw[Jz];omega
theorem fq {a:Nat} (h:a<W^16) (h0:sz a≠0):fE a=32*(sz a -1)+fE (bL a (sz a -1)):=by
 have e:W^(sz a -1)=2^(32*(sz a -1)):=by rw[Nat.pow_mul];rfl
 have h1:=bDl h0;have h2:=ct h
 have h3:a / W^(sz a -1)<W:=by
  rw[Dx (lK _),Dg,<-Ef]
  rwa [show(sz a -1).succ=sz a by omega]
 have h4:bL a (sz a -1)=a / 2^(32*(sz a -1)):=by unfold bL;rw[Dl h3,e]
 have h5:=Nat.div_pos h1 (lK (sz a -1));rw[h4,rZ (k:=32*(sz a -1)) (by rw[<-e];omega)];omega
theorem MV:∀(l:List Nat) (j d:Nat),j<l.length->CH (l.set j d)+l.getD j 0*W^j=CH l+d*W^j
 |[],_,_,h=>by simp at h
 |x::l,0,d,_=>by simp[CH];omega
 |x::l,j+1,d,h=>by
  have ih:=MV l j d (by simpa using h);simp only[List.set_cons_succ,CH,Gg,Ef];have e:∀t,t*(W^j*W)=W*(t*W^j):=fun t=>by rw[Dg (W^j),<-Gt,Dg t,Gt]
  rw[e,e,Br,Br,<-Eo,<-Eo,ih]
theorem uq {l:List Nat} {j d k:Nat} (h:j<l.length):(l.set j d).getD k 0=if k=j then d else l.getD k 0:=by
 simp only[List.getD,Gz];by_cases e:j=k
 . subst e;simp[h]
 rw[if_neg e,if_neg (Ne.symm e)]
def LW (n:Nat) (l:List Nat):Prop:=l.length=n/\∀d∈l,d<W
theorem LW.set {n:Nat} {l:List Nat} (h:LW n l) (j:Nat) {d:Nat} (hd:d<W):LW n (l.set j d):=⟨by rw[By];exact h.1,fun x hx=>by
 rcases List.mem_or_eq_of_mem_set hx with h1|h1
 . exact h.2 x h1
 omega⟩
theorem LW.getD {n:Nat} {l:List Nat} (h:LW n l) (j:Nat):l.getD j 0<W:=by
 by_cases hj:j<l.length
 . rw[List.getD,Ad hj];exact h.2 _ (Ac hj)
 rw[List.getD,Bu (by omega)];decide
theorem LW.lt {n:Nat} {l:List Nat} (h:LW n l):CH l<W^n:=by
 have :=TA l h.2
 rwa [h.1] at this
theorem LW.eq {n:Nat} {l:List Nat} (h:LW n l):l=bJ n (CH l):=by have :=RA h.2;rw[h.1] at this;exact this.symm
theorem LW.bL {n:Nat} {l:List Nat} (h:LW n l) (k:Nat):bL (CH l) k=l.getD k 0:=IB l k h.2
theorem yw {o:List Nat} {i k c D P b:Nat} (ho:LW 32 o) (hik:i+k<32) (he:CH o+c*W^(i+k)=P+D*W^i*(b%W^k)):
 let t:=c+D*bL b k+o.getD (i+k) 0
 CH (o.set (i+k) (t%W))+t / W*W^(i+(k+1))=P+D*W^i*(b%W^(k+1)):=by
 intro t;have h1:=MV o (i+k) (t%W) (by rw[ho.1];exact hik)
 have h2:t / W*W^(i+(k+1))+t%W*W^(i+k)=t*W^(i+k):=by rw[show i+(k+1)=(i+k)+1 by omega,Ef,Dg (W^(i+k)),<-Gt,<-Cr,Dg (t / W)];rw[Fe]
 have h3:b%W^(k+1)=b%W^k+W^k*bL b k:=mod_succ b k
 have h4:D*W^i*(W^k*bL b k)=D*bL b k*W^(i+k):=by rw[Jz];simp only[Dg,Nat.mul_left_comm,Gt]
 have h5:t*W^(i+k)=c*W^(i+k)+D*bL b k*W^(i+k)+o.getD (i+k) 0*W^(i+k):=by show(c+D*bL b k+o.getD (i+k) 0)*_=_;rw[Cr,Cr]
 rw[h3,Eo,h4];omega
theorem aFo {o:List Nat} {i m c D a b:Nat} (ho:LW 32 o) (him:i+m<32) (hb:b<W^m) (hD:D=bL a i) (he:CH o+c*W^(i+m)=a%W^i*b+D*W^i*(b%W^m)) (hz:o.getD (i+m) 0=0):
 CH (o.set (i+m) c)=a%W^(i+1)*b:=by
 have h1:=MV o (i+m) c (by rw[ho.1];exact him);rw[hz,Iw,Cy] at h1;rw[h1,he,Dl hb,mod_succ,hD,Cr,Dg (bL a i)]
theorem OI {m n X:Nat} (h:X<W^n) (hz:∀k,m<=k->k<n->bL X k=0):X<W^m:=by
 have h1:=Yn n X h;have h2:=Ym n X
 rcases Gp m (cq n X) with h3|h3
 . rcases Me n X with h4|h4
   . omega
   exact absurd (hz _ (by omega) (by omega)) h4
 exact Cj h1 (Ds Mu h3)
theorem Xn {m n X:Nat} (h:m<=n):(bJ n X).take m=bJ m X:=by unfold bJ;rw[<-List.map_take,List.take_range,Nat.min_eq_left h]
theorem Xm {X:Nat} (h:X<W^32):X<W^16↔(bJ 32 X).drop 16=List.replicate 16 0:=by
 constructor
 . intro hx;refine Fs (by simp[bJ]) fun k h1 h2=>?_;simp only[List.getElem_drop,bJ,Dq,Ho,List.getElem_replicate];exact Qz hx (by omega)
 intro e;refine OI h fun k DQ eO=>?_;have :((bJ 32 X).drop 16).getD (k -16) 0=0:=by rw[e,List.getD,Gi];split<;>rfl
 rw[List.getD,Fv,show 16+(k -16)=k by omega] at this;have h2:=kK (n:=X) eO;rw[List.getD] at h2;omega
end Go.uG
namespace Go.aP
structure V where
 x:Int
 y:Int
 z:Int
deriving DecidableEq,Inhabited
def dot (a b:V):Int:=a.x*b.x+a.y*b.y+a.z*b.z
def aZ (a b:V):V:=⟨a.y*b.z -a.z*b.y,a.z*b.x -a.x*b.z,a.x*b.y -a.y*b.x⟩
def sub (a b:V):V:=⟨a.x-b.x,a.y-b.y,a.z-b.z⟩
def add (a b:V):V:=⟨a.x+b.x,a.y+b.y,a.z+b.z⟩
def smul (c:Int) (a:V):V:=⟨c*a.x,c*a.y,c*a.z⟩
def V0:V:=⟨0,0,0⟩
def dO (n a b:V):Int:=dot n (aZ a b)
theorem V.ext' {a b:V} (h1:a.x=b.x) (h2:a.y=b.y) (h3:a.z=b.z):a=b:=by cases a;cases b;simp_all
theorem sq_pos {a:Int} (h:a≠0):0<a*a:=by
 rcases Int.lt_or_gt_of_ne h with h|h
 . exact Int.mul_pos_of_neg_of_neg h h
 exact Io h h
theorem sq_nonneg (a:Int):0<=a*a:=by
 by_cases h:a=0
 . simp[h]
 exact Int.le_of_lt (sq_pos h)
theorem yM (a:V):0<=dot a a:=by have :=sq_nonneg a.x;have :=sq_nonneg a.y;have :=sq_nonneg a.z;simp only[dot];omega
theorem dF {a:V} (h:a≠V0):0<dot a a:=by
 have h1:=sq_nonneg a.x;have h2:=sq_nonneg a.y;have h3:=sq_nonneg a.z
 rcases Decidable.em (a.x=0) with hx|hx
 . rcases Decidable.em (a.y=0) with hy|hy
   . rcases Decidable.em (a.z=0) with hz|hz
     . exact absurd (V.ext' hx hy hz) h
     have :=sq_pos hz;simp only[dot];omega
   have :=sq_pos hy;simp only[dot];omega
 have :=sq_pos hx;simp only[dot];omega
theorem PY {a:V} (h:dot a a<=0):a=V0:=
 Ev fun hc=>absurd (dF hc) (by omega)
theorem sub_eq_zero {a b:V} (h:sub a b=V0):a=b:=by have h1:a.x -b.x=0:=Bn V.x h;have h2:a.y -b.y=0:=Bn V.y h;have h3:a.z -b.z=0:=Bn V.z h;exact V.ext' (by omega) (by omega) (by omega)
theorem aTu {a b:V} (h:a≠b):sub a b≠V0:=fun e=>h (sub_eq_zero e)
theorem qP {c a:Int} (hc:0<c) (h:0<=c*a):0<=a:=by
 rcases Ge a 0 with h'|h'|h'
 . have :=Int.mul_neg_of_pos_of_neg hc h';omega
 . omega
 omega
theorem eN {c a:Int} (hc:0<c) (h:c*a=0):a=0:=by rcases Ju.1 h with h|h<;>omega
theorem EO (n u v w t:V):dO u v w*dot n t=dO n v w*dot u t+dO n w u*dot v t+dO n u v*dot w t:=by
 simp only[dO,dot,aZ]
 grind
theorem UM {n u v w:V} (hn:n≠V0) (hu:dot n u=0) (hv:dot n v=0) (hw:dot n w=0):dO u v w=0:=by
 have h:=EO n u v w n;have e:∀a:V,dot a n=dot n a:=fun a=>by simp only[dot];grind
 rw[e u,e v,e w,hu,hv,hw] at h;have :=dF hn;simp only[Gs,Int.add_zero] at h
 rcases Ju.1 h with h|h
 . exact h
 omega
theorem three {n u v w:V} (hn:n≠V0) (hu:dot n u=0) (hv:dot n v=0) (hw:dot n w=0):add (add (smul (dO n v w) u) (smul (dO n w u) v)) (smul (dO n u v) w)=V0:=by
 have h:=UM hn hu hv hw;have hx:dO u v w*n.x=dO n v w*u.x+dO n w u*v.x+dO n u v*w.x:=by simp only[dO,dot,aZ];grind
 have hy:dO u v w*n.y=dO n v w*u.y+dO n w u*v.y+dO n u v*w.y:=by simp only[dO,dot,aZ];grind
 have hz:dO u v w*n.z=dO n v w*u.z+dO n w u*v.z+dO n u v*w.z:=by simp only[dO,dot,aZ];grind
 rw[h,Int.zero_mul] at hx hy hz;exact V.ext' (by simp only[add,smul,V0];omega) (by simp only[add,smul,V0];omega) (by simp only[add,smul,V0];omega)
theorem para {n u v:V} (hn:n≠V0) (hu:dot n u=0) (hv:dot n v=0) (h:dO n u v=0):smul (dot u u) v=smul (dot u v) u:=by
 have hp:=dF hn;have e1:dot n n*(aZ u v).x=dO n u v*n.x+dot n v*(n.z*u.y -n.y*u.z) -dot n u*(n.z*v.y -n.y*v.z):=by simp only[dO,dot,aZ];grind
 have e2:dot n n*(aZ u v).y=dO n u v*n.y+dot n v*(n.x*u.z -n.z*u.x) -dot n u*(n.x*v.z -n.z*v.x):=by simp only[dO,dot,aZ];grind
 have e3:dot n n*(aZ u v).z=dO n u v*n.z+dot n v*(n.y*u.x -n.x*u.y) -dot n u*(n.y*v.x -n.x*v.y):=by simp only[dO,dot,aZ];grind
 rw[hu,hv,h] at e1 e2 e3;have c1:=eN hp (by rw[e1];simp);have c2:=eN hp (by rw[e2];simp);have c3:=eN hp (by rw[e3];simp);simp only[aZ] at c1 c2 c3;refine V.ext' ?_ ?_ ?_<;>simp only[smul,dot]<;>grind
structure Rn (P:V->Prop):Prop where
 add:∀u v,P u->P v->P (add u v)
 smul:∀c u,0<c->P u->P (smul c u)
 zero:¬P V0
theorem smul_zero (u:V):smul 0 u=V0:=by simp[smul,V0]
theorem add_zero (u:V):add u V0=u:=by simp[add,V0]
theorem zero_add (u:V):add V0 u=u:=by simp[add,V0]
theorem Rn.comb {P:V->Prop} (h:Rn P) {u v w:V} {a b c:Int} (hu:P u) (hv:P v) (hw:P w) (ha:0<=a) (hb:0<=b) (hc:0<=c) (hz:aP.add (aP.add (aP.smul a u) (aP.smul b v)) (aP.smul c w)=V0):a=0/\b=0/\c=0:=by
 have two:∀{u v:V} {a b:Int},P u->P v->0<=a->0<=b->(a=0/\b=0)\/P (aP.add (aP.smul a u) (aP.smul b v)):=by
  intro u v a b hu hv ha hb;by_cases h1:a=0
  . by_cases h2:b=0
    . exact .inl ⟨h1,h2⟩
    right;subst h1;rw[smul_zero,zero_add];exact h.smul _ _ (by omega) hv
  by_cases h2:b=0
  . right;subst h2;rw[smul_zero,add_zero];exact h.smul _ _ (by omega) hu
  right;exact h.add _ _ (h.smul _ _ (by omega) hu) (h.smul _ _ (by omega) hv)
 rcases two hu hv ha hb with ⟨h1,h2⟩|h1
 . refine⟨h1,h2,?_⟩;by_cases h3:c=0
   . exact h3
   exfalso;subst h1 h2;rw[smul_zero,smul_zero,add_zero,zero_add] at hz;exact h.zero (hz▸h.smul _ _ (by omega) hw)
 exfalso;by_cases h3:c=0
 . subst h3;rw[smul_zero,add_zero] at hz;exact h.zero (hz▸h1)
 exact h.zero (hz▸h.add _ _ h1 (h.smul _ _ (by omega) hw))
theorem NL (f g h:V->Int) (hf:∀u v,f (add u v)=f u+f v) (hg:∀u v,g (add u v)=g u+g v) (hh:∀u v,h (add u v)=h u+h v)
 (hf':∀c u,f (smul c u)=c*f u) (hg':∀c u,g (smul c u)=c*g u) (hh':∀c u,h (smul c u)=c*h u):
 Rn fun v=>0<f v\/(f v=0/\(0<g v\/(g v=0/\0<h v))) where
 add u v hu hv:=by simp only[hf,hg,hh];omega
 smul c u hc hu:=by
  simp only[hf',hg',hh']
  rcases hu with hu|⟨h1,hu|⟨h2,hu⟩⟩
  . exact .inl (Io hc hu)
  . exact .inr ⟨by rw[h1];simp,.inl (Io hc hu)⟩
  exact .inr ⟨by rw[h1];simp,.inr ⟨by rw[h2];simp,Io hc hu⟩⟩
 zero:=by
  have z:∀(f:V->Int),(∀c u,f (smul c u)=c*f u)->f V0=0:=fun f hf=>by have :=hf 0 V0;rw[smul_zero] at this;omega
  rw[z f hf',z g hg',z h hh'];omega
section
def vec (p:Nat->V) (a b:Nat):V:=sub (p b) (p a)
def Sd (n:V) (p:Nat->V) (on:List Nat) (a b:Nat):Prop:=
 b∈on/\b≠a/\∀k∈on,0<=dO n (vec p a b) (vec p a k)/\
  (dO n (vec p a b) (vec p a k)=0->0<=dot (vec p a k) (vec p a b)/\dot (vec p a k) (vec p a b)<=dot (vec p a b) (vec p a b))
def Crn (p:Nat->V) (on:List Nat) (a:Nat):Prop:=∃P,Rn P/\∀k∈on,k≠a->P (vec p a k)
structure Pl (n:V) (p:Nat->V) (on:List Nat):Prop where
 hn:n≠V0
 inj:∀a∈on,∀b∈on,p a=p b->a=b
 pl:∀a∈on,∀b∈on,dot n (vec p a b)=0
theorem Pl.ne {n:V} {p:Nat->V} {on:List Nat} (h:Pl n p on) {a b:Nat} (ha:a∈on) (hb:b∈on) (GC:b≠a):vec p a b≠V0:=
 aTu fun e=>GC (h.inj b hb a ha e)
theorem AE (n u:V):dO n u u=0:=by simp only[dO,dot,aZ];grind
theorem AD (n u v:V):dO n v u= -dO n u v:=by simp only[dO,dot,aZ];grind
theorem jX (u v:V):dot u v=dot v u:=by simp only[dot];grind
theorem ZM (n u v w:V):dO n u (add v w)=dO n u v+dO n u w:=by simp only[dO,dot,aZ,add];grind
theorem UK (n u v:V) (c:Int):dO n u (smul c v)=c*dO n u v:=by simp only[dO,dot,aZ,smul];grind
theorem ZN (u v w:V):dot u (add v w)=dot u v+dot u w:=by simp only[dot,add];grind
theorem UP (u v:V) (c:Int):dot u (smul c v)=c*dot u v:=by simp only[dot,smul];grind
theorem gl (n e:V):Rn fun v=>0<dO n e v\/(dO n e v=0/\0<dot e v):=by have h:=NL (dO n e) (dot e) (fun _=>0) (ZM n e) (ZN e) (fun _ _=>rfl) (fun c u=>UK n e u c) (fun c u=>UP e u c) (fun c _=>by simp);simpa using h
theorem Wq (n e:V):Rn fun v=>0<dO n e v\/(dO n e v=0/\dot e v<0):=by have h:=NL (dO n e) (fun v=> -dot e v) (fun _=>0) (ZM n e) (fun u v=>by rw[ZN];omega) (fun _ _=>rfl) (fun c u=>UK n e u c) (fun c u=>by rw[UP,Int.mul_neg]) (fun c _=>by simp);simpa using h
theorem su:Rn fun v=>0<v.x\/(v.x=0/\(0<v.y\/(v.y=0/\0<v.z))):=
 NL V.x V.y V.z (fun _ _=>rfl) (fun _ _=>rfl) (fun _ _=>rfl) (fun _ _=>rfl) (fun _ _=>rfl) (fun _ _=>rfl)
theorem uB {c:Int} (hc:c≠0) {u v:V} (h:smul c u=smul c v):u=v:=by have h1:c*u.x=c*v.x:=Bn V.x h;have h2:c*u.y=c*v.y:=Bn V.y h;have h3:c*u.z=c*v.z:=Bn V.z h;exact V.ext' (Je hc h1) (Je hc h2) (Je hc h3)
variable {n:V} {p:Nat->V} {on:List Nat}
theorem NM (H:Pl n p on) {P:V->Prop} (hP:Rn P) {u v w:V} (hu:dot n u=0) (hv:dot n v=0) (hw:dot n w=0) (pu:P u) (pv:P v) (pw:P w)
 (h1:0<=dO n u v) (h2:0<=dO n v w):0<=dO n u w/\(0<dO n u v\/0<dO n v w->0<dO n u w):=by
 have h:=three H.hn hu hv hw;have a:=AD n u w;by_cases h3:0<dO n u w
 . exact⟨by omega,fun _=>h3⟩
 obtain⟨c1,c2,c3⟩:=hP.comb pu pv pw h2 (by omega) h1 h;exact⟨by omega,fun _=>by omega⟩
theorem QQ (H:Pl n p on) {P:V->Prop} (hP:Rn P) {u v:V} (hu:dot n u=0) (hv:dot n v=0) (pu:P u) (pv:P v) (h:dO n u v=0):0<dot u v:=by
 have h1:=para H.hn hu hv h;have hu0:u≠V0:=fun e=>hP.zero (e▸pu);have :=dF hu0;have e1:=Bn V.x h1;have e2:=Bn V.y h1;have e3:=Bn V.z h1;simp only[smul] at e1 e2 e3;by_cases h2:0<dot u v
 . exact h2
 exfalso;have z:=hP.comb (a:=dot u u) (b:= -dot u v) (c:=0) pv pu pu (by omega) (by omega) (by omega) (V.ext' (by simp only[add,smul,V0,Im];omega) (by simp only[add,smul,V0,Im];omega) (by simp only[add,smul,V0,Im];omega));omega
theorem HY (n u v:V) (hu:dot n u=0) (hv:dot n v=0):dot n n*(dot u u*dot v v -dot u v*dot u v)=dO n u v*dO n u v:=by
 simp only[dO,dot,aZ] at *
 grind
theorem aRa {n u v:V} (hn:n≠V0) (hu:dot n u=0) (hv:dot n v=0) (h:dO n u v=0) (hl:dot v v<=dot u u):dot u v<=dot u u:=by
 have h1:=HY n u v hu hv;rw[h] at h1;have h2:=eN (dF hn) (by rw[h1];simp);have h3:=yM u;by_cases h4:dot u v<=dot u u
 . exact h4
 exfalso;have h5:dot u u*dot u v<dot u v*dot u v:=Hb (by omega) (by omega);have h6:dot u u*dot v v<=dot u u*dot u v:=Ek (by omega) h3;omega
theorem Sd.crn (H:Pl n p on) {a b:Nat} (ha:a∈on) (h:Sd n p on a b):Crn p on a:=by
 refine⟨_,gl n (vec p a b),fun k hk LP=>?_⟩;obtain⟨h1,h2⟩:=h.2.2 k hk
 rcases En h1 with h1|h1
 . exact .inl h1
 refine .inr ⟨h1.symm,?_⟩;obtain⟨h3,h4⟩:=h2 h1.symm;rw[jX] at h3
 rcases En h3 with h3|h3
 . exact h3
 exfalso;have e:=para H.hn (H.pl a ha b h.1) (H.pl a ha k hk) h1.symm;rw[<-h3,smul_zero] at e;have cP:=dF (H.ne ha h.1 h.2.1);exact H.ne ha hk LP (uB (c:=dot (vec p a b) (vec p a b)) (by omega) (by rw[e];simp[smul,V0]))
theorem yL (p:Nat->V) (a b k:Nat):vec p b k=sub (vec p a k) (vec p a b):=by simp only[vec,sub];refine V.ext' ?_ ?_ ?_<;>simp only <;>omega
theorem UL (n u v w:V):dO n u (sub v w)=dO n u v -dO n u w:=by simp only[dO,dot,aZ,sub];grind
theorem th (u v w:V):dot u (sub v w)=dot u v -dot u w:=by simp only[dot,sub];grind
theorem Sd.next (H:Pl n p on) {a b:Nat} (ha:a∈on) (h:Sd n p on a b):Crn p on b:=by
 refine⟨_,Wq n (vec p a b),fun k hk hkb=>?_⟩;obtain⟨h1,h2⟩:=h.2.2 k hk;rw[yL p a b k,UL,th,AE,jX _ (vec p a k)]
 rcases En h1 with h1|h1
 . exact .inl (by omega)
 refine .inr ⟨by omega,?_⟩;obtain⟨h3,h4⟩:=h2 h1.symm
 rcases En h4 with h4|h4
 . omega
 exfalso;have e:=para H.hn (H.pl a ha b h.1) (H.pl a ha k hk) h1.symm;rw[jX _ (vec p a k),h4] at e;have cP:=dF (H.ne ha h.1 h.2.1);have :=uB (by omega) e;refine hkb (H.inj k hk b h.1 ?_);simp only[vec,sub,V.mk.injEq] at this;exact V.ext' (by omega) (by omega) (by omega)
theorem Sd.uniq (H:Pl n p on) {a b c:Nat} (ha:a∈on) (h:Sd n p on a b) (h':Sd n p on a c):b=c:=by
 obtain⟨h1,h2⟩:=h.2.2 c h'.1;obtain⟨h3,h4⟩:=h'.2.2 b h.1;rw[AD] at h3;have hz:dO n (vec p a b) (vec p a c)=0:=by omega
 obtain⟨k1,k2⟩:=h2 hz;obtain⟨k3,k4⟩:=h4 (by rw[AD];omega);have e:=para H.hn (H.pl a ha b h.1) (H.pl a ha c h'.1) hz;have hl:=HY n (vec p a b) (vec p a c) (H.pl a ha b h.1) (H.pl a ha c h'.1);rw[hz] at hl;have hl:=eN (dF H.hn) (by rw[hl];simp);have cP:=dF (H.ne ha h.1 h.2.1);have hnc:=dF (H.ne ha h'.1 h'.2.1);rw[jX] at k1 k2;generalize hm:dot (vec p a b) (vec p a c)=m at *;generalize hB:dot (vec p a b) (vec p a b)=B at *;generalize hC:dot (vec p a c) (vec p a c)=C at *
 have e1:m=B:=by
  have q1:B*m<=B*C:=Ek (by omega) (by omega);by_cases hmB:m=B
  . exact hmB
  exfalso;by_cases MO:m=0
  . subst MO;have :=Io cP hnc;omega
  have :m*m<B*m:=Hb (by omega) (by omega);omega
 rw[e1] at e;have :=uB (by omega) e;refine(H.inj c h'.1 b h.1 ?_).symm;simp only[vec,sub,V.mk.injEq] at this;exact V.ext' (by omega) (by omega) (by omega)
theorem Sd.inj (H:Pl n p on) {a b c:Nat} (ha:a∈on) (hb:b∈on) (h:Sd n p on a c) (h':Sd n p on b c):a=b:=by
 obtain⟨h1,h2⟩:=h.2.2 b hb;obtain⟨h3,h4⟩:=h'.2.2 a ha
 have e:dO n (vec p b c) (vec p b a)= -dO n (vec p a c) (vec p a b):=by simp only[vec,dO,dot,aZ,sub];grind
 have hz:dO n (vec p a c) (vec p a b)=0:=by omega
 obtain⟨k1,k2⟩:=h2 hz;obtain⟨k3,k4⟩:=h4 (by omega);have hl:=HY n (vec p a c) (vec p a b) (H.pl a ha c h.1) (H.pl a ha b hb);rw[hz] at hl;have hl:=eN (dF H.hn) (by rw[hl];simp);have hp:=para H.hn (H.pl a ha c h.1) (H.pl a ha b hb) hz;have hE:=dF (H.ne ha h.1 h.2.1)
 have e2:dot (vec p b a) (vec p b c)=dot (vec p a b) (vec p a b) -dot (vec p a b) (vec p a c):=by simp only[vec,dot,sub];grind
 rw[jX (vec p a c) (vec p a b)] at hl hp;generalize hm:dot (vec p a b) (vec p a c)=m at *;generalize hB:dot (vec p a b) (vec p a b)=B at *;generalize hC:dot (vec p a c) (vec p a c)=C at *
 have q:m=0\/m=C:=by
  by_cases MO:m=0
  . exact .inl MO
  right;by_cases hmC:m=C
  . exact hmC
  exfalso;have q1:m*m<C*m:=Hb (by omega) (by omega);have q2:C*m<=C*B:=Ek (by omega) (by omega);omega
 rcases q with q|q
 . rw[q,smul_zero] at hp;have :vec p a b=V0:=uB (c:=C) (by omega) (by rw[hp];simp[smul,V0]);exact(H.inj b hb a ha (sub_eq_zero this)).symm
 rw[q] at hp;have :=uB (c:=C) (by omega) hp;exfalso;refine h'.2.1 (H.inj c h.1 b hb ?_);simp only[vec,sub,V.mk.injEq] at this;exact V.ext' (by omega) (by omega) (by omega)
end
section
variable {n:V} {p:Nat->V} {on:List Nat}
def uW (x:Int):Int:=if x<0 then -1 else if 0<x then 1 else 0
theorem TN {x:Int}:uW x<0↔x<0:=by unfold uW;split<;>(try split)<;>omega
theorem Ot {x:Int}:uW x=0↔x=0:=by unfold uW;split<;>(try split)<;>omega
theorem TM (x y:Int):uW (x*y)=uW x*uW y:=by
 rcases Ge x 0 with h|h|h
 . rcases Ge y 0 with k|k|k
   . have :=Int.mul_pos_of_neg_of_neg h k;simp only[uW,h,k,if_true,if_neg (show ¬x*y<0 by omega),this];rfl
   . subst k;simp[uW]
   have :=Int.mul_neg_of_neg_of_pos h k;simp only[uW,h,this,k,if_true,if_neg (show ¬y<0 by omega)];rfl
 . subst h;simp[uW]
 rcases Ge y 0 with k|k|k
 . have :=Int.mul_neg_of_pos_of_neg h k;simp only[uW,h,this,k,if_true,if_neg (show ¬x<0 by omega)];rfl
 . subst k;simp[uW]
 have :=Io h k;simp only[uW,h,this,k,if_true,if_neg (show ¬x<0 by omega),if_neg (show ¬y<0 by omega),if_neg (show ¬x*y<0 by omega)];rfl
theorem cj {x:Int} (h:0<x):uW x=1:=by simp[uW,h,show ¬x<0 by omega]
def rV (n c:V):Int:=if n.x≠0 then uW c.x*uW n.x else if n.y≠0 then uW c.y*uW n.y else if n.z≠0 then uW c.z*uW n.z else 0
theorem TP {a b:V} (hn:n≠V0) (ha:dot n a=0) (hb:dot n b=0):rV n (aZ a b)=uW (dO n a b):=by
 have hp:=dF hn;have e1:dot n n*(aZ a b).x=dO n a b*n.x+dot n b*(n.z*a.y -n.y*a.z) -dot n a*(n.z*b.y -n.y*b.z):=by simp only[dO,dot,aZ];grind
 have e2:dot n n*(aZ a b).y=dO n a b*n.y+dot n b*(n.x*a.z -n.z*a.x) -dot n a*(n.x*b.z -n.z*b.x):=by simp only[dO,dot,aZ];grind
 have e3:dot n n*(aZ a b).z=dO n a b*n.z+dot n b*(n.y*a.x -n.x*a.y) -dot n a*(n.y*b.x -n.x*b.y):=by simp only[dO,dot,aZ];grind
 rw[ha,hb] at e1 e2 e3
 have key:∀c m:Int,m≠0->dot n n*c=dO n a b*m+0*0 -0->uW c*uW m=uW (dO n a b):=by
  intro c m hm e;have h1:uW (dot n n*c*m)=uW (dO n a b*(m*m)):=by rw[e];congr 1;grind
  rw[TM,TM,TM (dO n a b),cj hp,cj (sq_pos hm)] at h1;simpa using h1
 unfold rV;split
 . rename_i h;exact key _ _ h (by omega)
 split
 . rename_i h;exact key _ _ h (by omega)
 split
 . rename_i h;exact key _ _ h (by omega)
 rename_i h1 h2 h3;exact absurd (V.ext' (by simpa [V0] using h1) (by simpa [V0] using h2) (by simpa [V0] using h3)) hn
def better (n:V) (p:Nat->V) (a b k:Nat):Bool:=
 decide (rV n (aZ (vec p a b) (vec p a k))<0)||(decide (rV n (aZ (vec p a b) (vec p a k))=0)&&decide (dot (vec p a k) (vec p a k)>dot (vec p a b) (vec p a b)))
def gV (n:V) (p:Nat->V) (a:Nat) (xK:Option Nat) (k:Nat):Option Nat:=
 if k=a then xK else match xK with
  |none=>some k
  |some b=>if better n p a b k then some k else some b
def LV (n:V) (p:Nat->V) (on:List Nat) (a:Nat):Option Nat:=on.foldl (gV n p a) none
theorem tE (H:Pl n p on) {a b k:Nat} (ha:a∈on) (hb:b∈on) (hk:k∈on):
 better n p a b k=true↔dO n (vec p a b) (vec p a k)<0\/(dO n (vec p a b) (vec p a k)=0/\dot (vec p a b) (vec p a b)<dot (vec p a k) (vec p a k)):=by
 unfold better;rw[TP H.hn (H.pl a ha b hb) (H.pl a ha k hk)];simp only[Dm,Al,Bd,TN,Ot]
theorem kb (H:Pl n p on) {a:Nat} (ha:a∈on) (hc:Crn p on a):∀(l:List Nat) (done:List Nat) (xK:Option Nat),(∀k∈l,k∈on)->(∀k∈done,k∈on)->
 (match xK with|none=>∀k∈done,k=a|some b=>b∈on/\b≠a/\∀k∈done,k≠a->better n p a b k=false)->
 match l.foldl (gV n p a) xK with|none=>∀k∈done++l,k=a|some b=>b∈on/\b≠a/\∀k∈done++l,k≠a->better n p a b k=false:=by
 obtain⟨P,hP,gR⟩:=hc
 have refl:∀k∈on,better n p a k k=false:=fun k hk=>by
  have :=tE H ha hk hk;rw[AE] at this
  cases hb:better n p a k k with
  |false=>rfl
  |true=>have :=this.1 hb;omega
 intro l
 induction l with
 |nil=>intro done xK _ _ h;simpa using h
 |cons k l ih=>
  intro done xK hl hd h;have hk:k∈on:=hl k (by simp);have :=ih (done++[k]) (gV n p a xK k) (fun x hx=>hl x (by simp[hx])) (fun x hx=>by simp only[Ap,Cb] at hx;exact hx.elim (hd x) fun e=>e▸hk) ?_
  . simpa using this
  unfold gV;by_cases LP:k=a
  . subst LP;simp only[if_true]
    cases xK with
    |none=>intro x hx;simp only[Ap,Cb] at hx;exact hx.elim (h x) id
    |some b=>
     refine⟨h.1,h.2.1,fun x hx WO=>?_⟩;simp only[Ap,Cb] at hx
     rcases hx with hx|rfl
     . exact h.2.2 x hx WO
     exact absurd rfl WO
  simp only[LP,Bq]
  cases xK with
  |none=>
   refine⟨hk,LP,fun x hx WO=>?_⟩;simp only[Ap,Cb] at hx
   rcases hx with hx|rfl
   . exact absurd (h x hx) WO
   exact refl _ hk
  |some b=>
   obtain⟨hb,hba,hbd⟩:=h;dsimp only;by_cases hbk:better n p a b k=true
   . rw[if_pos hbk];refine⟨hk,LP,fun x hx WO=>?_⟩;simp only[Ap,Cb] at hx
     rcases hx with hx|rfl
     . have h1:=hbd x hx WO;have pq:=hd x hx;have i1:=(tE H ha hb hk).1 hbk
       have i2:¬(dO n (vec p a b) (vec p a x)<0\/(dO n (vec p a b) (vec p a x)=0/\dot (vec p a b) (vec p a b)<dot (vec p a x) (vec p a x))):=fun h=>by rw[(tE H ha hb pq).2 h] at h1;cases h1
       cases hkx:better n p a k x with
       |false=>rfl
       |true=>
        exfalso;have i3:=(tE H ha hk pq).1 hkx;have a1:=AD n (vec p a b) (vec p a k);obtain⟨t1,t2⟩:=NM H hP (H.pl a ha k hk) (H.pl a ha b hb) (H.pl a ha x pq) (gR k hk LP) (gR b hb hba) (gR x pq WO) (by omega) (by omega);by_cases hz:dO n (vec p a k) (vec p a b)=0
        . by_cases hz2:dO n (vec p a b) (vec p a x)=0
          . omega
          have :=t2 (.inr (by omega));omega
        have :=t2 (.inl (by omega));omega
     exact refl _ hk
   rw[if_neg hbk];refine⟨hb,hba,fun x hx WO=>?_⟩;simp only[Ap,Cb] at hx
   rcases hx with hx|rfl
   . exact hbd x hx WO
   simpa using hbk
theorem VJ (H:Pl n p on) {a:Nat} (ha:a∈on) (hc:Crn p on a) (hm:∃k∈on,k≠a):∃b,LV n p on a=some b/\Sd n p on a b:=by
 have h:=kb H ha hc on [] none (fun _ h=>h) (fun k hk=>by cases hk) (fun k hk=>by cases hk);unfold LV;split at h
 . obtain⟨k,hk,LP⟩:=hm;exact absurd (h k (by simpa using hk)) LP
 rename_i b hb;refine⟨b,hb,h.1,h.2.1,fun k hk=>?_⟩;obtain⟨P,hP,gR⟩:=hc;by_cases LP:k=a
 . subst LP;have :vec p k k=V0:=by simp[vec,sub,V0]
   rw[this];have hq:=yM (vec p k b);constructor
   . simp[dO,dot,aZ,V0]
   intro _;constructor<;>simp[dot,V0]<;>simpa [dot] using hq
 have h1:=h.2.2 k (by simpa using hk) LP
 have i2:¬(dO n (vec p a b) (vec p a k)<0\/(dO n (vec p a b) (vec p a k)=0/\dot (vec p a b) (vec p a b)<dot (vec p a k) (vec p a k))):=fun hh=>by rw[(tE H ha h.1 hk).2 hh] at h1;cases h1
 refine⟨by omega,fun hz=>?_⟩;have q:=QQ H hP (H.pl a ha b h.1) (H.pl a ha k hk) (gR b h.1 h.2.1) (gR k hk LP) hz;rw[jX];exact⟨by omega,aRa H.hn (H.pl a ha b h.1) (H.pl a ha k hk) hz (by omega)⟩
def Li (n:V) (p:Nat->V) (on:List Nat) (a b:Nat):Bool:=on.all fun k=>!(decide (rV n (aZ (vec p a b) (vec p a k))<0)||(decide (rV n (aZ (vec p a b) (vec p a k))=0)&&(decide (dot (vec p a k) (vec p a b)<0)||decide (dot (vec p a k) (vec p a b)>dot (vec p a b) (vec p a b)))))
theorem Ra (H:Pl n p on) {a b:Nat} (ha:a∈on) (hb:b∈on) (hba:b≠a):Li n p on a b=true↔Sd n p on a b:=by
 unfold Li Sd;simp only[Ax];constructor
 . intro h;refine⟨hb,hba,fun k hk=>?_⟩;have :=h k hk;rw[TP H.hn (H.pl a ha b hb) (H.pl a ha k hk)] at this;simp only[Cn,Da,Jw,Bh,TN,Ot] at this;omega
 intro h k hk;have :=h.2.2 k hk;rw[TP H.hn (H.pl a ha b hb) (H.pl a ha k hk)];simp only[Cn,Da,Jw,Bh,TN,Ot];omega
def RH (n:V) (p:Nat->V) (on:List Nat) (a:Nat):Option Nat:=on.find? fun k=>decide (k≠a)&&Li n p on a k
theorem yy (H:Pl n p on) {a b:Nat} (ha:a∈on) (h:Sd n p on a b):RH n p on a=some b:=by
 unfold RH
 cases hf:on.find? fun k=>decide (k≠a)&&Li n p on a k with
 |none=>have :=Hr.1 hf b h.1;simp[h.2.1,(Ra H ha h.1 h.2.1).2 h] at this
 |some c=>have h1:=List.find?_some hf;have h2:=List.mem_of_find?_eq_some hf;simp only[Al,Bd] at h1;rw[Sd.uniq H ha ((Ra H ha h2 h1.1).1 h1.2) h]
end
section
variable {n:V} {p:Nat->V} {on:List Nat}
def iter (f:Nat->Nat):Nat->Nat->Nat
 |0,s=>s
 |i+1,s=>f (iter f i s)
theorem RI:∀(l on:List Nat),l.Nodup->(∀x∈l,x∈on)->l.length<=on.length
 |[],_,_,_=>Az _
 |x::l,on,hn,h=>by rw[Js] at hn;have h1:=RI l (on.erase x) hn.2 fun y hy=>(List.mem_erase_of_ne fun e=>hn.1 (by rw[<-e];exact hy)).2 (h y (by simp[hy]));have h2:=List.length_erase_of_mem (h x (by simp));have h3:0<on.length:=List.length_pos_of_mem (h x (by simp));simp only[Aq];omega
theorem aUf {A:Nat->Prop} {f:Nat->Nat} (on:List Nat) (hA:∀a,A a->a∈on) (hf:∀a,A a->A (f a)) (hi:∀a b,A a->A b->f a=f b->a=b) {s:Nat} (hs:A s):
 ∃m,0<m/\m<=on.length/\iter f m s=s/\(∀i,0<i->i<m->iter f i s≠s)/\∀i,A (iter f i s):=by
 have bV:∀i,A (iter f i s):=fun i=>by
  induction i with
  |zero=>exact hs
  |succ i ih=>exact hf _ ih
 have back:∀i d,iter f i s=iter f (i+d) s->iter f d s=s:=fun i=>by
  induction i with
  |zero=>intro d h;rw[Cs] at h;exact h.symm
  |succ i ih=>intro d h;refine ih d (hi _ _ (bV _) (bV _) ?_);rw[show i+1+d=(i+d)+1 by omega] at h;exact h
 have ex:∃m,0<m/\m<=on.length/\iter f m s=s:=by
  refine Cq fun hc=>?_
  have hd:((List.range (on.length+1)).map fun i=>iter f i s).Nodup:=by rw[List.Nodup,Jg];refine Ji ?_ Jn;intro i j hi hj yN e;simp only[Au] at hi hj;exact hc ⟨j -i,by omega,by omega,back i (j -i) (by rw[show i+(j -i)=j by omega];exact e)⟩
  have :=RI _ on hd (fun x hx=>by
   simp only[Bj] at hx;obtain⟨i,_,rfl⟩:=hx
   exact hA _ (bV i))
  simp at this;omega
 have least:∀(k m:Nat),m<=k->0<m->m<=on.length->iter f m s=s->∃m,0<m/\m<=on.length/\iter f m s=s/\∀i,0<i->i<m->iter f i s≠s:=by
  intro k
  induction k with
  |zero=>intro m h1 h2;omega
  |succ k ih=>
   intro m h1 h2 h3 h4;by_cases hc:∃i,0<i/\i<m/\iter f i s=s
   . obtain⟨i,i1,i2,i3⟩:=hc;exact ih i (by omega) i1 (by omega) i3
   exact⟨m,h2,h3,h4,fun i i1 i2 e=>hc ⟨i,i1,i2,e⟩⟩
 obtain⟨m,h1,h2,h3⟩:=ex;obtain⟨m,h1,h2,h3,h4⟩:=least m m (Ab _) h1 h2 h3;exact⟨m,h1,h2,h3,h4,bV⟩
structure Way (n:V) (p:Nat->V) (on:List Nat) (s m:Nat) (f:Nat->Nat):Prop where
 H:Pl n p on
 hs:s∈on
 pos:0<m
 le:m<=on.length
 back:iter f m s=s
 first:∀i,0<i->i<m->iter f i s≠s
 side:∀i,iter f i s∈on/\Sd n p on (iter f i s) (iter f (i+1) s)
def uK (n:V) (p:Nat->V) (on:List Nat) (a:Nat):Nat:=(LV n p on a).getD 0
theorem way (H:Pl n p on) {s:Nat} (hs:s∈on) (hc:Crn p on s) (hm:∀a∈on,∃k∈on,k≠a):∃m,Way n p on s m (uK n p on):=by
 have hS:∀a,a∈on/\Crn p on a->Sd n p on a (uK n p on a):=fun a ⟨ha,hc⟩=>by obtain⟨b,h1,h2⟩:=VJ H ha hc (hm a ha);unfold uK;rw[h1];exact h2
 obtain⟨m,h1,h2,h3,h4,h5⟩:=aUf (A:=fun a=>a∈on/\Crn p on a) (f:=uK n p on) on (fun a h=>h.1) (fun a h=>⟨(hS a h).1,(hS a h).next H h.1⟩)
  (fun a b ha hb e=>Sd.inj H ha.1 hb.1 (hS a ha) (by rw[e];exact hS b hb)) ⟨hs,hc⟩
 exact⟨m,H,hs,h1,h2,h3,h4,fun i=>⟨(h5 i).1,hS _ (h5 i)⟩⟩
theorem Way.cover {s m:Nat} {f:Nat->Nat} (W:Way n p on s m f) {a b:Nat} (ha:a∈on) (h:Sd n p on a b):∃i,i<m/\iter f i s=a:=by
 refine Cq fun hc=>?_
 have cP:∀i,iter f i s≠a:=by
  have :∀i,i<m->iter f i s≠a:=fun i hi e=>hc ⟨i,hi,e⟩
  have per:∀i,∃j,j<m/\iter f i s=iter f j s:=fun i=>by
   induction i with
   |zero=>exact⟨0,W.pos,rfl⟩
   |succ i ih=>
    obtain⟨j,hj,e⟩:=ih;by_cases hjm:j+1<m
    . exact⟨j+1,hjm,by simp only[iter];rw[e]⟩
    refine⟨0,W.pos,?_⟩;have :j+1=m:=(by omega);simp only[iter];rw[e];have h2:=W.back;rw[<-this] at h2;exact h2
  intro i e;obtain⟨j,hj,e2⟩:=per i;exact this j hj (e2.symm.trans e)
 obtain⟨P,hP,gR⟩:=h.crn W.H ha;have hPi:∀i,P (vec p a (iter f i s)):=fun i=>gR _ (W.side i).1 (cP i);have mN:∀i,dot n (vec p a (iter f i s))=0:=fun i=>W.H.pl a ha _ (W.side i).1
 have left:∀i,0<dO n (vec p a (iter f i s)) (vec p a (iter f (i+1) s)):=by
  intro i;obtain⟨hx,hS⟩:=W.side i;generalize hxi:iter f i s=x at *;generalize hyi:iter f (i+1) s=y at *;have e:dO n (vec p x y) (vec p x a)=dO n (vec p a x) (vec p a y):=by simp only[vec,dO,dot,aZ,sub];grind
  obtain⟨h1,h2⟩:=hS.2.2 a ha;rw[e] at h1 h2;have WO:x≠a:=by rw[<-hxi];exact cP i
  have hya:y≠a:=by rw[<-hyi];exact cP (i+1)
  rcases En h1 with h1|h1
  . exact h1
  exfalso;obtain⟨h3,h4⟩:=h2 h1.symm;have px:P (vec p a x):=gR x hx WO;have py:P (vec p a y):=gR y hS.1 hya;have hd:=QQ W.H hP (W.H.pl a ha x hx) (W.H.pl a ha y hS.1) px py h1.symm;have hp:=para W.H.hn (W.H.pl a ha x hx) (W.H.pl a ha y hS.1) h1.symm;have hu0:=dF (W.H.ne ha hx WO);have e5:dot (vec p x a) (vec p x y)=dot (vec p a x) (vec p a x) -dot (vec p a x) (vec p a y):=by simp only[vec,dot,sub];grind
  have e6:dot (vec p x y) (vec p x y)=dot (vec p a x) (vec p a x) -2*dot (vec p a x) (vec p a y)+dot (vec p a y) (vec p a y):=by simp only[vec,dot,sub];grind
  have hl:=HY n _ _ (W.H.pl a ha x hx) (W.H.pl a ha y hS.1);rw[<-h1] at hl;have hl:=eN (dF W.H.hn) (by rw[hl];simp);rw[e5] at h3 h4;rw[e6] at h4;generalize hA:dot (vec p a x) (vec p a x)=A at *;generalize hB:dot (vec p a x) (vec p a y)=B at *;generalize hC:dot (vec p a y) (vec p a y)=C at *
  have :B=A:=by
   by_cases hBA:B=A
   . exact hBA
   exfalso;have q1:B*B<A*B:=Hb (by omega) hd;have q2:A*B<=A*C:=Ek (by omega) (by omega);omega
  rw[this] at hp;have e7:=uB (c:=A) (by omega) hp;refine hS.2.1 (W.H.inj y hS.1 x hx ?_);simp only[vec,sub,V.mk.injEq] at e7;exact V.ext' (by omega) (by omega) (by omega)
 have chain:∀i,0<dO n (vec p a s) (vec p a (iter f (i+1) s)):=by
  intro i
  induction i with
  |zero=>exact left 0
  |succ i ih=>exact(NM W.H hP (mN 0) (mN (i+1)) (mN (i+2)) (hPi 0) (hPi (i+1)) (hPi (i+2)) (Int.le_of_lt ih) (Int.le_of_lt (left (i+1)))).2 (.inl ih)
 have :=chain (m -1);rw[show m -1+1=m from Nat.succ_pred_eq_of_pos W.pos,W.back,AE] at this;omega
end
section
def kC (p:Nat->V) (N:Nat) (n:V) (d:Int):List Nat:=(List.range N).filter fun k=>decide (dot n (p k)=d)
theorem dW {p:Nat->V} {N:Nat} {n:V} {d:Int} {k:Nat}:k∈kC p N n d↔k<N/\dot n (p k)=d:=by simp[kC]
structure ql (p:Nat->V) (N:Nat) (n:V) (d:Int):Prop where
 hn:n≠V0
 le:∀k,k<N->dot n (p k)<=d
 lt:∃k,k<N/\dot n (p k)<d
 tri:∃a∈kC p N n d,∃b∈kC p N n d,∃c∈kC p N n d,dO n (vec p a b) (vec p a c)≠0
def iU (a b:V):Prop:=a.x<b.x\/(a.x=b.x/\(a.y<b.y\/(a.y=b.y/\a.z<b.z)))
def qd (p:Nat->V) (N:Nat):Prop:=∀i j,i<j->j<N->iU (p i) (p j)
variable {p:Nat->V} {N:Nat} {n:V} {d:Int}
theorem qd.inj (A:qd p N) {i j:Nat} (hi:i<N) (hj:j<N) (h:p i=p j):i=j:=by
 rcases Jf i j with h1|h1|h1
 . have :=A i j h1 hj;rw[h] at this;unfold iU at this;omega
 . exact h1
 have :=A j i h1 hi;rw[h] at this;unfold iU at this;omega
theorem nJ (n:V) (p:Nat->V) (a b:Nat):dot n (vec p a b)=dot n (p b) -dot n (p a):=by simp only[dot,vec,sub];grind
theorem ql.pl (A:qd p N) (F:ql p N n d):Pl n p (kC p N n d) where
 hn:=F.hn
 inj a ha b hb h:=A.inj (dW.1 ha).1 (dW.1 hb).1 h
 pl a ha b hb:=by rw[nJ,(dW.1 ha).2,(dW.1 hb).2];omega
theorem ql.more (F:ql p N n d) (a:Nat):∃k∈kC p N n d,k≠a:=by obtain⟨x,hx,y,hy,z,hz,h⟩:=F.tri;refine Cq fun hc=>?_;have e:∀k∈kC p N n d,k=a:=fun k hk=>Cq fun h=>hc ⟨k,hk,h⟩;rw[e x hx,e y hy,e z hz,AE] at h;exact h rfl
theorem ql.head (F:ql p N n d):∃s r,kC p N n d=s::r:=by
 obtain⟨k,hk,_⟩:=F.more 0
 cases h:kC p N n d with
 |nil=>rw[h] at hk;cases hk
 |cons s r=>exact⟨s,r,rfl⟩
theorem OW (p:Nat->V) (N:Nat) (n:V) (d:Int):(kC p N n d).Pairwise (· < ·):=List.Pairwise.filter _ Jn
theorem ki (A:qd p N) {s:Nat} {r:List Nat} (h:kC p N n d=s::r):Crn p (kC p N n d) s:=by
 refine⟨_,su,fun k hk hks=>?_⟩;have hs:=OW p N n d;have hkN:=(dW.1 hk).1;rw[h] at hk hs;simp only[Am] at hk
 rcases hk with hk|hk
 . exact absurd hk hks
 have h1:=(Ck.1 hs).1 k hk;have :=A s k h1 hkN;unfold iU at this;simp only[vec,sub];omega
theorem ql.way (A:qd p N) (F:ql p N n d) {s:Nat} {r:List Nat} (h:kC p N n d=s::r):∃m,Way n p (kC p N n d) s m (uK n p (kC p N n d)):=
 aP.way (F.pl A) (by rw[h];simp) (ki A h) fun a _=>F.more a
theorem Way.aUc (F:ql p N n d) {s m:Nat} {f:Nat->Nat} (W:Way n p (kC p N n d) s m f) (i:Nat):
 0<dO n (vec p (iter f i s) (iter f (i+1) s)) (vec p (iter f i s) (iter f (i+2) s)):=by
 obtain⟨hx,hS⟩:=W.side i;obtain⟨hy,hT⟩:=W.side (i+1);generalize iter f i s=x at *;generalize iter f (i+1) s=y at *;rw[show i+1+1=i+2 from rfl] at hT;generalize iter f (i+2) s=z at *;obtain⟨h1,h2⟩:=hS.2.2 z hT.1
 rcases En h1 with h1|h1
 . exact h1
 exfalso;obtain⟨h3,h4⟩:=h2 h1.symm;have hp:=para W.H.hn (W.H.pl x hx y hS.1) (W.H.pl x hx z hT.1) h1.symm;have hE:=dF (W.H.ne hx hS.1 hS.2.1);rw[jX (vec p x z)] at h3 h4
 have h5:dot (vec p x y) (vec p x z)<dot (vec p x y) (vec p x y):=by
  rcases En h4 with h4|h4
  . exact h4
  exfalso;rw[h4] at hp;have e7:=uB (c:=dot (vec p x y) (vec p x y)) (by omega) hp;refine hT.2.1 (W.H.inj z hT.1 y hS.1 ?_);simp only[vec,sub,V.mk.injEq] at e7;exact V.ext' (by omega) (by omega) (by omega)
 have flat:∀k∈kC p N n d,dO n (vec p x y) (vec p x k)=0:=by
  intro k hk;have g1:=(hS.2.2 k hk).1;have g2:=(hT.2.2 k hk).1
  have e1:smul (dot (vec p x y) (vec p x y)) (vec p y z)=smul (dot (vec p x y) (vec p x z) -dot (vec p x y) (vec p x y)) (vec p x y):=by rw[yL p x y z];have a1:=Bn V.x hp;have a2:=Bn V.y hp;have a3:=Bn V.z hp;simp only[smul] at a1 a2 a3;refine V.ext' ?_ ?_ ?_<;>simp only[smul,sub,Int.mul_sub,Int.sub_mul]<;>omega
  have e2:dot (vec p x y) (vec p x y)*dO n (vec p y z) (vec p y k)=(dot (vec p x y) (vec p x z) -dot (vec p x y) (vec p x y))*dO n (vec p x y) (vec p x k):=by
   have l:∀(c:Int) (u v:V),dO n (smul c u) v=c*dO n u v:=fun c u v=>by simp only[dO,dot,aZ,smul];grind
   rw[<-l,e1,l,yL p x y k,UL,AE];simp
  have g3:0<=(dot (vec p x y) (vec p x z) -dot (vec p x y) (vec p x y))*dO n (vec p x y) (vec p x k):=by rw[<-e2];exact Int.mul_nonneg (by omega) g2
  rcases En g1 with g1|g1
  . have :=Int.mul_neg_of_neg_of_pos (a:=dot (vec p x y) (vec p x z) -dot (vec p x y) (vec p x y)) (by omega) g1;omega
  exact g1.symm
 obtain⟨a,ha,b,hb,c,hc,h⟩:=F.tri;refine h ?_;have fa:=flat a ha;have fb:=flat b hb;have fc:=flat c hc;rw[yL p x a b,yL p x a c];have e0:=W.H.ne hx hS.1 hS.2.1;have pa:=para W.H.hn (W.H.pl x hx y hS.1) (W.H.pl x hx a ha) fa;have pb:=para W.H.hn (W.H.pl x hx y hS.1) (W.H.pl x hx b hb) fb;have pc:=para W.H.hn (W.H.pl x hx y hS.1) (W.H.pl x hx c hc) fc
 have q:∀k l:Nat,smul (dot (vec p x y) (vec p x y)) (vec p x k)=smul (dot (vec p x y) (vec p x k)) (vec p x y)->dO n (vec p x y) (vec p x l)=0->dO n (vec p x k) (vec p x l)=0:=by
  intro k l hk hl;have l1:∀(c:Int) (u v:V),dO n (smul c u) v=c*dO n u v:=fun c u v=>by simp only[dO,dot,aZ,smul];grind
  refine eN hE ?_;rw[<-l1,hk,l1,hl,Gs]
 have r:∀u v w:V,dO n (sub u v) (sub w v)=dO n u w -dO n u v -dO n v w:=fun u v w=>by simp only[dO,dot,aZ,sub];grind
 rw[r,q b c pb fc,q b a pb fa,q a c pa fc];rfl
end
section
def gG (v:V):Nat:=Int.gcd v.x (Int.gcd v.y v.z)
def gK (v:V):V:=⟨v.x / gG v,v.y / gG v,v.z / gG v⟩
theorem KW (v:V):smul (gG v) (gK v)=v:=by have h1:((gG v:Nat):Int)∣v.x:=Ft v.x (Int.gcd v.y v.z);have h0:((gG v:Nat):Int)∣((Int.gcd v.y v.z:Nat):Int):=Ec v.x (Int.gcd v.y v.z);have h2:((gG v:Nat):Int)∣v.y:=Gu h0 (Ft v.y v.z);have h3:((gG v:Nat):Int)∣v.z:=Gu h0 (Ec v.y v.z);exact V.ext' (Kd h1) (Kd h2) (Kd h3)
theorem uE {v:V} (h:v≠V0):0<gG v:=by
 rcases Hn (gG v) with h1|h1
 . exfalso;have :=KW v;rw[h1] at this;exact h (by rw[<-this];simp[smul,V0])
 exact h1
theorem br {v:V} (h:v≠V0):gK v≠V0:=fun e=>by have :=KW v;rw[e] at this;exact h (by rw[<-this];simp[smul,V0])
theorem AG (v w:V):(gG v:Int)*dot (gK v) w=dot v w:=by
 have h:=KW v;have :dot (smul (gG v) (gK v)) w=(gG v:Int)*dot (gK v) w:=by simp only[dot,smul];grind
 rw[<-this,h]
theorem te (v u w:V):(gG v:Int)*dO (gK v) u w=dO v u w:=AG v _
structure pP (p:Nat->V) (N:Nat) (n:V) (d:Int):Prop where
 le:∀k,k<N->dot n (p k)<=d
 lt:∃k,k<N/\dot n (p k)<d
 tri:∃a b c,a<N/\b<N/\c<N/\aZ (vec p a b) (vec p a c)≠V0/\n=gK (aZ (vec p a b) (vec p a c))/\d=dot n (p a)
variable {p:Nat->V} {N:Nat} {n:V} {d:Int}
theorem pP.ZS (F:pP p N n d):ql p N n d:=by
 obtain⟨a,b,c,ha,hb,hc,hw,hn,hd⟩:=F.tri;have hg:=uE hw
 have on:∀k,k<N->dot (aZ (vec p a b) (vec p a c)) (vec p a k)=0->k∈kC p N n d:=by intro k hk h;rw[dW];refine⟨hk,?_⟩;rw[<-AG,<-hn] at h;have h2:=eN (by omega) h;rw[nJ] at h2;omega
 refine⟨by rw[hn];exact br hw,F.le,F.lt,a,on a ha (by simp only[dot,vec,sub];grind),b,on b hb ?_,c,on c hc ?_,?_⟩
 . simp only[dot,aZ];grind
 . simp only[dot,aZ];grind
 intro h;rw[hn] at h;have h2:=te (aZ (vec p a b) (vec p a c)) (vec p a b) (vec p a c);rw[h] at h2;exact absurd (PY (a:=aZ (vec p a b) (vec p a c)) (by simp only[dO] at h2;omega)) hw
theorem pP.uniq (F:pP p N n d) {d':Int} (F':pP p N n d'):d=d':=by obtain⟨a,_,_,ha,_,_,_,_,e⟩:=F.tri;obtain⟨b,_,_,hb,_,_,_,_,e'⟩:=F'.tri;have :=F.le b hb;have :=F'.le a ha;omega
theorem OC (α β:Nat->Int):∀(l:List Nat),l≠[]->(∀k∈l,0<α k)->∃q∈l,∀k∈l,β q*α k<=β k*α q
 |[],h,_=>absurd rfl h
 |[x],_,_=>⟨x,by simp,by simp⟩
 |x::y::l,_,h=>by
  obtain⟨q,hq,hm⟩:=OC α β (y::l) (by simp) fun k hk=>h k (by simp only[Am] at hk ⊢;exact .inr hk)
  by_cases hx:β q*α x<=β x*α q
  . refine⟨q,Aw _ hq,fun k hk=>?_⟩
    rcases Am.1 hk with rfl|hk
    . exact hx
    exact hm k hk
  refine⟨x,Ar,fun k hk=>?_⟩
  rcases Am.1 hk with rfl|hk
  . exact Int.le_refl _
  have h1:=hm k hk;have aq:=h q (Aw _ hq);have ax:=h x Ar;have ak:=h k (Aw _ hk);refine Int.le_of_mul_le_mul_left (a:=α q) ?_ aq;have e1:α k*(β x*α q)<=α k*(β q*α x):=Ek (by omega) (by omega);have e2:α x*(β q*α k)<=α x*(β k*α q):=Ek h1 (by omega);have r1:α q*(β x*α k)=α k*(β x*α q):=by grind
  have r2:α k*(β q*α x)=α x*(β q*α k):=by grind
  have r3:α x*(β k*α q)=α q*(β k*α x):=by grind
  omega
theorem pP.adj (F:pP p N n d) (A:qd p N) {a b:Nat} (ha:a∈kC p N n d) (h:Sd n p (kC p N n d) a b):
 ∃n' d',pP p N n' d'/\a∈kC p N n' d'/\b∈kC p N n' d'/\Sd n' p (kC p N n' d') b a/\∃q∈kC p N n' d',q∉kC p N n d:=by
 have H:=F.ZS.pl A;have hb:=h.1;have hE:=dF (H.ne ha hb h.2.1);have haN:=dW.1 ha;have hbN:=dW.1 hb
 let α:Nat->Int:=fun k=> -dot n (vec p a k)
 let β:Nat->Int:=fun k=>dO n (vec p a b) (vec p a k)
 have hα:∀k,k<N->0<=α k:=fun k hk=>by have :=F.le k hk;show 0<=-dot n (vec p a k);rw[nJ];omega
 have hα0:∀k,k<N->α k=0->k∈kC p N n d:=fun k hk e=>by rw[dW];refine⟨hk,?_⟩;have : -dot n (vec p a k)=0:=e;rw[nJ] at this;omega
 obtain⟨k0,hk0,bIv⟩:=F.lt
 obtain⟨q,hq,aVg⟩:=OC α β ((List.range N).filter fun k=>decide (0<α k)) (by
  intro e
  have :k0∈(List.range N).filter fun k=>decide (0<α k):=by simp only[Fg,Au,Bd];refine⟨hk0,?_⟩;show 0< -dot n (vec p a k0);rw[nJ];omega
  rw[e] at this;cases this) (fun k hk=>by simp only[Fg,Bd] at hk;exact hk.2)
 simp only[Fg,Au,Bd] at hq aVg;obtain⟨hqN,hαq⟩:=hq;have cP:dot n (vec p a b)=0:=H.pl a ha b hb
 have key:∀k,dot n n*dot (aZ (vec p a b) (vec p a q)) (vec p a k)=β k*α q -β q*α k:=fun k=>by
  have :=EO n (vec p a b) (vec p a q) (vec p a k) n;rw[jX (vec p a b) n,jX (vec p a q) n,jX (vec p a k) n,cP] at this;have e2:dO (vec p a b) (vec p a q) (vec p a k)=dot (aZ (vec p a b) (vec p a q)) (vec p a k):=by simp only[dO,dot,aZ];grind
  have e3:=AD n (vec p a b) (vec p a k);rw[e2] at this;show _=dO n (vec p a b) (vec p a k)*(-dot n (vec p a q)) -dO n (vec p a b) (vec p a q)*(-dot n (vec p a k));rw[e3] at this
  grind
 have hnn:=dF F.ZS.hn
 have side:∀k,k<N->0<=dot (aZ (vec p a b) (vec p a q)) (vec p a k):=fun k hk=>by
  refine qP hnn ?_;rw[key];by_cases hz:0<α k
  . have :=aVg k ⟨hk,hz⟩;omega
  have hz:α k=0:=by have :=hα k hk;omega
  rw[hz,Gs,Int.sub_zero];exact Int.mul_nonneg (h.2.2 k (hα0 k hk hz)).1 (by omega)
 have hN0:aZ (vec p a b) (vec p a q)≠V0:=by
  intro e;have h1:dot (aZ n (vec p a b)) (aZ n (vec p a b))=dot n n*dot (vec p a b) (vec p a b) -dot n (vec p a b)*dot n (vec p a b):=by simp only[dot,aZ];grind
  have h2:dot (aZ n (vec p a b)) (aZ (vec p a b) (vec p a q))=dot n (vec p a b)*dot (vec p a b) (vec p a q) -dot n (vec p a q)*dot (vec p a b) (vec p a b):=by simp only[dot,aZ];grind
  rw[e,cP] at h2;have h3:dot (aZ n (vec p a b)) V0=0:=by simp[dot,V0]
  have h4:0<α q*dot (vec p a b) (vec p a b):=Io hαq hE;have h5:α q= -dot n (vec p a q):=rfl;rw[h5,Im] at h4;omega
 have aVo:aZ (vec p a q) (vec p a b)=smul (-1) (aZ (vec p a b) (vec p a q)):=by simp only[aZ,smul,V.mk.injEq];grind
 have aUq:aZ (vec p a q) (vec p a b)≠V0:=fun e=>hN0 (by
  rw[aVo] at e;simp only[smul,V0,V.mk.injEq] at e
  exact V.ext' (by simp only[V0];omega) (by simp only[V0];omega) (by simp only[V0];omega))
 have hg:=uE aUq;generalize JN:gK (aZ (vec p a q) (vec p a b))=n'
 have dn:∀v:V,(gG (aZ (vec p a q) (vec p a b)):Int)*dot n' v= -dot (aZ (vec p a b) (vec p a q)) v:=fun v=>by rw[<-JN,AG,aVo];simp only[dot,smul];grind
 have on:∀k,k<N->(k∈kC p N n' (dot n' (p a))↔dot (aZ (vec p a b) (vec p a q)) (vec p a k)=0):=fun k hk=>by
  rw[dW];have :=dn (vec p a k);rw[nJ n'] at this;constructor
  . rintro⟨_,e⟩;rw[e,Int.sub_self,Gs] at this;omega
  intro e;rw[e] at this;have :=eN (by omega) (show(gG (aZ (vec p a q) (vec p a b)):Int)*(dot n' (p k) -dot n' (p a))=0 by omega);exact⟨hk,by omega⟩
 have hd0:∀k,k<N->dot n' (p k)<=dot n' (p a):=fun k hk=>by have h1:=dn (vec p a k);have h2:=side k hk;rw[nJ n'] at h1;have h3:=qP (c:=(gG (aZ (vec p a q) (vec p a b)):Int)) (a:= -(dot n' (p k) -dot n' (p a))) (by omega) (by rw[Int.mul_neg];omega);omega
 have ha':a∈kC p N n' (dot n' (p a)):=dW.2 ⟨haN.1,rfl⟩;have CV:b∈kC p N n' (dot n' (p a)):=(on b hbN.1).2 (by simp only[dot,aZ];grind);have jy:q∈kC p N n' (dot n' (p a)):=(on q hqN).2 (by simp only[dot,aZ];grind);refine⟨n',dot n' (p a),⟨hd0,?_,a,q,b,haN.1,hqN,hbN.1,aUq,JN.symm,rfl⟩,ha',CV,⟨ha',fun e=>h.2.1 e.symm,fun k hk=>?_⟩,q,jy,fun hqo=>?_⟩
 ·
  refine Cq fun hc=>?_
  have all:∀k∈kC p N n d,dO n (vec p a b) (vec p a k)=0:=fun k hk=>by
   have hkN:=dW.1 hk
   have h1:dot n' (p k)=dot n' (p a):=by
    have :=hd0 k hkN.1
    rcases En this with h|h
    . exact absurd ⟨k,hkN.1,h⟩ hc
    exact h
   have h2:=key k;rw[(on k hkN.1).1 (dW.2 ⟨hkN.1,h1⟩)] at h2;have h3:α k=0:=(by show -dot n (vec p a k)=0;rw[H.pl a ha k hk];rfl);rw[h3,Gs,Gs,Int.sub_zero] at h2;have h4:α q*β k=0:=(by rw[Int.mul_comm];exact h2.symm);exact eN hαq h4
  obtain⟨x,hx,y,hy,z,hz,bGd⟩:=F.ZS.tri;refine bGd ?_;have l1:∀(c:Int) (u v:V),dO n (smul c u) v=c*dO n u v:=fun c u v=>by simp only[dO,dot,aZ,smul];grind
  have qq:∀k l:Nat,k∈kC p N n d->l∈kC p N n d->dO n (vec p a k) (vec p a l)=0:=by intro k l hk hl;have pk:=para H.hn (H.pl a ha b hb) (H.pl a ha k hk) (all k hk);refine eN hE ?_;rw[<-l1,pk,l1,all l hl,Gs]
  have r:∀u v w:V,dO n (sub u v) (sub w v)=dO n u w -dO n u v -dO n v w:=fun u v w=>by simp only[dO,dot,aZ,sub];grind
  rw[yL p a x y,yL p a x z,r,qq y z hy hz,qq y x hy hx,qq x z hx hz];rfl
 ·
  have hkN:=dW.1 hk;have hkz:=(on k hkN.1).1 hk
  have hde:dO (vec p a b) (vec p a q) (vec p a k)=0:=by have e2:dO (vec p a b) (vec p a q) (vec p a k)=dot (aZ (vec p a b) (vec p a q)) (vec p a k):=(by simp only[dO,dot,aZ];grind);rw[e2,hkz]
  have hnv:dot n (vec p a k)<=0:=by have :=hα k hkN.1;show dot n (vec p a k)<=0;have h5:α k= -dot n (vec p a k):=rfl;omega
  have hnu:dot n (vec p a q)<0:=by have h5:α q= -dot n (vec p a q):=rfl;omega
  have e1:dO n' (vec p b a) (vec p b k)= -dO n' (vec p a b) (vec p a k):=by simp only[vec,dO,dot,aZ,sub];grind
  have e2:(gG (aZ (vec p a q) (vec p a b)):Int)*dO n' (vec p b a) (vec p b k)=dot (aZ (vec p a b) (vec p a q)) (aZ (vec p a b) (vec p a k)):=by rw[e1,Int.mul_neg];have :=dn (aZ (vec p a b) (vec p a k));simp only[dO];omega
  generalize he:vec p a b=e at *;generalize vec p a q=u at *;generalize hv:vec p a k=v at *
  have c1:dot n u*(aZ e v).x=dot n v*(aZ e u).x:=by have :dot n u*(aZ e v).x=dot n v*(aZ e u).x -n.x*dO e u v -(aZ v u).x*dot n e:=(by simp only[dO,dot,aZ];grind);rw[hde,cP] at this;omega
  have c2:dot n u*(aZ e v).y=dot n v*(aZ e u).y:=by have :dot n u*(aZ e v).y=dot n v*(aZ e u).y -n.y*dO e u v -(aZ v u).y*dot n e:=(by simp only[dO,dot,aZ];grind);rw[hde,cP] at this;omega
  have c3:dot n u*(aZ e v).z=dot n v*(aZ e u).z:=by have :dot n u*(aZ e v).z=dot n v*(aZ e u).z -n.z*dO e u v -(aZ v u).z*dot n e:=(by simp only[dO,dot,aZ];grind);rw[hde,cP] at this;omega
  have hNN:=dF hN0
  have c4:dot n u*dot (aZ e u) (aZ e v)=dot n v*dot (aZ e u) (aZ e u):=by
   have :dot n u*dot (aZ e u) (aZ e v)=(aZ e u).x*(dot n u*(aZ e v).x)+(aZ e u).y*(dot n u*(aZ e v).y)+(aZ e u).z*(dot n u*(aZ e v).z):=by simp only[dot];grind
   rw[this,c1,c2,c3];simp only[dot];grind
  have c5:0<=dot (aZ e u) (aZ e v):=by refine qP (c:= -dot n u) (by omega) ?_;rw[Im,c4,<-Im];exact Int.mul_nonneg (by omega) (by omega)
  refine⟨qP (c:=(gG (aZ u e):Int)) (by omega) (by rw[e2];exact c5),fun hz=>?_⟩;rw[hz,Gs] at e2;rw[<-e2,Gs] at c4
  have bFi:dot n v=0:=by have :=eN (c:=dot (aZ e u) (aZ e u)) (a:=dot n v) hNN (by rw[Int.mul_comm];exact c4.symm);exact this
  have ow:k∈kC p N n d:=hα0 k hkN.1 (by show -dot n (vec p a k)=0;rw[hv];omega);rw[bFi,Int.zero_mul] at c1 c2 c3
  have hz':dO n e v=0:=by
   have z:∀c:Int,dot n u*c=0->c=0:=fun c hc=>by rcases Ju.1 hc with h|h<;>omega
   simp only[dO,dot];rw[z _ c1,z _ c2,z _ c3];simp
  have g:=(h.2.2 k ow).2;rw[hv,he] at g;have g:=g hz';have b1:dot (vec p b k) (vec p b a)=dot (vec p a b) (vec p a b) -dot (vec p a k) (vec p a b):=by simp only[vec,dot,sub];grind
  have b2:dot (vec p b a) (vec p b a)=dot (vec p a b) (vec p a b):=by simp only[vec,dot,sub];grind
  rw[b1,b2,hv,he];omega
 have :=dW.1 hqo;have h5:α q= -dot n (vec p a q):=rfl;rw[nJ] at h5;omega
theorem FY {n n':V} {d d':Int} (JN:n'≠V0) {a b c q:Nat} (ha:a∈kC p N n d) (hb:b∈kC p N n d) (hc:c∈kC p N n d) (h:dO n (vec p a b) (vec p a c)≠0)
 (ha':a∈kC p N n' d') (CV:b∈kC p N n' d') (hc':c∈kC p N n' d') (hq:q∈kC p N n' d'):q∈kC p N n d:=by
 have o:∀{n:V} {d:Int} {x y:Nat},x∈kC p N n d->y∈kC p N n d->dot n (vec p x y)=0:=fun {n d x y} hx hy=>by rw[nJ,(dW.1 hx).2,(dW.1 hy).2];omega
 have hz:=UM JN (o ha' CV) (o ha' hc') (o ha' hq);have :=EO n (vec p a b) (vec p a c) (vec p a q) n;rw[hz,jX (vec p a b) n,jX (vec p a c) n,jX (vec p a q) n,o ha hb,o ha hc] at this;have h2:dO n (vec p a b) (vec p a c)*dot n (vec p a q)=0:=by omega
 rcases Ju.1 h2 with h3|h3
 . exact absurd h3 h
 rw[nJ] at h3;exact dW.2 ⟨(dW.1 hq).1,by have :=(dW.1 ha).2;omega⟩
theorem pP.four (F:pP p N n d) (A:qd p N):∃n1 d1 n2 d2 n3 d3,pP p N n1 d1/\pP p N n2 d2/\pP p N n3 d3/\n1≠n/\n2≠n/\n3≠n/\n1≠n2/\n1≠n3/\n2≠n3:=by
 obtain⟨s,r,hsr⟩:=F.ZS.head;obtain⟨m,W⟩:=F.ZS.way A hsr;generalize uK n p (kC p N n d)=f at W;obtain⟨o0,s0⟩:=W.side 0;obtain⟨o1,s1⟩:=W.side 1;obtain⟨o2,s2⟩:=W.side 2;obtain⟨o3,_⟩:=W.side 3;obtain⟨n1,d1,F1,a1,b1,_,q1,JO,aSc⟩:=F.adj A o0 s0;obtain⟨n2,d2,F2,a2,b2,_,q2,SV,aVn⟩:=F.adj A o1 s1;obtain⟨n3,d3,F3,a3,b3,_,q3,xh,bFp⟩:=F.adj A o2 s2;have t0:=W.aUc F.ZS 0;have t1:=W.aUc F.ZS 1
 have oth:∀{n':V} {d':Int},pP p N n' d'->(∃q∈kC p N n' d',q∉kC p N n d)->n'≠n:=by rintro n' d' F' ⟨q,h1,h2⟩ rfl;rw[F.uniq F'] at h2;exact h2 h1
 refine⟨n1,d1,n2,d2,n3,d3,F1,F2,F3,oth F1 ⟨q1,JO,aSc⟩,oth F2 ⟨q2,SV,aVn⟩,oth F3 ⟨q3,xh,bFp⟩,?_,?_,?_⟩
 . rintro rfl;rw[F2.uniq F1] at a2 b2;exact aSc (FY F1.ZS.hn o0 o1 o2 (Jp t0) a1 b1 b2 JO)
 . rintro rfl;rw[F3.uniq F1] at a3 b3;exact aSc (FY F1.ZS.hn o0 o1 o2 (Jp t0) a1 b1 a3 JO)
 rintro rfl;rw[F3.uniq F2] at a3 b3;exact aVn (FY F2.ZS.hn o1 o2 o3 (Jp t1) a2 b2 b3 SV)
end
section
def neg (a:V):V:=⟨-a.x,-a.y,-a.z⟩
theorem neg_neg (a:V):neg (neg a)=a:=by simp[neg]
theorem Sy {a:V} (h:a≠V0):neg a≠V0:=fun e=>h (by
 have :=Bn neg e;rw[neg_neg] at this
 rw[this];rfl)
theorem aBw (a:V):gG (neg a)=gG a:=by simp[gG,neg,Int.gcd]
theorem IU (a:V):gK (neg a)=neg (gK a):=by have d1:(gG a:Int)∣a.x:=Ft ..;have d2:(gG a:Int)∣a.y:=Gu (Ec ..) (Ft ..);have d3:(gG a:Int)∣a.z:=Gu (Ec ..) (Ec ..);unfold gK;rw[aBw];simp only[neg];rw[Kf d1,Kf d2,Kf d3]
theorem pA (a b:V):dot (neg a) b= -dot a b:=by simp only[dot,neg];grind
variable {p:Nat->V} {N:Nat} {n:V} {d:Int}
def vU (p:Nat->V) (a b c:Nat) (n:V):Prop:=
 aZ (vec p a b) (vec p a c)≠V0/\(n=gK (aZ (vec p a b) (vec p a c))\/n=neg (gK (aZ (vec p a b) (vec p a c))))
theorem NP (a b c:Nat):aZ (vec p a c) (vec p a b)=neg (aZ (vec p a b) (vec p a c)):=by simp only[aZ,neg];apply V.ext'<;>simp only <;>grind
theorem Wx (a b c:Nat):aZ (vec p b a) (vec p b c)=neg (aZ (vec p a b) (vec p a c)):=by simp only[aZ,neg,vec,sub];apply V.ext'<;>simp only <;>grind
theorem vU.swap {a b c:Nat} (h:vU p a b c n):vU p a c b n:=by unfold vU at h ⊢;rw[NP a b c,IU,neg_neg];exact⟨Sy h.1,h.2.symm⟩
theorem vU.rV {a b c:Nat} (h:vU p a b c n):vU p b a c n:=by unfold vU at h ⊢;rw[Wx a b c,IU,neg_neg];exact⟨Sy h.1,h.2.symm⟩
theorem vU.aUh {a b c:Nat} (h:vU p a b c n):dot n (p b)=dot n (p a)/\dot n (p c)=dot n (p a):=by
 have hg:=uE h.1
 have key:∀k,dot (aZ (vec p a b) (vec p a c)) (vec p a k)=0->dot n (p k)=dot n (p a):=by
  intro k hk;rw[<-AG] at hk;have h2:=eN (by omega) hk
  have h3:dot n (vec p a k)=0:=by
   rcases h.2 with rfl|rfl
   . exact h2
   rw[pA,h2];rfl
  rw[nJ] at h3;omega
 exact⟨key b (by simp only[dot,aZ];grind),key c (by simp only[dot,aZ];grind)⟩
theorem vU.ne {a b c:Nat} (h:vU p a b c n):a≠b/\a≠c/\b≠c:=by refine⟨?_,?_,?_⟩<;>rintro rfl<;>refine h.1 ?_<;>simp only[aZ,vec,sub,V0]<;>apply V.ext'<;>simp only <;>grind
theorem vU.isF {a b c:Nat} (h:vU p a b c n) (ha:a<N) (hb:b<N) (hc:c<N) (le:∀k,k<N->dot n (p k)<=d) (lt:∃k,k<N/\dot n (p k)<d) (hd:d=dot n (p a)):pP p N n d:=by
 rcases h.2 with e|e
 . exact⟨le,lt,a,b,c,ha,hb,hc,h.1,e,hd⟩
 refine⟨le,lt,a,c,b,ha,hc,hb,h.swap.1,?_,hd⟩;rw[NP,IU];exact e
theorem pP.bDs (F:pP p N n d):∃a b c,a<N/\b<N/\c<N/\vU p a b c n/\d=dot n (p a):=by obtain⟨a,b,c,ha,hb,hc,hw,hn,hd⟩:=F.tri;exact⟨a,b,c,ha,hb,hc,⟨hw,.inl hn⟩,hd⟩
theorem pP.up (F:pP p N n d):∃i j k,i<j/\j<k/\k<N/\vU p i j k n/\d=dot n (p i):=by
 obtain⟨a,b,c,ha,hb,hc,h,hd⟩:=F.bDs
 have ho:∃a b c,b<c/\a<N/\b<N/\c<N/\vU p a b c n/\d=dot n (p a):=by
  have hn:=h.ne;by_cases hbc:b<c
  . exact⟨a,b,c,hbc,ha,hb,hc,h,hd⟩
  exact⟨a,c,b,by omega,ha,hc,hb,h.swap,hd⟩
 obtain⟨a,b,c,hbc,ha,hb,hc,h,hd⟩:=ho;have hn:=h.ne;have hs:=h.aUh;by_cases h1:a<b
 . exact⟨a,b,c,h1,hbc,hc,h,hd⟩
 by_cases h2:a<c
 . exact⟨b,a,c,by omega,h2,hc,h.rV,by rw[hs.1];exact hd⟩
 exact⟨b,c,a,hbc,by omega,ha,h.rV.swap,by rw[hs.1];exact hd⟩
theorem pP.down (F:pP p N n d):∃i j k,k<j/\j<i/\i<N/\vU p i j k n/\d=dot n (p i):=by obtain⟨i,j,k,h1,h2,h3,h,hd⟩:=F.up;have hs:=h.aUh;exact⟨k,j,i,h1,h2,h3,h.rV.swap.rV,by rw[hs.2];exact hd⟩
theorem iU.j8 (a:V):¬iU a a:=by unfold iU;omega
theorem iU.trans {a b c:V} (h:iU a b) (h':iU b c):iU a c:=by unfold iU at *;omega
theorem iU.total {a b:V} (h:a≠b):iU a b\/iU b a:=by refine Cq fun hc=>h ?_;unfold iU at hc;apply V.ext'<;>omega
theorem BJ {α:Type} {R:α->α->Prop} (ir:∀a,¬R a a) (tr:∀{a b c},R a b->R b c->R a c):∀{l l':List α},l.Pairwise R->l'.Pairwise R->(∀x,x∈l↔x∈l')->l=l'
 |[],[],_,_,_=>rfl
 |[],y::l',_,_,h=>absurd ((h y).2 Ar) (by simp)
 |x::l,[],_,_,h=>absurd ((h x).1 Ar) (by simp)
 |x::l,y::l',hl,oU,h=>by
  rw[Ck] at hl oU
  have hxy:x=y:=by
   rcases Am.1 ((h x).1 Ar) with e|e
   . exact e
   rcases Am.1 ((h y).2 Ar) with e'|e'
   . exact e'.symm
   exact absurd (tr (oU.1 x e) (hl.1 y e')) (ir y)
  subst hxy;rw[BJ ir tr hl.2 oU.2 fun z=>⟨fun hz=>?_,fun hz=>?_⟩]
  . rcases Am.1 ((h z).1 (Aw _ hz)) with e|e
    . subst e;exact absurd (hl.1 z hz) (ir z)
    exact e
  rcases Am.1 ((h z).2 (Aw _ hz)) with e|e
  . subst e;exact absurd (oU.1 z hz) (ir z)
  exact e
structure oW (p:Nat->V) (N:Nat) (L:List (V×Int)):Prop where
 mem:∀q,q∈L↔pP p N q.1 q.2
 Rb:L.Pairwise fun a b=>iU a.1 b.1
theorem oW.uniq {L L':List (V×Int)} (h:oW p N L) (h':oW p N L'):L=L':=
 BJ (R:=fun a b=>iU a.1 b.1) (fun a=>iU.j8 _) (fun {a b c} h h'=>iU.trans (a:=a.1) (b:=b.1) (c:=c.1) h h') h.Rb h'.Rb fun q=>(h.mem q).trans (h'.mem q).symm
theorem oW.bg {K S:List (V×Int)} (hn:K.Nodup) (hm:∀q,q∈K↔pP p N q.1 q.2) (hp:S.Perm K) (hs:S.Pairwise fun a b=>¬iU b.1 a.1):oW p N S where
 mem:=fun q=>(hp.mem_iff).trans (hm q)
 Rb:=by
  have hnS:S.Nodup:=hp.nodup_iff.2 hn;have gR:∀q∈S,pP p N q.1 q.2:=fun q hq=>(hm q).1 (hp.mem_iff.1 hq);have h2:S.Pairwise fun a b=>a≠b/\¬iU b.1 a.1:=List.Pairwise.and hnS hs;refine Ji (fun {a b} ha hb GC=>?_) h2;by_cases he:a.1=b.1
  . have :=(gR a ha).uniq (d':=b.2) (by rw[he];exact gR b hb);exact absurd (Prod.ext he this) GC.1
  exact(iU.total he).resolve_right GC.2
theorem oW.four {L:List (V×Int)} (h:oW p N L) (A:qd p N) (cP:L≠[]):4<=L.length:=by
 cases L with
 |nil=>exact absurd rfl cP
 |cons q r=>
  obtain⟨n1,d1,n2,d2,n3,d3,f1,f2,f3,e1,e2,e3,e4,e5,e6⟩:=((h.mem q).1 Ar).four A
  have Pj:[q,(n1,d1),(n2,d2),(n3,d3)].Nodup:=by simp only[Js,Am,Bg,Dd,not_or,Hw,Ka,Jy,Ai,not_and];refine⟨⟨fun e=>e1 (by rw[e]),fun e=>e2 (by rw[e]),fun e=>e3 (by rw[e])⟩,⟨fun e=>absurd e e4,fun e=>absurd e e5⟩,fun e=>absurd e e6⟩
  have FK:[q,(n1,d1),(n2,d2),(n3,d3)] ⊆ q::r:=by
   intro x hx;simp only[Am,Bg,Dd] at hx
   rcases hx with rfl|rfl|rfl|rfl
   . exact Ar
   . exact(h.mem _).2 f1
   . exact(h.mem _).2 f2
   exact(h.mem _).2 f3
  have :=List.Nodup.length_le_of_subset Pj FK;simpa using this
end
section
variable {p:Nat->V} {N:Nat} {n:V} {d:Int}
structure Poly (p:Nat->V) (N:Nat) (n:V) (d:Int) (L:List Nat):Prop where
 ex:∃s r m,kC p N n d=s::r/\Way n p (kC p N n d) s m (uK n p (kC p N n d))/\L=(List.range m).map fun i=>iter (uK n p (kC p N n d)) i s
theorem Poly.exists (A:qd p N) (F:ql p N n d):∃L,Poly p N n d L:=by obtain⟨s,r,h⟩:=F.head;obtain⟨m,W⟩:=F.way A h;exact⟨_,⟨s,r,m,h,W,rfl⟩⟩
theorem Poly.uniq {L L':List Nat} (h:Poly p N n d L) (h':Poly p N n d L'):L=L':=by
 obtain⟨s,r,m,e,W,rfl⟩:=h.ex;obtain⟨s',r',m',e',W',rfl⟩:=h'.ex;rw[e] at e';cases e'
 have :m=m':=by
  rcases Jf m m' with hl|he|hl
  . exact absurd W.back (W'.first m W.pos hl)
  . exact he
  exact absurd W'.back (W.first m' W'.pos hl)
 rw[this]
def Next (L:List Nat) (a b:Nat):Prop:=∃i,i<L.length/\L[i]?=some a/\L[(i+1)%L.length]?=some b
theorem Poly.wT {L:List Nat} (h:Poly p N n d L) {a b:Nat}:Next L a b↔a∈kC p N n d/\Sd n p (kC p N n d) a b:=by
 obtain⟨s,r,m,e,W,rfl⟩:=h.ex;have hlen:((List.range m).map fun i=>iter (uK n p (kC p N n d)) i s).length=m:=by simp
 have cW:∀i,i<m->((List.range m).map fun i=>iter (uK n p (kC p N n d)) i s)[i]?=some (iter (uK n p (kC p N n d)) i s):=fun i hi=>by rw[Cw,Is hi];rfl
 have aIz:∀i,i<m->((List.range m).map fun i=>iter (uK n p (kC p N n d)) i s)[(i+1)%m]?=some (iter (uK n p (kC p N n d)) (i+1) s):=fun i hi=>by
  by_cases hm:i+1<m
  . rw[Dl hm,cW _ hm]
  have :i+1=m:=by omega
  rw[this,Nat.mod_self,cW 0 W.pos,W.back];rfl
 unfold Next;rw[hlen];constructor
 . rintro⟨i,hi,h1,h2⟩;rw[cW i hi] at h1;rw[aIz i hi] at h2;cases h1;cases h2;exact W.side i
 rintro⟨ha,hS⟩;obtain⟨i,hi,rfl⟩:=W.cover ha hS;refine⟨i,hi,cW i hi,?_⟩;rw[aIz i hi,(W.side i).2.uniq W.H (W.side i).1 hS]
theorem Poly.back (A:qd p N) (F:pP p N n d) {L:List Nat} (h:Poly p N n d L) {a b:Nat} (hn:Next L a b):
 ∃n' d' L',pP p N n' d'/\Poly p N n' d' L'/\Next L' b a:=by
 obtain⟨ha,hS⟩:=h.wT.1 hn;obtain⟨n',d',F',ha',CV,hS',_⟩:=F.adj A ha hS;obtain⟨L',h'⟩:=Poly.exists A F'.ZS;exact⟨n',d',L',F',h',h'.wT.2 ⟨CV,hS'⟩⟩
theorem Poly.aSt {L:List Nat} (h:Poly p N n d L) {k:Nat} (hk:k∈L):k∈kC p N n d:=by obtain⟨s,r,m,e,W,rfl⟩:=h.ex;simp only[Bj,Au] at hk;obtain⟨i,hi,rfl⟩:=hk;exact(W.side i).1
theorem Poly.RH {L:List Nat} (h:Poly p N n d L) {k:Nat} (hk:k∈L):aP.RH n p (kC p N n d) k=some (uK n p (kC p N n d) k):=by obtain⟨s,r,m,e,W,rfl⟩:=h.ex;simp only[Bj,Au] at hk;obtain⟨i,hi,rfl⟩:=hk;exact yy W.H (W.side i).1 (W.side i).2
def Yk (n:V) (a b:List V):Prop:=∀u∈a,∀v∈b,dot n u<=dot n v
def Sep (a b:List V) (n:V):Prop:=Yk n a b\/Yk n b a
theorem Sep.symm {a b:List V}:Sep a b n↔Sep b a n:=Or.comm
theorem Sep.neg {a b:List V}:Sep a b (aP.neg n)↔Sep a b n:=by
 unfold Sep Yk;simp only[pA];constructor
 . rintro(h|h)
   . exact .inr fun u hu v hv=>by have :=h v hv u hu;omega
   exact .inl fun u hu v hv=>by have :=h v hv u hu;omega
 rintro(h|h)
 . exact .inr fun u hu v hv=>by have :=h v hv u hu;omega
 exact .inl fun u hu v hv=>by have :=h v hv u hu;omega
theorem Ww (a b:V):aZ b a=aP.neg (aZ a b):=by simp only[aZ,aP.neg];apply V.ext'<;>simp only <;>grind
end
theorem natAbs_tmod (a b:Int):(a.tmod b).natAbs=a.natAbs%b.natAbs:=by
 first
  |exact Int.natAbs_tmod a b
  |(cases a<;>cases b<;>simp only[Int.tmod,Kc,Em,Int.natAbs_negSucc,Int.ofNat_eq_natCast,Nat.succ_eq_add_one]<;>rfl)
theorem Ng (a b:Int):Int.gcd b (a.tmod b)=Int.gcd a b:=by unfold Int.gcd;rw[natAbs_tmod,Hx a.natAbs,Nat.gcd_rec b.natAbs a.natAbs];rw[Hx]
theorem aEn (a:Int):(Int.gcd a 0:Int)=if a< -a then -a else a:=by simp only[Int.gcd_zero_right];split<;>omega
theorem PD (v:V):Int.gcd (Int.gcd v.x v.y) v.z=gG v:=by unfold gG Int.gcd;simp only[Em];exact Nat.gcd_assoc _ _ _
theorem zx {v:V} (h:gG v<=1):gK v=v:=by
 unfold gK
 rcases Gp 0 (gG v) with h0|h0
 . have :gG v=1:=by omega
   rw[this];simp
 have hz:gG v=0:=by omega
 have hv:v=V0:=by refine Cq fun hc=>?_;have :=uE hc;omega
 subst hv;rw[hz];simp[V0]
theorem RO (v:V):gK v=⟨v.x.tdiv (gG v),v.y.tdiv (gG v),v.z.tdiv (gG v)⟩:=by have d1:(gG v:Int)∣v.x:=Ft ..;have d2:(gG v:Int)∣v.y:=Gu (Ec ..) (Ft ..);have d3:(gG v:Int)∣v.z:=Gu (Ec ..) (Ec ..);unfold gK;rw[Hv d1,Hv d2,Hv d3]
def cH (B:Nat) (v:V):Prop:=v.x.natAbs<=B/\v.y.natAbs<=B/\v.z.natAbs<=B
theorem cE {a b:Int} {A B:Nat} (ha:a.natAbs<=A) (hb:b.natAbs<=B):(a*b).natAbs<=A*B:=by rw[Ga];exact Bt ha hb
theorem AF {a b:V} {A B:Nat} (ha:cH A a) (hb:cH B b):(dot a b).natAbs<=3*(A*B):=by have h1:=cE ha.1 hb.1;have h2:=cE ha.2.1 hb.2.1;have h3:=cE ha.2.2 hb.2.2;unfold dot;omega
theorem nO {a b:V} {A B:Nat} (ha:cH A a) (hb:cH B b):cH (2*(A*B)) (aZ a b):=by
 obtain⟨a1,a2,a3⟩:=ha;obtain⟨b1,b2,b3⟩:=hb;refine⟨?_,?_,?_⟩<;>simp only[aZ]
 . have h1:=cE a2 b3;have h2:=cE a3 b2;omega
 . have h1:=cE a3 b1;have h2:=cE a1 b3;omega
 have h1:=cE a1 b2;have h2:=cE a2 b1;omega
theorem gL {a b:V} {A B:Nat} (ha:cH A a) (hb:cH B b):cH (A+B) (sub a b):=by obtain⟨a1,a2,a3⟩:=ha;obtain⟨b1,b2,b3⟩:=hb;refine⟨?_,?_,?_⟩<;>simp only[sub]<;>omega
theorem sW {v:V} {B:Nat} (h:cH B v):cH B (gK v):=by
 rw[RO]
 have key:∀a:Int,a.natAbs<=B->(a.tdiv (gG v)).natAbs<=B:=fun a ha=>by rw[Int.natAbs_tdiv];exact Ce (Jr _ _) ha
 exact⟨key _ h.1,key _ h.2.1,key _ h.2.2⟩
theorem IK {v:V} {B:Nat} (h:cH B v):cH B (neg v):=by obtain⟨a1,a2,a3⟩:=h;refine⟨?_,?_,?_⟩<;>simp only[neg]<;>omega
end Go.aP
namespace Go.Av
open Go Go.uG
def wC (l:List Nat):List AV:=l.map fun(n:Nat)=>AV.int .u32 n
theorem dM (l:List Nat):(wC l).length=l.length:=by simp[wC]
def zs:List Nat:=List.replicate 16 0
theorem aTw:[AV.int .u32 0,.int .u32 0,.int .u32 0,.int .u32 0,.int .u32 0,.int .u32 0,.int .u32 0,.int .u32 0,.int .u32 0,.int .u32 0,.int .u32 0,.int .u32 0,.int .u32 0,.int .u32 0,.int .u32 0,.int .u32 0]=wC zs:=rfl
def Rt (l:List Nat):Prop:=l.length=16/\∀d∈l,d<W
theorem Rt.zs:Rt zs:=⟨rfl,fun d hd=>by rw[Hk hd];decide⟩
theorem Rt.bJ (n:Nat):Rt (bJ 16 n):=⟨cU _ _,IC⟩
theorem aHv {l:List Nat} {n:Nat} (h:l.length<=n):(wC l).take n=wC l:=As (by rw[dM];exact h)
theorem aHu {l:List Nat} {n:Nat} (h:l.length<=n):(wC l).drop n=[]:=Cc (by rw[dM];exact h)
theorem vA {l:List Nat} {i:Nat} (h:i<l.length):(wC l).getD i aC=.int .u32 (l.getD i 0):=by unfold wC;rw[Bf,Bf,Cw,Ad h];rfl
theorem CS {l:List Nat} {i:Nat} (h:i<l.length) (x:Nat):fW (wC l) i [.int .u32 (x:Int)]=wC (l.set i x):=by unfold fW wC;rw[Hz,Er,if_pos (by simpa using h)];simp
theorem QY:∀(a b:List Nat),a.length=b.length->cK (List.replicate a.length .i) (wC a) (wC b)=some (decide (a=b))
 |[],[],_=>rfl
 |[],y::b,h=>by simp at h
 |x::a,[],h=>by simp at h
 |x::a,y::b,h=>by have ih:=QY a b (by simpa using h);simp only[wC,Cd,Aq,Fk,cK,if_true] at ih ⊢;rw[ih];by_cases hx:x=y<;>by_cases GC:a=b<;>simp[hx,GC]<;>omega
theorem QX {a b:List Nat} (ha:a.length=16) (hb:b.length=16):cK [.i,.i,.i,.i,.i,.i,.i,.i,.i,.i,.i,.i,.i,.i,.i,.i] (wC a) (wC b)=some (decide (a=b)):=by
 have :=QY a b (by omega)
 rwa [ha] at this
def cI (z:Int):List AV:=.bool false::.bool (decide (z<0))::wC (bJ 16 z.natAbs)
def EK:List AV:=.bool true::.bool false::wC zs
def cO:Option Int->List AV
 |some z=>cI z
 |none=>EK
def norm (z:Int):Option Int:=if z.natAbs<W^16 then some z else none
def sg (neg:Bool) (n:Nat):Int:=if neg then -(n:Int) else n
def DM (b n:Bool) (l:List Nat):Bool:= !b&&(!n|| !decide (l=zs))
def Py (b n:Bool) (l:List Nat):Option Int:=if DM b n l then some (sg n (CH l)) else none
def mA (v:List AV) (x:Option Int):Prop:=∃b n l,Rt l/\v=.bool b::.bool n::wC l/\x=Py b n l
theorem Xu:CH zs=0:=by decide
theorem FM:bJ 16 0=zs:=by decide
theorem a8 {l:List Nat} (h:Rt l):CH l<W^16:=by
 have :=TA l h.2
 rwa [h.1] at this
theorem KR {l:List Nat} (h:Rt l):bJ 16 (CH l)=l:=by
 have :=RA h.2
 rwa [h.1] at this
theorem AZ {l:List Nat} (h:Rt l):CH l=0↔l=zs:=by
 constructor
 . intro e;rw[<-KR h,e,FM]
 rintro rfl;exact Xu
theorem kW (n:Bool) (m:Nat):(sg n m).natAbs=m:=by cases n<;>simp[sg]
theorem Rg {b n:Bool} {l:List Nat} {z:Int} (h:Rt l) (e:Py b n l=some z):b=false/\n=decide (z<0)/\l=bJ 16 z.natAbs/\z.natAbs<W^16:=by
 unfold Py at e;split at e
 . rename_i hg;obtain rfl:=Aa e;simp only[DM,Al,Cn,Dm,Bh] at hg;refine⟨hg.1,?_,?_,?_⟩
   . cases n with
     |false=>simp[sg]
     |true=>
      have :CH l≠0:=fun e=>by
       rcases hg.2 with h2|h2
       . cases h2
       exact h2 ((AZ h).1 e)
      simp[sg];omega
   . rw[kW,KR h]
   rw[kW];exact a8 h
 cases e
theorem mA.some {v:List AV} {z:Int} (h:mA v (some z)):v=cI z/\z.natAbs<W^16:=by obtain⟨b,n,l,hl,rfl,hv⟩:=h;obtain⟨rfl,rfl,rfl,h4⟩:=Rg hl hv.symm;exact⟨rfl,h4⟩
theorem aBu {z:Int} (h:z.natAbs<W^16):Py false (decide (z<0)) (bJ 16 z.natAbs)=Option.some z:=by
 have :DM false (decide (z<0)) (bJ 16 z.natAbs)=true:=by
  simp only[DM,Gb,Co,Dm,Cn,Bh];by_cases hz:z<0
  . refine .inr fun e=>?_;have :=jB h;rw[e,Xu] at this;omega
  exact .inl hz
 unfold Py;rw[if_pos this,jB h];congr 1;by_cases hz:z<0<;>simp[sg,hz]<;>omega
theorem mA.enc {z:Int} (h:z.natAbs<W^16):mA (cI z) (Option.some z):=⟨false,_,_,.bJ _,rfl,(aBu h).symm⟩
theorem mA.bad:mA EK none:=⟨true,false,zs,.zs,rfl,rfl⟩
theorem ke {z x:Int} (h:norm z=Option.some x):x=z/\z.natAbs<W^16:=by
 unfold norm at h;split at h
 . rename_i hz;exact⟨(Aa h).symm,hz⟩
 cases h
theorem mA.norm (z:Int):mA (cO (Av.norm z)) (Av.norm z):=by
 cases h:Av.norm z with
 |none=>exact .bad
 |some x=>exact .enc (by obtain⟨rfl,h2⟩:=ke h;exact h2)
theorem Ud:∀l,bO (wC l)=true
 |[]=>rfl
 |x::l=>by simp only[wC,Cd,bO,AV.free,Co];exact Ud l
theorem sf:(∀l,bO (wC l)=true)/\(∀b,(AV.bool b).free=true)/\(∀k n,(AV.int k n).free=true)/\(∀s,(AV.str s).free=true)/\(∀cs,(AV.agg cs).free=bO cs)/\(∀cs,(AV.iA cs).free=bO cs)/\
 (∀sz aY,(AV.bB 1 sz aY).free=dR aY)/\(∀sz aY,(AV.bB 0 sz aY).free=dR aY)/\(∀x r,bO (x::r)=(x.free&&bO r))/\(bO []=true)/\(∀x r,dR (x::r)=(bO x&&dR r))/\(dR []=true)/\(∀b,(b&&true)=b)/\(∀b,(true&&b)=b)/\
 AV.aR.free=true/\AV.KV.free=true/\AV.wV.free=true:=
 ⟨Ud,fun _=>by simp only[AV.free],fun _ _=>by simp only[AV.free],fun _=>by simp only[AV.free],fun _=>by simp only[AV.free],fun _=>by simp only[AV.free],fun _ _=>by simp[AV.free],fun _ _=>by simp[AV.free],fun _ _=>by simp only[bO],by simp only[bO],fun _ _=>by simp only[dR],by simp only[dR],Fa,Co,by simp only[AV.free],by simp only[AV.free],by simp only[AV.free]⟩
theorem dG (z:Int):bO (cI z)=true:=by simp only[cI,sf]
theorem SK (x:Option Int):bO (cO x)=true:=by cases x<;>simp only[cO,cI,EK,sf]
theorem sfI:bO EK=true/\(∀z,bO (cI z)=true)/\∀x,bO (cO x)=true:=⟨SK none,dG,SK⟩
theorem eJ {α:Type} {f:α->List AV} (h:∀x,bO (f x)=true):∀l:List α,dR (l.map f)=true
 |[]=>by simp only[Fp,dR]
 |x::l=>by simp only[Cd,dR,h,eJ h l,Cv]
theorem aB (k:IntKind) (n:Nat):asNat (.int k (n:Int))=some n:=by simp[asNat]
theorem sP:(∀k,asNat (.int k 0)=some 0)/\(∀k,asNat (.int k 1)=some 1)/\(∀k,asNat (.int k 2)=some 2)/\(∀k,asNat (.int k 3)=some 3):=⟨fun _=>rfl,fun _=>rfl,fun _=>rfl,fun _=>rfl⟩
theorem gJ {α:Type} {f:α->List AV} {l:List α} {i:Nat} (h:i<l.length):(l.map f).getD i []=f l[i]:=by simp[List.getD,h]
theorem aBq {α:Type} {p:α->Bool} {l:List α} {i:Nat} (h:i<l.length) (ht:(l.take i).all p=true):(l.take (i+1)).all p=p l[i]:=by rw[Ao,List.all_append,ht];simp[h]
structure zF where
 b:Bool
 n:Bool
 l:List Nat
 hl:Rt l
def zF.cells (r:zF):List AV:=.bool r.b::.bool r.n::wC r.l
def zF.XQ (r:zF):Bool:=DM r.b r.n r.l
theorem jc (r:zF):bO r.cells=true:=by simp only[zF.cells,sf]
theorem lE {a i:Nat} (h:i<16):(wC (bJ 16 a)).getD i aC=.int .u32 (bL a i):=by rw[vA (by rw[cU];exact h),kK h]
def JZ (a b:Nat):Int:=if a<b then -1 else if b<a then 1 else 0
theorem aDv {a b k:Nat} (h:a / W^(k+1)=b / W^(k+1)) (hk:bL a k≠bL b k):JZ a b=JZ (bL a k) (bL b k):=by
 unfold JZ
 rcases Nat.lt_or_gt_of_ne hk with hc|hc
 . have :=OJ h hc;rw[if_pos this,if_pos hc]
 have :=OJ h.symm hc;rw[if_neg (by omega),if_pos this,if_neg (by omega),if_pos hc]
def TE (i:Nat) (l:List Nat):List Nat:=l.take i++List.replicate (l.length -i) 0
theorem yA {i:Nat} {l:List Nat}:(TE i l).length=l.length:=by simp[TE];omega
theorem zt (l:List Nat):TE 0 l=List.replicate l.length 0:=by simp[TE]
theorem aGs (l:List Nat):TE l.length l=l:=by simp[TE]
theorem aGt {i:Nat} {l:List Nat} (h:i<l.length):(TE i l).set i (l.getD i 0)=TE (i+1) l:=by
 refine Fs (by simp[yA]) fun k h1 h2=>?_;have hk:k<l.length:=by rw[yA] at h2;exact h2
 rw[List.getElem_set];simp only[TE,List.getElem_append,Db,List.getElem_take,List.getElem_replicate];split
 . rename_i e;subst e;rw[dif_pos (by omega)];simp[List.getD,h]
 rename_i e
 split<;>split<;>first|rfl|omega
theorem Od (n:Nat):TE 0 (bJ 16 n)=zs:=by rw[zt,cU];rfl
theorem RM (n:Nat):TE 16 (bJ 16 n)=bJ 16 n:=by
 have :=aGs (bJ 16 n)
 rwa [cU] at this
theorem IS (i n:Nat):(wC (TE i (bJ 16 n))).length=16:=by rw[dM,yA,cU]
theorem kr {i n:Nat} (h:i<16) {x:Int} (hx:x=(bL n i:Nat)):fW (wC (TE i (bJ 16 n))) i [.int .u32 x]=wC (TE (i+1) (bJ 16 n)):=by rw[hx,CS (by rw[yA,cU];exact h),<-aGt (by rw[cU];exact h),kK h]
theorem Oc {i n:Nat} (h:i<16) {x:Int} (hx:x=(bL n i:Nat)):(wC (TE i (bJ 16 n))).take i++[AV.int .u32 x]++(wC (TE i (bJ 16 n))).drop (i+1)=wC (TE (i+1) (bJ 16 n)):=kr h hx
theorem Yw (u:Nat):IntKind.u32.wrap (u:Int)=((u%W:Nat):Int):=by simp[IntKind.wrap,IntKind.bits,IntKind.signed,W]
theorem rW {x:Int} {u:Nat} (h:u<2^64) (e:x=u\/x=u -2^64\/x=u+2^64):IntKind.u64.wrap x=u:=by simp only[IntKind.wrap,IntKind.bits,IntKind.signed];simp;omega
theorem NW (u:Nat):(u:Int).fdiv (2^min (Int.toNat 32) IntKind.u64.bits)=((u / W:Nat):Int):=by show(u:Int).fdiv (2^32)=_;rw[Jc _ (by decide)];rfl
def Wh:Option Int->Option Int->Option Int
 |some x,some y=>norm (x+y)
 |_,_=>none
def Xs:Option Int->Option Int
 |some x=>some (-x)
 |none=>none
theorem mA.raw {v:List AV} {x:Option Int} (h:mA v x):∃r:zF,v=r.cells/\x=Py r.b r.n r.l/\r.XQ=x.isSome:=by obtain⟨b,n,l,hl,rfl,rfl⟩:=h;refine⟨⟨b,n,l,hl⟩,rfl,rfl,?_⟩;simp only[zF.XQ,Py];split<;>rename_i h<;>simp[h]
theorem mA.len {v:List AV} {x:Option Int} (h:mA v x):v.length=18:=by obtain⟨b,n,l,hl,rfl,rfl⟩:=h;simp[dM,hl.1]
theorem mA.free {v:List AV} {x:Option Int} (h:mA v x):bO v=true:=by obtain⟨b,n,l,hl,rfl,rfl⟩:=h;simp only[sf]
theorem dY (z:Int):(cI z).length=18:=by simp[cI,dM,cU]
theorem Wo (x:Option Int):(cO x).length=18:=by
 cases x
 . simp[cO,EK,dM,zs]
 exact dY _
theorem oL {cs:List AV} {n:Nat} (h:cs.length=n):cs.length=n/\cs.take n=cs/\cs.drop n=[]:=⟨h,As (by omega),Cc (by omega)⟩
theorem cOl:(∀x,(cO x).length=18)/\(∀x,(cO x).take 18=cO x)/\(∀x,(cO x).drop 18=[])/\(∀x,(cI x).length=18)/\(∀x,(cI x).take 18=cI x)/\(∀x,(cI x).drop 18=[]):=
 ⟨Wo,fun x=>(oL (Wo x)).2.1,fun x=>(oL (Wo x)).2.2,dY,fun x=>(oL (dY x)).2.1,fun x=>(oL (dY x)).2.2⟩
theorem mA.add {x y:Option Int}:mA (cO (Wh x y)) (Wh x y):=by cases x<;>cases y<;>first|exact .norm _|exact .bad
theorem mA.neg {x:Option Int} {v:List AV} (h:mA v x):mA (cO (Xs x)) (Xs x):=by
 cases x with
 |none=>exact .bad
 |some z=>exact .enc (by have :=h.some.2;rwa [Kc])
def Xr:Option Int->Option Int->Option Int
 |some x,some y=>norm (x*y)
 |_,_=>none
def smO (x y:Nat->Option Int):Nat->Option Int
 |0=>some 0
 |i+1=>Wh (smO x y i) (Xr (x i) (y i))
theorem mA.mul {x y:Option Int}:mA (cO (Xr x y)) (Xr x y):=by cases x<;>cases y<;>first|exact .norm _|exact .bad
theorem mA.sm {x y:Nat->Option Int}:∀i,mA (cO (smO x y i)) (smO x y i)
 |0=>.enc (by decide)
 |i+1=>.add
theorem mA.fit {v:List AV} {z:Int} (h:mA v (Option.some z)):z.natAbs<W^16:=h.some.2
theorem iL {l:List Nat} (h:Rt l):(wC l).length=16/\l.length=16/\(wC l).take 16=wC l/\(wC l).drop 16=[]/\cK [.i,.i,.i,.i,.i,.i,.i,.i,.i,.i,.i,.i,.i,.i,.i,.i] (wC l) (wC zs)=some (decide (l=zs)):=
 ⟨by rw[dM,h.1],h.1,aHv (by rw[h.1];omega),aHu (by rw[h.1];omega),QX h.1 rfl⟩
theorem iz:(wC zs).length=16/\(wC zs).take 16=wC zs/\(wC zs).drop 16=[]:=⟨(iL .zs).1,(iL .zs).2.2.1,(iL .zs).2.2.2.1⟩
def c3 (c:Nat->List AV):List AV:=c 0++(c 1++c 2)
theorem tG {c:Nat->List AV} (h:∀i,i<3->(c i).length=18):(c3 c).length=54:=by simp[c3,h 0 (by decide),h 1 (by decide),h 2 (by decide)]
theorem ND {c:Nat->List AV} (h:∀i,i<3->(c i).length=18) {i:Nat} (hi:i<3):((c3 c).drop (i*18)).take 18=c i:=by
 have h0:=h 0 (by decide);have h1:=h 1 (by decide);have h2:=h 2 (by decide)
 match i,hi with
 |0,_=>simp[c3,List.take_append,h0]
 |1,_=>simp[c3,Ii,List.take_append,h0,h1]
 |2,_=>simp[c3,Ii,List.take_append,h0,h1,h2,Cc (show(c 0).length<=36 by omega),As (show(c 2).length<=18 by omega)]
theorem xL {c:Nat->List AV} (h:∀i,i<3->bO (c i)=true):bO (c3 c)=true:=by simp[c3,gY,h 0 (by decide),h 1 (by decide),h 2 (by decide)]
theorem aDn:cI 0=.bool false::.bool false::wC zs:=by simp[cI,FM]
theorem Mi: .bool false::.bool false::.int .u32 0::.int .u32 0::.int .u32 0::.int .u32 0::.int .u32 0::.int .u32 0::.int .u32 0::.int .u32 0::.int .u32 0::.int .u32 0::.int .u32 0::.int .u32 0::.int .u32 0::.int .u32 0::.int .u32 0::.int .u32 0::.bool false::.bool false::.int .u32 0::.int .u32 0::.int .u32 0::.int .u32 0::.int .u32 0::.int .u32 0::.int .u32 0::.int .u32 0::.int .u32 0::.int .u32 0::.int .u32 0::.int .u32 0::.int .u32 0::.int .u32 0::.int .u32 0::.int .u32 0::.bool false::.bool false::wC zs=c3 (fun _=>cI 0):=by simp only[aDn];rfl
def _root_.Go.aP.V.at (v:aP.V) (i:Nat):Int:=match i with
 |0=>v.x
 |1=>v.y
 |_=>v.z
def cT (v:aP.V):List AV:=[.int .i64 v.x,.int .i64 v.y,.int .i64 v.z]
theorem aV (v:aP.V):(cT v).length=3:=rfl
theorem kJ (v:aP.V) {i:Nat} (hi:i<3):(cT v).getD i aC=.int .i64 (v.at i):=by
 match i,hi with
 |0,_=>rfl
 |1,_=>rfl
 |2,_=>rfl
theorem cS (v:aP.V):bO (cT v)=true:=by simp only[cT,sf]
end Go.Av
namespace Go.Av
open Go
section
section
variable {P:Program} {g:bG} {n:Nat} {r:List bK} {f:dE} {ds:List gM} {H:aA} {Q:FQ}
theorem Kx {d m:Nat} {x:Arg} {es:List (AV×AV)} (hd:d<n) (hx:nQ g f x=.map m) (hm:H.get m=some (.map es))
 (h:∀bs c mb,bs.length=es.length->bs.Nodup->bS P g n r (kD f d (.ref H.next 0)) ds ((H.set m (.sK es bs c mb)).alloc (.iter m mb c [])) Q):
 bS P g n (⟨some d,.vM x,none⟩::r) f ds H Q:=by
 have :∀v,fP n f (some d) v=kD f d v:=fun v=>by simp[fP,hd]
 unfold bS;simp only[iB,if_true,this];exact⟨m,es,hx,hm,h⟩
theorem Mm {d it m mb c:Nat} {x:Arg} {es:List (AV×AV)} {seen bs:List Nat} (hd:d<n) (hx:nQ g f x=.ref it 0) (hi:H.get it=some (.iter m mb c seen)) (hm:H.get m=some (.sK es bs c mb))
 (h0:(∀b∈bs,b∈seen)->bS P g n r (kD f d (.iA [.bool false])) ds H Q)
 (h1:∀j,j<bs.length->bs.getD j 0∉seen->bS P g n r (kD f d (.iA [.bool true,(es.getD j (aC,aC)).1,(es.getD j (aC,aC)).2])) ds (H.set it (.iter m mb c (seen++[bs.getD j 0]))) Q):
 bS P g n (⟨some d,.DT x,none⟩::r) f ds H Q:=by
 have :∀v,fP n f (some d) v=kD f d v:=fun v=>by simp[fP,hd]
 unfold bS;simp only[iB,if_true,this];exact⟨it,m,mb,c,seen,es,bs,hx,hi,hm,h0,h1⟩
theorem Ts {d it m mb c j:Nat} {x:Arg} {es:List (AV×AV)} {seen bs:List Nat} (hd:d<n) (hx:nQ g f x=.ref it 0) (hi:H.get it=some (.iter m mb c (seen++[bs.getD j 0]))) (hm:H.get m=some (.sK es bs c mb)) (hj:j<bs.length)
 (h:bS P g n r (kD f d (.iA [(es.getD j (aC,aC)).1,(es.getD j (aC,aC)).2])) ds H Q):
 bS P g n (⟨some d,.xZ x,none⟩::r) f ds H Q:=by
 have :∀v,fP n f (some d) v=kD f d v:=fun v=>by simp[fP,hd]
 unfold bS;simp only[iB,if_true,this];exact⟨it,m,mb,c,seen,es,bs,j,hx,hi,hm,hj,h⟩
end
def cV (H:aA):Prop:=∀j,H.next<=j->H.get j=none
theorem cV.nil (n:Nat):cV ⟨n,.nil⟩:=fun _ _=>rfl
theorem cV.alloc {H:aA} (h:cV H) (o:fC):cV (H.alloc o):=fun j hj=>by simp only[aA.aS] at hj;rw[aA.aG,if_neg (by omega)];exact h j (by omega)
theorem cV.set {H:aA} (h:cV H) {id:Nat} (hi:id<H.next) (o:fC):cV (H.set id o):=fun j hj=>by simp only[aA.bC] at hj;rw[aA.aD,if_neg (by omega)];exact h j hj
theorem cV.at1 {H:aA} (h:cV H):pB H 1=true:=by simp only[pB,Cy,h _ (Ab _)];rfl
theorem cV.at2 {H:aA} (h:cV H):pB H 2=true:=by simp only[pB,Cy,h _ (Ab _),h (H.next+1) (by omega)];rfl
def lB (sz:Nat) (aY:List (List AV)):AV:=if aY=[] then .aR else .bB 0 sz aY
theorem mh {sz:Nat} {aY:List (List AV)} (h:dR aY=true):(lB sz aY).free=true:=by unfold lB;split<;>simp[AV.free,h]
theorem NK {sz:Nat}:∀{aY:List (List AV)},(∀e∈aY,e.length=sz)->fM sz aY.length aY.flatten=aY
 |[],_=>rfl
 |e::aY,h=>by have he:=h e Ar;simp only[Aq,fM,Bp];rw[Cl (by omega),As (by omega),Il (by omega),Cc (by omega),Dc,NK fun x hx=>h x (Aw _ hx)]
theorem oM {sz:Nat}:∀{aY:List (List AV)},(∀e∈aY,e.length=sz)->aY.flatten.length=aY.length*sz
 |[],_=>by simp
 |e::aY,h=>by have he:=h e Ar;have :=oM fun x hx=>h x (Aw e hx);simp only[Bp,Ba,Aq,Cr,Ht];omega
theorem aBg {H2:aA} {id sz cap:Nat} {aY:List (List AV)} {eM:Bool} (hg:H2.get id=some (.cells aY.flatten eM)) (hu:∀e∈aY,e.length=sz) (hf:dR aY=true) (nw:Nat):
 fT H2 none nw 0 (.sl id sz 0 aY.length cap)=some (.bB 0 sz aY):=by
 have hc:H2.eY id=some aY.flatten:=by simp[aA.eY,hg]
 have hl:Nat.ble (0+aY.length*sz) aY.flatten.length=true:=by rw[oM hu];simp
 simp only[fT,jH,hc,El,hl,lQ hf,Cv,NK hu]
theorem zN {H:aA} {sz bytes:Nat} {ys:List (List AV)} (hy:ys.isEmpty=false) (hb:ys.length*bytes<=2^40):eB H sz bytes true .aR ys=some (.sl H.next sz 0 ys.length ys.length,H.alloc (.cells ys.flatten true)):=by simp[eB,hy,hb,kL]
theorem zO {H:aA} {id n sz bytes:Nat} {cs:List AV} {ys:List (List AV)} (hg:H.get id=some (.cells cs true)) (hc:cs.length=n*sz) (hy:ys.isEmpty=false) (hb:(n+ys.length)*bytes<=2^40) (hs:1<=sz):
 eB H sz bytes true (.sl id sz 0 n n) ys=some (.sl H.next sz 0 (n+ys.length) (n+ys.length),(H.set id .dead).alloc (.cells (cs++ys.flatten) true)):=by
 have hl:0<ys.length:=by cases ys with
  |nil=>simp at hy
  |cons _ _=>simp
 simp only[eB,hy,Bb,Bq,hg,hb,hs,and_self,if_true];rw[if_neg (by omega),if_neg (by simp[hc]),if_pos ⟨trivial,trivial,trivial,hc⟩]
def Has (H:aA) (sz:Nat) (v:AV) (aY:List (List AV)):Prop:=v=.bB 1 sz aY\/Own H sz v aY
theorem Has.push {H:aA} {sz bytes:Nat} {v:AV} {aY ys:List (List AV)} (h:Has H sz v aY) (hy:ys.isEmpty=false) (hb:(aY.length+ys.length)*bytes<=2^40):
 ∃H',eB H sz bytes false v ys=some (.bB (H.next+2) sz (aY++ys),H')/\H'.next=H.next+1/\H'.get H.next=some .tok/\(∀id,id<H.next->H.get id≠some .tok->H'.get id=H.get id)/\(cV H->cV H'):=by
 have fresh:∀els':List (List AV),eB H sz bytes false v ys=some (kL H false sz els')->∃H',eB H sz bytes false v ys=some (.bB (H.next+2) sz els',H')/\H'.next=H.next+1/\H'.get H.next=some .tok/\(∀id,id<H.next->H.get id≠some .tok->H'.get id=H.get id)/\(cV H->cV H'):=fun els' e=>⟨H.alloc .tok,e,by simp,by rw[aA.aG,if_pos rfl],fun id h1 _=>by rw[aA.aG,if_neg (by omega)],fun hf=>hf.alloc _⟩
 rcases h with rfl|⟨rfl,rfl⟩|⟨k,rfl,vz,hk⟩
 . exact fresh _ (by simp[eB,hy,hb])
 . simp only[Bm,Cs] at hb;exact fresh _ (by simp[eB,hy,hb])
 refine⟨(H.set k .dead).alloc .tok,by simp[eB,hy,hb,hk],by simp,by rw[aA.aG,aA.bC,if_pos rfl],fun id h1 h2=>?_,fun hf=>(hf.set vz _).alloc _⟩;rw[aA.aG,aA.bC,if_neg (by omega),aA.aD,if_neg];rintro rfl;exact h2 hk
theorem Has.dH {H H':aA} {sz:Nat} {v:AV} {aY:List (List AV)} (h:Has H sz v aY) (hn:H.next<=H'.next) (hk:∀k,k<H.next->H.get k=some .tok->H'.get k=some .tok):Has H' sz v aY:=by
 rcases h with rfl|⟨rfl,rfl⟩|⟨k,rfl,h1,h2⟩
 . exact .inl rfl
 . exact .inr (.inl ⟨rfl,rfl⟩)
 exact .inr (.inr ⟨k,rfl,by omega,hk k h1 h2⟩)
theorem Has.shut {H2:aA} {sz:Nat} {v:AV} {aY:List (List AV)} (h:Has H2 sz v aY) (cP:aY≠[]) (hl:v≠ .bB 1 sz aY) (hf:dR aY=true) (nw:Nat):fT H2 none nw 0 v=some (.bB 0 sz aY):=by
 rcases h with rfl|⟨rfl,rfl⟩|⟨k,rfl,h1,h2⟩
 . exact absurd rfl hl
 . exact absurd rfl cP
 simp[fT,jH,hf,JD]
end
end Go.Av
namespace Go.Av
open Go Go.Proofs Go.Shelf Go.Lib Go.Sort
abbrev JL (k:Nat):={l:List Int // l.length=k}
instance (k:Nat):Inhabited (JL k):=⟨⟨List.replicate k 0,by simp⟩⟩
def wF {k:Nat} (x:JL k):List Value:=x.1.map (Value.int .i64)
def XD {k:Nat} (x:JL k):List AV:=x.1.map (AV.int .i64)
def pI {k:Nat} (d:List (JL k)):List Int:=d.flatMap (·.1)
theorem tq {k:Nat} (x:JL k):(wF x).length=k:=by simp[wF,x.2]
def Gno:Gh:=⟨fun _=>none,fun _ _=>False,true⟩
theorem WR.empty {g:bG} (hg:∀n,g n=none) (w:World):WR g Gno ⟨0,.nil⟩ w where
 cells:=fun id l cs eM h=>by cases h
 room:=fun id l h=>by cases h
 kM:=fun id kP l l' _ h=>by cases h
 jZ:=fun id l h=>by cases h
 iS:=fun id l o h=>by cases h
 lt:=fun id l h=>by cases h
 iX:=fun b o h=>h.elim
 jD:=fun n cs h=>by rw[hg n] at h;cases h
 BZ:=fun n cs h h0=>by rw[hg n] at h;cases h
 mo:=by unfold bG.mo;rw[hg];rfl
theorem iK.ints {G:Gh} {w:World} (l:List Int):iK G w (l.map (AV.int .i64)) (l.map (Value.int .i64)):=by
 refine⟨by simp,fun j hj=>?_⟩;have FE:j<l.length:=by simpa using hj
 have e1:(l.map (AV.int .i64)).getD j aC=.int .i64 l[j]:=by simp[List.getD,FE]
 have e2:(l.map (Value.int .i64)).getD j undef=.int .i64 l[j]:=by simp[List.getD,FE]
 rw[e1,e2];exact .int ..
theorem TS {G':Gh} {H':aA} {w w':World} (e:Ext Gno ⟨0,.nil⟩ w G' H' w'):∃q os',w'=grow (w.drewN q) os':=by
 refine⟨w'.drawn -w.drawn,w'.heap.extract w.heap.size w'.heap.size,?_⟩
 have hh:w'.heap=w.heap++w'.heap.extract w.heap.size w'.heap.size:=by
  apply Array.ext_getElem?;intro b;rw[Array.getElem?_append];have hs:=e.size;split
  . rename_i hb;exact e.frame b hb (fun id l h=>by cases h)
  rename_i hb;rw[Array.getElem?_extract];by_cases h2:b<w'.heap.size
  . rw[if_pos (by omega)];congr 1;omega
  rw[if_neg (by omega),Jq (by omega)]
 obtain⟨h1,h2,h3,h4⟩:=e.same
 replace h4:=h4 rfl
 cases w';cases w;simp only[grow,World.drewN,World.mk.injEq] at *;exact⟨hh,h3,by omega,h1,h2⟩
theorem Rz {P:Program} {f:FuncId} (rO:Mn P f) (args:Array Value) (w:World):(callFunc f args).run P w=.ok (.enter f args) w:=by
 obtain⟨fn,h1,h2,h3⟩:=rO;have hb:¬fn.body=none:=fun hh=>by rw[hh] at h2;cases h2
 have h3':¬fn.name= "runtime.NumGoroutine" :=by simpa using h3
 simp[callFunc,program,Sem.run,h1,h3',hb]
theorem aDu {P:Program} {g:bG} (hg:∀n,g n=none) {k:Nat} {gf:FuncId} {cf:JL k->JL k->Int}
 (Zd:∀x y,Sound P g gf [.agg (XD x),.agg (XD y)] ⟨0,.nil⟩ (.ret (.int .i64 (cf x y))) ⟨0,.nil⟩) (cZ off size:Nat) (w:World):CmpLays P gf #[] wF k cf cZ off size w:=by
 intro m os dk hs x y
 have hv:∀z:JL k,VR Gno (sortWorldK wF k w cZ off m dk os) (.agg (XD z)) (.agg (wF z).toArray):=fun z=>by have :=iK.ints (G:=Gno) (w:=sortWorldK wF k w cZ off m dk os) z.1;exact .agg _ _ this.1 (fun c hc=>by obtain⟨n,_,rfl⟩:=Bj.1 hc;rfl) this.2
 refine((Zd x y).2 Gno (sortWorldK wF k w cZ off m dk os) [.agg (wF x).toArray,.agg (wF y).toArray] (WR.empty hg _) ⟨rfl,fun j hj=>?_⟩).mono fun e w' he=>?_
 . match j,hj with
   |0,_=>exact hv x
   |1,_=>exact hv y
 obtain⟨G',h1,h2,h3⟩:=he;refine⟨?_,TS h2⟩
 cases e with
 |returned u=>cases h3;rfl
 |_=>exact h3.elim
theorem RV {k:Nat} (hk:1<=k):∀(d:List (JL k)) (t:Nat),t<d.length*k->(pI d)[t]?=some ((d[t / k]?.getD default).1[t%k]?.getD 0)
 |[],t,h=>by simp at h
 |x::d,t,h=>by
  have hx:=x.2;simp only[pI,Fc];rw[Du];split
  . rename_i h1;rw[Eg (by omega),Dl (by omega)];simp[Ad h1]
  rename_i h1;have h2:k<=t:=by omega
  have h3:t -k<d.length*k:=by simp only[Aq,Cr,Ht] at h;omega
  have e1:t / k=(t -k) / k+1:=by rw[<-Nat.add_div_right _ (by omega)];congr 1;omega
  have e2:t%k=(t -k)%k:=by rw[<-Nat.mod_eq_sub_mod h2]
  rw[hx,e1,e2,Gk];exact RV hk d (t -k) h3
theorem kR {k:Nat}:∀d:List (JL k),(pI d).length=d.length*k
 |[]=>by simp[pI]
 |x::d=>by have :=kR d;simp only[pI,Fc,Ba,Aq,x.2,Cr,Ht] at this ⊢;omega
theorem UZ {k:Nat} (hk:1<=k) (d:List (JL k)):flatK wF k d.toArray=((pI d).map (Value.int .i64)).toArray:=by
 refine ext_get! (by simp[kR]) fun t ht=>?_;have ht':t<d.length*k:=by simpa using ht
 rw[get_flatK _ _ _ _ (by simpa using ht')];have h1:=RV hk d t ht';have hm:t%k<k:=Di _ (by omega);have hd:t / k<d.length:=by rwa [Dx (by omega)]
 have hl:(d[t / k]).1.length=k:=(d[t / k]).2
 have e2:(((pI d).map (Value.int .i64)).toArray)[t]! =.int .i64 ((d[t / k]).1[t%k]'(by omega)):=by
  rw[getElem!_pos _ _ (by simpa [kR] using ht')];have h3:t<(pI d).length:=by rw[kR];exact ht'
  rw[Ad h3] at h1;simp only[List.getElem_toArray,Dq];rw[Aa h1];simp[hd,Ad (show t%k<(d[t / k]).1.length by omega)]
 rw[e2,getElem!_pos d.toArray (t / k) (by simpa using hd)];simp only[wF,List.getElem_toArray];rw[getElem!_pos _ _ Zai];simp
theorem Yr {k:Nat} (hk:1<=k) {w:World} {cZ off n:Nat} {d':List (JL k)} {c:Array Value} {el:TypeId} {fz:Nat×Nat} (qY:w.heap[cZ]?=some (.cells c el fz)):
 TW w (putRowK wF k (Sort.ahead w n) cZ off d'.toArray) cZ off ((pI d').map (Value.int .i64)) where
 size:=by simp[putRowK,putRow,mapBlock,Sort.ahead]
 other:=fun b' hb=>by simp only[putRowK,putRow,mapBlock,Sort.ahead,Gw];rw[if_neg (Ne.symm hb)]
 row:=fun c1 el1 fz1 h=>by
  rw[qY] at h;cases h;refine⟨putCells id off (flatK wF k d'.toArray) c,?_,by simp[putCells],fun o ho=>?_,fun j hj fF=>?_⟩
  . simp[putRowK,putRow,mapBlock,Sort.ahead,Gw,qY,onCells]
  . simp only[putCells,Array.getElem?_mapIdx,size_flatK]
    have :¬(off<=o/\o<off+d'.toArray.size*k):=by simp only[Af,kR,Gy] at ho ⊢;omega
    simp only[if_neg this]
    cases c[o]?<;>rfl
  simp only[Af,kR] at hj;simp only[putCells,Array.getElem?_mapIdx,size_flatK];rw[Dv fF,Bx,if_pos Zai];rw[show off+j -off=j by omega,UZ hk,getElem!_pos _ _ (by simpa [kR] using hj)];simp[List.getD,kR,hj]
 same:=.now (h4:=Hg _ _)
theorem Mt {P:Program} {g:bG} (hg:∀n,g n=none) {ρ:Ren} (L:SlLaysF0.n6 P ρ) {k:Nat} (hk:1<=k) (aE:∀w,(isAgg (ρ.t 24)).run P w=.ok true w) (zE:∀w,(Go.sizeOf (ρ.t 24)).run P w=.ok k w)
 {gf sf:FuncId} (hsf:sf=ρ.f 6) (hfs:Mn P sf) (hfg:Mn P gf) {cf:JL k->JL k->Int} (hO:SWO (ltOf cf))
 (Zd:∀x y,Sound P g gf [.agg (XD x),.agg (XD y)] ⟨0,.nil⟩ (.ret (.int .i64 (cf x y))) ⟨0,.nil⟩) (d:List (JL k)) (hd:d.length<4611686018427387904):
 ∃d':List (JL k),d'.Perm d/\(d'.Pairwise fun a b=>¬cf b a<0)/\∀(H:aA) (id:Nat) (eM:Bool),H.get id=some (.cells ((pI d).map (AV.int .i64)) eM)->
  Sound P g sf [.sl id k 0 d.length d.length,.func (.func gf) [] []] H (.ret (.iA [])) (H.set id (.cells ((pI d').map (AV.int .i64)) eM)):=by
 subst hsf;have hp:=pdq_sorts (ltOf cf) hO d.toArray 0 d.toArray.size (Lib.bitLen d.toArray.size) true true (Az _) (Ab _) (Or.inl rfl);generalize hD:pdq (ltOf cf) d.toArray 0 d.toArray.size (Lib.bitLen d.toArray.size) true true=D at hp;obtain⟨⟨q1,q2,q3⟩,q4⟩:=hp
 have aIx:D.toList.Perm d:=by
  rw[<-q1] at q3;have e1:(D.extract 0 D.size).toList=D.toList:=by simp
  have e2:(d.toArray.extract 0 D.size).toList=d:=by rw[q1];simp
  rwa [e1,e2] at q3
 have hlen:D.toList.length=d.length:=aIx.length_eq;refine⟨D.toList,aIx,?_,fun H id eM cW=>⟨hfs,fun G w vs hw oP=>?_⟩⟩
 . rw[Gc];intro i j hi hj yN;have :=q4 i j (Az _) yN (by simp at hj hlen ⊢;omega);simp only[ltOf,Bh] at this;simp only[Cu] at hi hj;rw[getElem!_pos D i hi,getElem!_pos D j hj] at this;simpa using this
 obtain⟨hl,hv⟩:=oP
 match vs,hl with
 |[u0,u1],_=>
  have v0:=hv 0 (by simp);have v1:=hv 1 (by simp);simp only[Dw,Gg] at v0 v1
  cases v0 with
  |sl _ _ _ _ _ jV l sI hle gR pL=>
   cases v1 with
   |func _ _ _ az bz ha hb _ _=>
    obtain rfl:az=[]:=Cm ha;obtain rfl:bz=[]:=Cm hb;obtain⟨a1,a2,a3,a4,a5⟩:=hw.cells id l _ eM sI cW;obtain⟨c,el,fz,b1,b2,b3⟩:=hw.room id l sI (.inl ⟨_,_,cW⟩);have aUv:((pI d).map (AV.int .i64)).length=d.length*k:=by simp[kR]
    have hH:HoldsK wF k w l.cZ (l.base+0) d.toArray:=by intro j hj;rw[size_flatK] at hj;have FE:j<d.length*k:=ZaC;obtain⟨u,e1,e2⟩:=a5 j (by rw[aUv];exact FE);have hjf:j<(pI d).length:=(by rw[kR];exact FE);have e3:((pI d).map (AV.int .i64)).getD j aC=.int .i64 (pI d)[j]:=(by simp[List.getD,hjf]);rw[e3] at e2;cases e2;refine⟨?_,b3 j (by rw[a1,aUv] at a2;omega)⟩;rw[Cy,e1,UZ hk,getElem!_pos _ _ (by simpa using hjf)];simp
    have hblk:l.cZ<w.heap.size:=by
     rcases Gp l.cZ w.heap.size with h|h
     . exact h
     rw[Jq h] at b1;cases b1
    have aUw:=AnyQ.slices_SortFunc_eq L k aE zE (wF (k:=k)) tq (fun x v hv=>by obtain⟨n,_,rfl⟩:=Bj.1 hv;rfl) cf hO gf #[] l.cZ (l.base+0) jV d.toArray w (fun args w=>Rz hfg args w) (aDu hg Zd _ _ _ _) hH hblk (by simpa using hd);rw[hD] at aUw;refine aUw.mono fun e w' he=>?_;obtain⟨rfl,n,os,rfl⟩:=he;have hup:=Yr hk (w:=w) (cZ:=l.cZ) (off:=l.base+0) (n:=n) (d':=D.toList) b1
    have xk:fW ((pI d).map (AV.int .i64)) 0 ((pI D.toList).map (AV.int .i64))=(pI D.toList).map (AV.int .i64):=by simp only[fW,Fb,Dc,Cs];rw[Cc (by simp[kR,hlen]),Ch]
    obtain⟨r1,r2⟩:=hw.store sI cW (iK.ints (pI D.toList)) (fun c hc=>by obtain⟨n,_,rfl⟩:=Bj.1 hc;rfl) (by simp[kR,hlen]) hup;rw[xk] at r1 r2
    have WK:∀b,b<(putRowK wF k (Sort.ahead w n) l.cZ (l.base+0) D.toList.toArray).heap.size->(grow (putRowK wF k (Sort.ahead w n) l.cZ (l.base+0) D.toList.toArray) os).heap[b]?=(putRowK wF k (Sort.ahead w n) l.cZ (l.base+0) D.toList.toArray).heap[b]?:=fun b hb=>by simp only[grow];rw[Array.getElem?_append_left hb]
    have e0:sortWorldK wF k w l.cZ (l.base+0) n D os=grow (putRowK wF k (Sort.ahead w n) l.cZ (l.base+0) D.toList.toArray) os:=(by simp[sortWorldK]);rw[e0];refine⟨G,r1.grow WK,r2.trans (Ext.grow r1.iX WK (by simp[grow]) .now),?_⟩;exact .iA _ [] rfl fun j hj=>absurd hj (An _)
theorem oY {P:Program} {g:bG} {ρ:Ren} (L:SlLaysF0.n6 P ρ) {sf:FuncId} (hsf:sf=ρ.f 6) (hfs:Mn P sf) (gf:FuncId) (H:aA):Sound P g sf [.aR,.func (.func gf) [] []] H (.ret (.iA [])) H:=by
 subst hsf;refine⟨hfs,fun G w vs hw oP=>?_⟩;obtain⟨hl,hv⟩:=oP
 match vs,hl with
 |[u0,u1],_=>have v0:=hv 0 (by simp);simp only[Dw] at v0;cases v0;refine(AnyF.slices_SortFunc_none L none 0 u1 w).mono fun e w' he=>?_;obtain⟨rfl,rfl⟩:=he;exact⟨G,hw,Ext.refl G H _,.iA _ [] rfl fun j hj=>absurd hj (An _)⟩
end Go.Av
namespace Go.Av
open Go
section
section
variable {P:Program} {g:bG} {n:Nat}
theorem dm {k:Mo} {f:dE} {id:Nat} {args:List AV} {H2 H3:aA} {out:Out} (hb:pQ n f) (h:Rs P g n k f id args H2 out H3):Rk P g k (LF n f) id args H2 out H3:=by
 unfold Rk;rw[QE];refine fY (fun e s1 rI H1 hq=>?_) (GM k.PJ _ [] H2 _ (hb.qE _) h);obtain⟨f1,rfl,eC,hq⟩:=hq
 cases e with
 |normal=>
  obtain⟨h1,k1,sn1,h2,h3⟩:=hq;refine⟨h1,k1,sn1,h2,fY (fun e s2 TX H4 hq=>?_) (GM k.body _ [] _ _ eC h3)⟩;obtain⟨f2,rfl,fV,hq⟩:=hq
  cases e with
  |panic v=>exact hq.elim
  |_=>exact hq
 |_=>exact hq.elim
theorem Wg (hm:Fit P g) {k:Mo} {f:dE} {id:Nat} {args:List AV} {H2 H3:aA} {out:Out} (hb:pQ n f) (cW:H2.get id=some (.loop k (LF n f) .ready)) (hlen:args.length=k.ps.length) (h:Rs P g n k f id args H2 out H3):
 EI P g id args H2 out H3:=QI hm cW hlen (dm hb h)
variable {r:List bK} {f:dE} {ds:List gM} {H:aA} {Q:FQ}
theorem Wc {d:Nat} {c:Arg} {id:Nat} {azs:List Arg} {args:List AV} {v:AV} {H':aA} (hd:d<n) (hc:nQ g f c=.yield id) (ha:azs.map (nQ g f)=args)
 (hS:EI P g id args H (.ret v) H') (h:bS P g n r (kD f d v) ds H' Q):bS P g n (⟨some d,.call c azs,none⟩::r) f ds H Q:=by
 have :∀v,fP n f (some d) v=kD f d v:=fun v=>by simp[fP,hd]
 unfold bS;simp only[iB,if_true,this];exact⟨.ret v,H',.inr ⟨id,hc,by rw[ha];exact hS⟩,h⟩
theorem dr {c:Arg} {ps:List Nat} {PJ body:cG} {fid:FuncId} {fs cs:List AV} {v:AV} {He:aA} {k':Mo} {s':List AV} {st:LSt} (hc:nQ g f c=.func (.func fid) fs cs)
 (hS:Sound P g fid (fs++[.yield (H.next+1)]++cs) ((H.alloc .SD).alloc (.loop ⟨ps,PJ,body⟩ (LF n f) .ready)) (.ret v) He) (hl:He.get (H.next+1)=some (.loop k' s' st))
 (h:∀Hf,wR He (H.next+1) Hf->OH st f (.mark H.next::ds) Hf Q):FC P g n (.nY c ps PJ body) f ds H Q:=by
 have fF:∃Hf,wR He (H.next+1) Hf:=⟨He.set (H.next+1) .dead,rfl,fun m=>by rw[aA.aD]⟩
 obtain⟨Hf,hf⟩:=fF;exact⟨fid,fs,cs,v,He,k',s',st,Hf,hc,hS,hl,hf,h Hf hf⟩
theorem Ml {c:Arg} {ps:List Nat} {PJ body:cG} {fid:FuncId} {fs cs:List AV} (hc:nQ g f c=.func (.func fid) fs cs)
 (h:∃v He k' s' st,Sound P g fid (fs++[.yield (H.next+1)]++cs) ((H.alloc .SD).alloc (.loop ⟨ps,PJ,body⟩ (LF n f) .ready)) (.ret v) He/\He.get (H.next+1)=some (.loop k' s' st)/\
   ∀Hf,wR He (H.next+1) Hf->OH st f (.mark H.next::ds) Hf Q):FC P g n (.nY c ps PJ body) f ds H Q:=by
 obtain⟨v,He,k',s',st,h1,h2,h3⟩:=h;exact dr hc h1 h2 h3
theorem pQ.kD {n:Nat} {f:dE} (h:pQ n f) {d:Nat} (hd:d<n) (v:AV):pQ n (kD f d v):=fun t ht=>by rw[oH _ _ (by omega)];exact h t ht
theorem bY {c:cG} {f0:dE} {ds:List gM} {H:aA} {Q:FQ} (h:∀f,f=f0->FC P g n c f ds H Q):FC P g n c f0 ds H Q:=h _ rfl
structure Over (H H':aA):Prop where
 le:H.next<=H'.next
 same:∀j,j<H.next->H'.get j=H.get j
theorem Over.refl (H:aA):Over H H:=⟨Ab _,fun _ _=>rfl⟩
theorem Over.alloc {H H':aA} (h:Over H H') (o:fC):Over H (H'.alloc o):=⟨by simp only[aA.aS];have :=h.le;omega,fun j hj=>by
 have :=h.le
 rw[aA.aG,if_neg (by omega)];exact h.same j hj⟩
theorem Over.set {H H':aA} (h:Over H H') {id:Nat} (dB:H.next<=id) (o:fC):Over H (H'.set id o):=⟨by rw[aA.bC];exact h.le,fun j hj=>by rw[aA.aD,if_neg (by omega)];exact h.same j hj⟩
end
end
end Go.Av
