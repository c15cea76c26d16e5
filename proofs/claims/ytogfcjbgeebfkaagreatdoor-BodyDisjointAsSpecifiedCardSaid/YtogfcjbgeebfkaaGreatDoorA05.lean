/-
  Part of the proof of statement 7
-/
import Derived.Test.YtogfcjbgeebfkaaGreatDoorA04
import Derived.Recover
set_option linter.unusedVariables false
set_option linter.unusedSimpArgs false
set_option linter.unusedSectionVars false
set_option linter.defProp false
namespace Go.Av
open Go
section
inductive VT where
 |nil
 |node (v:AV) (l r:VT)
def VT.get:VT->Nat->AV
 |.nil,_=>aB
 |.node v l r,n=>match n with
  |0=>v
  |m+1=>match Nat.beq (Nat.mod m 2) 0 with
   |true=>l.get (Nat.div m 2)
   |false=>r.get (Nat.div m 2)
def VT.root:VT->AV
 |.nil=>aB
 |.node v _ _=>v
def VT.left:VT->VT
 |.nil=>.nil
 |.node _ l _=>l
def VT.right:VT->VT
 |.nil=>.nil
 |.node _ _ r=>r
def VT.CH:Nat->VT->Nat->AV->VT
 |0,t,_,v=>.node v t.left t.right
 |f+1,t,n,v=>match n with
  |0=>.node v t.left t.right
  |m+1=>match Nat.beq (Nat.mod m 2) 0 with
   |true=>.node t.root (VT.CH f t.left (Nat.div m 2) v) t.right
   |false=>.node t.root t.left (VT.CH f t.right (Nat.div m 2) v)
theorem VT.IP(t:VT):t.get 0=t.root:=by cases t<;>rfl
theorem VT.wT(t:VT)(m:Nat):t.get (m+1)=if Nat.beq (Nat.mod m 2) 0=true then t.left.get (Nat.div m 2) else t.right.get (Nat.div m 2):=by
 cases t with
 |nil=>simp[VT.get,VT.left,VT.right]
 |node v l r=>simp only[VT.get,VT.left,VT.right];cases Nat.beq (Nat.mod m 2) 0<;>rfl
theorem Vw{m k:Nat}(h1:Nat.beq (Nat.mod m 2) 0=Nat.beq (Nat.mod k 2) 0)(h2:Nat.div m 2=Nat.div k 2):m=k:=by
 have a1:m%2=Nat.mod m 2:=rfl;have a2:k%2=Nat.mod k 2:=rfl;have a3:m / 2=Nat.div m 2:=rfl;have a4:k / 2=Nat.div k 2:=rfl
 have h4:m%2=0↔k%2=0:=by
  constructor
  . intro h;refine Bd (?_:Nat.beq (Nat.mod k 2) 0=true);rw[<-h1];show Nat.beq (m%2) 0=true;rw[h];rfl
  intro h;refine Bd (?_:Nat.beq (Nat.mod m 2) 0=true);rw[h1];show Nat.beq (k%2) 0=true;rw[h];rfl
 omega
theorem VT.IN:∀(f:Nat) (t:VT) (n:Nat) (v:AV) (m:Nat),n<=f->(VT.CH f t n v).get m=if m=n then v else t.get m:=by
 intro f
 induction f with
 |zero=>
  intro t n v m hn;obtain rfl:n=0:=by omega
  cases m with
  |zero=>simp[VT.CH,VT.IP,VT.root]
  |succ m=>simp[VT.CH,VT.wT,VT.left,VT.right]
 |succ f ih=>
  intro t n v m hn
  cases n with
  |zero=>
   cases m with
   |zero=>simp[VT.CH,VT.IP,VT.root]
   |succ m=>simp[VT.CH,VT.wT,VT.left,VT.right]
  |succ n=>
   have hd:Nat.div n 2<=f:=By (Gn n 2) A0
   cases hb:Nat.beq (Nat.mod n 2) 0 with
   |true=>
    simp only[VT.CH,hb]
    cases m with
    |zero=>simp[VT.IP,VT.root]
    |succ m=>
     rw[VT.wT,VT.wT];simp only[VT.left,VT.right]
     cases hbm:Nat.beq (Nat.mod m 2) 0 with
     |true=>
      simp only[if_true];exact ZaP
     |false=>simp only[Au,Ca];rw[if_neg];intro hh;rw[Nat.succ.inj hh,hb] at hbm;cases hbm
   |false=>
    simp only[VT.CH,hb]
    cases m with
    |zero=>simp[VT.IP,VT.root]
    |succ m=>
     rw[VT.wT,VT.wT];simp only[VT.left,VT.right]
     cases hbm:Nat.beq (Nat.mod m 2) 0 with
     |false=>
      simp only[Au,Ca];exact ZaP
     |true=>simp only[if_true];rw[if_neg];intro hh;rw[Nat.succ.inj hh,hb] at hbm;cases hbm
def VT.set(t:VT)(n:Nat)(v:AV):VT:=VT.CH n t n v
theorem VT.aC(t:VT)(n:Nat)(v:AV)(m:Nat):(t.set n v).get m=if m=n then v else t.get m:=VT.IN n t n v m (Ag _)
def MJ(n:Nat)(T:VT):List AV:=(List.range n).map T.get
def NH(n:Nat)(T:VT):Prop:=∀t,n<=t->T.get t=aB
def xN(n:Nat)(T:VT)(dst:Option Nat)(v:AV):VT:=
 match dst with
 |none=>T
 |some d=>match Nat.blt d n with
  |true=>T.set d v
  |false=>T
theorem NH.put{n:Nat}{T:VT}(h:NH n T)(dst:Option Nat)(v:AV):NH n (xN n T dst v):=by
 unfold xN;split
 . exact h
 rename_i d
 cases hb:Nat.blt d n with
 |true=>
  intro t ht;rw[VT.aC,if_neg]
  . exact h t ht
  intro hh;have :d<n:=by simpa [Gx] using hb
  omega
 |false=>exact h
theorem QS{n:Nat}{T:VT}(h:NH n T)(t:Nat):(MJ n T).getD t aB=T.get t:=by
 unfold MJ;rw[getD_eq,Ci];by_cases ht:t<n
 . simp[ht]
 rw[h t A0];simp[ht]
theorem qX{n:Nat}{T:VT}(dst:Option Nat)(v:AV):MJ n (xN n T dst v)=mT (MJ n T) dst v:=by
 unfold xN mT
 cases dst with
 |none=>rfl
 |some d=>
  simp only;unfold MJ;apply Gt;intro i;rw[Hw]
  cases hb:Nat.blt d n with
  |true=>
   have hd:d<n:=(by simpa [Gx] using hb);simp only[Ci,Ai,Bu,hd,if_true];by_cases hi:d=i
   . subst hi;simp[hd,VT.aC]
   rw[if_neg hi];by_cases iE:i<n
   . simp[iE,VT.aC,Ne.symm hi]
   simp[iE]
  |false=>
   have hd:¬d<n:=by intro hh;have :Nat.blt d n=true:=(by simpa [Gx] using hh);rw[hb] at this;cases this
   simp only[Ci,Ai,Bu,hd,Ca];by_cases hi:d=i
   . subst hi;simp[hd]
   rw[if_neg hi]
def zC(n:Nat):List AV->Nat->VT->VT
 |[],_,T=>T
 |v::vs,i,T=>zC n vs (i+1) (xN n T (some i) v)
def Xf(g:bF)(T:VT):Arg->AV
 |.tmp t=>T.get t
 |.const v=>v
 |.iW n=>match g n with
  |some cs=>.pl cs
  |none=>aB
theorem FV{n:Nat}{T:VT}(h:NH n T)(g:bF):Xf g T=Arg.eval g (MJ n T):=by
 funext x
 cases x with
 |tmp t=>exact(QS h t).symm
 |const v=>rfl
 |iW n=>rfl
def Nw(T:VT)(o:aZ):Bool:=
 match o.guard with
 |none=>true
 |some (d,b)=>match T.get d with
  |.bool c=>c==b
  |_=>false
theorem QZ{n:Nat}{T:VT}(h:NH n T)(o:aZ):Nw T o=bN (MJ n T) o:=by
 unfold Nw bN
 cases o.guard with
 |none=>rfl
 |some p=>simp only[QS h];cases T.get p.1<;>rfl
mutual
def AV.same:AV->AV->Bool
 |.bool a,.bool b=>a==b
 |.int j a,.int k b=>decide (j=k)&&decide (a=b)
 |.str a,.str b=>a==b
 |.Lw,.Lw=>true
 |.ref i o,.ref j p=>i==j&&o==p
 |.pl a,.pl b=>rL a b
 |.bB,.bB=>true
 |.bC t s e,.bC t' s' e'=>t==t'&&s==s'&&MD e e'
 |.sl a b c d e,.sl a' b' c' d' e'=>a==a'&&b==b'&&c==c'&&d==d'&&e==e'
 |.func f a b,.func f' a' b'=>decide (f=f')&&rL a a'&&rL b b'
 |.BT,.BT=>true
 |.iface t v,.iface t' v'=>decide (t=t')&&v.same v'
 |.pR,.pR=>true
 |.agg a,.agg b=>rL a b
 |.jZ a,.jZ b=>rL a b
 |.map i,.map j=>i==j
 |.sB,.sB=>true
 |_,_=>false
def rL:List AV->List AV->Bool
 |[],[]=>true
 |x::r,y::s=>x.same y&&rL r s
 |_,_=>false
def MD:List (List AV)->List (List AV)->Bool
 |[],[]=>true
 |x::r,y::s=>rL x y&&MD r s
 |_,_=>false
end
mutual
theorem AV.Ub:∀(a b:AV),a.same b=true->a=b:=by
 intro a b h
 cases a<;>cases b<;>simp only[AV.same,Ak,Dh,Bf] at h<;>first
  |rfl
  |(cases h;done)
  |(subst h;rfl)
  |(obtain⟨h1,h2⟩:=h;subst h1;subst h2;rfl)
  |(obtain⟨⟨⟨⟨h1,h2⟩,h3⟩,h4⟩,h5⟩:=h;subst h1;subst h2;subst h3;subst h4;subst h5;rfl)
  |(rw[nT _ _ h];done)
  |(obtain⟨h1,h2⟩:=h;subst h1;rw[AV.Ub _ _ h2];done)
  |(obtain⟨⟨h1,h2⟩,h3⟩:=h;subst h1;subst h2;rw[Ss _ _ h3];done)
  |(obtain⟨⟨h1,h2⟩,h3⟩:=h;subst h1;rw[nT _ _ h2,nT _ _ h3];done)
theorem nT:∀(a b:List AV),rL a b=true->a=b:=by
 intro a b h
 cases a with
 |nil=>cases b with
  |nil=>rfl
  |cons y s=>simp[rL] at h
 |cons x r=>cases b with
  |nil=>simp[rL] at h
  |cons y s=>simp only[rL,Ak] at h;rw[AV.Ub _ _ h.1,nT _ _ h.2]
theorem Ss:∀(a b:List (List AV)),MD a b=true->a=b:=by
 intro a b h
 cases a with
 |nil=>cases b with
  |nil=>rfl
  |cons y s=>simp[MD] at h
 |cons x r=>cases b with
  |nil=>simp[MD] at h
  |cons y s=>simp only[MD,Ak] at h;rw[nT _ _ h.1,Ss _ _ h.2]
end
def Nr:Option eY->Option eY->Bool
 |none,none=>true
 |some (.cells a o),some (.cells b p)=>rL a b&&o==p
 |some .tok,some .tok=>true
 |some .dead,some .dead=>true
 |some (.map a),some (.map b)=>rL (a.map (·.1)) (b.map (·.1))&&rL (a.map (·.2)) (b.map (·.2))
 |_,_=>false
theorem rh{a b:List (AV×AV)}(h1:a.map (·.1)=b.map (·.1))(h2:a.map (·.2)=b.map (·.2)):a=b:=by
 induction a generalizing b with
 |nil=>cases b with
  |nil=>rfl
  |cons y s=>simp at h1
 |cons x r ih=>cases b with
  |nil=>simp at h1
  |cons y s=>simp only[Cq,List.cons.injEq] at h1 h2;rw[ih h1.2 h2.2,Prod.ext h1.1 h2.1]
theorem QI{a b:Option eY}(h:Nr a b=true):a=b:=by
 unfold Nr at h
 split at h<;>first
  |rfl
  |(cases h;done)
  |skip
 . simp only[Ak,Dh] at h;rw[nT _ _ h.1,h.2]
 simp only[Ak] at h;rw[rh (nT _ _ h.1) (nT _ _ h.2)]
abbrev EF:=AV->List AV->aA->Option (Out×aA)
abbrev Res:=kd×VT×List fY×aA
def MX(cf:EF)(g:bF)(n:Nat):List aZ->VT->List fY->aA->Option Res
 |[],T,ds,H=>some (.normal,T,ds,H)
 |o::r,T,ds,H=>
  match Nw T o with
  |true=>match o.op with
   |.call f azs=>match cf (Xf g T f) (azs.map (Xf g T)) H with
    |some (.ret v,H')=>MX cf g n r (xN n T o.dst v) ds H'
    |some (.JU v,H')=>some (.panic v,T,ds,H')
    |none=>none
   |.panic x=>match Xf g T x with
    |.iface t v=>some (.panic (.iface t v),T,ds,H)
    |_=>none
   |.lN f azs=>match lQ (Xf g T f) with
    |some p=>MX cf g n r (xN n T o.dst aB) (.call p.1 (p.2.1++azs.map (Xf g T)++p.2.2)::ds) H
    |none=>none
   |op=>match dE (Xf g T) H op with
    |some (v,H')=>MX cf g n r (xN n T o.dst v) ds H'
    |none=>none
  |false=>MX cf g n r (xN n T o.dst aB) ds H
def exQ(cf:EF)(g:bF)(T:VT)(H:aA):dY->Option (AV×aA)
 |.call f azs=>match lQ (Xf g T f) with
  |some _=>match cf (Xf g T f) (azs.map (Xf g T)) H with
   |some (.ret v,H')=>some (v,H')
   |_=>none
  |none=>none
 |.panic _|.lN _ _=>none
 |op=>dE (Xf g T) H op
def ZM(pairs:List (Nat×Nat))(i id:Nat)(ef:List (Nat×aA×aA)):Bool:=
 ef.all fun x=> !pairs.contains (i,x.1)||Nr (x.2.1.get id) (x.2.2.get id)
def Tg(cf:EF)(g:bF)(n:Nat)(pairs:List (Nat×Nat))(base:Nat):Nat->Nat->List aZ->List (Nat×Nat)->List (Nat×aA×aA)->VT->aA->Option (VT×aA)
 |_,_,[],_,_,T,H=>some (T,H)
 |i,k,r::rs,rd,ef,T,H=>
  match Nw T r with
  |true=>match r.op.fresh with
   |true=>match yH (Xf g T) r.op with
    |some (ob,val)=>match ZM pairs i (base+k) ef with
     |true=>Tg cf g n pairs base (i+1) (k+1) rs ((i,base+k)::rd) ef (xN n T r.dst (val (base+k))) (H.set (base+k) ob)
     |false=>none
    |none=>none
   |false=>match r.op.pJ with
    |true=>match exQ cf g T H r.op with
     |some (v,H')=>match Nat.ble H.next H'.next&&rd.all fun x=> !pairs.contains (x.1,i)||Nr (H.get x.2) (H'.get x.2) with
      |true=>Tg cf g n pairs base (i+1) k rs rd ((i,H,H')::ef) (xN n T r.dst v) H'
      |false=>none
     |none=>none
    |false=>match exQ cf g T H r.op with
     |some (v,_)=>match r.op.cZ (Xf g T) with
      |some id=>match ZM pairs i id ef with
       |true=>Tg cf g n pairs base (i+1) k rs ((i,id)::rd) ef (xN n T r.dst v) H
       |false=>none
      |none=>Tg cf g n pairs base (i+1) k rs rd ef (xN n T r.dst v) H
     |none=>none
  |false=>Tg cf g n pairs base (i+1) (match r.op.fresh with|true=>k+1|false=>k) rs rd ef (xN n T r.dst aB) H
def SZ(f:VT->List fY->aA->Option Res):Nat->VT->List fY->aA->Option Res
 |0,_,_,_=>none
 |m+1,T,ds,H=>match f T ds H with
  |some (.normal,T',fH,H')=>SZ f m T' fH H'
  |r=>r
def Qf(cf:EF)(g:bF)(n fuel:Nat):bR->VT->List fY->aA->Option Res
 |.skip,T,ds,H=>some (.normal,T,ds,H)
 |.ops rl,T,ds,H=>MX cf g n rl T ds H
 |.draw rl pairs,T,ds,H=>match pK H (rl.countP (·.op.fresh)) with
  |true=>match Tg cf g n pairs H.next 0 0 rl [] [] T {H with next:=H.next+rl.countP (·.op.fresh)} with
   |some (T',H')=>some (.normal,T',ds,H')
   |none=>none
  |false=>none
 |.seq a b,T,ds,H=>match Qf cf g n fuel a T ds H with
  |some (.normal,T',fH,H')=>Qf cf g n fuel b T' fH H'
  |r=>r
 |.cond c a b,T,ds,H=>match Xf g T c with
  |.bool true=>Qf cf g n fuel a T ds H
  |.bool false=>Qf cf g n fuel b T ds H
  |_=>none
 |.block id a,T,ds,H=>match Qf cf g n fuel a T ds H with
  |some (.exit i,T',fH,H')=>match Nat.beq i id with
   |true=>some (.normal,T',fH,H')
   |false=>some (.exit i,T',fH,H')
  |r=>r
 |.loop a,T,ds,H=>SZ (Qf cf g n fuel a) fuel T ds H
 |.exit id,T,ds,H=>some (.exit id,T,ds,H)
 |.ret,T,ds,H=>some (.ret,T,ds,H)
 |.oJ c ps MQ body,T,ds,H=>match Xf g T c with
  |.func (.func fid) fs cs=>match cf (.func (.func fid) fs cs) [.yield (H.next+1)] ((H.alloc .MV).alloc (.loop ⟨ps,MQ,body⟩ (MJ n T) .ready)) with
   |some (.ret _,He)=>match He.get (H.next+1) with
    |some (.loop _ _ .ready)=>some (.normal,T,.mark H.next::ds,He.set (H.next+1) .dead)
    |some (.loop _ _ (.done .ret))=>some (.ret,T,.mark H.next::ds,He.set (H.next+1) .dead)
    |some (.loop _ _ (.done (.exit i)))=>some (.exit i,T,.mark H.next::ds,He.set (H.next+1) .dead)
    |_=>none
   |_=>none
  |_=>none
def JX(n:Nat)(T:VT):List (Nat×AV)->VT
 |[]=>T
 |(t,v)::r=>JX n (xN n T (some t) v) r
section
variable {P:Program} {g:bF} {n fuel:Nat} {cf:EF}
theorem RY.sound{fv:AV}{args:List AV}{H H':aA}{out:Out}{p:FuncId×List AV×List AV}(h:RY P g fv args H out H')(hp:lQ fv=some p):Sound P g p.1 (p.2.1++args++p.2.2) H out H':=by
 rcases h with ⟨q,hq,h⟩|⟨id,rfl,_⟩
 . rw[hq] at hp;cases hp;exact h
 cases hp
def FA(P:Program)(g:bF)(cf:EF):Prop:=∀c args H out H',cf c args H=some (out,H')->RY P g c args H out H'
theorem rC(Me:FA P g cf):∀(rl:List aZ) (T:VT) (ds:List fY) (H:aA) (ae:kd) (T':VT) (fH:List fY) (H':aA),NH n T->MX cf g n rl T ds H=some (ae,T',fH,H')->
 NH n T'/\∀Q:AQ,Q ae (MJ n T') fH H'->tF P g rl (MJ n T) ds H Q
 |[],T,ds,H,ae,T',fH,H',hb,h=>by simp only[MX,Ab,Af] at h;obtain⟨rfl,rfl,rfl,rfl⟩:=h;exact⟨hb,fun Q hq=>hq⟩
 |o::r,T,ds,H,ae,T',fH,H',hb,h=>by
  unfold MX at h;rw[FV hb,QZ hb] at h;unfold tF
  cases hw:bN (MJ n T) o with
  |false=>rw[hw] at h;dsimp only at h;have ih:=rC Me r _ ds H ae T' fH H' (hb.put o.dst aB) h;rw[qX] at ih;exact⟨ih.1,fun Q hq=>by simpa using ih.2 Q hq⟩
  |true=>
   rw[hw] at h;dsimp only at h;simp only[if_true];split at h
   . rename_i f azs fP;split at h
     . rename_i v H1 hc;have ih:=rC Me r _ ds H1 ae T' fH H' (hb.put o.dst v) h;rw[qX] at ih;exact⟨ih.1,fun Q hq=>by rw[fP];exact⟨.ret v,H1,Me _ _ _ _ _ hc,ih.2 Q hq⟩⟩
     . rename_i v H1 hc;simp only[Ab,Af] at h;obtain⟨rfl,rfl,rfl,rfl⟩:=h;exact⟨hb,fun Q hq=>by rw[fP];exact⟨.JU v,H1,Me _ _ _ _ _ hc,hq⟩⟩
     cases h
   . rename_i x fP;split at h
     . rename_i t v hx;simp only[Ab,Af] at h;obtain⟨rfl,rfl,rfl,rfl⟩:=h;exact⟨hb,fun Q hq=>by rw[fP];exact⟨t,v,hx,hq⟩⟩
     cases h
   . rename_i f azs fP;split at h
     . rename_i p hp;have ih:=rC Me r _ _ H ae T' fH H' (hb.put o.dst aB) h;rw[qX] at ih;exact⟨ih.1,fun Q hq=>by rw[fP];exact⟨p,hp,ih.2 Q hq⟩⟩
     cases h
   rename_i n1 n2 n3;split at h
   . rename_i v H1 ha;have ih:=rC Me r _ ds H1 ae T' fH H' (hb.put o.dst v) h;rw[qX] at ih;refine⟨ih.1,fun Q hq=>?_⟩;split
     . rename_i f azs fP;exact absurd fP (n1 f azs)
     . rename_i x fP;exact absurd fP (n2 x)
     . rename_i f azs fP;exact absurd fP (n3 f azs)
     . rename_i x fP;rw[fP] at ha;cases ha
     . rename_i x fP;rw[fP] at ha;cases ha
     . rename_i x fP;rw[fP] at ha;cases ha
     exact⟨v,H1,ha,ih.2 Q hq⟩
   cases h
theorem Rr(Me:FA P g cf){T:VT}(hb:NH n T){H H':aA}{r:aZ}{v:AV}(h:exQ cf g T H r.op=some (v,H')):HV P g r (MJ n T) H v H':=by
 unfold exQ at h;rw[FV hb] at h;unfold HV;split at h
 . rename_i f azs fP;rw[fP];split at h
   . rename_i p hp;split at h
     . rename_i v' H1 hc;simp only[Ab,Af] at h;obtain⟨rfl,rfl⟩:=h;exact⟨p,hp,(Me _ _ _ _ _ hc).sound hp⟩
     cases h
   cases h
 . cases h
 . cases h
 rename_i n1 n2 n3;split
 . rename_i f azs fP;exact absurd fP (n1 f azs)
 . rename_i x fP;exact absurd fP (n2 x)
 . rename_i f azs fP;exact absurd fP (n3 f azs)
 exact h
theorem PM{pairs:List (Nat×Nat)}{i id:Nat}{ef:List (Nat×aA×aA)}(h:ZM pairs i id ef=true):∀x∈ef,(i,x.1)∈pairs->x.2.1.get id=x.2.2.get id:=by intro x hx hp;have :=Bg.1 h x hx;simp only[Dq,Cs,List.contains_eq_mem,Cb] at this;exact QI (this.resolve_left fun hh=>hh hp)
theorem qG(Me:FA P g cf){pairs:List (Nat×Nat)}{base:Nat}:∀(rl:List aZ) (i k:Nat) (rd:List (Nat×Nat)) (ef:List (Nat×aA×aA)) (T:VT) (H:aA) (T':VT) (H':aA),NH n T->
 Tg cf g n pairs base i k rl rd ef T H=some (T',H')->NH n T'/\∀Q:List AV->aA->Prop,Q (MJ n T') H'->Uz P g pairs base i k rl rd ef (MJ n T) H Q
 |[],i,k,rd,ef,T,H,T',H',hb,h=>by simp only[Tg,Ab,Af] at h;obtain⟨rfl,rfl⟩:=h;exact⟨hb,fun Q hq=>hq⟩
 |r::rs,i,k,rd,ef,T,H,T',H',hb,h=>by
  unfold Tg at h;rw[QZ hb] at h;unfold Uz
  cases hw:bN (MJ n T) r with
  |false=>
   rw[hw] at h;dsimp only at h;have ih:=qG Me rs _ _ _ _ _ _ T' H' (hb.put r.dst aB) h;rw[qX] at ih
   have hk:(match r.op.fresh with|true=>k+1|false=>k)=if r.op.fresh then k+1 else k:=(by cases r.op.fresh<;>rfl);rw[hk] at ih;exact⟨ih.1,fun Q hq=>by simpa using ih.2 Q hq⟩
  |true=>
   rw[hw] at h;dsimp only at h;simp only[if_true]
   cases hf:r.op.fresh with
   |true=>
    rw[hf] at h;dsimp only at h;simp only[if_true];rw[FV hb] at h;split at h
    . rename_i ob val ho;split at h
      . rename_i hk;have ih:=qG Me rs _ _ _ _ _ _ T' H' (hb.put r.dst (val (base+k))) h;rw[qX] at ih;exact⟨ih.1,fun Q hq=>⟨ob,val,ho,PM hk,ih.2 Q hq⟩⟩
      cases h
    cases h
   |false=>
    rw[hf] at h;dsimp only at h;simp only[Au,Ca]
    cases he:r.op.pJ with
    |true=>
     rw[he] at h;dsimp only at h;simp only[if_true];split at h
     . rename_i v H1 hq1;split at h
       . rename_i hk;simp only[Ak] at hk;have ih:=qG Me rs _ _ _ _ _ _ T' H' (hb.put r.dst v) h;rw[qX] at ih;refine⟨ih.1,fun Q hq=>⟨v,H1,Rr Me hb hq1,by simpa using Al hk.1,fun x hx hp=>?_,ih.2 Q hq⟩⟩;have :=Bg.1 hk.2 x hx;simp only[Dq,Cs,List.contains_eq_mem,Cb] at this;exact QI (this.resolve_left fun hh=>hh hp)
       cases h
     cases h
    |false=>
     rw[he] at h;dsimp only at h;simp only[Au,Ca];split at h
     . rename_i v H1 hq1;have hqs:=Rr Me hb hq1
       have hH:H1=H:=by
        unfold HV at hqs;split at hqs
        . rename_i fP;rw[fP] at he;cases he
        . exact hqs.elim
        . exact hqs.elim
        exact(LC (H1:=H) he hf hqs (fun id _=>rfl)).1
       rw[hH] at hqs;rw[FV hb] at h;split at h
       . rename_i id hid;split at h
         . rename_i hk;have ih:=qG Me rs _ _ _ _ _ _ T' H' (hb.put r.dst v) h;rw[qX] at ih;refine⟨ih.1,fun Q hq=>⟨v,hqs,fun kS GF=>?_,?_⟩⟩
           . rw[hid] at GF;cases GF;exact PM hk
           rw[hid];exact ih.2 Q hq
         cases h
       rename_i hid;have ih:=qG Me rs _ _ _ _ _ _ T' H' (hb.put r.dst v) h;rw[qX] at ih;refine⟨ih.1,fun Q hq=>⟨v,hqs,fun kS GF=>?_,?_⟩⟩
       . rw[hid] at GF;cases GF
       rw[hid];exact ih.2 Q hq
     cases h
theorem KP{rl:List aZ}:∀{s:List AV} {ds:List fY} {H:aA} {Q Q':AQ},(∀e s ds H,Q e s ds H->Q' e s ds H)->tF P g rl s ds H Q->tF P g rl s ds H Q':=by
 induction rl with
 |nil=>exact fun hq h=>hq _ _ _ _ h
 |cons o r ih=>
  intro s ds H Q Q' hq h;unfold tF at h ⊢;split
  . rename_i hw;rw[if_pos hw] at h;split at h
    . obtain⟨out,H',h1,h3⟩:=h;refine⟨out,H',h1,?_⟩
      cases out with
      |ret v=>exact ih hq h3
      |JU v=>exact hq _ _ _ _ h3
    . obtain⟨t,v,h1,h2⟩:=h;exact⟨t,v,h1,hq _ _ _ _ h2⟩
    . obtain⟨p,h1,h2⟩:=h;exact⟨p,h1,ih hq h2⟩
    . obtain⟨m,es,h1,h2,h3⟩:=h;exact⟨m,es,h1,h2,fun bs c mb k1 k2=>ih hq (h3 bs c mb k1 k2)⟩
    . exact Za2
    . obtain⟨it,m,mb,c,seen,es,bs,j,h1,h2,h3,h4,h5⟩:=h;exact⟨it,m,mb,c,seen,es,bs,j,h1,h2,h3,h4,ih hq h5⟩
    obtain⟨v,H',h1,h2⟩:=h;exact⟨v,H',h1,ih hq h2⟩
  rename_i hw;rw[if_neg hw] at h;exact ih hq h
theorem VA{pairs:List (Nat×Nat)}{base:Nat}{rl:List aZ}:∀{i k:Nat} {rd:List (Nat×Nat)} {ef:List (Nat×aA×aA)} {s:List AV} {H:aA} {Q Q':List AV->aA->Prop},(∀s H,Q s H->Q' s H)->
 Uz P g pairs base i k rl rd ef s H Q->Uz P g pairs base i k rl rd ef s H Q':=by
 induction rl with
 |nil=>exact fun hq h=>hq _ _ h
 |cons r rs ih=>
  intro i k rd ef s H Q Q' hq h;unfold Uz at h ⊢;exact Zal
theorem eF{c:bR}:∀{s:List AV} {ds:List fY} {H:aA} {Q Q':AQ},(∀e s ds H,Q e s ds H->Q' e s ds H)->AC P g c s ds H Q->AC P g c s ds H Q':=by
 induction c with
 |skip=>exact fun hq h=>hq _ _ _ _ h
 |ops rl=>exact fun hq h=>KP hq h
 |draw rl pairs=>exact fun hq h=>h.imp (fun h=>⟨h.1,VA (fun s H=>hq _ _ _ _) h.2⟩) fun h=>h.imp (fun h=>h.mono fun _ _ _=>hq _ _ _ _) fun h=>h.mono fun _ _ h s' hl ht=>hq _ _ _ _ (h s' hl ht)
 |seq a b qU uC=>
  intro s ds H Q Q' hq h;refine qU (fun e s ds H h=>?_) h
  cases e with
  |normal=>exact uC hq h
  |_=>exact hq _ _ _ _ h
 |cond c a b qU uC=>
  intro s ds H Q Q' hq h;obtain⟨t,h1,h2⟩:=h;refine⟨t,h1,?_⟩
  cases t with
  |true=>exact qU hq h2
  |false=>exact uC hq h2
 |block id a ih=>
  intro s ds H Q Q' hq h;refine ih (fun e s ds H h=>?_) h
  cases e with
  |exit i=>
   simp only[pP] at h ⊢;split
   . rename_i hi;rw[if_pos hi] at h;exact hq _ _ _ _ h
   rename_i hi;rw[if_neg hi] at h;exact hq _ _ _ _ h
  |_=>exact hq _ _ _ _ h
 |loop a ih=>
  intro s ds H Q Q' hq h;obtain⟨I,m,h0,hI⟩:=h;refine⟨I,m,h0,fun m s ds H hi=>ih (fun e s ds H h=>?_) (hI m s ds H hi)⟩
  cases e with
  |normal=>exact h
  |_=>exact hq _ _ _ _ h
 |exit id=>exact fun hq h=>hq _ _ _ _ h
 |ret=>exact fun hq h=>hq _ _ _ _ h
 |oJ c ps a b qU uC=>
  intro s ds H Q Q' hq h;obtain⟨fid,fs,cs,v,He,k',s',st,Hf,h1,h2,h3,h4,h5⟩:=h;refine⟨fid,fs,cs,v,He,k',s',st,Hf,h1,h2,h3,h4,?_⟩
  cases st with
  |ready=>exact hq _ _ _ _ h5
  |done e=>cases e<;>exact hq _ _ _ _ h5
  |busy=>exact h5.elim
  |over _=>exact h5.elim
theorem DB(Me:FA P g cf):∀(c:bR) (T:VT) (ds:List fY) (H:aA) (ae:kd) (T':VT) (fH:List fY) (H':aA),NH n T->Qf cf g n fuel c T ds H=some (ae,T',fH,H')->
 NH n T'/\∀Q:AQ,Q ae (MJ n T') fH H'->AC P g c (MJ n T) ds H Q:=by
 intro c
 induction c with
 |skip=>intro T ds H ae T' fH H' hb h;simp only[Qf,Ab,Af] at h;obtain⟨rfl,rfl,rfl,rfl⟩:=h;exact⟨hb,fun Q hq=>hq⟩
 |ops rl=>exact fun T ds H ae T' fH H' hb h=>rC Me rl T ds H ae T' fH H' hb h
 |draw rl pairs=>
  intro T ds H ae T' fH H' hb h;simp only[Qf] at h;split at h
  . rename_i yB;split at h
    . rename_i T1 H1 hd;simp only[Ab,Af] at h;obtain⟨rfl,rfl,rfl,rfl⟩:=h;have :=qG Me rl 0 0 [] [] T _ T1 H1 hb hd;exact⟨this.1,fun Q hq=>.inl ⟨yB,this.2 _ hq⟩⟩
    cases h
  cases h
 |seq a b qU uC=>
  intro T ds H ae T' fH H' hb h;simp only[Qf] at h;split at h
  . rename_i T1 pI H1 ha;have h1:=qU T ds H _ T1 pI H1 hb ha;have h2:=uC T1 pI H1 ae T' fH H' h1.1 h;exact⟨h2.1,fun Q hq=>h1.2 _ (h2.2 Q hq)⟩
  rename_i hn;have h1:=qU T ds H ae T' fH H' hb h;refine⟨h1.1,fun Q hq=>h1.2 _ ?_⟩
  cases ae with
  |normal=>exact absurd h (hn _ _ _)
  |_=>exact hq
 |cond c a b qU uC=>
  intro T ds H ae T' fH H' hb h;simp only[Qf] at h;rw[FV hb] at h;split at h
  . rename_i hc;have h1:=qU T ds H ae T' fH H' hb h;exact⟨h1.1,fun Q hq=>⟨true,hc,h1.2 Q hq⟩⟩
  . rename_i hc;have h1:=uC T ds H ae T' fH H' hb h;exact⟨h1.1,fun Q hq=>⟨false,hc,h1.2 Q hq⟩⟩
  cases h
 |block id a ih=>
  intro T ds H ae T' fH H' hb h;simp only[Qf] at h;split at h
  . rename_i i T1 pI H1 ha;have h1:=ih T ds H _ T1 pI H1 hb ha;split at h
    . rename_i hi;have pB:i=id:=Bd hi;simp only[Ab,Af] at h;obtain⟨rfl,rfl,rfl,rfl⟩:=h;refine⟨h1.1,fun Q hq=>h1.2 _ ?_⟩;simp only[pP];rw[if_pos pB];exact hq
    rename_i hi;have pB:i≠id:=Nat.ne_of_beq_eq_false hi;simp only[Ab,Af] at h;obtain⟨rfl,rfl,rfl,rfl⟩:=h;refine⟨h1.1,fun Q hq=>h1.2 _ ?_⟩;simp only[pP];rw[if_neg pB];exact hq
  rename_i hn;have h1:=ih T ds H ae T' fH H' hb h;refine⟨h1.1,fun Q hq=>h1.2 _ ?_⟩
  cases ae with
  |exit i=>exact absurd h (hn _ _ _ _)
  |_=>exact hq
 |loop a ih=>
  intro T ds H ae T' fH H' hb h;simp only[Qf] at h
  have key:∀(m:Nat) (T:VT) (ds:List fY) (H:aA),NH n T->SZ (Qf cf g n fuel a) m T ds H=some (ae,T',fH,H')->NH n T':=by
   intro m
   induction m with
   |zero=>intro T ds H _ h;cases h
   |succ m ihm=>
    intro T ds H hb h;simp only[SZ] at h;split at h
    . rename_i T1 pI H1 h1;exact ihm T1 pI H1 (ih _ _ _ _ _ _ _ hb h1).1 h
    exact(ih _ _ _ _ _ _ _ hb h).1
  refine⟨key fuel T ds H hb h,fun Q hq=>⟨fun m s ds H=>∃T,s=MJ n T/\NH n T/\SZ (Qf cf g n fuel a) m T ds H=some (ae,T',fH,H'),fuel,⟨T,rfl,hb,h⟩,?_⟩⟩;rintro m s pI H1 ⟨T1,rfl,rP,h1⟩
  cases m with
  |zero=>cases h1
  |succ m=>
   simp only[SZ] at h1;split at h1
   . rename_i T2 Qy H2 h2;have :=ih _ _ _ _ _ _ _ rP h2;exact this.2 _ ⟨m,Fm m,T2,rfl,this.1,h1⟩
   rename_i hn;have :=ih _ _ _ _ _ _ _ rP h1;refine this.2 _ ?_
   cases ae with
   |normal=>exact absurd h1 (hn _ _ _)
   |_=>exact hq
 |exit id=>intro T ds H ae T' fH H' hb h;simp only[Qf,Ab,Af] at h;obtain⟨rfl,rfl,rfl,rfl⟩:=h;exact⟨hb,fun Q hq=>hq⟩
 |ret=>intro T ds H ae T' fH H' hb h;simp only[Qf,Ab,Af] at h;obtain⟨rfl,rfl,rfl,rfl⟩:=h;exact⟨hb,fun Q hq=>hq⟩
 |oJ c ps a b _ _=>
  intro T ds H ae T' fH H' hb h;simp only[Qf] at h;rw[FV hb] at h;split at h
  . rename_i fid fs cs hc;split at h
    . rename_i v He EL;have hS:=(Me _ _ _ _ _ EL).sound rfl;have hl:xE He (H.next+1) (He.set (H.next+1) .dead):=⟨rfl,fun m=>aA.aC _ _ _ _⟩;split at h
      . rename_i k' s' hg;simp only[Ab,Af] at h;obtain⟨rfl,rfl,rfl,rfl⟩:=h;exact⟨hb,fun Q hq=>⟨fid,fs,cs,v,He,k',s',.ready,_,hc,hS,hg,hl,hq⟩⟩
      . rename_i k' s' hg;simp only[Ab,Af] at h;obtain⟨rfl,rfl,rfl,rfl⟩:=h;exact⟨hb,fun Q hq=>⟨fid,fs,cs,v,He,k',s',.done .ret,_,hc,hS,hg,hl,hq⟩⟩
      . rename_i k' s' i hg;simp only[Ab,Af] at h;obtain⟨rfl,rfl,rfl,rfl⟩:=h;exact⟨hb,fun Q hq=>⟨fid,fs,cs,v,He,k',s',.done (.exit i),_,hc,hS,hg,hl,hq⟩⟩
      cases h
    cases h
  cases h
end
end
def aXt(G:Gh)(w:World):Option AV->FrameMode->Prop
 |none,m=>m=.returning
 |some v,m=>∃x,m=.panicking [{v:=x,recovered:=false}]/\VR G w v x
def FH(P:Program)(g:bF)(f:FuncId)(args:List AV)(md:Option AV)(H H':aA):Prop:=
 AJ P f/\∀(G:Gh) (w:World) (vs:List Value) (u:FrameMode),WR g G H w->gW G w args vs->aXt G w md u->
  CallsDIn Fence.wide 0 P f vs.toArray u w fun e u' w'=>(∃x,e=.returned x)/\settle u'=.returning/\∃G',WR g G' H' w'/\Ext G H w G' H' w'
def Xx(P:Program)(g:bF):List fY->aA->(aA->Prop)->Prop
 |[],H,Q=>Q H
 |.call f azs::ds,H,Q=>∃H1,FH P g f azs none H H1/\Xx P g ds H1 Q
 |.mark id::ds,H,Q=>H.get id=some .MV/\Xx P g ds (H.set id .dfx) Q
def aOd(P:Program)(g:bF)(F:CR)(R:Out->aA->Prop):AQ
 |.normal,s,ds,H|.ret,s,ds,H=>Xx P g ds H fun H1=>∃vs,mN s H1 F.results=some vs/\R (.ret (pA vs)) H1
 |.panic v,s,ds,H=>match ds with
  |[]=>R (.JU v) H
  |.mark _::_=>False
  |.call f azs::ds=>∃H1,FH P g f azs (some v) H H1/\Xx P g ds H1 fun H2=>∃vs,mN s H2 F.results=some vs/\R (.ret (pA vs)) H2
 |.exit _,_,_,_=>False
theorem tS{P:Program}{g:bF}{fn:Func}{tmps:Array Value}{R:Ending->World->Prop}{Q:aA->Prop}:∀(ds:List fY) (l:List Deferred) (G:Gh) (H:aA) (w:World),
 Xx P g ds H Q->WR g G H w->TJ G w ds l->
 (∀G' H' w',Q H'->WR g G' H' w'->Ext G H w G' H' w'->∃v,(results fn tmps).run P w'=.ok v w'/\R (.returned v) w')->LeavesInM Fence.wide 0 P fn tmps R l .returning w
 |[],[],G,H,w,h,hw,hd,hR=>hR G H w h hw (Ext.refl G H w)
 |[],d::l,G,H,w,h,hw,hd,hR=>hd.elim
 |.call _ _::ds,[],G,H,w,h,hw,hd,hR=>hd.elim
 |.mark _::ds,[],G,H,w,h,hw,hd,hR=>hd.elim
 |.call f azs::ds,d::l,G,H,w,h,hw,hd,hR=>by obtain⟨H1,hS,hA⟩:=h;obtain⟨⟨cap,ht,hv⟩,rE⟩:=hd;refine⟨by simp,.inr ⟨BV,.func f,cap.toArray,f,d.args++cap.toArray,ht,by rw[ht];exact oC hS.1 _ _ _,fun _ _=>trivial,?_⟩⟩;have hc:=hS.2 G w _ .returning hw hv rfl;rw[show(d.args.toList++cap).toArray=d.args++cap.toArray by apply Fh;simp] at hc;refine hc.mono fun e u' w' he=>?_;obtain⟨⟨x,rfl⟩,hu,G',lT,yJ⟩:=he;show LeavesInM Fence.wide 0 P fn tmps R l (settle u') w';rw[hu];exact tS ds l G' H1 w' hA lT (rE.ext yJ) fun G2 H2 w2 hq zZ Qh=>hR G2 H2 w2 hq zZ (yJ.trans Qh)
 |.mark id::ds,d::l,G,H,w,h,hw,hd,hR=>by obtain⟨hg,hA⟩:=h;obtain⟨⟨lc,hl,ht⟩,rE⟩:=hd;obtain⟨_,_,hb⟩:=hw.iG id lc _ hl hg rfl;have uA:=run_takeDeferred (P:=P) hb;obtain⟨q1,q2⟩:=hw.GX (o':=.dfx) (x:=.deferred none) (w':=w.putObj lc.cV (.deferred none)) hl hg rfl rfl rfl .now (fun _ hs=>hs);exact⟨by simp,.inl ⟨lc.cV,_,ht,uA,tS ds l G _ _ hA q1 (rE.ext q2) fun G2 H2 w2 hq zZ Qh=>hR G2 H2 w2 hq zZ (q2.trans Qh)⟩⟩
theorem pF{P:Program}{g:bF}{mu:Bool}(hm:Fit P g){f:FuncId}{F:CR}(hF:gH P g mu f F){args:List AV}{H H':aA}{out:Out}
 (h:AC P g F.body (qP F args) [] H (aOd P g F fun o h=>o=out/\h=H')):Sound P g f args H out H':=by
 refine⟨hF.ok,fun G w vs hw hv=>?_⟩;obtain⟨fn,c,h1,h2,_,h3,h4,h5⟩:=hF;refine callsIn_wide.1 (callsIn_of_wp_marks (n:=0) h1 h2 trivial (wpIn_mono (AG hm c none F.body h3 (.inl rfl) _ [] G H w _ _ h hw ?_ trivial) fun e a w' hq=>?_))
 . have hlen:=hv.1;show gW G w _ _;exact Za3
 obtain⟨ae,s',fH,H1,G',q,lT,he,BL,rE,hx⟩:=hq
 have fin:∀(G2:Gh) (H2:aA) (w2:World),(∃vs,mN s' H2 F.results=some vs/\(Out.ret (pA vs)=out/\H2=H'))->WR g G2 H2 w2->Ext G' H1 w' G2 H2 w2->
  ∃v,(results fn a.tmps).run P w2=.ok v w2/\(fun(e:Ending) w'=>∃G',WR g G' H' w'/\Ext G H w G' H' w'/\YE G' w' out e) (.returned v) w2:=by
  rintro G2 H2 w2 ⟨vs',nQ,rfl,rfl⟩ zZ Qh;obtain⟨u,hu,NP⟩:=NB zZ (BL.ext Qh) h5 nQ;exact⟨u,hu,G2,zZ,he.trans Qh,NP⟩
 cases ae with
 |normal=>
  cases e with
  |normal=>exact tS fH a.defers G' H1 w' q lT rE fin
  |_=>exact hx.elim
 |ret=>
  cases e with
  |ret=>exact tS fH a.defers G' H1 w' q lT rE fin
  |_=>exact hx.elim
 |exit id=>exact q.elim
 |panic v=>
  cases e with
  |panic ch=>
   obtain⟨x,rfl,hvx⟩:=hx
   cases hds:fH with
   |nil=>
    subst hds
    cases ou:a.defers with
    |nil=>obtain⟨rfl,rfl⟩:=q;show LeavesInM Fence.wide 0 P fn a.tmps _ a.defers _ w';rw[ou];exact⟨G',lT,he,x,rfl,hvx⟩
    |cons d r=>rw[ou] at rE;exact rE.elim
   |cons d ds=>
    subst hds
    cases d with
    |mark _=>exact q.elim
    |call f0 azs=>
    cases ou:a.defers with
    |nil=>rw[ou] at rE;exact rE.elim
    |cons d0 l=>rw[ou] at rE;obtain⟨⟨cap,ht,yL⟩,hdr⟩:=rE;obtain⟨H2,hS,hA⟩:=q;show LeavesInM Fence.wide 0 P fn a.tmps _ a.defers _ w';rw[ou];refine⟨by simp,.inr ⟨BV,.func f0,cap.toArray,f0,d0.args++cap.toArray,ht,by rw[ht];exact oC hS.1 _ _ _,fun _ _=>trivial,?_⟩⟩;have hc:=hS.2 G' w' _ (.panicking [{v:=x,recovered:=false}]) lT yL ⟨x,rfl,hvx⟩;rw[show(d0.args.toList++cap).toArray=d0.args++cap.toArray by apply Fh;simp] at hc;refine hc.mono fun e u' w2 Qh=>?_;obtain⟨⟨y,rfl⟩,hu,G2,zZ,yJ⟩:=Qh;show LeavesInM Fence.wide 0 P fn a.tmps _ l (settle u') w2;rw[hu];exact tS ds l G2 H2 w2 hA zZ (hdr.ext yJ) fun G3 H3 w3 hq hw3 ow=>fin G3 H3 w3 hq hw3 (yJ.trans ow)
  |_=>exact hx.elim
def YL(P:Program)(g:bF)(mu:Bool):Code->Option (Option Nat×List aZ×bR)
 |.seq (.region _ ops false) rest=>
  match ops.toList with
  |o::l=>match o.op,o.guard,lM P g mu ops l,eK P g mu rest with
   |.call c,none,some rl,some ac=>match c.callee,c.args.toList with
    |.builtin .recover,[]=>some (o.dst,rl,ac)
    |_,_=>none
   |_,_,_,_=>none
  |[]=>none
 |_=>none
theorem XY{P:Program}{id:Nat}{ops:Array Oper}{o:Oper}{Q:Exit->Act->List Frame->World->Prop}{a:Act}{cs DT:List Frame}{w:World}{v:Value}(ho:ops[0]?=some o)(hg:o.guard=none)
 (aUh:∀a w,(execOp (Act.eval a) o).run P w=.ok .recover w) (hv:(recoverD cs=some (v,DT))\/(recoverD cs=none/\v=.nilIface/\DT=cs))
 (h:wpOpsIn Fence.wide 0 P ops (fun e a' w'=>Q e a' DT w') (List.range' 1 (ops.size -1)) (a.put o.dst v) w):(Code.region id ops false).wpS P Q a cs w:=by
 intro b k hb AE;obtain⟨e,a',w',hq,GA⟩:=wp_opsIn _ _ _ h b k DT AE trivial (room_wide _);rw[arrivesIn_iff (fun _ _=>stepsIn_wide) AE,Frame.atR_of_none AE] at GA;have rG:0<ops.size:=(Cg.1 ho).1
 have aUg:List.range ops.size=0::List.range' 1 (ops.size -1):=by rw[Kz];obtain⟨n,hn⟩:∃n,ops.size=n+1:=⟨ops.size -1,by omega⟩;rw[hn,List.range'_succ];simp
 have hw:Region.wanted o (yielded ops a.tmps)=true:=by simp[Region.wanted,hg]
 have AF:=stepG_op (P:=P) (b:=b) (a:=a) (k:=k) (cs:=cs) (w:=w) (rest:=List.range' 1 (ops.size -1)) ho hw
 have GC:∀v,(b.at a (.inRegion ops (0::List.range' 1 (ops.size -1))::k)).finish v=b.at (a.put o.dst v) (.inRegion ops (List.range' 1 (ops.size -1))::k):=by intro v;rw[Frame.finish_at,ho];rfl
 have hk:(b.at a (.inRegion ops (0::List.range' 1 (ops.size -1))::k)).kind=.deferred:=hb;have htr:=tryRecover_deferred hk cs
 have h1:step P (lone (b.at a (.code (.region id ops false)::k)) cs w)=.next (lone (b.at a (.inRegion ops (0::List.range' 1 (ops.size -1))::k)) cs w):=by rw[<-aUg];exact step_region
 have h2:step P (lone (b.at a (.inRegion ops (0::List.range' 1 (ops.size -1))::k)) cs w)=.next (lone (b.at (a.put o.dst v) (.inRegion ops (List.range' 1 (ops.size -1))::k)) DT w):=by
  refine step_lone_go ?_;rw[AF,<-GC];have hr:=aUh a w
  rcases hv with hv|⟨hv,rfl,rfl⟩
  . simp only[Frame.at] at htr ⊢;simp[stepG.apply,hr,htr,hv]
  simp only[Frame.at] at htr ⊢;simp[stepG.apply,hr,htr,hv]
 exact⟨e,a',DT,w',hq,.of_steps (.head h1 (.one h2)) GA⟩
def xx(P:Program)(g:bF)(mu:Bool)(f:FuncId)(n:Nat)(dst:Option Nat)(rl:List aZ)(ac:bR):Prop:=
 ∃fn c,P.funcs[f]?=some fn/\fn.body=some c/\(fn.name== "runtime.NumGoroutine")=false/\YL P g mu c=some (dst,rl,ac)/\fn.ntmps=n/\fn.results.toList=[]
theorem Qu{P:Program}{f:FuncId}{fn:Func}{c:Code}{args:Array Value}{u:FrameMode}{w:World}{R:Ending->FrameMode->World->Prop}(hf:P.funcs[f]?=some fn)(hb:fn.body=some c)
 (h:∀(top:Frame) (below:List Frame),top.mode=u->c.wpS P (bodyPostS P fn top below R) {tmps:=args++Array.replicate (fn.ntmps -args.size) undef,defers:=[]} (top::below) w):CallsDIn Fence.wide 0 P f args u w R:=by
 refine⟨trivial,fun top below hu _=>?_⟩;obtain⟨b,Xh⟩:∃b:Frame,b={(default:Frame) with fn:=f,kind:=.deferred}:=⟨_,rfl⟩
 have iE:b.at {tmps:=args++Array.replicate (fn.ntmps -args.size) undef,defers:=[]} [.code c]=Frame.enter P f args .deferred:=by rw[Xh];simp[Frame.enter,Frame.at,hf,hb]
 obtain⟨e,a1,fs,w1,hq,GA⟩:=h top below hu b [] (by rw[Xh]) (by rw[Xh];rfl);rw[iE] at GA;have hk:b.kind=.deferred:=by rw[Xh]
 have hn:b.fn=f:=by rw[Xh]
 cases e with
 |exit id=>exact hq.elim
 |goto l=>exact hq.elim
 |outgrown=>exact⟨.outgrown,hq.choose,w1,b,hq.choose_spec,GA.resolve_left (by rw[hk];simp),hk,hn,trivial⟩
 |normal=>obtain⟨hd,u1,rfl,v,hr,hR⟩:=hq;exact⟨.returned v,u1,w1,_,hR,comesIn_wide.2 (Steps.trans GA (.one step_end)),hk,hn,rfl,hd,fn,by rw[<-hn] at hf;exact hf,hr⟩
 |ret=>obtain⟨hd,u1,rfl,v,hr,hR⟩:=hq;exact⟨.returned v,u1,w1,_,hR,comesIn_wide.2 GA.choose_spec,hk,hn,rfl,hd,fn,by rw[<-hn] at hf;exact hf,hr⟩
 |panic chain=>obtain⟨hd,u1,rfl,hR⟩:=hq;exact⟨.panicked chain,u1,w1,_,hR,comesIn_wide.2 GA.choose_spec,hk,hn,rfl,hd,fn,by rw[<-hn] at hf;exact hf⟩
theorem TU{P:Program}{g:bF}{mu:Bool}(hm:Fit P g){f:FuncId}{n:Nat}{dst:Option Nat}{rl:List aZ}{ac:bR}(hF:xx P g mu f n dst rl ac)
 {args:List AV} {md:Option AV} {H H':aA}
 (h:tF P g rl (mT (args++List.replicate (n -args.length) aB) dst (md.getD .pR)) [] H (aFb (fun s ds H=>AC P g ac s ds H fun e s ds H=>(match e with|.normal=>True|.ret=>True|_=>False)/\ds=[]/\H=H')
   fun _ _ _ _=>False)):FH P g f args md H H':=by
 obtain⟨fn,c,h1,h2,h0,h3,h4,h5⟩:=hF;refine⟨⟨fn,h1,by rw[h2];rfl,h0⟩,fun G w vs u hw hv hmd=>?_⟩;refine Qu h1 h2 fun c₀ cs hc₀=>?_;unfold YL at h3;split at h3
 . rename_i id ops rest;split at h3
   . rename_i o l hl;split at h3
     . rename_i cl Zw ac' fP hg Tq hac;split at h3
       . rename_i SH IS;simp only[Ab,Af] at h3;obtain⟨rfl,rfl,rfl⟩:=h3
         have ho:ops[0]?=some o:=(by rw[<-Ky,hl];rfl);have hlen:ops.size=l.length+1:=by rw[<-Cz,hl];rfl
         have aUh:∀a w,(execOp (Act.eval a) o).run P w=.ok .recover w:=fun a w=>by have aTn:cl.args= #[]:=(by apply Fh;simpa using IS);simp[execOp,fP,resolve,SH,aTn,invoke,builtin]
         have key:∃(v:Value) (u':FrameMode),((recoverD (c₀::cs)=some (v,{c₀ with mode:=u'}::cs))\/(recoverD (c₀::cs)=none/\v=.nilIface/\u'=u))/\settle u'=.returning/\VR G w (md.getD .pR) v:=by
          cases md with
          |none=>obtain rfl:u=.returning:=hmd;exact⟨.nilIface,.returning,.inr ⟨by simp[recoverD,hc₀],rfl,rfl⟩,rfl,.pR⟩
          |some v=>obtain⟨x,rfl,hx⟩:=hmd;exact⟨x,.panicking [{v:=x,recovered:=true}],.inl (by simp[recoverD,hc₀]),rfl,hx⟩
         obtain⟨v,u',lB,hu',hvv⟩:=key
         have Mf:(recoverD (c₀::cs)=some (v,{c₀ with mode:=u'}::cs))\/(recoverD (c₀::cs)=none/\v=.nilIface/\({c₀ with mode:=u'}::cs:List Frame)=c₀::cs):=by
          rcases lB with hh|⟨hh,rfl,rfl⟩
          . exact .inl hh
          refine .inr ⟨hh,rfl,?_⟩;subst hc₀;rfl
         have hs:SR G w (args++List.replicate (n -args.length) aB) {tmps:=vs.toArray++Array.replicate (fn.ntmps -vs.toArray.size) undef,defers:=[]}:=by have hlen:=hv.1;show gW G w _ _;simp only[Li,Kn,Gq,hlen,h4];refine hv.append ⟨by simp,fun j hj=>?_⟩;simp only[Kx] at hj;simp only[Cl,Ga,hj,if_true,Bl];exact VR.nL G w
         refine wpS_seq (XY ho hg aUh Mf ?_)
         have hA:=EZ (ro:=none) l Zw 1 Tq (fun j hj=>by
          rw[<-Ky,hl,Hq,Gb]
          exact Ac hj) (.inl rfl) _ [] G H w _ _ h hw (hs.put o.dst hvv) (by cases o.dst<;>trivial)
         rw[show ops.size -1=l.length by omega];refine KL (ro:=none) (fun e a1 w1 hq=>?_) _ _ _ hA;obtain⟨ae,s',fH,H1,G',q,lT,he,BL,rE,hx⟩:=hq
         cases ae with
         |normal=>
          cases e with
          |normal=>
           refine wpS_of_wp (wp_mono (wpIn_wide.1 (AG hm rest none ac' hac (.inl rfl) s' fH G' H1 w1 a1 _ q lT BL rE)) fun e a2 w2 hq2=>?_);obtain⟨ae2,s2,Qy,H2,G2,q2,zZ,Qh,hs2,hd2,hx2⟩:=hq2;obtain⟨q3,rfl,rfl⟩:=q2
           have To:a2.defers=[]:=by
            cases ou:a2.defers with
            |nil=>rfl
            |cons d r=>rw[ou] at hd2;exact hd2.elim
           have DZ:(results fn a2.tmps).run P w2=.ok (.tuple #[]) w2:=by have :fn.results= #[]:=(by apply Fh;simpa using h5);unfold results;simp[this]
           cases ae2 with
           |normal=>
            cases e with
            |normal=>exact⟨To,u',rfl,_,DZ,⟨_,rfl⟩,hu',G2,zZ,he.trans Qh⟩
            |_=>exact hx2.elim
           |ret=>
            cases e with
            |ret=>exact⟨To,u',rfl,_,DZ,⟨_,rfl⟩,hu',G2,zZ,he.trans Qh⟩
            |_=>exact hx2.elim
           |exit id=>exact q3.elim
           |panic v=>exact q3.elim
          |_=>exact hx.elim
         |exit id=>exact q.elim
         |ret=>exact q.elim
         |panic v=>exact q.elim
       cases h3
     cases h3
   cases h3
 cases h3
section
def Sn(T:VT)(H:aA):List HL->Option (List AV)
 |[]=>some []
 |x::r=>match (match x with
   |.tmp t=>some (T.get t)
   |.cell a agg n=>match dE (Xf g0 T) H (.load agg n (.tmp a)) with
    |some (v,_)=>some v
    |none=>none),Sn T H r with
  |some v,some vs=>some (v::vs)
  |_,_=>none
theorem Wu{n:Nat}{T:VT}(hb:NH n T)(H:aA):∀l,Sn T H l=mN (MJ n T) H l
 |[]=>rfl
 |x::r=>by
  have ih:=Wu hb H r
  cases x with
  |tmp t=>simp only[Sn,mN,tc,ih,QS hb];cases mN (MJ n T) H r<;>rfl
  |cell a agg m=>
   simp only[Sn,mN,tc,ih,FV hb]
   cases dE (Arg.eval g0 (MJ n T)) H (.load agg m (.tmp a)) with
   |none=>rfl
   |some p=>cases mN (MJ n T) H r<;>rfl
def Yj(JQ:FuncId->Nat->Bool):List fY->aA->Option aA
 |[],H=>some H
 |.call f azs::ds,H=>match JQ f azs.length with
  |true=>Yj JQ ds H
  |false=>none
 |.mark id::ds,H=>match H.get id with
  |some .MV=>Yj JQ ds (H.set id .dfx)
  |_=>none
def aTg(cf:EF)(g:bF)(fuel:Nat)(JQ:FuncId->Nat->Bool)(F:CR)(args:List AV)(H:aA):Option (Out×aA):=
 match Nat.ble args.length F.ntmps with
 |true=>match Qf cf g F.ntmps fuel F.body (zC F.ntmps args 0 .nil) [] H with
  |some (.normal,T,ds,H')|some (.ret,T,ds,H')=>match Yj JQ ds H' with
   |some H1=>match Sn T H1 F.results with
    |some vs=>some (.ret (pA vs),H1)
    |none=>none
   |none=>none
  |some (.panic v,_,[],H')=>some (.JU v,H')
  |_=>none
 |false=>none
theorem NH.nil(n:Nat):NH n .nil:=fun _ _=>rfl
theorem NF(n:Nat):∀(vs:List AV) (i:Nat) (T:VT),NH n T->i+vs.length<=n->
 NH n (zC n vs i T)/\∀t,(zC n vs i T).get t=if i<=t/\t<i+vs.length then vs.getD (t -i) aB else T.get t
 |[],i,T,hb,h=>⟨hb,fun t=>by rw[if_neg (by simp only[Bw];omega)];rfl⟩
 |v::vs,i,T,hb,h=>by
  simp only[As] at h;have :=NF n vs (i+1) (xN n T (some i) v) (hb.put _ _) A0;refine⟨this.1,fun t=>?_⟩;show(zC n vs (i+1) (xN n T (some i) v)).get t=_;rw[this.2 t];have Vy:Nat.blt i n=true:=by simpa [Gx] using(by omega:i<n)
  have GI:(xN n T (some i) v).get t=if t=i then v else T.get t:=by simp only[xN,Vy];exact VT.aC T i v t
  rw[GI];simp only[As];by_cases h1:i+1<=t/\t<i+1+vs.length
  . rw[if_pos h1,if_pos A0];obtain⟨m,hm⟩:∃m,t -i=m+1:=⟨t -i -1,by omega⟩;rw[hm,Et,show t -(i+1)=m by omega]
  rw[if_neg h1];by_cases h2:t=i
  . subst h2;rw[if_pos rfl,if_pos A0];simp
  rw[if_neg h2,if_neg A0]
theorem QP{n:Nat}{args:List AV}(h:args.length<=n):NH n (zC n args 0 .nil)/\MJ n (zC n args 0 .nil)=args++List.replicate (n -args.length) aB:=by
 have :=NF n args 0 .nil (NH.nil n) A0;refine⟨this.1,Gt fun t=>?_⟩;unfold MJ;rw[Ci];by_cases ht:t<n
 . rw[Ie ht,Cf,this.2 t];by_cases h1:t<args.length
   . rw[if_pos A0,Es h1];simp[Ac h1,getD_eq]
   rw[if_neg A0,Gi A0,Ga,if_pos A0];rfl
 rw[Bt Zaf,Bt Zaf];rfl
section
variable {P:Program} {g:bF} {fuel:Nat} {cf:EF}
def OD(P:Program)(g:bF)(JQ:FuncId->Nat->Bool):Prop:=∀f k,JQ f k=true->∀(args:List AV) (H:aA),args.length=k->FH P g f args none H H
theorem TE{JQ:FuncId->Nat->Bool}(hn:OD P g JQ){Q:aA->Prop}:∀(ds:List fY) (H H1:aA),Yj JQ ds H=some H1->Q H1->Xx P g ds H Q
 |[],H,H1,he,h=>by cases he;exact h
 |.mark id::ds,H,H1,he,h=>by
  simp only[Yj] at he;split at he
  . rename_i hg;exact⟨hg,TE hn ds _ _ he h⟩
  cases he
 |.call f azs::ds,H,H1,he,h=>by
  simp only[Yj] at he;split at he
  . rename_i hd;exact⟨H,hn f _ hd azs H rfl,TE hn ds H _ he h⟩
  cases he
theorem Yl(hm:Fit P g)(Me:FA P g cf){JQ:FuncId->Nat->Bool}(hn:OD P g JQ){mu:Bool}{f:FuncId}{F:CR}(hF:gH P g mu f F){args:List AV}{H H':aA}{out:Out}
 (h:aTg cf g fuel JQ F args H=some (out,H')):Sound P g f args H out H':=by
 unfold aTg at h;split at h
 . rename_i hle;have ZD:args.length<=F.ntmps:=Al hle;obtain⟨hb,hs⟩:=QP ZD
   have fin:∀(ae:kd) (T:VT) (ds:List fY) (H1:aA),(ae=.normal\/ae=.ret)->Qf cf g F.ntmps fuel F.body (zC F.ntmps args 0 .nil) [] H=some (ae,T,ds,H1)->
    (match Yj JQ ds H1 with
      |some H2=>match Sn T H2 F.results with
       |some vs=>some (Out.ret (pA vs),H2)
       |none=>none
      |none=>none)=some (out,H')->Sound P g f args H out H':=by
    intro ae T ds H1 hae he h;obtain⟨hbT,hq⟩:=DB Me F.body _ _ _ _ _ _ _ hb he;split at h
    . rename_i H2 fL;split at h
      . rename_i vs nQ;simp only[Ab,Af] at h;obtain⟨rfl,rfl⟩:=h;refine pF hm hF ?_;unfold qP;rw[<-hs];refine hq _ ?_
        have :Xx P g ds H1 fun H1'=>∃vs',mN (MJ F.ntmps T) H1' F.results=some vs'/\(Out.ret (pA vs')=Out.ret (pA vs)/\H1'=H2):=by refine TE hn ds H1 H2 fL ⟨vs,?_,rfl,rfl⟩;rw[<-Wu hbT];exact nQ
        rcases hae with rfl|rfl<;>exact this
      cases h
    cases h
   split at h
   . rename_i T ds H1 he;exact fin .normal T ds H1 (.inl rfl) he h
   . rename_i T ds H1 he;exact fin .ret T ds H1 (.inr rfl) he h
   . rename_i v T H1 he;simp only[Ab,Af] at h;obtain⟨rfl,rfl⟩:=h;obtain⟨hbT,hq⟩:=DB Me F.body _ _ _ _ _ _ _ hb he;refine pF hm hF ?_;unfold qP;rw[<-hs];exact hq _ ⟨rfl,rfl⟩
   cases h
 cases h
inductive FT where
 |leaf (k:Nat) (F:CR)
 |node (m:Nat) (l r:FT)
def FT.get:FT->FuncId->Option CR
 |.leaf k F,f=>match Nat.beq f k with
  |true=>some F
  |false=>none
 |.node m l r,f=>match Nat.blt f m with
  |true=>l.get f
  |false=>r.get f
def FT.All(p:FuncId->CR->Prop):FT->Prop
 |.leaf k F=>p k F
 |.node _ l r=>l.All p/\r.All p
theorem FT.All.get{p:FuncId->CR->Prop}:∀{t:FT},t.All p->∀{f:FuncId} {F:CR},t.get f=some F->p f F
 |.leaf k F',h,f,F,hg=>by
  simp only[FT.get] at hg;split at hg
  . rename_i hb;obtain rfl:=Aa hg;rw[Bd hb];exact h
  cases hg
 |.node m l r,h,f,F,hg=>by
  simp only[FT.get] at hg;split at hg
  . exact FT.All.get h.1 hg
  exact FT.All.get h.2 hg
def exY(cf:EF)(g:bF)(fuel:Nat)(id:Nat)(args:List AV)(H:aA):Option (Out×aA):=
 match H.get id with
 |some (.loop k s .ready)=>match Nat.beq args.length k.ps.length with
  |true=>match Qf cf g s.length fuel k.MQ (JX s.length (zC s.length s 0 .nil) (k.ps.zip args)) [] H with
   |some (.normal,T1,[],H1)=>match H1.get id with
    |some (.loop k1 s1 .ready)=>match Qf cf g s.length fuel k.body T1 [] (H1.set id (.loop k1 s1 .busy)) with
     |some (e,_,[],H2)=>match H2.get id with
      |some (.loop k2 s2 .busy)=>match e with
       |.normal=>some (.ret (.bool true),H2.set id (.loop k2 s2 .ready))
       |.ret=>some (.ret (.bool false),H2.set id (.loop k2 s2 (.done .ret)))
       |.exit i=>some (.ret (.bool false),H2.set id (.loop k2 s2 (.done (.exit i))))
       |.panic _=>none
      |_=>none
     |_=>none
    |_=>none
   |_=>none
  |false=>none
 |_=>none
theorem Mt{n:Nat}:∀(l:List (Nat×AV)) (T:VT),NH n T->NH n (JX n T l)/\MJ n (JX n T l)=pT (MJ n T) l
 |[],T,h=>⟨h,rfl⟩
 |(t,v)::r,T,h=>by have ih:=Mt r (xN n T (some t) v) (h.put _ _);refine⟨ih.1,?_⟩;rw[JX,ih.2,qX];rfl
theorem nr(hm:Fit P g)(Me:FA P g cf){id:Nat}{args:List AV}{H H':aA}{out:Out}(h:exY cf g fuel id args H=some (out,H')):rS P g id args H out H':=by
 unfold exY at h;split at h
 . rename_i k s hg;split at h
   . rename_i hlen;obtain⟨Qg,hs0⟩:=QP (Ag s.length);rw[Nat.sub_self,List.replicate_zero,Cr] at hs0;obtain⟨rP,hs1⟩:=Mt (k.ps.zip args) _ Qg;rw[hs0] at hs1;refine KZ hm hg (Bd hlen) ?_;unfold OA;split at h
     . rename_i T1 H1 ha;obtain⟨wV,hq1⟩:=DB Me k.MQ _ _ _ _ _ _ _ rP ha;rw[<-hs1];refine hq1 _ ?_;split at h
       . rename_i k1 s1 ZA;split at h
         . rename_i e T2 H2 Xh;obtain⟨hb3,hq2⟩:=DB Me k.body _ _ _ _ _ _ _ wV Xh;refine⟨rfl,k1,s1,ZA,hq2 _ ?_⟩;split at h
           . rename_i k2 s2 GD;split at h
             . exact Za1
             . exact Za1
             . exact Za1
             cases h
           cases h
         cases h
       cases h
     cases h
   cases h
 cases h
abbrev TS:=FuncId->List AV->aA->Option (Out×aA)
def OE(P:Program)(g:bF)(qx:TS):Prop:=∀f args H out H',qx f args H=some (out,H')->Sound P g f args H out H'
def exF(qx:TS)(tab:FuncId->Option CR)(g:bF)(fuel:Nat)(JQ:FuncId->Nat->Bool):Nat->EF
 |0=>fun _ _ _=>none
 |d+1=>fun c args H=>match c with
  |.yield id=>exY (exF qx tab g fuel JQ d) g fuel id args H
  |.func (.func f) fs cs=>match qx f (fs++args++cs) H with
   |some r=>some r
   |none=>match tab f with
    |some F=>aTg (exF qx tab g fuel JQ d) g fuel JQ F (fs++args++cs) H
    |none=>none
  |_=>none
theorem LN(hm:Fit P g){qx:TS}(ho:OE P g qx){tab:FuncId->Option CR}{JQ:FuncId->Nat->Bool}(hn:OD P g JQ)(ht:∀f F,tab f=some F->∃mu,gH P g mu f F):∀d,FA P g (exF qx tab g fuel JQ d)
 |0=>fun f args H out H' h=>by cases h
 |d+1=>fun c args H out H' h=>by
  simp only[exF] at h;split at h
  . rename_i id;exact .inr ⟨id,rfl,nr hm (LN hm ho hn ht d) h⟩
  . rename_i f fs cs;refine .inl ⟨(f,fs,cs),rfl,?_⟩;split at h
    . rename_i r hr;cases h;exact ho _ _ _ _ _ hr
    split at h
    . rename_i F hF;obtain⟨mu,hmu⟩:=ht f F hF;exact Yl hm (LN hm ho hn ht d) hn hmu h
    cases h
  cases h
end
end
section
mutual
def AV.free:AV->Bool
 |.pl cs=>cM cs
 |.bC tag _ els=>Nat.blt tag 2&&eI els
 |.func _ a b=>cM a&&cM b
 |.iface _ v=>v.free
 |.agg cs=>cM cs
 |.jZ vs=>cM vs
 |.ref _ _|.sl _ _ _ _ _|.map _|.yield _=>false
 |_=>true
def cM:List AV->Bool
 |[]=>true
 |x::r=>x.free&&cM r
def eI:List (List AV)->Bool
 |[]=>true
 |x::r=>cM x&&eI r
end
theorem SC:∀{l:List AV},cM l=true->∀x∈l,x.free=true
 |[],_,x,hx=>by cases hx
 |y::l,h,x,hx=>by
  simp only[cM,Ak] at h
  rcases Am.1 hx with rfl|hx
  . exact h.1
  exact SC h.2 x hx
theorem iV{a b:List AV}:cM (a++b)=(cM a&&cM b):=by
 induction a with
 |nil=>simp[cM]
 |cons x r ih=>simp[cM,ih,Bool.and_assoc]
theorem mK:∀{l:List (List AV)},eI l=true->cM l.flatten=true
 |[],_=>rfl
 |y::l,h=>by simp only[eI,Ak] at h;rw[Cd,iV,h.1,mK h.2];rfl
theorem lA{l:List AV}(h:cM l=true){j:Nat}(hj:j<l.length):(l.getD j aB).free=true:=by refine SC h _ ?_;rw[getD_eq,Ac hj];exact Ah hj
theorem VR.qI{G G':Gh}{w w':World}{a:AV}{u:Value}(h:VR G w a u)(hf:a.free=true)
 (hi:∀b o,G.gM b o->G'.gM b o/\w'.cell? ⟨b,o,none⟩=w.cell? ⟨b,o,none⟩):VR G' w' a u:=by
 induction h with
 |bool b=>exact .bool b
 |int k n=>exact .int k n
 |str s=>exact .str s
 |Lw=>exact .Lw
 |ref id off l h=>cases hf
 |pl cells b o us h hv ih=>simp only[AV.free] at hf;exact .pl cells b o us (fun j hj=>⟨(hi _ _ (h j hj).1).1,by rw[(hi _ _ (h j hj).1).2];exact(h j hj).2.1,(h j hj).2.2⟩) (fun j hj=>ih j hj (lA hf hj))
 |bB=>exact .bB
 |uJ tag sz b o s ht=>exact .uJ tag sz b o s ht
 |bC tag sz els b o cap us hu h hv ht ih=>
  simp only[AV.free,Ak] at hf;have zQ:=mK hf.2;refine .bC tag sz els b o cap us hu (fun j hj=>⟨(hi _ _ (h j hj).1).1,by rw[(hi _ _ (h j hj).1).2];exact(h j hj).2.1,(h j hj).2.2⟩) (fun j hj=>ih j hj (lA zQ hj)) ?_;refine⟨ht.1,?_⟩;have h2:=ht.2;have rZ:tag<2:=by have :=hf.1;simpa [Gx] using this
  match tag,h2,rZ with
  |0,_,_=>trivial
  |1,h2,_=>exact h2
  |k+2,_,hh=>omega
 |sl id sz off len cap jS l h hlen iE oY=>cases hf
 |func fn fs cs azs bs ha hb hav hbv qU uC=>simp only[AV.free,Ak] at hf;exact .func fn fs cs azs bs ha hb (fun j hj=>qU j hj (lA hf.1 hj)) (fun j hj=>uC j hj (lA hf.2 hj))
 |BT=>exact .BT
 |iface t a v h ih=>exact .iface t a v (ih hf)
 |pR=>exact .pR
 |agg cs vs nB h1 hv ih=>simp only[AV.free] at hf;exact .agg cs vs nB h1 (fun j hj=>ih j hj (lA hf hj))
 |jZ cs vs nB hv ih=>simp only[AV.free] at hf;exact .jZ cs vs nB (fun j hj=>ih j hj (lA hf hj))
 |map id l h=>cases hf
 |yield id l h=>cases hf
 |sB=>exact .sB
theorem gW.qI{G G':Gh}{w w':World}{xs:List AV}{vs:List Value}(h:gW G w xs vs)(hf:cM xs=true)
 (hi:∀b o,G.gM b o->G'.gM b o/\w'.cell? ⟨b,o,none⟩=w.cell? ⟨b,o,none⟩):gW G' w' xs vs:=
 ⟨h.1,fun j hj=>(h.2 j hj).qI (lA hf hj) hi⟩
def ED(tk:Option Nat)(nw tag:Nat):Nat:=
 match tag with
 |0=>0
 |1=>1
 |k+2=>match tk with
  |some k'=>match Nat.beq k k' with
   |true=>nw+2
   |false=>0
  |none=>0
def kT(H:aA)(tk:Option Nat)(nw:Nat):AV->Option AV
 |.bC tag sz els=>match eI els with
  |true=>some (.bC (ED tk nw tag) sz els)
  |false=>none
 |.sl id sz off len cap=>match H.eG id with
  |some cs=>match Nat.ble (off+len*sz) cs.length&&cM (cs.drop off) with
   |true=>some (.bC 0 sz (fK sz len (cs.drop off)))
   |false=>none
  |none=>none
 |.ref id off=>match H.eG id with
  |some cs=>match cM (cs.drop off) with
   |true=>some (.pl (cs.drop off))
   |false=>none
  |none=>none
 |v=>match v.free with
  |true=>some v
  |false=>none
def PV(f:AV->Option AV):List AV->Option (List AV)
 |[]=>some []
 |x::r=>match f x,PV f r with
  |some y,some ys=>some (y::ys)
  |_,_=>none
def gT(H:aA)(tk:Option Nat)(nw:Nat):Nat->AV->Option AV
 |0,v=>kT H tk nw v
 |n+1,.agg cs=>(PV (gT H tk nw n) cs).map .agg
 |n+1,.jZ vs=>(PV (gT H tk nw n) vs).map .jZ
 |_,v=>kT H tk nw v
theorem Ls{f:AV->Option AV}:∀{l r:List AV},PV f l=some r->r.length=l.length/\∀j,j<l.length->f (l.getD j aB)=some (r.getD j aB)
 |[],r,h=>by obtain rfl:=Aa h;exact⟨rfl,fun j hj=>absurd hj (Ar j)⟩
 |x::l,r,h=>by
  simp only[PV] at h;split at h
  . rename_i y ys hy Ln;obtain rfl:=Aa h;obtain⟨h1,h2⟩:=Ls Ln;refine⟨by simp[h1],fun j hj=>?_⟩
    cases j with
    |zero=>simpa using hy
    |succ j=>simpa using h2 j Zas
  cases h
def rT(tk:Option Nat)(H:aA):aA:=match tk with
 |none=>H
 |some _=>H.alloc .tok
def HT(g:bF):Prop:=∀n cs,g n=some cs->cM cs=true
def Out.av:Out->AV
 |.ret v=>v
 |.JU v=>v
def Out.with:Out->AV->Out
 |.ret _,v=>.ret v
 |.JU _,v=>.JU v
section
variable {P:Program} {g:bF}
def FX(G G2:Gh)(H:aA)(H2:aA)(tk:Option Nat):Gh where
 loc:=fun id=>if id=H.next then tk.bind G2.loc else G.loc id
 gM:=fun b o=>G2.gM b o\/∃id l cs eB,G2.loc id=some l/\H2.get id=some (.cells cs eB)/\l.cV=b/\l.base<=o/\o<l.base+l.Uy
 mo:=G.mo
theorem QK{G G2:Gh}{H H2:aA}{w2:World}{tk:Option Nat}(hn:∀k,tk=some k->H2.get k=some .tok)(zZ:WR g G2 H2 w2){v v':AV}{u:Value}(h:VR G2 w2 v u)(hs:kT H2 tk H.next v=some v'):
 VR (FX G G2 H H2 tk) w2 v' u:=by
 have hi:∀b o,G2.gM b o->(FX G G2 H H2 tk).gM b o/\w2.cell? ⟨b,o,none⟩=w2.cell? ⟨b,o,none⟩:=fun b o hh=>⟨.inl hh,rfl⟩
 have frozen:∀{id:Nat} {l:Loc} {cs:List AV} {off:Nat},G2.loc id=some l->H2.eG id=some cs->cM (cs.drop off)=true->∀j,j<(cs.drop off).length->
  ∃x,(FX G G2 H H2 tk).gM l.cV (l.base+off+j)/\w2.cell? ⟨l.cV,l.base+off+j,none⟩=some x/\((cs.drop off).getD j aB).one=true/\VR (FX G G2 H H2 tk) w2 ((cs.drop off).getD j aB) x:=by
  intro id l cs off hl hc hf j hj;obtain⟨eB,hg⟩:=aA.pH hc;obtain⟨a1,a2,a3,a4,a5⟩:=zZ.cells id l cs eB hl hg;simp only[Ib] at hj;obtain⟨x,hx,hvx⟩:=a5 (off+j) A0;have SI:(cs.drop off).getD j aB=cs.getD (off+j) aB:=by rw[getD_eq,getD_eq,Gg]
  refine⟨x,.inr ⟨id,l,cs,eB,hl,hg,rfl,by omega,by omega⟩,by rw[Bh];exact hx,?_,?_⟩
  . rw[SI];refine a4 _ ?_;rw[getD_eq,Ac A0];exact Ah _
  have yB:=lA hf (j:=j) Zas;rw[SI] at yB ⊢;exact hvx.qI yB hi
 unfold kT at hs;split at hs
 . rename_i tag sz els;split at hs
   . rename_i hf;obtain rfl:=Aa hs;have zQ:=mK hf
     cases h with
     |uJ _ _ b o s ht=>
      refine .uJ _ _ _ _ _ ?_
      match tag,ht with
      |0,_=>exact Nat.zero_lt_two
      |1,_=>exact Nat.one_lt_two
     |bC _ _ _ b o cap us hu hh hv ht=>
      refine .bC _ sz els b o cap us hu (fun j hj=>⟨(hi _ _ (hh j hj).1).1,(hh j hj).2⟩) (fun j hj=>(hv j hj).qI (lA zQ hj) hi) ⟨ht.1,?_⟩;have h2:=ht.2
      match tag,h2 with
      |0,_=>trivial
      |1,h2=>exact h2
      |k+2,⟨l,h1,h2⟩=>
       cases tk with
       |none=>trivial
       |some k'=>
        simp only[ED]
        cases hk:Nat.beq k k' with
        |false=>trivial
        |true=>obtain rfl:=Bd hk;exact⟨l,by simp only[FX,if_true,Option.bind_some];exact h1,h2⟩
   cases hs
 . rename_i id sz off len cap;split at hs
   . rename_i cs hc;split at hs
     . rename_i eU;obtain rfl:=Aa hs;simp only[Ak] at eU;have hle:off+len*sz<=cs.length:=Al eU.1
       cases h with
       |sl _ _ _ _ _ jS l hl hlen iE oY=>
        obtain⟨f1,f2,f3⟩:=kQ sz len (cs.drop off) Zaf;have fe:=frozen hl hc eU.2;have hmul:len*sz<=cap*sz:=Bq sz hlen
        have HI:∀j,j<(fK sz len (cs.drop off)).flatten.length->j<(cs.drop off).length/\(fK sz len (cs.drop off)).flatten.getD j aB=(cs.drop off).getD j aB:=fun j hj=>by rw[f1] at hj ⊢;simp only[Dp,Ib] at hj;refine⟨by simp;omega,?_⟩;rw[getD_take _ _ _ _ A0]
        have key:=VR.bC (G:=FX G G2 H H2 tk) (w:=w2) 0 sz (fK sz len (cs.drop off)) l.cV (l.base+off) jS (fun j=>(w2.cell? ⟨l.cV,l.base+off+j,none⟩).getD undef) f3
         (fun j hj=>by
           obtain⟨h1,h2⟩:=HI j hj;obtain⟨x,q1,q2,q3,q4⟩:=fe j h1
           exact⟨q1,by rw[q2];rfl,by rw[h2];exact q3⟩)
         (fun j hj=>by
           obtain⟨h1,h2⟩:=HI j hj;obtain⟨x,q1,q2,q3,q4⟩:=fe j h1
           rw[h2,q2];exact q4)
         ⟨by rw[f2];rcases oY with rfl|⟨_,yA,_⟩<;>omega,trivial⟩
        rw[f2] at key;exact key
     cases hs
   cases hs
 . rename_i id off;split at hs
   . rename_i cs hc;split at hs
     . rename_i hf;obtain rfl:=Aa hs
       cases h with
       |ref _ _ l hl=>
        have fe:=frozen hl hc hf
        exact .pl (cs.drop off) l.cV (l.base+off) (fun j=>(w2.cell? ⟨l.cV,l.base+off+j,none⟩).getD undef)
         (fun j hj=>by
           obtain⟨x,q1,q2,q3,q4⟩:=fe j hj
           exact⟨q1,by rw[q2];rfl,q3⟩)
         (fun j hj=>by
           obtain⟨x,q1,q2,q3,q4⟩:=fe j hj
           rw[q2];exact q4)
     cases hs
   cases hs
 split at hs
 . rename_i hf;obtain rfl:=Aa hs;exact h.qI hf hi
 cases hs
theorem aEq{G G2:Gh}{H H2:aA}{w2:World}{tk:Option Nat}{nw n:Nat}{v v':AV}(hs:gT H2 tk nw n v=some v')(h:v.one=true):v'.one=true:=by
 have h1:kT H2 tk nw v=some v'->v'.one=true:=fun hs=>by
  unfold kT at hs
  repeat' (split at hs)
  all_goals first
   |(cases hs;done)
   |(obtain rfl:=Aa hs;first|rfl|exact h)
 cases n with
 |zero=>exact h1 hs
 |succ n=>
  unfold gT at hs;split at hs
  . exact h1 hs
  . cases h
  . cases h
  exact h1 hs
theorem KC{G G2:Gh}{H H2:aA}{w2:World}{tk:Option Nat}(hn:∀k,tk=some k->H2.get k=some .tok)(zZ:WR g G2 H2 w2):∀(n:Nat) {v v':AV} {u:Value},VR G2 w2 v u->gT H2 tk H.next n v=some v'->
 VR (FX G G2 H H2 tk) w2 v' u
 |0,v,v',u,h,hs=>QK hn zZ h hs
 |n+1,v,v',u,h,hs=>by
  unfold gT at hs;split at hs
  . exact QK hn zZ h hs
  . rename_i m cs hm;obtain rfl:m=n:=by omega
    simp only[Ae] at hs;obtain⟨r,hr,rfl⟩:=hs;obtain⟨r1,r2⟩:=Ls hr
    cases h with
    |agg _ vs hl h1 hv=>refine .agg r vs A0 (fun c hc=>?_) (fun j hj=>KC hn zZ m (hv j A0) (r2 j A0));obtain⟨j,hj,rfl⟩:=Hy.1 hc;have :=r2 j A0;rw[getD_eq,getD_eq,Ac hj,Ac A0] at this;exact aEq (G:=G) (G2:=G2) (H:=H) (w2:=w2) this (h1 _ (Ah _))
  . rename_i m vs0 hm;obtain rfl:m=n:=by omega
    simp only[Ae] at hs;obtain⟨r,hr,rfl⟩:=hs;obtain⟨r1,r2⟩:=Ls hr
    cases h with
    |jZ _ vs hl hv=>exact .jZ r vs A0 (fun j hj=>KC hn zZ m (hv j A0) (r2 j A0))
  exact QK hn zZ h hs
theorem KY.frame(hg:HT g){f:FuncId}{args:List AV}(hf:cM args=true){R:Out->aA->Prop}(h:KY P g f args ⟨0,.nil⟩ R)(H:aA){bFq:Out}{H':aA}
 (hR:∀out H2,R out H2->∃tk n v',(∀k,tk=some k->H2.get k=some .tok)/\gT H2 tk H.next n out.av=some v'/\out.with v'=bFq/\rT tk H=H'):Sound P g f args H bFq H':=by
 refine⟨h.1,fun G w vs hw hv=>?_⟩;let G0:Gh:=⟨fun _=>none,G.gM,G.mo⟩;have hG0:∀b o,G.gM b o->G0.gM b o/\w.cell? ⟨b,o,none⟩=w.cell? ⟨b,o,none⟩:=fun b o hh=>⟨hh,rfl⟩
 have hw0:WR g G0 ⟨0,.nil⟩ w:={
  cells:=fun id l cs eB h1=>by cases h1
  room:=fun id l h1=>by cases h1
  lD:=fun id kS l l' _ h1=>by cases h1
  jV:=fun id l h1=>by cases h1
  iG:=fun id l es h1=>by cases h1
  lt:=fun id l h1=>by cases h1
  iF:=hw.iF
  iW:=fun k cs hk=>(hw.iW k cs hk).qI (hg k cs hk) hG0
  DH:=hw.DH
  mo:=hw.mo}
 refine(h.2 G0 w vs hw0 (hv.qI hf hG0)).mono fun e w2 he=>?_;obtain⟨out,H2,G2,hr,zZ,yJ,vQ⟩:=he;obtain⟨tk,n,v',uA,hs,rfl,rfl⟩:=hR _ _ hr
 have LY:∀id l,G2.loc id=some l->H2.live id->w.heap.size<=l.cV:=fun id l h1 h2=>by
  rcases yJ.lY id l h1 h2 with hh|⟨eV,l0,hh,_⟩
  . exact hh
  cases hh
 have aBj:∀b,b<w.heap.size->w2.heap[b]?=w.heap[b]?:=fun b hb=>yJ.frame b hb fun id l hh=>by cases hh
 have aMp:∀b o,(FX G G2 H H2 tk).gM b o->G.gM b o\/w.heap.size<=b:=fun b o hi=>by
  rcases hi with hi|⟨id,l,cs,eB,h1,h2,rfl,_⟩
  . rcases yJ.oZ b o hi with hh|hh|⟨eV,l0,hh,_⟩
    . exact .inl hh
    . exact .inr hh
    cases hh
  exact .inr (LY id l h1 ⟨_,h2,rfl⟩)
 have sN:∀id l,G.loc id=some l->(FX G G2 H H2 tk).loc id=some l:=fun id l hl=>by have :=hw.lt id l hl;simp only[FX];rw[if_neg A0];exact hl
 have oI:∀b o,G.gM b o->(FX G G2 H H2 tk).gM b o/\w2.cell? ⟨b,o,none⟩=w.cell? ⟨b,o,none⟩:=fun b o hi=>⟨.inl (yJ.gM b o hi).1,(yJ.gM b o hi).2⟩;have aBn:H.next<=(rT tk H).next:=by cases tk<;>simp[rT]
 have cS:∀id,id≠H.next->(rT tk H).get id=H.get id:=fun id cG=>by
  cases tk with
  |none=>rfl
  |some k=>simp only[rT,aA.aI,if_neg cG]
 have oU:∀id l,(FX G G2 H H2 tk).loc id=some l->(id≠H.next/\G.loc id=some l)\/(id=H.next/\∃k,tk=some k/\G2.loc k=some l/\(rT tk H).get id=some .tok):=fun id l hl=>by
  simp only[FX] at hl;by_cases hid:id=H.next
  . rw[if_pos hid] at hl
    cases tk with
    |none=>cases hl
    |some k=>exact .inr ⟨hid,k,rfl,hl,by simp only[rT,aA.aI,if_pos hid]⟩
  rw[if_neg hid] at hl;exact .inl ⟨hid,hl⟩
 have qA:∀id,id≠H.next->(rT tk H).live id->H.live id:=fun id cG ⟨o,h1,h2⟩=>⟨o,by rw[<-cS id cG];exact h1,h2⟩;have Tu:∀k l,tk=some k->G2.loc k=some l->w.heap.size<=l.cV:=fun k l h1 h2=>LY k l h2 ⟨_,uA k h1,rfl⟩
 have aUi:WR g (FX G G2 H H2 tk) (rT tk H) w2:={
  cells:=fun id l cs eB h1 h2=>by
   rcases oU id l h1 with ⟨cG,hl⟩|⟨_,k,_,_,ht⟩
   . rw[cS id cG] at h2;obtain⟨a1,a2,a3,a4,a5⟩:=hw.cells id l cs eB hl h2;have hb:=hw.nF hl ⟨_,h2,rfl⟩;refine⟨a1,a2,a3,a4,fun j hj=>?_⟩;obtain⟨x,hx,hvx⟩:=a5 j hj;exact⟨x,by rw[fQ (aBj _ hb)];exact hx,hvx.mono sN oI⟩
   rw[ht] at h2;cases h2
  room:=fun id l h1 h2=>by
   rcases oU id l h1 with ⟨cG,hl⟩|⟨_,k,hk,hl2,ht⟩
   . rw[cS id cG] at h2
     have hb:l.cV<w.heap.size:=hw.nF hl (by
      rcases h2 with ⟨cs,eB,hh⟩|hh
      . exact⟨_,hh,rfl⟩
      exact⟨_,hh,rfl⟩)
     obtain⟨c,el,fz,b1,b2,b3⟩:=hw.room id l hl h2;exact⟨c,el,fz,by rw[aBj _ hb];exact b1,b2,fun j hj=>by rw[lJ (aBj _ hb)];exact b3 j hj⟩
   exact zZ.room k l hl2 (.inr (uA k hk))
  lD:=fun id kS l l' cG h1 h2 uB qK=>by
   rcases oU id l h1 with ⟨AD,BI⟩|⟨AD,k,hk,Xn,_⟩<;>rcases oU kS l' h2 with ⟨JA,hl2⟩|⟨JA,k',rF,eW,_⟩
   . exact hw.lD id kS l l' cG BI hl2 (qA id AD uB) (qA kS JA qK)
   . have :=hw.nF BI (qA id AD uB);have :=Tu k' l' rF eW;exact .inl A0
   . have :=hw.nF hl2 (qA kS JA qK);have :=Tu k l hk Xn;exact .inl A0
   exact absurd (AD.trans JA.symm) cG
  jV:=fun id l h1 uB j hj hi=>by
   rcases oU id l h1 with ⟨AD,BI⟩|⟨AD,k,hk,Xn,_⟩
   . have hb:=hw.nF BI (qA id AD uB)
     rcases aMp _ _ hi with hh|hh
     . exact hw.jV id l BI (qA id AD uB) j hj hh
     omega
   rcases hi with hi|⟨id2,l2,cs,eB,q1,q2,q3,q4,q5⟩
   . exact zZ.jV k l Xn ⟨_,uA k hk,rfl⟩ j hj hi
   have cG:id2≠k:=fun hh=>by rw[hh,uA k hk] at q2;cases q2
   have hs:=(zZ.cells id2 l2 cs eB q1 q2).2.1
   rcases zZ.lD id2 k l2 l cG q1 Xn ⟨_,q2,rfl⟩ ⟨_,uA k hk,rfl⟩ with hd|hd|hd
   . exact hd q3
   . omega
   omega
  iG:=fun id l o h1 h2 hk=>by
   rcases oU id l h1 with ⟨cG,hl⟩|⟨_,k,_,_,ht⟩
   . rw[cS id cG] at h2;have hb:=hw.nF hl ⟨_,h2,PS hk⟩;obtain⟨a1,a2,a3⟩:=hw.iG id l o hl h2 hk;exact⟨a1,a2,a3.mono (aBj _ hb) fun _ _ h=>h.mono sN oI⟩
   rw[ht] at h2;cases h2;cases hk
  lt:=fun id l h1=>by
   rcases oU id l h1 with ⟨cG,hl⟩|⟨hn,k,hk,_,_⟩
   . have :=hw.lt id l hl;omega
   subst hk;simp[rT,hn]
  iF:=fun b o hi=>by
   rcases hi with hi|⟨id,l,cs,eB,q1,q2,rfl,q4,q5⟩
   . exact zZ.iF b o hi
   obtain⟨a1,_,_,_,a5⟩:=zZ.cells id l cs eB q1 q2;obtain⟨x,hx,_⟩:=a5 (o -l.base) A0;exact⟨x,by rw[show o=l.base+(o -l.base) by omega];exact hx⟩
  iW:=fun k cs hk=>(hw.iW k cs hk).mono sN oI
  DH:=zZ.DH
  mo:=hw.mo}
 have aZa:Ext G H w (FX G G2 H H2 tk) (rT tk H) w2:={
  loc:=sN
  gM:=oI
  size:=yJ.size
  frame:=fun b hb _=>aBj b hb
  lY:=fun id l h1 uB=>by
   rcases oU id l h1 with ⟨cG,hl⟩|⟨_,k,hk,Xn,_⟩
   . exact .inr ⟨id,l,hl,qA id cG uB,rfl⟩
   exact .inl (Tu k l hk Xn)
  oZ:=fun b o hi=>by
   rcases aMp b o hi with hh|hh
   . exact .inl hh
   exact .inr (.inl hh)
  next:=aBn
  news:=fun id l h1 h2=>by
   rcases oU id l h1 with ⟨cG,hl⟩|⟨hn,_⟩
   . rw[h2] at hl;cases hl
   omega
  dead:=fun id l h1 uB=>qA id (by have :=hw.lt id l h1;omega) uB
  mo:=rfl
  same:=yJ.same}
 refine⟨_,aUi,aZa,?_⟩
 cases out with
 |ret v=>
  cases e with
  |returned u=>exact KC uA zZ n vQ hs
  |_=>exact vQ.elim
 |JU v=>
  cases e with
  |panicked ch=>obtain⟨u,rfl,NP⟩:=vQ;exact⟨u,rfl,KC uA zZ n NP hs⟩
  |_=>exact vQ.elim
theorem Sound.frame(hg:HT g){f:FuncId}{args:List AV}(hf:cM args=true){out:Out}{H2:aA}(h:Sound P g f args ⟨0,.nil⟩ out H2){tk:Option Nat}(uA:∀k,tk=some k->H2.get k=some .tok){n:Nat}
 (H:aA) {v':AV} (hs:gT H2 tk H.next n out.av=some v'):Sound P g f args H (out.with v') (rT tk H):=
 h.open.frame hg hf H fun o H3 hh=>by obtain⟨rfl,rfl⟩:=hh;exact⟨tk,n,v',uA,hs,rfl,rfl⟩
end
end
section
abbrev cW:=Nat->AV
abbrev FQ:=kd->cW->List fY->aA->Prop
def nN(g:bF)(f:cW):Arg->AV
 |.tmp t=>f t
 |.const v=>v
 |.iW n=>match g n with
  |some cs=>.pl cs
  |none=>aB
def iZ(f:cW)(d:Nat)(v:AV):cW:=fun t=>if t=d then v else f t
theorem rN(f:cW)(d:Nat)(v:AV):iZ f d v d=v:=by simp[iZ]
theorem oO(f:cW){d t:Nat}(v:AV)(h:t≠d):iZ f d v t=f t:=by simp[iZ,h]
def fM(n:Nat)(f:cW):Option Nat->AV->cW
 |none,_=>f
 |some d,v=>if d<n then iZ f d v else f
def gQ(f:cW)(o:aZ):Bool:=
 match o.guard with
 |none=>true
 |some (d,b)=>match f d with
  |.bool c=>c==b
  |_=>false
def mP(r:Option (AV×aA))(k:AV->aA->Prop):Prop:=
 match r with
 |some (v,H)=>k v H
 |none=>False
def bT(P:Program)(g:bF)(n:Nat):List aZ->cW->List fY->aA->FQ->Prop
 |[],f,ds,H,Q=>Q .normal f ds H
 |o::r,f,ds,H,Q=>
  if gQ f o then
   match o.op with
   |.call c azs=>∃out H',RY P g (nN g f c) (azs.map (nN g f)) H out H'/\
     match out with
     |.ret v=>bT P g n r (fM n f o.dst v) ds H' Q
     |.JU v=>Q (.panic v) f ds H'
   |.panic x=>∃t v,nN g f x=.iface t v/\Q (.panic (.iface t v)) f ds H
   |.lN c azs=>∃p,lQ (nN g f c)=some p/\bT P g n r (fM n f o.dst aB) (.call p.1 (p.2.1++azs.map (nN g f)++p.2.2)::ds) H Q
   |.vR x=>∃m es,nN g f x=.map m/\H.get m=some (.map es)/\∀bs c mb,bs.length=es.length->bs.Nodup->
     bT P g n r (fM n f o.dst (.ref H.next 0)) ds ((H.set m (.sO es bs c mb)).alloc (.iter m mb c [])) Q
   |.EP x=>∃it m mb c seen es bs,nN g f x=.ref it 0/\H.get it=some (.iter m mb c seen)/\H.get m=some (.sO es bs c mb)/\
     ((∀b∈bs,b∈seen)->bT P g n r (fM n f o.dst (.jZ [.bool false])) ds H Q)/\
     ∀j,j<bs.length->bs.getD j 0∉seen->bT P g n r (fM n f o.dst (.jZ [.bool true,(es.getD j (aB,aB)).1,(es.getD j (aB,aB)).2])) ds (H.set it (.iter m mb c (seen++[bs.getD j 0]))) Q
   |.yR x=>∃it m mb c seen es bs j,nN g f x=.ref it 0/\H.get it=some (.iter m mb c (seen++[bs.getD j 0]))/\H.get m=some (.sO es bs c mb)/\j<bs.length/\
     bT P g n r (fM n f o.dst (.jZ [(es.getD j (aB,aB)).1,(es.getD j (aB,aB)).2])) ds H Q
   |op=>mP (dE (nN g f) H op) fun v H'=>bT P g n r (fM n f o.dst v) ds H' Q
  else bT P g n r (fM n f o.dst aB) ds H Q
def FF(P:Program)(g:bF)(r:aZ)(f:cW)(H:aA)(v:AV)(H':aA):Prop:=
 match r.op with
 |.call c azs=>∃p,lQ (nN g f c)=some p/\Sound P g p.1 (p.2.1++azs.map (nN g f)++p.2.2) H (.ret v) H'
 |.panic _|.lN _ _=>False
 |op=>dE (nN g f) H op=some (v,H')
def YC(P:Program)(g:bF)(n:Nat)(pairs:List (Nat×Nat))(base:Nat):Nat->Nat->List aZ->List (Nat×Nat)->List (Nat×aA×aA)->cW->aA->(cW->aA->Prop)->Prop
 |_,_,[],_,_,f,H,Q=>Q f H
 |i,k,r::rs,rd,ef,f,H,Q=>
  if gQ f r then
   if r.op.fresh then
    ∃ob val,yH (nN g f) r.op=some (ob,val)/\(∀x∈ef,(i,x.1)∈pairs->x.2.1.get (base+k)=x.2.2.get (base+k))/\
     YC P g n pairs base (i+1) (k+1) rs ((i,base+k)::rd) ef (fM n f r.dst (val (base+k))) (H.set (base+k) ob) Q
   else if r.op.pJ then
    ∃v H',FF P g r f H v H'/\H.next<=H'.next/\(∀x∈rd,(x.1,i)∈pairs->H.get x.2=H'.get x.2)/\
     YC P g n pairs base (i+1) k rs rd ((i,H,H')::ef) (fM n f r.dst v) H' Q
   else
    ∃v,FF P g r f H v H/\(∀id,r.op.cZ (nN g f)=some id->∀x∈ef,(i,x.1)∈pairs->x.2.1.get id=x.2.2.get id)/\
     YC P g n pairs base (i+1) k rs (match r.op.cZ (nN g f) with|some id=>(i,id)::rd|none=>rd) ef (fM n f r.dst v) H Q
  else YC P g n pairs base (i+1) (if r.op.fresh then k+1 else k) rs rd ef (fM n f r.dst aB) H Q
def gI(next:cW->List fY->aA->Prop)(Q:FQ):FQ
 |.normal,f,ds,H=>next f ds H
 |e,f,ds,H=>Q e f ds H
def dO(id:Nat)(Q:FQ):FQ
 |.exit i,f,ds,H=>if i=id then Q .normal f ds H else Q (.exit i) f ds H
 |e,f,ds,H=>Q e f ds H
def sU(n:Nat)(f:cW):List (Nat×AV)->cW
 |[]=>f
 |(t,v)::r=>sU n (fM n f (some t) v) r
def tl(id:Nat)(out:Out)(H3:aA):FQ
 |.normal,_,ds,H=>ds=[]/\out=.ret (.bool true)/\∃k sn,H.get id=some (.loop k sn .busy)/\H3=H.set id (.loop k sn .ready)
 |.ret,_,ds,H=>ds=[]/\out=.ret (.bool false)/\∃k sn,H.get id=some (.loop k sn .busy)/\H3=H.set id (.loop k sn (.done .ret))
 |.exit i,_,ds,H=>ds=[]/\out=.ret (.bool false)/\∃k sn,H.get id=some (.loop k sn .busy)/\H3=H.set id (.loop k sn (.done (.exit i)))
 |.panic _,_,_,_=>False
def PT(st:LSt)(f:cW)(ds:List fY)(H:aA)(Q:FQ):Prop:=
 match st with
 |.ready=>Q .normal f ds H
 |.done .ret=>Q .ret f ds H
 |.done (.exit i)=>Q (.exit i) f ds H
 |_=>False
def LF(n:Nat)(f:cW):List AV:=(List.range n).map f
def nD(n:Nat)(f:cW):Prop:=∀t,n<=t->f t=aB
def FC(P:Program)(g:bF)(n:Nat):bR->cW->List fY->aA->FQ->Prop
 |.skip,f,ds,H,Q=>Q .normal f ds H
 |.ops rl,f,ds,H,Q=>bT P g n rl f ds H Q
 |.draw rl pairs,f,ds,H,Q=>(pK H (rl.countP (·.op.fresh))=true/\
   YC P g n pairs H.next 0 0 rl [] [] f {H with next:=H.next+rl.countP (·.op.fresh)} fun f' H'=>Q .normal f' ds H')\/
   (nD n f->∃x f' H',Nz P g rl pairs (LF n f) H (fun x' s' h'=>x'=x/\s'=LF n f'/\h'=H')/\nD n f'/\(∀t,t∉rl.filterMap (·.dst)->f' t=f t)/\Q (.panic x) f' ds H')\/
   (nD n f->∃x H',Ny P g rl pairs (LF n f) H (fun x' h'=>x'=x/\h'=H')/\∀f':cW,nD n f'->(∀t,t∉rl.filterMap (·.dst)->f' t=f t)->Q (.panic x) f' ds H')
 |.seq a b,f,ds,H,Q=>FC P g n a f ds H (gI (fun f ds H=>FC P g n b f ds H Q) Q)
 |.cond c a b,f,ds,H,Q=>∃t,nN g f c=.bool t/\if t then FC P g n a f ds H Q else FC P g n b f ds H Q
 |.block id a,f,ds,H,Q=>FC P g n a f ds H (dO id Q)
 |.loop a,f,ds,H,Q=>∃(I:Nat->cW->List fY->aA->Prop) (m:Nat),I m f ds H/\
   ∀m f ds H,I m f ds H->FC P g n a f ds H (gI (fun f ds H=>∃k,k<m/\I k f ds H) Q)
 |.exit id,f,ds,H,Q=>Q (.exit id) f ds H
 |.ret,f,ds,H,Q=>Q .ret f ds H
 |.oJ c ps MQ body,f,ds,H,Q=>∃fid fs cs v He k' s' st Hf,nN g f c=.func (.func fid) fs cs/\
   Sound P g fid (fs++[.yield (H.next+1)]++cs) ((H.alloc .MV).alloc (.loop ⟨ps,MQ,body⟩ (LF n f) .ready)) (.ret v) He/\He.get (H.next+1)=some (.loop k' s' st)/\xE He (H.next+1) Hf/\
   PT st f (.mark H.next::ds) Hf Q
def TO(P:Program)(g:bF)(n:Nat)(k:KT)(f:cW)(id:Nat)(args:List AV)(H2:aA)(out:Out)(H3:aA):Prop:=
 FC P g n k.MQ (sU n f (k.ps.zip args)) [] H2 fun e f1 pI H1=>match e with
  |.normal=>pI=[]/\∃k1 jl,H1.get id=some (.loop k1 jl .ready)/\FC P g n k.body f1 [] (H1.set id (.loop k1 jl .busy)) (tl id out H3)
  |_=>False
theorem nD.put{n:Nat}{f:cW}(h:nD n f)(dst:Option Nat)(v:AV):nD n (fM n f dst v):=by
 cases dst with
 |none=>exact h
 |some d=>
  simp only[fM];split
  . intro t ht;rw[oO f v A0];exact h t ht
  exact h
theorem Nb{n:Nat}{f:cW}(h:nD n f)(t:Nat):(LF n f).getD t aB=f t:=by
 unfold LF;rw[getD_eq,Ci];by_cases ht:t<n
 . simp[ht]
 rw[h t A0];simp[ht]
theorem pE{n:Nat}{f:cW}(dst:Option Nat)(v:AV):LF n (fM n f dst v)=mT (LF n f) dst v:=by
 cases dst with
 |none=>rfl
 |some d=>
  simp only[fM,mT,LF];apply Gt;intro i;rw[Hw];simp only[Ci,Ai,Bu];by_cases hd:d<n
  . rw[if_pos hd];by_cases hi:d=i
    . subst hi;simp[hd,rN]
    rw[if_neg hi];by_cases iE:i<n
    . simp[iE,oO f v (Ne.symm hi)]
    simp[iE]
  rw[if_neg hd];by_cases hi:d=i
  . subst hi;simp[hd]
  rw[if_neg hi]
theorem BC{n:Nat}{f:cW}(h:nD n f)(g:bF):nN g f=Arg.eval g (LF n f):=by
 funext x
 cases x with
 |tmp t=>exact(Nb h t).symm
 |const v=>rfl
 |iW n=>rfl
theorem QY{n:Nat}{f:cW}(h:nD n f)(o:aZ):gQ f o=bN (LF n f) o:=by
 unfold gQ bN
 cases o.guard with
 |none=>rfl
 |some p=>simp only[Nb h];cases f p.1<;>rfl
theorem KS{n:Nat}:∀(l:List (Nat×AV)) (f:cW),pT (LF n f) l=LF n (sU n f l)
 |[],f=>rfl
 |(t,v)::l,f=>by rw[pT,sU,<-KS l];congr 1;rw[pE];rfl
theorem nD.pT{n:Nat}:∀(l:List (Nat×AV)) {f:cW},nD n f->nD n (sU n f l)
 |[],_,h=>h
 |(t,v)::l,_,h=>nD.pT l (h.put (some t) v)
def aNz(n:Nat)(Q:FQ):AQ:=fun e s ds H=>∃f,s=LF n f/\nD n f/\Q e f ds H
section
variable {P:Program} {g:bF} {n:Nat}
theorem jB:∀(rl:List aZ) (f:cW) (ds:List fY) (H:aA) (Q:FQ),nD n f->bT P g n rl f ds H Q->tF P g rl (LF n f) ds H (aNz n Q)
 |[],f,ds,H,Q,hb,h=>⟨f,rfl,hb,h⟩
 |o::r,f,ds,H,Q,hb,h=>by
  unfold bT at h;unfold tF;rw[QY hb,BC hb] at h;split at h
  . rename_i hw;rw[if_pos hw];split at h
    . rename_i c azs fP;obtain⟨out,H',h2,h3⟩:=h;rw[fP];refine⟨out,H',h2,?_⟩
      cases out with
      |ret v=>
       have :=jB r _ ds H' Q (hb.put o.dst v) h3
       rwa [pE] at this
      |JU v=>exact⟨f,rfl,hb,h3⟩
    . rename_i x fP;obtain⟨t,v,h1,h2⟩:=h;rw[fP];exact⟨t,v,h1,f,rfl,hb,h2⟩
    . rename_i c azs fP;obtain⟨p,h1,h2⟩:=h;rw[fP];refine⟨p,h1,?_⟩;have :=jB r _ _ H Q (hb.put o.dst aB) h2
      rwa [pE] at this
    . rename_i x fP;obtain⟨m,es,h1,h2,h3⟩:=h;rw[fP];refine⟨m,es,h1,h2,fun bs c mb k1 k2=>?_⟩;have :=jB r _ _ _ Q (hb.put o.dst _) (h3 bs c mb k1 k2)
      rwa [pE] at this
    . rename_i x fP;obtain⟨it,m,mb,c,seen,es,bs,h1,h2,h3,h4,h5⟩:=h;rw[fP];refine⟨it,m,mb,c,seen,es,bs,h1,h2,h3,fun k=>?_,fun j k1 k2=>?_⟩
      . have :=jB r _ _ _ Q (hb.put o.dst _) (h4 k)
        rwa [pE] at this
      have :=jB r _ _ _ Q (hb.put o.dst _) (h5 j k1 k2)
      rwa [pE] at this
    . rename_i x fP;obtain⟨it,m,mb,c,seen,es,bs,j,h1,h2,h3,h4,h5⟩:=h;rw[fP];refine⟨it,m,mb,c,seen,es,bs,j,h1,h2,h3,h4,?_⟩;have :=jB r _ _ _ Q (hb.put o.dst _) h5
      rwa [pE] at this
    rename_i n1 n2 n3 n4 n5 n6;unfold mP at h;split at h
    . rename_i v H' ha;have :=jB r _ ds H' Q (hb.put o.dst v) h;rw[pE] at this;split
      . rename_i c azs fP;exact absurd fP (n1 c azs)
      . rename_i x fP;exact absurd fP (n2 x)
      . rename_i c azs fP;exact absurd fP (n3 c azs)
      . rename_i x fP;exact absurd fP (n4 x)
      . rename_i x fP;exact absurd fP (n5 x)
      . rename_i x fP;exact absurd fP (n6 x)
      exact⟨v,H',ha,this⟩
    exact h.elim
  rename_i hw;rw[if_neg hw];have :=jB r _ ds H Q (hb.put o.dst aB) h
  rwa [pE] at this
theorem Rc{f:cW}(hb:nD n f){r:aZ}{H H':aA}{v:AV}(h:FF P g r f H v H'):HV P g r (LF n f) H v H':=by
 unfold FF at h;unfold HV
 rwa [BC hb] at h
theorem wG{pairs:List (Nat×Nat)}{base:Nat}{Q:cW->aA->Prop}:∀(rl:List aZ) (i k:Nat) (rd:List (Nat×Nat)) (ef:List (Nat×aA×aA)) (f:cW) (H:aA),nD n f->
 YC P g n pairs base i k rl rd ef f H Q->Uz P g pairs base i k rl rd ef (LF n f) H (fun s H=>∃f,s=LF n f/\nD n f/\Q f H)
 |[],i,k,rd,ef,f,H,hb,h=>⟨f,rfl,hb,h⟩
 |r::rs,i,k,rd,ef,f,H,hb,h=>by
  unfold YC at h;unfold Uz;rw[QY hb] at h;split at h
  . rename_i hw;rw[if_pos hw];split at h
    . rename_i hf;rw[if_pos hf];obtain⟨ob,val,h1,h2,h3⟩:=h;rw[BC hb] at h1;refine⟨ob,val,h1,h2,?_⟩;have :=wG rs _ _ _ _ _ _ (hb.put r.dst _) h3
      rwa [pE] at this
    rename_i hf;rw[if_neg hf];split at h
    . rename_i he;rw[if_pos he];obtain⟨v,H',h1,h2,h3,h4⟩:=h;refine⟨v,H',Rc hb h1,h2,h3,?_⟩;have :=wG rs _ _ _ _ _ _ (hb.put r.dst _) h4
      rwa [pE] at this
    rename_i he;rw[if_neg he];obtain⟨v,h1,h2,h3⟩:=h;refine⟨v,Rc hb h1,by rw[<-BC hb];exact h2,?_⟩;have :=wG rs _ _ _ _ _ _ (hb.put r.dst _) h3;rw[pE] at this;rw[<-BC hb];exact this
  rename_i hw;rw[if_neg hw];have :=wG rs _ _ _ _ _ _ (hb.put r.dst _) h
  rwa [pE] at this
theorem tG:∀(c:bR) (f:cW) (ds:List fY) (H:aA) (Q:FQ),nD n f->FC P g n c f ds H Q->AC P g c (LF n f) ds H (aNz n Q):=by
 intro c
 induction c with
 |skip=>exact fun f ds H Q hb h=>⟨f,rfl,hb,h⟩
 |ops rl=>exact fun f ds H Q hb h=>jB rl f ds H Q hb h
 |draw rl pairs=>
  intro f ds H Q hb h;refine h.imp (fun h=>⟨h.1,wG rl 0 0 [] [] f _ hb h.2⟩) fun h=>h.imp (fun h=>?_) fun h=>?_
  . obtain⟨x,f',H',h1,h2,_,h3⟩:=h hb;exact h1.mono fun x' s' h' ⟨e1,e2,e3⟩=>⟨f',e2,h2,by rw[e1,e3];exact h3⟩
  obtain⟨x,H',h1,h3⟩:=h hb;refine h1.mono fun x' h' ⟨e1,e3⟩ s' hl ht=>?_;have nB:s'.length=n:=by rw[hl];simp[LF]
  refine⟨fun t=>s'.getD t aB,?_,fun t ht=>?_,?_⟩
  . apply Fo
    . simp[LF,nB]
    intro i h1 h2;simp[LF,List.getD,Ac h1]
  . simp[List.getD,Bt (show s'.length<=t by omega)]
  rw[e1,e3];exact h3 _ (fun t ht=>by simp[List.getD,Bt (show s'.length<=t by omega)]) fun t hm=>(ht t hm).trans (Nb hb t)
 |seq a b qU uC=>
  intro f ds H Q hb h;show AC P g a (LF n f) ds H _;refine eF (fun e s ds H hq=>?_) (qU f ds H _ hb h);obtain⟨f',rfl,zY,hq⟩:=hq
  cases e with
  |normal=>exact uC f' ds H Q zY hq
  |_=>exact⟨f',rfl,zY,hq⟩
 |cond c a b qU uC=>
  intro f ds H Q hb h;obtain⟨t,h1,h2⟩:=h;rw[BC hb] at h1;refine⟨t,h1,?_⟩
  cases t with
  |true=>exact qU f ds H Q hb h2
  |false=>exact uC f ds H Q hb h2
 |block id a ih=>
  intro f ds H Q hb h;show AC P g a (LF n f) ds H _;refine eF (fun e s ds H hq=>?_) (ih f ds H _ hb h);obtain⟨f',rfl,zY,hq⟩:=hq
  cases e with
  |exit i=>
   simp only[dO] at hq;simp only[pP];split
   . rename_i hi;rw[if_pos hi] at hq;exact⟨f',rfl,zY,hq⟩
   rename_i hi;rw[if_neg hi] at hq;exact⟨f',rfl,zY,hq⟩
  |_=>exact⟨f',rfl,zY,hq⟩
 |loop a ih=>
  intro f ds H Q hb h;obtain⟨I,m,h0,hI⟩:=h;refine⟨fun m s ds H=>∃f,s=LF n f/\nD n f/\I m f ds H,m,⟨f,rfl,hb,h0⟩,?_⟩;rintro m s pI H1 ⟨f1,rfl,rP,h1⟩;refine eF (fun e s ds H hq=>?_) (ih f1 pI H1 _ rP (hI m f1 pI H1 h1));obtain⟨f',rfl,zY,hq⟩:=hq
  cases e with
  |normal=>obtain⟨k,hk,hq⟩:=hq;exact⟨k,hk,f',rfl,zY,hq⟩
  |_=>exact⟨f',rfl,zY,hq⟩
 |exit id=>exact fun f ds H Q hb h=>⟨f,rfl,hb,h⟩
 |ret=>exact fun f ds H Q hb h=>⟨f,rfl,hb,h⟩
 |oJ c ps a b qU uC=>
  intro f ds H Q hb h;obtain⟨fid,fs,cs,v,He,k',s',st,Hf,h1,h2,h3,h4,h5⟩:=h;rw[BC hb] at h1;refine⟨fid,fs,cs,v,He,k',s',st,Hf,h1,h2,h3,h4,?_⟩
  cases st with
  |ready=>exact⟨f,rfl,hb,h5⟩
  |done e=>cases e<;>exact⟨f,rfl,hb,h5⟩
  |busy=>exact h5.elim
  |over _=>exact h5.elim
theorem ko{rl:List aZ}:∀{f:cW} {ds:List fY} {H:aA} {Q Q':FQ},(∀e f ds H,Q e f ds H->Q' e f ds H)->bT P g n rl f ds H Q->bT P g n rl f ds H Q':=by
 induction rl with
 |nil=>exact fun hq h=>hq _ _ _ _ h
 |cons o r ih=>
  intro f ds H Q Q' hq h;unfold bT at h ⊢;split
  . rename_i hw;rw[if_pos hw] at h;split at h
    . obtain⟨out,H',h1,h3⟩:=h;refine⟨out,H',h1,?_⟩
      cases out with
      |ret v=>exact ih hq h3
      |JU v=>exact hq _ _ _ _ h3
    . obtain⟨t,v,h1,h2⟩:=h;exact⟨t,v,h1,hq _ _ _ _ h2⟩
    . obtain⟨p,h1,h2⟩:=h;exact⟨p,h1,ih hq h2⟩
    . obtain⟨m,es,h1,h2,h3⟩:=h;exact⟨m,es,h1,h2,fun bs c mb k1 k2=>ih hq (h3 bs c mb k1 k2)⟩
    . exact Za2
    . obtain⟨it,m,mb,c,seen,es,bs,j,h1,h2,h3,h4,h5⟩:=h;exact⟨it,m,mb,c,seen,es,bs,j,h1,h2,h3,h4,ih hq h5⟩
    unfold mP at h ⊢;split at h
    . exact ih hq h
    exact h.elim
  rename_i hw;rw[if_neg hw] at h;exact ih hq h
theorem VI{pairs:List (Nat×Nat)}{base:Nat}{rl:List aZ}:∀{i k:Nat} {rd:List (Nat×Nat)} {ef:List (Nat×aA×aA)} {f:cW} {H:aA} {Q Q':cW->aA->Prop},(∀f H,Q f H->Q' f H)->
 YC P g n pairs base i k rl rd ef f H Q->YC P g n pairs base i k rl rd ef f H Q':=by
 induction rl with
 |nil=>exact fun hq h=>hq _ _ h
 |cons r rs ih=>
  intro i k rd ef f H Q Q' hq h;unfold YC at h ⊢;exact Zal
theorem jI{c:bR}:∀{f:cW} {ds:List fY} {H:aA} {Q Q':FQ},(∀e f ds H,Q e f ds H->Q' e f ds H)->FC P g n c f ds H Q->FC P g n c f ds H Q':=by
 induction c with
 |skip=>exact fun hq h=>hq _ _ _ _ h
 |ops rl=>exact fun hq h=>ko hq h
 |draw rl pairs=>exact fun hq h=>h.imp (fun h=>⟨h.1,VI (fun s H=>hq _ _ _ _) h.2⟩) fun h=>h.imp (fun h hb=>let⟨x,f',H',h1,h2,h3,h4⟩:=h hb;⟨x,f',H',h1,h2,h3,hq _ _ _ _ h4⟩) fun h hb=>let⟨x,H',h1,h2⟩:=h hb;⟨x,H',h1,fun f' zY ht=>hq _ _ _ _ (h2 f' zY ht)⟩
 |seq a b qU uC=>
  intro f ds H Q Q' hq h;refine qU (fun e f ds H h=>?_) h
  cases e with
  |normal=>exact uC hq h
  |_=>exact hq _ _ _ _ h
 |cond c a b qU uC=>
  intro f ds H Q Q' hq h;obtain⟨t,h1,h2⟩:=h;refine⟨t,h1,?_⟩
  cases t with
  |true=>exact qU hq h2
  |false=>exact uC hq h2
 |block id a ih=>
  intro f ds H Q Q' hq h;refine ih (fun e f ds H h=>?_) h
  cases e with
  |exit i=>
   simp only[dO] at h ⊢;split
   . rename_i hi;rw[if_pos hi] at h;exact hq _ _ _ _ h
   rename_i hi;rw[if_neg hi] at h;exact hq _ _ _ _ h
  |_=>exact hq _ _ _ _ h
 |loop a ih=>
  intro f ds H Q Q' hq h;obtain⟨I,m,h0,hI⟩:=h;refine⟨I,m,h0,fun m f ds H hi=>ih (fun e f ds H h=>?_) (hI m f ds H hi)⟩
  cases e with
  |normal=>exact h
  |_=>exact hq _ _ _ _ h
 |exit id=>exact fun hq h=>hq _ _ _ _ h
 |ret=>exact fun hq h=>hq _ _ _ _ h
 |oJ c ps a b qU uC=>
  intro f ds H Q Q' hq h;obtain⟨fid,fs,cs,v,He,k',s',st,Hf,h1,h2,h3,h4,h5⟩:=h;refine⟨fid,fs,cs,v,He,k',s',st,Hf,h1,h2,h3,h4,?_⟩
  cases st with
  |ready=>exact hq _ _ _ _ h5
  |done e=>cases e<;>exact hq _ _ _ _ h5
  |busy=>exact h5.elim
  |over _=>exact h5.elim
def fO(args:List AV):cW:=fun t=>args.getD t aB
def RR(f:cW)(H:aA):HL->Option AV
 |.tmp t=>some (f t)
 |.cell a agg n=>match dE (nN g0 f) H (.load agg n (.tmp a)) with
  |some (v,_)=>some v
  |none=>none
def sJ(f:cW)(H:aA):List HL->Option (List AV)
 |[]=>some []
 |x::r=>match RR f H x,sJ f H r with
  |some v,some vs=>some (v::vs)
  |_,_=>none
theorem JZ{f:cW}(hb:nD n f)(H:aA):∀l,sJ f H l=mN (LF n f) H l
 |[]=>rfl
 |x::r=>by
  have ih:=JZ hb H r
  cases x with
  |tmp t=>simp only[sJ,mN,RR,tc,ih,Nb hb];cases mN (LF n f) H r<;>rfl
  |cell a agg m=>
   simp only[sJ,mN,RR,tc,ih,BC hb]
   cases dE (Arg.eval g0 (LF n f)) H (.load agg m (.tmp a)) with
   |none=>rfl
   |some p=>cases mN (LF n f) H r<;>rfl
theorem xV{args:List AV}(h:args.length<=n):nD n (fO args)/\LF n (fO args)=args++List.replicate (n -args.length) aB:=by
 refine⟨fun t ht=>?_,Gt fun t=>?_⟩
 . simp only[fO,getD_eq];rw[Bt A0];rfl
 unfold LF;rw[Ci];by_cases ht:t<n
 . rw[Ie ht,Cf];by_cases h1:t<args.length
   . rw[Es h1];simp[fO,getD_eq,Ac h1]
   rw[Gi A0,Ga,if_pos A0];simp only[fO,getD_eq];rw[Bt A0];rfl
 rw[Bt Zaf,Bt Zaf];rfl
def RS(rs:List HL)(R:Out->aA->Prop):FQ
 |.normal,f,ds,H|.ret,f,ds,H=>ds=[]/\∃vs,sJ f H rs=some vs/\R (.ret (pA vs)) H
 |.panic v,_,ds,H=>ds=[]/\R (.JU v) H
 |.exit _,_,_,_=>False
theorem xf{F:CR}{args:List AV}(ha:args.length<=F.ntmps){H:aA}{R:Out->aA->Prop}(h:FC P g F.ntmps F.body (fO args) [] H (RS F.results R)):
 AC P g F.body (qP F args) [] H (aLd F R):=by
 obtain⟨hb,hl⟩:=xV ha;unfold qP;rw[<-hl];refine eF (fun e s ds H hq=>?_) (tG F.body _ [] H _ hb h);obtain⟨f,rfl,zY,hq⟩:=hq
 cases e with
 |normal=>obtain⟨h1,vs,h2,h3⟩:=hq;exact⟨h1,vs,by rw[<-JZ zY];exact h2,h3⟩
 |ret=>obtain⟨h1,vs,h2,h3⟩:=hq;exact⟨h1,vs,by rw[<-JZ zY];exact h2,h3⟩
 |panic v=>exact hq
 |exit id=>exact hq
def aZ.cX(r:aZ):Bool:=match r.op with|.vR _|.EP _=>false|_=>true
def bR.cX:bR->Bool
 |.ops rl=>rl.all aZ.cX
 |.seq a b|.cond _ a b=>a.cX&&b.cX
 |.block _ a|.loop a=>a.cX
 |_=>true
theorem Xy{rl:List aZ}(hd:rl.all aZ.cX=true):∀{s:List AV} {ds:List fY} {H:aA} {Q:AQ},tF P g rl s ds H Q->
 ∃ae s' fH H',Q ae s' fH H'/\tF P g rl s ds H (fun e s d h=>e=ae/\s=s'/\d=fH/\h=H'):=by
 induction rl with
 |nil=>exact fun {s ds H Q} h=>⟨.normal,s,ds,H,h,rfl,rfl,rfl,rfl⟩
 |cons o r ih=>
  intro s ds H Q h;simp only[Ll,Ak] at hd;have ih:=fun {s ds H Q}=> @ih hd.2 s ds H Q;unfold tF at h ⊢;by_cases hw:bN s o=true
  . simp only[hw,if_true] at h ⊢;split at h
    . obtain⟨out,H',h1,h3⟩:=h
      cases out with
      |ret v=>obtain⟨ae,s',fH,H1,q,hA⟩:=ih h3;exact⟨ae,s',fH,H1,q,.ret v,H',h1,hA⟩
      |JU v=>exact⟨.panic v,s,ds,H',h3,.JU v,H',h1,rfl,rfl,rfl,rfl⟩
    . obtain⟨t,v,h1,h2⟩:=h;exact⟨_,s,ds,H,h2,t,v,h1,rfl,rfl,rfl,rfl⟩
    . obtain⟨p,h1,h2⟩:=h;obtain⟨ae,s',fH,H1,q,hA⟩:=ih h2;exact⟨ae,s',fH,H1,q,p,h1,hA⟩
    . rename_i x fP;simp[aZ.cX,fP] at hd
    . rename_i x fP;simp[aZ.cX,fP] at hd
    . obtain⟨it,m,mb,c,seen,es,bs,j,h1,h2,h3,h4,h5⟩:=h;obtain⟨ae,s',fH,H1,q,hA⟩:=ih h5;exact⟨ae,s',fH,H1,q,it,m,mb,c,seen,es,bs,j,h1,h2,h3,h4,hA⟩
    obtain⟨v,H',h1,h2⟩:=h;obtain⟨ae,s',fH,H1,q,hA⟩:=ih h2;exact⟨ae,s',fH,H1,q,v,H',h1,hA⟩
  simp only[hw] at h ⊢;exact ih h
theorem kc{pairs:List (Nat×Nat)}{base:Nat}{rl:List aZ}:∀{i k:Nat} {rd:List (Nat×Nat)} {ef:List (Nat×aA×aA)} {s:List AV} {H:aA} {Q:List AV->aA->Prop},
 Uz P g pairs base i k rl rd ef s H Q->∃s' H',Q s' H'/\Uz P g pairs base i k rl rd ef s H (fun s h=>s=s'/\h=H'):=by
 induction rl with
 |nil=>exact fun {i k rd ef s H Q} h=>⟨s,H,h,rfl,rfl⟩
 |cons r rs ih=>
  intro i k rd ef s H Q h;unfold Uz at h ⊢;by_cases hw:bN s r=true
  . simp only[hw,if_true] at h ⊢;by_cases hf:r.op.fresh=true
    . simp only[hf,if_true] at h ⊢;obtain⟨ob,val,h1,h2,h3⟩:=h;obtain⟨s',H',q,hA⟩:=ih h3;exact⟨s',H',q,ob,val,h1,h2,hA⟩
    simp only[hf] at h ⊢;by_cases he:r.op.pJ=true
    . simp only[he,if_true] at h ⊢;obtain⟨v,H1,h1,h2,h3,h4⟩:=h;obtain⟨s',H',q,hA⟩:=ih h4;exact⟨s',H',q,v,H1,h1,h2,h3,hA⟩
    simp only[he] at h ⊢;obtain⟨v,h1,h2,h3⟩:=h;obtain⟨s',H',q,hA⟩:=ih h3;exact⟨s',H',q,v,h1,h2,hA⟩
  simp only[hw] at h ⊢;exact ih h
def bR.tight:bR->Bool
 |.draw rl pairs=>pairs.all fun p=>decide (p.2<=rl.length)
 |.seq a b|.cond _ a b=>a.tight&&b.tight
 |.block _ a|.loop a=>a.tight
 |_=>true
def TK(b:Bool)(ae:kd)(s':List AV)(fH:List fY)(H':aA):AQ:=fun e s d h=>e=ae/\(s=s'\/(b=false/\∃x,ae=.panic x))/\d=fH/\h=H'
theorem TK.up{b b':Bool}{ae:kd}{s':List AV}{fH:List fY}{H':aA}(hb:b=false->b'=false){e:kd}{s:List AV}{d:List fY}{h:aA}(hh:TK b ae s' fH H' e s d h):TK b' ae s' fH H' e s d h:=
 ⟨hh.1,hh.2.1.imp id fun h=>⟨hb h.1,h.2⟩,hh.2.2⟩
theorem HJ{c:bR}(hd:c.cX=true):∀{s:List AV} {ds:List fY} {H:aA} {Q:AQ},AC P g c s ds H Q->
 ∃ae s' fH H',Q ae s' fH H'/\AC P g c s ds H (TK c.tight ae s' fH H'):=by
 induction c with
 |skip=>exact fun {s ds H Q} h=>⟨.normal,s,ds,H,h,rfl,.inl rfl,rfl,rfl⟩
 |ops rl=>intro s ds H Q h;obtain⟨ae,s',fH,H',q,hA⟩:=Xy hd h;exact⟨ae,s',fH,H',q,KP (fun e s d h hh=>⟨hh.1,.inl hh.2.1,hh.2.2⟩) hA⟩
 |draw rl pairs=>
  intro s ds H Q h
  rcases h with h|⟨j,Hs,ss,vs,h1,D,r,f,azs,p,x,H1,e1,e2,e3,e4,e5,q⟩|⟨j,Zw,Hs,ss,vs,h1,hl,hw,hs,D,r,f,azs,p,x,H1,e1,e2,e3,e4,e5,q⟩
  . obtain⟨s',H',q,hA⟩:=kc h.2;exact⟨.normal,s',ds,H',q,.inl ⟨h.1,VA (fun s H h=>⟨rfl,.inl h.1,rfl,h.2⟩) hA⟩⟩
  . exact⟨.panic x,ss j,ds,H1,q,.inr (.inl ⟨j,Hs,ss,vs,h1,D,r,f,azs,p,x,H1,e1,e2,e3,e4,e5,rfl,.inl rfl,rfl,rfl⟩)⟩
  have ht:(bR.draw rl pairs).tight=false:=by simp only[bR.tight];rw[Kd];exact⟨_,h1,by simp⟩
  exact⟨.panic x,s,ds,H1,q s rfl fun _ _=>rfl,.inr (.inr ⟨j,Zw,Hs,ss,vs,h1,hl,hw,hs,D,r,f,azs,p,x,H1,e1,e2,e3,e4,e5,fun s' _ _=>⟨rfl,.inr ⟨ht,x,rfl⟩,rfl,rfl⟩⟩)⟩
 |seq a b qU uC=>
  simp only[bR.cX,Ak] at hd;have qU:=fun {s ds H Q}=> @qU hd.1 s ds H Q;have uC:=fun {s ds H Q}=> @uC hd.2 s ds H Q;have la:a.tight=false->(a.seq b).tight=false:=fun h=>by simp[bR.tight,h]
  have lb:b.tight=false->(a.seq b).tight=false:=fun h=>by simp[bR.tight,h]
  intro s ds H Q h;obtain⟨ae,s1,pI,H1,q,hA⟩:=qU h
  cases ae with
  |normal=>
   obtain⟨ae2,s2,Qy,H2,q2,hB⟩:=uC q;refine⟨ae2,s2,Qy,H2,q2,?_⟩;show AC P g a s ds H _;refine eF (fun e s d h hh=>?_) hA;obtain⟨rfl,rfl|⟨_,x,hx⟩,rfl,rfl⟩:=hh
   . exact eF (fun e s d h hh=>hh.up lb) hB
   cases hx
  |_=>refine⟨_,s1,pI,H1,q,?_⟩;show AC P g a s ds H _;refine eF (fun e s d h hh=>?_) hA;have hh:=hh.up la;obtain⟨rfl,h2⟩:=hh;exact⟨rfl,h2⟩
 |cond c a b qU uC=>
  simp only[bR.cX,Ak] at hd;have qU:=fun {s ds H Q}=> @qU hd.1 s ds H Q;have uC:=fun {s ds H Q}=> @uC hd.2 s ds H Q;intro s ds H Q h;obtain⟨t,h1,h2⟩:=h
  cases t with
  |true=>obtain⟨ae,s1,pI,H1,q,hA⟩:=qU h2;exact⟨ae,s1,pI,H1,q,true,h1,eF (fun e s d h hh=>hh.up fun h=>by simp[bR.tight,h]) hA⟩
  |false=>obtain⟨ae,s1,pI,H1,q,hA⟩:=uC h2;exact⟨ae,s1,pI,H1,q,false,h1,eF (fun e s d h hh=>hh.up fun h=>by simp[bR.tight,h]) hA⟩
 |block id a ih=>
  have ih:=fun {s ds H Q}=> @ih hd s ds H Q;intro s ds H Q h;obtain⟨ae,s1,pI,H1,q,hA⟩:=ih h
  have other:∀e,(∀i,e≠ .exit i)->Q e s1 pI H1->AC P g a s ds H (TK a.tight e s1 pI H1)->
   ∃ae s' fH H',Q ae s' fH H'/\AC P g (.block id a) s ds H (TK a.tight ae s' fH H'):=fun e cG hq hA=>by
   refine⟨e,s1,pI,H1,hq,?_⟩;show AC P g a s ds H _;refine eF (fun e' s d h hh=>?_) hA;obtain⟨rfl,h2⟩:=hh
   cases e' with
   |exit i=>exact absurd rfl (cG i)
   |_=>exact⟨rfl,h2⟩
  cases ae with
  |exit i=>
   simp only[pP] at q;by_cases hi:i=id
   . rw[if_pos hi] at q;refine⟨.normal,s1,pI,H1,q,?_⟩;show AC P g a s ds H _;refine eF (fun e s d h hh=>?_) hA;obtain⟨rfl,rfl|⟨_,x,hx⟩,rfl,rfl⟩:=hh
     . simp only[pP];rw[if_pos hi];exact⟨rfl,.inl rfl,rfl,rfl⟩
     cases hx
   rw[if_neg hi] at q;refine⟨.exit i,s1,pI,H1,q,?_⟩;show AC P g a s ds H _;refine eF (fun e s d h hh=>?_) hA;obtain⟨rfl,h2⟩:=hh;simp only[pP];rw[if_neg hi];exact⟨rfl,h2⟩
  |normal=>exact other _ (fun i hh=>by cases hh) q hA
  |ret=>exact other _ (fun i hh=>by cases hh) q hA
  |panic v=>exact other _ (fun i hh=>by cases hh) q hA
 |loop a ih=>
  have ih:=fun {s ds H Q}=> @ih hd s ds H Q;intro s ds H Q h;obtain⟨I,m,h0,hI⟩:=h
  have key:∀(m:Nat) (s:List AV) (ds:List fY) (H:aA),I m s ds H->
   ∃ae s' fH H',Q ae s' fH H'/\AC P g (.loop a) s ds H (TK a.tight ae s' fH H'):=by
   intro m
   induction m using Nat.strongRecOn with
   |_ m ihm=>
    intro s ds H hi;obtain⟨ae,s1,pI,H1,q,hA⟩:=ih (hI m s ds H hi)
    have once:∀e,e≠ .normal->Q e s1 pI H1->AC P g a s ds H (TK a.tight e s1 pI H1)->
     ∃ae s' fH H',Q ae s' fH H'/\AC P g (.loop a) s ds H (TK a.tight ae s' fH H'):=fun e cG hq hA=>by
     refine⟨e,s1,pI,H1,hq,fun k s' d' h'=>s'=s/\d'=ds/\h'=H,0,⟨rfl,rfl,rfl⟩,?_⟩;rintro k _ _ _ ⟨rfl,rfl,rfl⟩;refine eF (fun e' s d h hh=>?_) hA;obtain⟨rfl,h2⟩:=hh
     cases e' with
     |normal=>exact absurd rfl cG
     |_=>exact⟨rfl,h2⟩
    cases ae with
    |normal=>
     obtain⟨k,hk,Xm⟩:=q;obtain⟨ae2,s2,Qy,H2,q2,J,j,hj,hJ⟩:=ihm k hk s1 pI H1 Xm;refine⟨ae2,s2,Qy,H2,q2,fun x s' d' h'=>J x s' d' h'\/(x=j+1/\s'=s/\d'=ds/\h'=H),j+1,.inr ⟨rfl,rfl,rfl,rfl⟩,?_⟩;rintro x s' d' h' (hx|⟨rfl,rfl,rfl,rfl⟩)
     . refine eF (fun e s d h hh=>?_) (hJ x s' d' h' hx)
       cases e with
       |normal=>obtain⟨y,hy,hyy⟩:=hh;exact⟨y,hy,.inl hyy⟩
       |_=>exact hh
     refine eF (fun e s d h hh=>?_) hA;obtain⟨rfl,rfl|⟨_,x,hx⟩,rfl,rfl⟩:=hh
     . exact⟨j,Fm j,.inl hj⟩
     cases hx
    |exit i=>exact once _ (fun hh=>by cases hh) q hA
    |ret=>exact once _ (fun hh=>by cases hh) q hA
    |panic v=>exact once _ (fun hh=>by cases hh) q hA
  exact key m s ds H h0
 |exit id=>exact fun {s ds H Q} h=>⟨_,s,ds,H,h,rfl,.inl rfl,rfl,rfl⟩
 |ret=>exact fun {s ds H Q} h=>⟨_,s,ds,H,h,rfl,.inl rfl,rfl,rfl⟩
 |oJ c ps a b qU uC=>
  intro s ds H Q h;obtain⟨fid,fs,cs,v,He,k',s',st,Hf,h1,h2,h3,h4,h5⟩:=h
  cases st with
  |ready=>exact⟨_,_,_,Hf,h5,fid,fs,cs,v,He,k',s',.ready,Hf,h1,h2,h3,h4,rfl,.inl rfl,rfl,rfl⟩
  |done e=>cases e<;>exact⟨_,_,_,Hf,h5,fid,fs,cs,v,He,k',s',.done _,Hf,h1,h2,h3,h4,rfl,.inl rfl,rfl,rfl⟩
  |busy=>exact h5.elim
  |over _=>exact h5.elim
theorem eH{mu:Bool}(hm:Fit P g){f:FuncId}{F:CR}(hF:gH P g mu f F){args:List AV}(ha:args.length<=F.ntmps){H:aA}{R:Out->aA->Prop}
 (h:FC P g F.ntmps F.body (fO args) [] H (RS F.results R)) (hdt:F.body.cX=true:=by first|rfl|decide):∃out H',R out H'/\Sound P g f args H out H':=by
 obtain⟨ae,s,ds,H',q,hA⟩:=HJ hdt (xf ha h);have fin:∀out,R out H'->AC P g F.body (qP F args) [] H (aLd F fun o h=>o=out/\h=H')->∃out H',R out H'/\Sound P g f args H out H':=fun out hR hA=>⟨out,H',hR,VL hm hF hA⟩
 cases ae with
 |exit id=>exact q.elim
 |panic v=>refine fin (.JU v) q.2 (eF (fun e s d h hh=>?_) hA);obtain⟨rfl,_,rfl,rfl⟩:=hh;exact⟨q.1,rfl,rfl⟩
 |normal=>
  exact ZaV
 |ret=>
  exact ZaV
end
end
section
theorem dZ{a b:Prop}(h1:a->b)(h2:b->a):a=b:=propext ⟨h1,h2⟩
theorem aS{r r':Option (AV×aA)}(h:r=r')(k:AV->aA->Prop):mP r k=mP r' k:=by rw[h]
theorem bQ(v:AV)(H:aA)(k:AV->aA->Prop):mP (some (v,H)) k=k v H:=dZ id id
section
variable {P:Program} {g:bF} {n:Nat} {r:List aZ} {f:cW} {ds:List fY} {H:aA} {Q:FQ}
theorem wH:bT P g n [] f ds H Q=Q .normal f ds H:=dZ id id
theorem TN(d:Nat)(op:dY)(hp:op.plain=true)(hd:d<n):
 bT P g n (⟨some d,op,none⟩::r) f ds H Q=mP (dE (nN g f) H op) fun v H'=>bT P g n r (iZ f d v) ds H' Q:=by
 have :∀v,fM n f (some d) v=iZ f d v:=fun v=>by simp[fM,hd]
 conv=>lhs;unfold bT
 simp only[gQ,if_true,this]
 cases op<;>first|rfl|cases hp
theorem xu(op:dY)(hp:op.plain=true):
 bT P g n (⟨none,op,none⟩::r) f ds H Q=mP (dE (nN g f) H op) fun v H'=>bT P g n r f ds H' Q:=by
 conv=>lhs;unfold bT
 simp only[gQ,if_true,fM]
 cases op<;>first|rfl|cases hp
theorem HQ(d:Nat)(x:Arg)(hd:d<n):bT P g n (⟨some d,(.Lu x),none⟩::r) f ds H Q=mP (dE (nN g f) H (.Lu x)) fun v H'=>bT P g n r (iZ f d v) ds H' Q:=TN d _ rfl hd
theorem AI(d:Nat)(o:BinOp)(x y:Arg)(hd:d<n):bT P g n (⟨some d,(.bin o x y),none⟩::r) f ds H Q=mP (dE (nN g f) H (.bin o x y)) fun v H'=>bT P g n r (iZ f d v) ds H' Q:=TN d _ rfl hd
theorem kl{d:Nat}{fid:FuncId}{azs:List Arg}{args:List AV}{v:AV}{H':aA}(hd:d<n)(ha:azs.map (nN g f)=args)(hS:Sound P g fid args H (.ret v) H')
 (h:bT P g n r (iZ f d v) ds H' Q):bT P g n (⟨some d,.call (.const (.func (.func fid) [] [])) azs,none⟩::r) f ds H Q:=by
 have :∀v,fM n f (some d) v=iZ f d v:=fun v=>by simp[fM,hd]
 unfold bT;simp only[gQ,if_true,this];exact⟨.ret v,H',.inl ⟨(fid,[],[]),rfl,by simpa [ha] using hS⟩,h⟩
theorem OB{d:Nat}{c:Arg}{fid:FuncId}{fs cs:List AV}{azs:List Arg}{args:List AV}{v:AV}{H':aA}(hd:d<n)(hc:nN g f c=.func (.func fid) fs cs)(ha:fs++azs.map (nN g f)++cs=args)
 (hS:Sound P g fid args H (.ret v) H') (h:bT P g n r (iZ f d v) ds H' Q):bT P g n (⟨some d,.call c azs,none⟩::r) f ds H Q:=by
 have :∀v,fM n f (some d) v=iZ f d v:=fun v=>by simp[fM,hd]
 unfold bT;simp only[gQ,if_true,this];exact⟨.ret v,H',.inl ⟨(fid,fs,cs),by rw[hc];rfl,by rw[ha];exact hS⟩,h⟩
theorem jK(t:Nat):nN g f (.tmp t)=f t:=by cases h:f t<;>exact h
theorem wP(v:AV):nN g f (.const v)=v:=by cases v<;>rfl
theorem KR(rl:List aZ):FC P g n (.ops rl) f ds H Q=bT P g n rl f ds H Q:=dZ id id
theorem Na:FC P g n .skip f ds H Q=Q .normal f ds H:=dZ id id
theorem aOi:FC P g n .ret f ds H Q=Q .ret f ds H:=dZ id id
theorem NZ(id:Nat):FC P g n (.exit id) f ds H Q=Q (.exit id) f ds H:=dZ (fun h=>h) (fun h=>h)
theorem aT{a b:bR}(h:∀K:cW->List fY->aA->Prop,(∀f ds H,FC P g n b f ds H Q->K f ds H)->FC P g n a f ds H (gI K Q)):FC P g n (.seq a b) f ds H Q:=h _ fun _ _ _ h=>h
theorem aP{id:Nat}{a:bR}(h:FC P g n a f ds H (dO id Q)):FC P g n (.block id a) f ds H Q:=h
theorem HN{c:Arg}{a b:bR}(t:Bool)(hc:nN g f c=.bool t)(h1:t=true->FC P g n a f ds H Q)(h2:t=false->FC P g n b f ds H Q):FC P g n (.cond c a b) f ds H Q:=by
 refine⟨t,hc,?_⟩
 cases t with
 |true=>exact h1 rfl
 |false=>exact h2 rfl
theorem TM{a:bR}(I:Nat->cW->List fY->aA->Prop)(m:Nat)(h0:I m f ds H)(h:∀m f ds H,I m f ds H->FC P g n a f ds H (gI (fun f ds H=>∃k,k<m/\I k f ds H) Q)):FC P g n (.loop a) f ds H Q:=⟨I,m,h0,h⟩
theorem gE(K:cW->List fY->aA->Prop):gI K Q .normal f ds H=K f ds H:=dZ id id
theorem uq(K:cW->List fY->aA->Prop):gI K Q .ret f ds H=Q .ret f ds H:=dZ id id
theorem oN(K:cW->List fY->aA->Prop)(i:Nat):gI K Q (.exit i) f ds H=Q (.exit i) f ds H:=dZ id id
theorem NQ(i:Nat):dO i Q .normal f ds H=Q .normal f ds H:=dZ id id
theorem UC(i:Nat):dO i Q .ret f ds H=Q .ret f ds H:=dZ id id
theorem qV(i:Nat):dO i Q (.exit i) f ds H=Q .normal f ds H:=by simp[dO]
theorem PG(i j:Nat)(h:j≠i):dO i Q (.exit j) f ds H=Q (.exit j) f ds H:=by simp[dO,h]
end
class Pl (op:dY):Prop where h:op.plain=true
instance (x:Arg):Pl (.Lu x):=⟨rfl⟩
instance (c a b:Arg):Pl (.pick c a b):=⟨rfl⟩
instance (z:List AV):Pl (.alloc z):=⟨rfl⟩
instance (x:Arg):Pl (.box x):=⟨rfl⟩
instance (z:List AV) (ps:List (Nat×Nat×Arg)):Pl (.build z ps):=⟨rfl⟩
instance (sz:Nat) (xs:List Arg):Pl (.Pb sz xs):=⟨rfl⟩
instance (agg:Bool) (m:Nat) (a:Arg):Pl (.load agg m a):=⟨rfl⟩
instance (m:Nat) (a x:Arg):Pl (.store m a x):=⟨rfl⟩
instance (x:Arg):Pl (.Pf x):=⟨rfl⟩
instance (o:BinOp) (x y:Arg):Pl (.bin o x y):=⟨rfl⟩
instance (neg:Bool) (x y:Arg):Pl (.eqb neg x y):=⟨rfl⟩
instance (neg:Bool) (sh:List Sk) (x y:Arg):Pl (.eqf neg sh x y):=⟨rfl⟩
instance (neg:Bool) (k:Nk) (lit:Bool) (x y:Arg):Pl (.eqn neg k lit x y):=⟨rfl⟩
instance (o:UnOp) (x:Arg):Pl (.un o x):=⟨rfl⟩
instance (k:IntKind) (x:Arg):Pl (.OX k x):=⟨rfl⟩
instance (x:Arg):Pl (.CJ x):=⟨rfl⟩
instance (x:Arg):Pl (.EI x):=⟨rfl⟩
instance (m:Nat) (x:Arg):Pl (.ai m x):=⟨rfl⟩
instance (t:TypeId) (x:Arg):Pl (.ZX t x):=⟨rfl⟩
instance (fn:Fn) (a b:List Arg):Pl (.ZW fn a b):=⟨rfl⟩
instance:Pl (.zT):=⟨rfl⟩
instance (sz bytes:Nat) (z:List AV) (l c:Arg):Pl (.jM sz bytes z l c):=⟨rfl⟩
instance (x:Arg) (lo hi:Option Arg):Pl (.QM x lo hi):=⟨rfl⟩
instance (sz:Nat) (x:Arg) (lo hi mx:Option Arg):Pl (.al sz x lo hi mx):=⟨rfl⟩
instance (m sz:Nat) (x:Arg) (lo hi mx:Option Arg):Pl (.EW m sz x lo hi mx):=⟨rfl⟩
instance (off:Nat) (x:Arg):Pl (.Yn off x):=⟨rfl⟩
instance (arr:Option Nat) (sz:Nat) (x i:Arg):Pl (.UB arr sz x i):=⟨rfl⟩
instance (m sz:Nat) (agg:Bool) (x i:Arg):Pl (.idx m sz agg x i):=⟨rfl⟩
instance (x i:Arg):Pl (.idxs x i):=⟨rfl⟩
instance (t:TypeId) (ok:Bool) (z:AV) (x:Arg):Pl (.bd t ok z x):=⟨rfl⟩
instance (x:Arg) (i:Nat):Pl (.Ym x i):=⟨rfl⟩
instance (x:Arg):Pl (.lens x):=⟨rfl⟩
instance (x:Arg):Pl (.WQ x):=⟨rfl⟩
instance (x y:Arg):Pl (.WW x y):=⟨rfl⟩
instance (x y:Arg):Pl (.WY x y):=⟨rfl⟩
instance (sz bytes:Nat) (mu:Bool) (x y:Arg):Pl (.append sz bytes mu x y):=⟨rfl⟩
instance (sz:Nat) (x y:Arg):Pl (.copy sz x y):=⟨rfl⟩
instance (k:Sk) (z:AV) (ok:Bool) (x i:Arg):Pl (.lookup k z ok x i):=⟨rfl⟩
instance (k:Sk) (m i v:Arg):Pl (.PX k m i v):=⟨rfl⟩
instance (sz:Nat) (z:List AV) (x:Arg):Pl (.clr sz z x):=⟨rfl⟩
theorem bGe(P:Program)(g:bF)(n:Nat):
 (∀(r:List aZ) (f:cW) (ds:List fY) (H:aA) (Q:FQ) (d:Nat) (op:dY) [Pl op] (hd:d<n),bT P g n (⟨some d,op,none⟩::r) f ds H Q=mP (dE (nN g f) H op) fun v H'=>bT P g n r (iZ f d v) ds H' Q)/\
 (∀(r:List aZ) (f:cW) (ds:List fY) (H:aA) (Q:FQ) (op:dY) [Pl op],bT P g n (⟨none,op,none⟩::r) f ds H Q=mP (dE (nN g f) H op) fun v H'=>bT P g n r f ds H' Q)/\
 (∀(f:cW) (ds:List fY) (H:aA) (Q:FQ),bT P g n [] f ds H Q=Q .normal f ds H)/\
 (∀(f:cW) (ds:List fY) (H:aA) (Q:FQ) (rl:List aZ),FC P g n (.ops rl) f ds H Q=bT P g n rl f ds H Q)/\
 (∀(f:cW) (ds:List fY) (H:aA) (Q:FQ),FC P g n .skip f ds H Q=Q .normal f ds H)/\
 (∀(f:cW) (ds:List fY) (H:aA) (Q:FQ),FC P g n .ret f ds H Q=Q .ret f ds H)/\
 (∀(f:cW) (ds:List fY) (H:aA) (Q:FQ) (id:Nat),FC P g n (.exit id) f ds H Q=Q (.exit id) f ds H):=
 ⟨fun _ _ _ _ _ d op i hd=>TN d op i.h hd,fun _ _ _ _ _ op i=>xu op i.h,fun _ _ _ _=>wH,fun _ _ _ _ rl=>KR rl,fun _ _ _ _=>Na,fun _ _ _ _=>aOi,fun _ _ _ _ id=>NZ id⟩
theorem aEx:
 (∀(v:AV) (H:aA) (k:AV->aA->Prop),mP (some (v,H)) k=k v H)/\
 (∀(g:bF) (f:cW) (t:Nat),nN g f (.tmp t)=f t)/\
 (∀(g:bF) (f:cW) (v:AV),nN g f (.const v)=v)/\
 (∀(f:cW) (d:Nat) (v:AV),iZ f d v d=v)/\
 (∀(f:cW) (d t:Nat) (v:AV),t≠d->iZ f d v t=f t)/\
 (∀(f:cW) (ds:List fY) (H:aA) (Q:FQ) (K:cW->List fY->aA->Prop),gI K Q .normal f ds H=K f ds H)/\
 (∀(f:cW) (ds:List fY) (H:aA) (Q:FQ) (K:cW->List fY->aA->Prop),gI K Q .ret f ds H=Q .ret f ds H)/\
 (∀(f:cW) (ds:List fY) (H:aA) (Q:FQ) (K:cW->List fY->aA->Prop) (i:Nat),gI K Q (.exit i) f ds H=Q (.exit i) f ds H)/\
 (∀(f:cW) (ds:List fY) (H:aA) (Q:FQ) (i:Nat),dO i Q .normal f ds H=Q .normal f ds H)/\
 (∀(f:cW) (ds:List fY) (H:aA) (Q:FQ) (i:Nat),dO i Q .ret f ds H=Q .ret f ds H)/\
 (∀(f:cW) (ds:List fY) (H:aA) (Q:FQ) (i:Nat),dO i Q (.exit i) f ds H=Q .normal f ds H)/\
 (∀(f:cW) (ds:List fY) (H:aA) (Q:FQ) (i j:Nat),j≠i->dO i Q (.exit j) f ds H=Q (.exit j) f ds H):=
 ⟨bQ,
   (fun g f t=>jK t),
   (fun g f v=>wP v),
   rN,
   (fun f d t v h=>oO f v h),
   (fun f ds H Q K=>gE K),
   (fun f ds H Q K=>uq K),
   (fun f ds H Q K i=>oN K i),
   (fun f ds H Q i=>NQ i),
   (fun f ds H Q i=>UC i),
   (fun f ds H Q i=>qV i),
   (fun f ds H Q i j h=>PG i j h)⟩
end
def Own(H:aA)(sz:Nat)(v:AV)(els:List (List AV)):Prop:=
 (v=.bB/\els=[])\/∃k,v=.bC (k+2) sz els/\k<H.next/\H.get k=some .tok
def XN:AV->Option Nat
 |.bC (k+2) _ _=>some k
 |_=>none
structure aXq (H H':aA) (v:AV):Prop where
 next:H.next<=H'.next
 get:∀id,XN v≠some id->id<H.next->H'.get id=H.get id
theorem Own.nil(H:aA)(sz:Nat):Own H sz .bB []:=.inl ⟨rfl,rfl⟩
theorem Own.bC{H:aA}{sz k:Nat}{els:List (List AV)}(hk:k<H.next)(h:H.get k=some .tok):Own H sz (.bC (k+2) sz els) els:=.inr ⟨k,rfl,hk,h⟩
theorem Own.fresh(H:aA)(sz:Nat)(els:List (List AV)):Own (H.alloc .tok) sz (.bC (H.next+2) sz els) els:=.bC A2 (by rw[aA.aI,if_pos rfl])
theorem Own.alloc{H:aA}{sz:Nat}{v:AV}{els:List (List AV)}(h:Own H sz v els)(o:eY):Own (H.alloc o) sz v els:=by
 rcases h with h|⟨k,h1,h2,h3⟩
 . exact .inl h
 exact .inr ⟨k,h1,by simp;omega,by rw[aA.aI,if_neg A0];exact h3⟩
theorem Own.set{H:aA}{sz:Nat}{v:AV}{els:List (List AV)}(h:Own H sz v els)(id:Nat)(o:eY)(hid:XN v≠some id):Own (H.set id o) sz v els:=by
 rcases h with h|⟨k,rfl,h2,h3⟩
 . exact .inl h
 refine .inr ⟨k,rfl,h2,?_⟩;rw[aA.aC,if_neg]
 . exact h3
 intro hh;exact hid (by simp[XN,hh])
theorem Own.append{H:aA}{sz bytes:Nat}{v:AV}{els ys:List (List AV)}(h:Own H sz v els)(hb:(els.length+ys.length)*bytes<=2^40):
 ∃v' H',fZ H sz bytes false v ys=some (v',H')/\Own H' sz v' (els++ys)/\aXq H H' v:=by
 by_cases hy:ys=[]
 . subst hy;refine⟨v,H,?_,by rw[Cr];exact h,Ag _,fun _ _ _=>rfl⟩
   rcases h with ⟨rfl,rfl⟩|⟨k,rfl,_,hk⟩<;>rfl
 have cG:ys.isEmpty=false:=by cases ys with
  |nil=>exact absurd rfl hy
  |cons _ _=>rfl
 rcases h with ⟨rfl,rfl⟩|⟨k,rfl,vw,hk⟩
 . refine⟨.bC (H.next+2) sz ys,H.alloc .tok,?_,.inr ⟨H.next,by simp,by simp,by simp[aA.aI]⟩,by simp,fun id _ hid=>by rw[aA.aI,if_neg A0]⟩;simp only[fZ,cG,lV];simp only[Bw,Dg] at hb;simp[hb]
 refine⟨.bC (H.next+2) sz (els++ys),(H.set k .dead).alloc .tok,?_,.inr ⟨H.next,rfl,by simp,by simp[aA.aI]⟩,by simp,fun id h1 hid=>?_⟩
 . simp only[fZ,cG];simp[hb,hk]
 rw[aA.aI,if_neg Zaf,aA.aC,if_neg];intro hh;exact h1 (by simp[XN,hh])
def EN(l:List Int):List (List AV):=l.map fun x=>[AV.int .i64 x]
theorem yM(a:List Int):(EN a).length=a.length:=by simp[EN]
theorem II:∀l,eI (EN l)=true
 |[]=>rfl
 |x::l=>by simp only[EN,Cq,eI,cM,AV.free,Du,Ct];exact II l
theorem CV{P:Program}{g:bF}(hg:HT g){f:FuncId}{args:List AV}(ha:cM args=true){sz:Nat}{els:List (List AV)}(cG:els≠[])(hf:eI els=true)
 (h:∃out H',(∃v,out=.ret v/\Own H' sz v els)/\Sound P g f args ⟨0,.nil⟩ out H') (H:aA):Sound P g f args H (.ret (.bC (H.next+2) sz els)) (H.alloc .tok):=by
 obtain⟨out,H',⟨v,rfl,bIr⟩,hS⟩:=h
 rcases bIr with ⟨_,he⟩|⟨k,rfl,_,hk⟩
 . exact absurd he cG
 refine hS.frame hg ha (tk:=some k) (fun k' rF=>by cases rF;exact hk) (n:=0) H ?_;simp[Out.av,gT,kT,hf,ED]
attribute [local congr] aS
theorem wrap_i64{x:Int}(h0: -2^63<=x)(h1:x<2^63):IntKind.i64.wrap x=x:=by simp only[IntKind.wrap,IntKind.bits,IntKind.signed];simp;split<;>omega
def rangeLoop(id cmp ix ln nx:Nat)(B:bR):bR:=
 .block id (.loop (.seq (.ops [⟨some cmp,.bin .lss (.tmp ix) (.tmp ln),none⟩]) (.seq (.cond (.tmp cmp) .skip (.exit id)) (.seq B
  (.ops [⟨some nx,.bin .add (.tmp ix) (.const (.int .i64 1)),none⟩,⟨some ix,.Lu (.tmp nx),none⟩])))))
theorem xq{P:Program}{g:bF}{n:Nat}{id cmp ix ln nx:Nat}{B:bR}{f:cW}{ds:List fY}{H:aA}{Q:FQ}(J:Nat->cW->aA->Prop)(N:Nat)(hN:(N:Int)<2^63)
 (hs:cmp<n/\ix<n/\nx<n/\cmp≠ix/\cmp≠ln/\nx≠ix/\nx≠ln/\ix≠ln)
 (h1:f ix=.int .i64 0) (h2:f ln=.int .i64 N) (h0:J 0 f H)
 (st:∀(i:Nat) (f:cW) (H:aA) (d:Nat) (v:AV),d=cmp\/d=nx\/d=ix->J i f H->J i (iZ f d v) H)
 (body:∀(i:Nat) (f:cW) (H:aA),i<N->f ix=.int .i64 i->f ln=.int .i64 N->J i f H->
   FC P g n B f ds H (gI (fun f' fH H'=>fH=ds/\f' ix=.int .i64 i/\f' ln=.int .i64 N/\J (i+1) f' H') (dO id Q)))
 (done:∀(f:cW) (H:aA),f ln=.int .i64 N->J N f H->Q .normal f ds H):FC P g n (rangeLoop id cmp ix ln nx B) f ds H Q:=by
 obtain⟨s1,s2,s3,s4,s5,s6,s7,s8⟩:=hs;refine aP (TM (fun m f' fH H'=>fH=ds/\∃i:Nat,i<=N/\m=N -i/\f' ix=.int .i64 i/\f' ln=.int .i64 N/\J i f' H') N ⟨rfl,0,Bp _,by omega,h1,h2,h0⟩ ?_);rintro m f1 pI H1 ⟨rfl,i,hi,rfl,e1,e2,e3⟩;refine aT fun K hK=>?_;rw[KR,AI _ _ _ _ s1];simp only[dE,jK,e1,e2,qD,if_true,Cf,bQ,wH,gE];apply hK;clear hK K;have st1:=st i f1 H1 cmp (.bool (decide ((i:Int)<N))) (.inl rfl) e3;refine aT fun K hK=>HN (decide ((i:Int)<N)) (by rw[jK,rN]) (fun ht=>?_) (fun ht=>?_)
 . rw[Na,gE];apply hK;clear hK K;have dT:i<N:=by have :=Ed ht;omega
   refine aT fun K hK=>?_;have hb:=body i _ H1 dT (by rw[oO _ _ (Ne.symm s4)];exact e1) (by rw[oO _ _ (Ne.symm s5)];exact e2) st1;have mono:∀{c:bR} {f:cW} {ds:List fY} {H:aA} {Q Q':FQ},(∀e f ds H,Q e f ds H->Q' e f ds H)->FC P g n c f ds H Q->FC P g n c f ds H Q':=fun {c f ds H Q Q'} hq h=>jI hq h;refine mono (fun e f2 Qy H2 h=>?_) hb
   cases e with
   |normal=>
    obtain⟨rfl,b1,b2,b3⟩:=h;show K f2 Qy H2;apply hK;rw[KR,AI _ _ _ _ s3];have hw:IntKind.i64.wrap ((i:Int)+1)=((i+1:Nat):Int):=(by rw[wrap_i64 A0 A0];rfl);simp only[dE,jK,wP,b1,qD,if_true,Cf,bQ];rw[HQ _ _ s2];simp only[dE,jK,bQ,wH,gE,rN,hw];refine⟨N -(i+1),by omega,trivial,i+1,by omega,rfl,rfl,?_,?_⟩
    . rw[oO _ _ (Ne.symm s8),oO _ _ (Ne.symm s7)];exact b2
    exact st _ _ _ _ _ (.inr (.inr rfl)) (st _ _ _ _ _ (.inr (.inl rfl)) b3)
   |_=>exact h
 rw[NZ,oN,oN,qV];have KM:i=N:=by have :=Gf ht;omega
 subst KM;exact done _ _ (by rw[oO _ _ (Ne.symm s5)];exact e2) st1
theorem lh(ev:Arg->AV)(H:aA)(zero:List AV):dE ev H (.alloc zero)=some (.ref H.next 0,H.alloc (.cells zero false)):=rfl
def bLi:=And.intro lh <| And.intro @dE.eq_1 <| And.intro @dE.eq_2 <| And.intro @dE.eq_4 <| And.intro @dE.eq_5 <| And.intro @dE.eq_6 <| And.intro @dE.eq_7 <| And.intro @dE.eq_8 <| And.intro @dE.eq_9 <| And.intro @dE.eq_10 <| And.intro @dE.eq_11 <| And.intro @dE.eq_12 <| And.intro @dE.eq_13 <| And.intro @dE.eq_14 <| And.intro @dE.eq_15 <| And.intro @dE.eq_16 <| And.intro @dE.eq_17 <| And.intro @dE.eq_18 <| And.intro @dE.eq_19 <| And.intro @dE.eq_20 <| And.intro @dE.eq_21 <| And.intro @dE.eq_22 <| And.intro @dE.eq_23 <| And.intro @dE.eq_24 <| And.intro @dE.eq_25 <| And.intro @dE.eq_26 <| And.intro @dE.eq_27 <| And.intro @dE.eq_28 <| And.intro @dE.eq_29 <| And.intro @dE.eq_30 <| And.intro @dE.eq_31 <| And.intro @dE.eq_32 <| And.intro @dE.eq_33 <| And.intro @dE.eq_34 <| And.intro @dE.eq_35 <| And.intro @dE.eq_36 <| And.intro @dE.eq_37 <| And.intro @dE.eq_38 <| And.intro @dE.eq_39 @dE.eq_40
def bLj:=And.intro @qD.eq_1 <| And.intro @qD.eq_2 <| And.intro @qD.eq_3 <| And.intro @qD.eq_4 <| And.intro @qD.eq_5 <| And.intro @qD.eq_6 <| And.intro @qD.eq_7 <| And.intro @qD.eq_8 <| And.intro @qD.eq_9 <| And.intro @qD.eq_10 <| And.intro @qD.eq_11 <| And.intro @qD.eq_12 <| And.intro @qD.eq_13 <| And.intro @qD.eq_14 <| And.intro @qD.eq_15 <| And.intro @qD.eq_16 @qD.eq_17
section
def wL(v:AV)(A B:Prop):Prop:=
 match v with
 |.bool true=>A
 |.bool false=>B
 |_=>False
def fD(v:AV)(b:Bool)(A B:Prop):Prop:=
 match v with
 |.bool c=>if c=b then A else B
 |_=>B
section
variable {P:Program} {g:bF} {n:Nat} {r:List aZ} {f:cW} {ds:List fY} {H:aA} {Q:FQ}
theorem VG(c:Arg)(a b:bR):FC P g n (.cond c a b) f ds H Q=wL (nN g f c) (FC P g n a f ds H Q) (FC P g n b f ds H Q):=by
 refine dZ (fun h=>?_) (fun h=>?_)
 . obtain⟨t,h1,h2⟩:=h;rw[h1]
   cases t with
   |true=>exact h2
   |false=>exact h2
 unfold wL at h;split at h
 . rename_i hv;exact⟨true,hv,h⟩
 . rename_i hv;exact⟨false,hv,h⟩
 exact h.elim
theorem FO(A B:Prop):wL (.bool true) A B=A:=dZ id id
theorem AS(A B:Prop):wL (.bool false) A B=B:=dZ id id
theorem mg(p:Prop) [Decidable p] (A B:Prop):wL (.bool (decide p)) A B=((p->A)/\(¬p->B)):=by
 by_cases hp:p
 . simp[hp,FO]
 simp[hp,AS]
theorem mh(b:Bool)(A B:Prop):wL (.bool (!b)) A B=wL (.bool b) B A:=by cases b<;>rfl
theorem aV{v v':AV}(h:v=v')(A B:Prop):wL v A B=wL v' A B:=by rw[h]
theorem aOj(d x:Nat)(b:Bool)(op:dY)(hd:d<n):
 bT P g n (⟨some d,op,some (x,b)⟩::r) f ds H Q=fD (f x) b (bT P g n (⟨some d,op,none⟩::r) f ds H Q) (bT P g n r (iZ f d aB) ds H Q):=by
 have :∀v,fM n f (some d) v=iZ f d v:=fun v=>by simp[fM,hd]
 conv=>lhs;unfold bT
 conv=>rhs;arg 3;unfold bT
 simp only[gQ,this,if_true];unfold fD
 cases h:f x with
 |bool c=>by_cases hc:c=b<;>simp[hc]
 |_=>simp
theorem oj(A B:Prop):fD (.bool true) true A B=A:=dZ id id
theorem og(A B:Prop):fD (.bool false) false A B=A:=dZ id id
theorem oi(A B:Prop):fD (.bool true) false A B=B:=dZ id id
theorem oh(A B:Prop):fD (.bool false) true A B=B:=dZ id id
theorem aQ{v v':AV}(h:v=v')(b:Bool)(A B:Prop):fD v b A B=fD v' b A B:=by rw[h]
theorem b8(a b:bR):FC P g n (.seq a b) f ds H Q=FC P g n a f ds H (gI (fun f ds H=>FC P g n b f ds H Q) Q):=dZ id id
theorem bD{c:bR}{f':cW}(h:f=f'):FC P g n c f ds H Q=FC P g n c f' ds H Q:=by rw[h]
theorem aX{f':cW}(h:f=f'):bT P g n r f ds H Q=bT P g n r f' ds H Q:=by rw[h]
theorem aW{K:cW->List fY->aA->Prop}{e:kd}{f':cW}(h:f=f'):gI K Q e f ds H=gI K Q e f' ds H:=by rw[h]
theorem aH{id:Nat}{e:kd}{f':cW}(h:f=f'):dO id Q e f ds H=dO id Q e f' ds H:=by rw[h]
end
theorem bGf:
 (∀(P:Program) (g:bF) (n:Nat) (f:cW) (ds:List fY) (H:aA) (Q:FQ) (c:Arg) (a b:bR),FC P g n (.cond c a b) f ds H Q=wL (nN g f c) (FC P g n a f ds H Q) (FC P g n b f ds H Q))/\
 (∀(A B:Prop),wL (.bool true) A B=A)/\
 (∀(A B:Prop),wL (.bool false) A B=B)/\
 (∀(P:Program) (g:bF) (n:Nat) (r:List aZ) (f:cW) (ds:List fY) (H:aA) (Q:FQ) (d x:Nat) (b:Bool) (op:dY) (hd:d<n),
   bT P g n (⟨some d,op,some (x,b)⟩::r) f ds H Q=fD (f x) b (bT P g n (⟨some d,op,none⟩::r) f ds H Q) (bT P g n r (iZ f d aB) ds H Q))/\
 (∀(A B:Prop),fD (.bool true) true A B=A)/\
 (∀(A B:Prop),fD (.bool false) false A B=A)/\
 (∀(A B:Prop),fD (.bool true) false A B=B)/\
 (∀(A B:Prop),fD (.bool false) true A B=B)/\
 (∀(P:Program) (g:bF) (n:Nat) (f:cW) (ds:List fY) (H:aA) (Q:FQ) (a b:bR),FC P g n (.seq a b) f ds H Q=FC P g n a f ds H (gI (fun f ds H=>FC P g n b f ds H Q) Q)):=
 ⟨fun _ _ _ _ _ _ _ c a b=>VG c a b,FO,AS,fun _ _ _ _ _ _ _ _ d x b op hd=>aOj d x b op hd,oj,og,oi,oh,fun _ _ _ _ _ _ _ a b=>b8 a b⟩
def aIe(id c:Nat)(ts:bR)(B:bR)(st:bR):bR:=
 .block id (.loop (.seq (.seq ts (.cond (.tmp c) .skip (.exit id))) (.seq B st)))
theorem aOh{P:Program}{g:bF}{n:Nat}{id c:Nat}{ts B st:bR}{f:cW}{ds:List fY}{H:aA}{Q:FQ}(J:Nat->cW->aA->Prop)(N:Nat)
 (h0:J 0 f H)
 (test:∀(i:Nat) (f:cW) (H:aA),i<=N->J i f H->∀(K:cW->Prop),(∀f',f' c=.bool (decide (i<N))->J i f' H->K f')->∀Q':FQ,FC P g n ts f ds H (gI (fun f' fH H'=>fH=ds/\H'=H/\K f') Q'))
 (body:∀(i:Nat) (f:cW) (H:aA),i<N->J i f H->
   FC P g n B f ds H (gI (fun f' fH H'=>fH=ds/\FC P g n st f' ds H' (gI (fun f' fH H'=>fH=ds/\J (i+1) f' H') (dO id Q))) (dO id Q)))
 (done:∀(f:cW) (H:aA),J N f H->Q .normal f ds H):FC P g n (aIe id c ts B st) f ds H Q:=by
 have mono:∀{c:bR} {f:cW} {ds:List fY} {H:aA} {Q Q':FQ},(∀e f ds H,Q e f ds H->Q' e f ds H)->FC P g n c f ds H Q->FC P g n c f ds H Q':=fun {c f ds H Q Q'} hq h=>jI hq h;refine aP (TM (fun m f' fH H'=>fH=ds/\∃i:Nat,i<=N/\m=N -i/\J i f' H') N ⟨rfl,0,Bp _,by omega,h0⟩ ?_);rintro m f1 pI H1 ⟨rfl,i,hi,rfl,e3⟩;refine aT fun K hK=>?_;refine aT fun K2 dL=>?_;refine mono (fun e f2 Qy H2 h=>?_) (test i f1 H1 hi e3 (fun f'=>K2 f' pI H1) (fun f' h1 h2=>?_) (gI K (dO id Q) |> fun Z=>Z))
 . cases e with
   |normal=>obtain⟨rfl,rfl,h⟩:=h;exact h
   |_=>exact h
 apply dL;rw[VG,jK,h1];by_cases dT:i<N
 . rw[Aj dT,FO,Na,gE];apply hK;refine aT fun K3 BH=>?_;refine mono (fun e f2 Qy H2 h=>?_) (body i f' H1 dT h2)
   cases e with
   |normal=>
    obtain⟨rfl,h⟩:=h;show K3 f2 Qy H2;apply BH;refine mono (fun e f3 ds3 H3 hh=>?_) h
    cases e with
    |normal=>obtain⟨h5,h6⟩:=hh;exact⟨N -(i+1),by omega,h5,i+1,by omega,rfl,h6⟩
    |_=>exact hh
   |_=>exact h
 rw[Ad dT,AS,NZ,oN,oN,qV];obtain rfl:i=N:=by omega
 exact done f' H1 h2
theorem VR.HE{G:Gh}{w:World}{tag sz:Nat}{els:List (List AV)}{u:Value}(h:VR G w (.bC tag sz els) u):VR G w (.bC 0 sz els) u:=by
 cases h with
 |bC _ _ _ b o cap us hu h hv ht=>exact .bC 0 sz els b o cap us hu h hv ⟨ht.1,trivial⟩
 |uJ _ _ b o s ht=>exact .uJ _ _ b o s A0
theorem Sound.HE{P:Program}{g:bF}{f:FuncId}{sz:Nat}{els:List (List AV)}{rest:List AV}{H H':aA}{out:Out}(h:Sound P g f (.bC 0 sz els::rest) H out H')(tag:Nat):
 Sound P g f (.bC tag sz els::rest) H out H':=by
 refine⟨h.1,fun G w vs hw hv=>h.2 G w vs hw ⟨hv.1,fun j hj=>?_⟩⟩;have :=hv.2 j hj
 cases j with
 |zero=>exact VR.HE this
 |succ j=>exact this
def OF(H:aA)(sz:Nat)(v:AV)(els:List (List AV)):Prop:=Own H sz v els/\(els=[]->v=.bB)
theorem OF.nil(H:aA)(sz:Nat):OF H sz .bB []:=⟨.nil H sz,fun _=>rfl⟩
theorem OF.alloc{H:aA}{sz:Nat}{v:AV}{els:List (List AV)}(h:OF H sz v els)(o:eY):OF (H.alloc o) sz v els:=⟨h.1.alloc o,h.2⟩
theorem OF.append{H:aA}{sz bytes:Nat}{v:AV}{els:List (List AV)}{e:List AV}(h:OF H sz v els)(hb:(els.length+1)*bytes<=2^40):
 ∃v' H',fZ H sz bytes false v [e]=some (v',H')/\OF H' sz v' (els++[e])/\aXq H H' v:=by
 obtain⟨v',H',h1,h2,h3⟩:=h.1.append (bytes:=bytes) (ys:=[e]) (by simpa using hb);exact⟨v',H',h1,⟨h2,fun he=>by simp at he⟩,h3⟩
def bFt(H:aA)(sz:Nat)(els:List (List AV)):AV:=if els=[] then .bB else .bC (H.next+2) sz els
def bFs(H:aA)(els:List (List AV)):aA:=if els=[] then H else H.alloc .tok
theorem OF.out(H:aA)(sz:Nat)(els:List (List AV)):OF (bFs H els) sz (bFt H sz els) els:=by
 unfold bFs bFt;by_cases h:els=[]
 . subst h;exact OF.nil _ _
 rw[if_neg h,if_neg h];exact⟨Own.fresh _ _ _,fun he=>absurd he h⟩
theorem bLl:
 (∀{α:Type} (a b:α),(a≠b)=¬(a=b))/\((¬False)=True)/\(∀{α:Type} {_:Decidable True} (a b:α),(if True then a else b)=a)/\((false=true)=False)/\
 (∀{α:Type} {_:Decidable False} (a b:α),(if False then a else b)=b)/\(∀{α β:Type} (f:α->β) (a:α),Option.map f (some a)=some (f a))/\(∀{α:Type} (a:α) (l:List α),(a::l).length=l.length+1)/\
 (∀{α:Type},([]:List α).length=0)/\(∀n:Nat,0+n=n)/\(∀{α:Type} (a d:α) (l:List α),(a::l).getD 0 d=a)/\(∀{α:Type} (a d:α) (l:List α) (n:Nat),(a::l).getD (n+1) d=l.getD n d)/\
 (∀p:Prop,(p/\p)=p)/\(∀n:Nat,(n<=n)=True)/\(∀(p:Prop) [Decidable p] (A B:Prop),wL (.bool (decide p)) A B=((p->A)/\(¬p->B))):=
 ⟨fun a b=>ne_eq a b,Fz,fun a b=>if_true a b,Au,fun a b=>Ca a b,fun f a=>rfl,fun a l=>rfl,rfl,Dg,fun _ _ _=>rfl,fun _ _ _ _=>rfl,and_self,fun n=>eq_true (Ag n),fun p _ A B=>mg p A B⟩
def sy:=And.intro aEx (And.intro bGf (And.intro bLi (And.intro bLj bLl)))
theorem sn:(∀n:Nat,n*1=n)/\(∀n:Nat,1*n=n)/\(∀n:Nat,0*n=0)/\(∀n:Nat,n -0=n)/\(∀n:Nat,n+0=n)/\(∀n:Nat,0+n=n):=
 ⟨Dc,Eu,Hk,Is,Dd,Dg⟩
theorem sh:(∀n m:Nat,aA.get ⟨n,.nil⟩ m=none)/\(∀(H:aA) (o:eY) (i:Nat),(H.alloc o).get i=if i=H.next then some o else H.get i)/\(∀(H:aA) (j:Nat) (o:eY) (i:Nat),(H.set j o).get i=if i=j then some o else H.get i)/\
 (∀(H:aA) (o:eY),(H.alloc o).next=H.next+1)/\(∀(H:aA) (j:Nat) (o:eY),(H.set j o).next=H.next)/\(∀n:Nat,0+n=n)/\
 (∀{α:Type} {_:Decidable True} (a b:α),(if True then a else b)=a)/\(∀{α:Type} {_:Decidable False} (a b:α),(if False then a else b)=b):=
 ⟨fun _ _=>rfl,fun _ _ _=>aA.aI ..,fun _ _ _ _=>aA.aC ..,fun _ _=>aA.bH ..,fun _ _ _=>aA.bA ..,Dg,fun a b=>if_true a b,fun a b=>Ca a b⟩
theorem sl:
 (∀{α:Type} (a:α) (l:List α) (n:Nat),(a::l).take (n+1)=a::l.take n)/\(∀{α:Type} (a:α) (l:List α) (n:Nat),(a::l).drop (n+1)=l.drop n)/\(∀{α:Type} (l:List α),l.take 0=[])/\(∀{α:Type} (l:List α),l.drop 0=l)/\
 (∀{α:Type} (n:Nat),([]:List α).take n=[])/\(∀{α:Type} (n:Nat),([]:List α).drop n=[])/\(∀{α:Type} (a:α) (l m:List α),a::l++m=a::(l++m))/\(∀{α:Type} (l:List α),[]++l=l)/\(∀{α:Type} (l:List α),l++[]=l)/\
 (∀{α β:Type} (f:α->β) (a:α) (l:List α),(a::l).map f=f a::l.map f)/\(∀{α β:Type} (f:α->β),[].map f=[])/\(∀{α:Type} (a d:α) (l:List α),(a::l).getD 0 d=a)/\
 (∀{α:Type} (a d:α) (l:List α) (n:Nat),(a::l).getD (n+1) d=l.getD n d)/\(∀{α:Type} (a b:α) (l:List α),(a::l).set 0 b=b::l)/\(∀{α:Type} (a b:α) (l:List α) (n:Nat),(a::l).set (n+1) b=a::l.set n b):=
 ⟨fun _ _ _=>rfl,fun _ _ _=>rfl,fun l=>Fe,fun _=>rfl,fun n=>List.take_nil,fun n=>Lk,fun _ _ _=>rfl,fun _=>rfl,fun l=>Cr l,fun _ _ _=>rfl,fun _=>rfl,fun _ _ _=>rfl,fun _ _ _ _=>rfl,fun _ _ _=>rfl,fun _ _ _ _=>rfl⟩
theorem sm:(∀{α β:Type} (f:α->β) (a:α) (l:List α),(a::l).map f=f a::l.map f)/\(∀{α β:Type} (f:α->β),[].map f=[])/\(∀{α:Type} (a b:α),(a≠b)=¬(a=b))/\((¬False)=True)/\
 (∀{α:Type} (a d:α) (l:List α),(a::l).getD 0 d=a)/\(∀{α:Type} (a d:α) (l:List α) (n:Nat),(a::l).getD (n+1) d=l.getD n d):=
 ⟨fun _ _ _=>rfl,fun _=>rfl,fun a b=>ne_eq a b,Fz,fun _ _ _=>rfl,fun _ _ _ _=>rfl⟩
end
end Go.Av
