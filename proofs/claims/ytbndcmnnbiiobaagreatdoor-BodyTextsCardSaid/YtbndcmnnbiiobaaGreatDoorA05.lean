/-
  Part of the proof of statement 5
-/
import Derived.Test.YtbndcmnnbiiobaaGreatDoorA04
import Derived.Recover
set_option linter.unusedVariables false
set_option linter.unusedSimpArgs false
set_option linter.unusedSectionVars false
set_option linter.defProp false
namespace Go.Av
open Go
section
inductive VT where
 |nil
 |node (v:AV) (l r:VT)
def VT.get:VT->Nat->AV
 |.nil,_=>aD
 |.node v l r,n=>match n with
  |0=>v
  |m+1=>match Nat.beq (Nat.mod m 2) 0 with
   |true=>l.get (Nat.div m 2)
   |false=>r.get (Nat.div m 2)
def VT.root:VT->AV
 |.nil=>aD
 |.node v _ _=>v
def VT.left:VT->VT
 |.nil=>.nil
 |.node _ l _=>l
def VT.right:VT->VT
 |.nil=>.nil
 |.node _ _ r=>r
def VT.CK:Nat->VT->Nat->AV->VT
 |0,t,_,v=>.node v t.left t.right
 |f+1,t,n,v=>match n with
  |0=>.node v t.left t.right
  |m+1=>match Nat.beq (Nat.mod m 2) 0 with
   |true=>.node t.root (VT.CK f t.left (Nat.div m 2) v) t.right
   |false=>.node t.root t.left (VT.CK f t.right (Nat.div m 2) v)
theorem VT.IS (t:VT):t.get 0=t.root:=by cases t<;>rfl
theorem VT.xB (t:VT) (m:Nat):t.get (m+1)=if Nat.beq (Nat.mod m 2) 0=true then t.left.get (Nat.div m 2) else t.right.get (Nat.div m 2):=by
 cases t with
 |nil=>simp[VT.get,VT.left,VT.right]
 |node v l r=>simp only[VT.get,VT.left,VT.right];cases Nat.beq (Nat.mod m 2) 0<;>rfl
theorem WV {m k:Nat} (h1:Nat.beq (Nat.mod m 2) 0=Nat.beq (Nat.mod k 2) 0) (h2:Nat.div m 2=Nat.div k 2):m=k:=by
 have a1:m%2=Nat.mod m 2:=rfl;have a2:k%2=Nat.mod k 2:=rfl;have a3:m / 2=Nat.div m 2:=rfl;have a4:k / 2=Nat.div k 2:=rfl
 have h4:m%2=0↔k%2=0:=by
  constructor
  · intro h;refine Bg (?_:Nat.beq (Nat.mod k 2) 0=true);rw[<-h1];show Nat.beq (m%2) 0=true;rw[h];rfl
  intro h;refine Bg (?_:Nat.beq (Nat.mod m 2) 0=true);rw[h1];show Nat.beq (k%2) 0=true;rw[h];rfl
 omega
theorem VT.IQ:∀(f:Nat) (t:VT) (n:Nat) (v:AV) (m:Nat),n<=f->(VT.CK f t n v).get m=if m=n then v else t.get m:=by
 intro f
 induction f with
 |zero=>
  intro t n v m hn;obtain rfl:n=0:=by omega
  cases m with
  |zero=>simp[VT.CK,VT.IS,VT.root]
  |succ m=>simp[VT.CK,VT.xB,VT.left,VT.right]
 |succ f ih=>
  intro t n v m hn
  cases n with
  |zero=>
   cases m with
   |zero=>simp[VT.CK,VT.IS,VT.root]
   |succ m=>simp[VT.CK,VT.xB,VT.left,VT.right]
  |succ n=>
   have hd:Nat.div n 2<=f:=Br (Jl n 2) (by omega)
   cases hb:Nat.beq (Nat.mod n 2) 0 with
   |true=>
    simp only[VT.CK,hb]
    cases m with
    |zero=>simp[VT.IS,VT.root]
    |succ m=>
     rw[VT.xB,VT.xB];simp only[VT.left,VT.right]
     cases hbm:Nat.beq (Nat.mod m 2) 0 with
     |true=>
      simp only[if_true];rw[ih _ _ _ _ hd];by_cases he:Nat.div m 2=Nat.div n 2
      · rw[if_pos he,if_pos];rw[WV (by rw[hb,hbm]) he]
      rw[if_neg he,if_neg];intro hh;apply he;rw[Nat.succ.inj hh]
     |false=>simp only[Bj,Cm];rw[if_neg];intro hh;rw[Nat.succ.inj hh,hb] at hbm;cases hbm
   |false=>
    simp only[VT.CK,hb]
    cases m with
    |zero=>simp[VT.IS,VT.root]
    |succ m=>
     rw[VT.xB,VT.xB];simp only[VT.left,VT.right]
     cases hbm:Nat.beq (Nat.mod m 2) 0 with
     |false=>
      simp only[Bj,Cm];rw[ih _ _ _ _ hd];by_cases he:Nat.div m 2=Nat.div n 2
      · rw[if_pos he,if_pos];rw[WV (by rw[hb,hbm]) he]
      rw[if_neg he,if_neg];intro hh;apply he;rw[Nat.succ.inj hh]
     |true=>simp only[if_true];rw[if_neg];intro hh;rw[Nat.succ.inj hh,hb] at hbm;cases hbm
def VT.set (t:VT) (n:Nat) (v:AV):VT:=VT.CK n t n v
theorem VT.aC (t:VT) (n:Nat) (v:AV) (m:Nat):(t.set n v).get m=if m=n then v else t.get m:=VT.IQ n t n v m (Ak _)
def MG (n:Nat) (T:VT):List AV:=(List.range n).map T.get
def NJ (n:Nat) (T:VT):Prop:=∀t,n<=t->T.get t=aD
def xU (n:Nat) (T:VT) (dst:Option Nat) (v:AV):VT:=
 match dst with
 |none=>T
 |some d=>match Nat.blt d n with
  |true=>T.set d v
  |false=>T
theorem NJ.put {n:Nat} {T:VT} (h:NJ n T) (dst:Option Nat) (v:AV):NJ n (xU n T dst v):=by
 unfold xU;split
 · exact h
 rename_i d
 cases hb:Nat.blt d n with
 |true=>
  intro t ht;rw[VT.aC,if_neg]
  · exact h t ht
  intro hh;have :d<n:=by simpa [Gv] using hb
  omega
 |false=>exact h
theorem Qa {n:Nat} {T:VT} (h:NJ n T) (t:Nat):(MG n T).getD t aD=T.get t:=by
 unfold MG;rw[getD_eq,Bo];by_cases ht:t<n
 · simp[ht]
 rw[h t (by omega)];simp[ht]
theorem rK {n:Nat} {T:VT} (dst:Option Nat) (v:AV):MG n (xU n T dst v)=mE (MG n T) dst v:=by
 unfold xU mE
 cases dst with
 |none=>rfl
 |some d=>
  simp only;unfold MG;apply Gu;intro i;rw[Ht]
  cases hb:Nat.blt d n with
  |true=>
   have hd:d<n:=(by simpa [Gv] using hb);simp only[Bo,Ad,Bs,hd,if_true];by_cases hi:d=i
   · subst hi;simp[hd,VT.aC]
   rw[if_neg hi];by_cases gD:i<n
   · simp[gD,VT.aC,Ne.symm hi]
   simp[gD]
  |false=>
   have hd:¬d<n:=by intro hh;have :Nat.blt d n=true:=(by simpa [Gv] using hh);rw[hb] at this;cases this
   simp only[Bo,Ad,Bs,hd,Cm];by_cases hi:d=i
   · subst hi;simp[hd]
   rw[if_neg hi]
def zT (n:Nat):List AV->Nat->VT->VT
 |[],_,T=>T
 |v::vs,i,T=>zT n vs (i+1) (xU n T (some i) v)
def YD (g:bB) (T:VT):Arg->AV
 |.tmp t=>T.get t
 |.const v=>v
 |.iF n=>match g n with
  |some cs=>.pl cs
  |none=>aD
theorem FW {n:Nat} {T:VT} (h:NJ n T) (g:bB):YD g T=Arg.eval g (MG n T):=by
 funext x
 cases x with
 |tmp t=>exact(Qa h t).symm
 |const v=>rfl
 |iF n=>rfl
def Nv (T:VT) (o:bC):Bool:=
 match o.guard with
 |none=>true
 |some (d,b)=>match T.get d with
  |.bool c=>c==b
  |_=>false
theorem Qf {n:Nat} {T:VT} (h:NJ n T) (o:bC):Nv T o=bH (MG n T) o:=by
 unfold Nv bH
 cases o.guard with
 |none=>rfl
 |some p=>simp only[Qa h];cases T.get p.1<;>rfl
mutual
def AV.same:AV->AV->Bool
 |.bool a,.bool b=>a==b
 |.int j a,.int k b=>decide (j=k)&&decide (a=b)
 |.str a,.str b=>a==b
 |.Lv,.Lv=>true
 |.ref i o,.ref j p=>i==j&&o==p
 |.pl a,.pl b=>sC a b
 |.aS,.aS=>true
 |.aV t s e,.aV t' s' e'=>t==t'&&s==s'&&MC e e'
 |.sl a b c d e,.sl a' b' c' d' e'=>a==a'&&b==b'&&c==c'&&d==d'&&e==e'
 |.func f a b,.func f' a' b'=>decide (f=f')&&sC a a'&&sC b b'
 |.BX,.BX=>true
 |.iface t v,.iface t' v'=>decide (t=t')&&v.same v'
 |.pW,.pW=>true
 |.agg a,.agg b=>sC a b
 |.gP a,.gP b=>sC a b
 |.map i,.map j=>i==j
 |.sU,.sU=>true
 |_,_=>false
def sC:List AV->List AV->Bool
 |[],[]=>true
 |x::r,y::s=>x.same y&&sC r s
 |_,_=>false
def MC:List (List AV)->List (List AV)->Bool
 |[],[]=>true
 |x::r,y::s=>sC x y&&MC r s
 |_,_=>false
end
mutual
theorem AV.Up:∀(a b:AV),a.same b=true->a=b:=by
 intro a b h
 cases a<;>cases b<;>simp only[AV.same,Am,Dc,Bh] at h<;>first
  |rfl
  |(cases h;done)
  |(subst h;rfl)
  |(obtain⟨h1,h2⟩:=h;subst h1;subst h2;rfl)
  |(obtain⟨⟨⟨⟨h1,h2⟩,h3⟩,h4⟩,h5⟩:=h;subst h1;subst h2;subst h3;subst h4;subst h5;rfl)
  |(rw[nL _ _ h];done)
  |(obtain⟨h1,h2⟩:=h;subst h1;rw[AV.Up _ _ h2];done)
  |(obtain⟨⟨h1,h2⟩,h3⟩:=h;subst h1;subst h2;rw[TA _ _ h3];done)
  |(obtain⟨⟨h1,h2⟩,h3⟩:=h;subst h1;rw[nL _ _ h2,nL _ _ h3];done)
theorem nL:∀(a b:List AV),sC a b=true->a=b:=by
 intro a b h
 cases a with
 |nil=>cases b with
  |nil=>rfl
  |cons y s=>simp[sC] at h
 |cons x r=>cases b with
  |nil=>simp[sC] at h
  |cons y s=>simp only[sC,Am] at h;rw[AV.Up _ _ h.1,nL _ _ h.2]
theorem TA:∀(a b:List (List AV)),MC a b=true->a=b:=by
 intro a b h
 cases a with
 |nil=>cases b with
  |nil=>rfl
  |cons y s=>simp[MC] at h
 |cons x r=>cases b with
  |nil=>simp[MC] at h
  |cons y s=>simp only[MC,Am] at h;rw[nL _ _ h.1,TA _ _ h.2]
end
def Nr:Option dY->Option dY->Bool
 |none,none=>true
 |some (.cells a o),some (.cells b p)=>sC a b&&o==p
 |some .tok,some .tok=>true
 |some .dead,some .dead=>true
 |some (.map a),some (.map b)=>sC (a.map (·.1)) (b.map (·.1))&&sC (a.map (·.2)) (b.map (·.2))
 |_,_=>false
theorem sk {a b:List (AV×AV)} (h1:a.map (·.1)=b.map (·.1)) (h2:a.map (·.2)=b.map (·.2)):a=b:=by
 induction a generalizing b with
 |nil=>cases b with
  |nil=>rfl
  |cons y s=>simp at h1
 |cons x r ih=>cases b with
  |nil=>simp at h1
  |cons y s=>simp only[By,Hl] at h1 h2;rw[ih h1.2 h2.2,Prod.ext h1.1 h2.1]
theorem QM {a b:Option dY} (h:Nr a b=true):a=b:=by
 unfold Nr at h
 split at h<;>first
  |rfl
  |(cases h;done)
  |skip
 · simp only[Am,Dc] at h;rw[nL _ _ h.1,h.2]
 simp only[Am] at h;rw[sk (nL _ _ h.1) (nL _ _ h.2)]
abbrev EI:=AV->List AV->aA->Option (Out×aA)
abbrev Res:=AEx×VT×List fY×aA
def MQ (cf:EI) (g:bB) (n:Nat):List bC->VT->List fY->aA->Option Res
 |[],T,ds,H=>some (.normal,T,ds,H)
 |o::r,T,ds,H=>
  match Nv T o with
  |true=>match o.op with
   |.call f azs=>match cf (YD g T f) (azs.map (YD g T)) H with
    |some (.ret v,H')=>MQ cf g n r (xU n T o.dst v) ds H'
    |some (.CD v,H')=>some (.panic v,T,ds,H')
    |none=>none
   |.panic x=>match YD g T x with
    |.iface t v=>some (.panic (.iface t v),T,ds,H)
    |_=>none
   |.jY f azs=>match lL (YD g T f) with
    |some p=>MQ cf g n r (xU n T o.dst aD) (.call p.1 (p.2.1++azs.map (YD g T)++p.2.2)::ds) H
    |none=>none
   |op=>match dK (YD g T) H op with
    |some (v,H')=>MQ cf g n r (xU n T o.dst v) ds H'
    |none=>none
  |false=>MQ cf g n r (xU n T o.dst aD) ds H
def exQ (cf:EI) (g:bB) (T:VT) (H:aA):dX->Option (AV×aA)
 |.call f azs=>match lL (YD g T f) with
  |some _=>match cf (YD g T f) (azs.map (YD g T)) H with
   |some (.ret v,H')=>some (v,H')
   |_=>none
  |none=>none
 |.panic _|.jY _ _=>none
 |op=>dK (YD g T) H op
def Zg (pairs:List (Nat×Nat)) (i id:Nat) (ef:List (Nat×aA×aA)):Bool:=
 ef.all fun x=> !pairs.contains (i,x.1)||Nr (x.2.1.get id) (x.2.2.get id)
def Ti (cf:EI) (g:bB) (n:Nat) (pairs:List (Nat×Nat)) (base:Nat):Nat->Nat->List bC->List (Nat×Nat)->List (Nat×aA×aA)->VT->aA->Option (VT×aA)
 |_,_,[],_,_,T,H=>some (T,H)
 |i,k,r::rs,rd,ef,T,H=>
  match Nv T r with
  |true=>match r.op.fresh with
   |true=>match yQ (YD g T) r.op with
    |some (ob,val)=>match Zg pairs i (base+k) ef with
     |true=>Ti cf g n pairs base (i+1) (k+1) rs ((i,base+k)::rd) ef (xU n T r.dst (val (base+k))) (H.set (base+k) ob)
     |false=>none
    |none=>none
   |false=>match r.op.qE with
    |true=>match exQ cf g T H r.op with
     |some (v,H')=>match Nat.ble H.next H'.next&&rd.all fun x=> !pairs.contains (x.1,i)||Nr (H.get x.2) (H'.get x.2) with
      |true=>Ti cf g n pairs base (i+1) k rs rd ((i,H,H')::ef) (xU n T r.dst v) H'
      |false=>none
     |none=>none
    |false=>match exQ cf g T H r.op with
     |some (v,_)=>match r.op.cY (YD g T) with
      |some id=>match Zg pairs i id ef with
       |true=>Ti cf g n pairs base (i+1) k rs ((i,id)::rd) ef (xU n T r.dst v) H
       |false=>none
      |none=>Ti cf g n pairs base (i+1) k rs rd ef (xU n T r.dst v) H
     |none=>none
  |false=>Ti cf g n pairs base (i+1) (match r.op.fresh with|true=>k+1|false=>k) rs rd ef (xU n T r.dst aD) H
def Sf (f:VT->List fY->aA->Option Res):Nat->VT->List fY->aA->Option Res
 |0,_,_,_=>none
 |m+1,T,ds,H=>match f T ds H with
  |some (.normal,T',fC,H')=>Sf f m T' fC H'
  |r=>r
def Qm (cf:EI) (g:bB) (n fuel:Nat):bV->VT->List fY->aA->Option Res
 |.skip,T,ds,H=>some (.normal,T,ds,H)
 |.ops rl,T,ds,H=>MQ cf g n rl T ds H
 |.draw rl pairs,T,ds,H=>match nZ H (rl.countP (·.op.fresh)) with
  |true=>match Ti cf g n pairs H.next 0 0 rl [] [] T {H with next:=H.next+rl.countP (·.op.fresh)} with
   |some (T',H')=>some (.normal,T',ds,H')
   |none=>none
  |false=>none
 |.seq a b,T,ds,H=>match Qm cf g n fuel a T ds H with
  |some (.normal,T',fC,H')=>Qm cf g n fuel b T' fC H'
  |r=>r
 |.cond c a b,T,ds,H=>match YD g T c with
  |.bool true=>Qm cf g n fuel a T ds H
  |.bool false=>Qm cf g n fuel b T ds H
  |_=>none
 |.block id a,T,ds,H=>match Qm cf g n fuel a T ds H with
  |some (.exit i,T',fC,H')=>match Nat.beq i id with
   |true=>some (.normal,T',fC,H')
   |false=>some (.exit i,T',fC,H')
  |r=>r
 |.loop a,T,ds,H=>Sf (Qm cf g n fuel a) fuel T ds H
 |.exit id,T,ds,H=>some (.exit id,T,ds,H)
 |.ret,T,ds,H=>some (.ret,T,ds,H)
 |.oE c ps MK body,T,ds,H=>match YD g T c with
  |.func (.func fid) fs cs=>match cf (.func (.func fid) fs cs) [.yield (H.next+1)] ((H.alloc .MO).alloc (.loop ⟨ps,MK,body⟩ (MG n T) .ready)) with
   |some (.ret _,He)=>match He.get (H.next+1) with
    |some (.loop _ _ .ready)=>some (.normal,T,.mark H.next::ds,He.set (H.next+1) .dead)
    |some (.loop _ _ (.done .ret))=>some (.ret,T,.mark H.next::ds,He.set (H.next+1) .dead)
    |some (.loop _ _ (.done (.exit i)))=>some (.exit i,T,.mark H.next::ds,He.set (H.next+1) .dead)
    |_=>none
   |_=>none
  |_=>none
def KB (n:Nat) (T:VT):List (Nat×AV)->VT
 |[]=>T
 |(t,v)::r=>KB n (xU n T (some t) v) r
section
variable {P:Program} {g:bB} {n fuel:Nat} {cf:EI}
theorem Rb.sound {fv:AV} {args:List AV} {H H':aA} {out:Out} {p:FuncId×List AV×List AV} (h:Rb P g fv args H out H') (hp:lL fv=some p):Sound P g p.1 (p.2.1++args++p.2.2) H out H':=by
 rcases h with ⟨q,hq,h⟩|⟨id,rfl,_⟩
 · rw[hq] at hp;cases hp;exact h
 cases hp
def FG (P:Program) (g:bB) (cf:EI):Prop:=∀c args H out H',cf c args H=some (out,H')->Rb P g c args H out H'
theorem rN (Mb:FG P g cf):∀(rl:List bC) (T:VT) (ds:List fY) (H:aA) (ae:AEx) (T':VT) (fC:List fY) (H':aA),NJ n T->MQ cf g n rl T ds H=some (ae,T',fC,H')->
 NJ n T'/\∀Q:AQ,Q ae (MG n T') fC H'->tW P g rl (MG n T) ds H Q
 |[],T,ds,H,ae,T',fC,H',hb,h=>by simp only[MQ,Ac,Aj] at h;obtain⟨rfl,rfl,rfl,rfl⟩:=h;exact⟨hb,fun Q hq=>hq⟩
 |o::r,T,ds,H,ae,T',fC,H',hb,h=>by
  unfold MQ at h;rw[FW hb,Qf hb] at h;unfold tW
  cases hw:bH (MG n T) o with
  |false=>rw[hw] at h;dsimp only at h;have ih:=rN Mb r _ ds H ae T' fC H' (hb.put o.dst aD) h;rw[rK] at ih;exact⟨ih.1,fun Q hq=>by simpa using ih.2 Q hq⟩
  |true=>
   rw[hw] at h;dsimp only at h;simp only[if_true];split at h
   · rename_i f azs fF;split at h
     · rename_i v H1 hc;have ih:=rN Mb r _ ds H1 ae T' fC H' (hb.put o.dst v) h;rw[rK] at ih;exact⟨ih.1,fun Q hq=>by rw[fF];exact⟨.ret v,H1,Mb _ _ _ _ _ hc,ih.2 Q hq⟩⟩
     · rename_i v H1 hc;simp only[Ac,Aj] at h;obtain⟨rfl,rfl,rfl,rfl⟩:=h;exact⟨hb,fun Q hq=>by rw[fF];exact⟨.CD v,H1,Mb _ _ _ _ _ hc,hq⟩⟩
     cases h
   · rename_i x fF;split at h
     · rename_i t v hx;simp only[Ac,Aj] at h;obtain⟨rfl,rfl,rfl,rfl⟩:=h;exact⟨hb,fun Q hq=>by rw[fF];exact⟨t,v,hx,hq⟩⟩
     cases h
   · rename_i f azs fF;split at h
     · rename_i p hp;have ih:=rN Mb r _ _ H ae T' fC H' (hb.put o.dst aD) h;rw[rK] at ih;exact⟨ih.1,fun Q hq=>by rw[fF];exact⟨p,hp,ih.2 Q hq⟩⟩
     cases h
   rename_i n1 n2 n3;split at h
   · rename_i v H1 ha;have ih:=rN Mb r _ ds H1 ae T' fC H' (hb.put o.dst v) h;rw[rK] at ih;refine⟨ih.1,fun Q hq=>?_⟩;split
     · rename_i f azs fF;exact absurd fF (n1 f azs)
     · rename_i x fF;exact absurd fF (n2 x)
     · rename_i f azs fF;exact absurd fF (n3 f azs)
     · rename_i x fF;rw[fF] at ha;cases ha
     · rename_i x fF;rw[fF] at ha;cases ha
     · rename_i x fF;rw[fF] at ha;cases ha
     exact⟨v,H1,ha,ih.2 Q hq⟩
   cases h
theorem Rt (Mb:FG P g cf) {T:VT} (hb:NJ n T) {H H':aA} {r:bC} {v:AV} (h:exQ cf g T H r.op=some (v,H')):HW P g r (MG n T) H v H':=by
 unfold exQ at h;rw[FW hb] at h;unfold HW;split at h
 · rename_i f azs fF;rw[fF];split at h
   · rename_i p hp;split at h
     · rename_i v' H1 hc;simp only[Ac,Aj] at h;obtain⟨rfl,rfl⟩:=h;exact⟨p,hp,(Mb _ _ _ _ _ hc).sound hp⟩
     cases h
   cases h
 · cases h
 · cases h
 rename_i n1 n2 n3;split
 · rename_i f azs fF;exact absurd fF (n1 f azs)
 · rename_i x fF;exact absurd fF (n2 x)
 · rename_i f azs fF;exact absurd fF (n3 f azs)
 exact h
theorem PR {pairs:List (Nat×Nat)} {i id:Nat} {ef:List (Nat×aA×aA)} (h:Zg pairs i id ef=true):∀x∈ef,(i,x.1)∈pairs->x.2.1.get id=x.2.2.get id:=by intro x hx hp;have :=Ba.1 h x hx;simp only[Dt,Ct,List.contains_eq_mem,Cc] at this;exact QM (this.resolve_left fun hh=>hh hp)
theorem qO (Mb:FG P g cf) {pairs:List (Nat×Nat)} {base:Nat}:∀(rl:List bC) (i k:Nat) (rd:List (Nat×Nat)) (ef:List (Nat×aA×aA)) (T:VT) (H:aA) (T':VT) (H':aA),NJ n T->
 Ti cf g n pairs base i k rl rd ef T H=some (T',H')->NJ n T'/\∀Q:List AV->aA->Prop,Q (MG n T') H'->VQ P g pairs base i k rl rd ef (MG n T) H Q
 |[],i,k,rd,ef,T,H,T',H',hb,h=>by simp only[Ti,Ac,Aj] at h;obtain⟨rfl,rfl⟩:=h;exact⟨hb,fun Q hq=>hq⟩
 |r::rs,i,k,rd,ef,T,H,T',H',hb,h=>by
  unfold Ti at h;rw[Qf hb] at h;unfold VQ
  cases hw:bH (MG n T) r with
  |false=>
   rw[hw] at h;dsimp only at h;have ih:=qO Mb rs _ _ _ _ _ _ T' H' (hb.put r.dst aD) h;rw[rK] at ih
   have hk:(match r.op.fresh with|true=>k+1|false=>k)=if r.op.fresh then k+1 else k:=(by cases r.op.fresh<;>rfl);rw[hk] at ih;exact⟨ih.1,fun Q hq=>by simpa using ih.2 Q hq⟩
  |true=>
   rw[hw] at h;dsimp only at h;simp only[if_true]
   cases hf:r.op.fresh with
   |true=>
    rw[hf] at h;dsimp only at h;simp only[if_true];rw[FW hb] at h;split at h
    · rename_i ob val ho;split at h
      · rename_i hk;have ih:=qO Mb rs _ _ _ _ _ _ T' H' (hb.put r.dst (val (base+k))) h;rw[rK] at ih;exact⟨ih.1,fun Q hq=>⟨ob,val,ho,PR hk,ih.2 Q hq⟩⟩
      cases h
    cases h
   |false=>
    rw[hf] at h;dsimp only at h;simp only[Bj,Cm]
    cases he:r.op.qE with
    |true=>
     rw[he] at h;dsimp only at h;simp only[if_true];split at h
     · rename_i v H1 hq1;split at h
       · rename_i hk;simp only[Am] at hk;have ih:=qO Mb rs _ _ _ _ _ _ T' H' (hb.put r.dst v) h;rw[rK] at ih;refine⟨ih.1,fun Q hq=>⟨v,H1,Rt Mb hb hq1,by simpa using Af hk.1,fun x hx hp=>?_,ih.2 Q hq⟩⟩;have :=Ba.1 hk.2 x hx;simp only[Dt,Ct,List.contains_eq_mem,Cc] at this;exact QM (this.resolve_left fun hh=>hh hp)
       cases h
     cases h
    |false=>
     rw[he] at h;dsimp only at h;simp only[Bj,Cm];split at h
     · rename_i v H1 hq1;have hqs:=Rt Mb hb hq1
       have hH:H1=H:=by
        unfold HW at hqs;split at hqs
        · rename_i fF;rw[fF] at he;cases he
        · exact hqs.elim
        · exact hqs.elim
        exact(LN (H1:=H) he hf hqs (fun id _=>rfl)).1
       rw[hH] at hqs;rw[FW hb] at h;split at h
       · rename_i id hid;split at h
         · rename_i hk;have ih:=qO Mb rs _ _ _ _ _ _ T' H' (hb.put r.dst v) h;rw[rK] at ih;refine⟨ih.1,fun Q hq=>⟨v,hqs,fun jU GD=>?_,?_⟩⟩
           · rw[hid] at GD;cases GD;exact PR hk
           rw[hid];exact ih.2 Q hq
         cases h
       rename_i hid;have ih:=qO Mb rs _ _ _ _ _ _ T' H' (hb.put r.dst v) h;rw[rK] at ih;refine⟨ih.1,fun Q hq=>⟨v,hqs,fun jU GD=>?_,?_⟩⟩
       · rw[hid] at GD;cases GD
       rw[hid];exact ih.2 Q hq
     cases h
theorem Ra {rl:List bC}:∀{s:List AV} {ds:List fY} {H:aA} {Q Q':AQ},(∀e s ds H,Q e s ds H->Q' e s ds H)->tW P g rl s ds H Q->tW P g rl s ds H Q':=by
 induction rl with
 |nil=>exact fun hq h=>hq _ _ _ _ h
 |cons o r ih=>
  intro s ds H Q Q' hq h;unfold tW at h ⊢;split
  · rename_i hw;rw[if_pos hw] at h;split at h
    · obtain⟨out,H',h1,h3⟩:=h;refine⟨out,H',h1,?_⟩
      cases out with
      |ret v=>exact ih hq h3
      |CD v=>exact hq _ _ _ _ h3
    · obtain⟨t,v,h1,h2⟩:=h;exact⟨t,v,h1,hq _ _ _ _ h2⟩
    · obtain⟨p,h1,h2⟩:=h;exact⟨p,h1,ih hq h2⟩
    · obtain⟨m,es,h1,h2,h3⟩:=h;exact⟨m,es,h1,h2,fun bs c mb k1 k2=>ih hq (h3 bs c mb k1 k2)⟩
    · obtain⟨it,m,mb,c,seen,es,bs,h1,h2,h3,h4,h5⟩:=h;exact⟨it,m,mb,c,seen,es,bs,h1,h2,h3,fun k=>ih hq (h4 k),fun j k1 k2=>ih hq (h5 j k1 k2)⟩
    · obtain⟨it,m,mb,c,seen,es,bs,j,h1,h2,h3,h4,h5⟩:=h;exact⟨it,m,mb,c,seen,es,bs,j,h1,h2,h3,h4,ih hq h5⟩
    obtain⟨v,H',h1,h2⟩:=h;exact⟨v,H',h1,ih hq h2⟩
  rename_i hw;rw[if_neg hw] at h;exact ih hq h
theorem VS {pairs:List (Nat×Nat)} {base:Nat} {rl:List bC}:∀{i k:Nat} {rd:List (Nat×Nat)} {ef:List (Nat×aA×aA)} {s:List AV} {H:aA} {Q Q':List AV->aA->Prop},(∀s H,Q s H->Q' s H)->
 VQ P g pairs base i k rl rd ef s H Q->VQ P g pairs base i k rl rd ef s H Q':=by
 induction rl with
 |nil=>exact fun hq h=>hq _ _ h
 |cons r rs ih=>
  intro i k rd ef s H Q Q' hq h;unfold VQ at h ⊢;split
  · rename_i hw;rw[if_pos hw] at h;split
    · rename_i hf;rw[if_pos hf] at h;obtain⟨ob,val,h1,h2,h3⟩:=h;exact⟨ob,val,h1,h2,ih hq h3⟩
    rename_i hf;rw[if_neg hf] at h;split
    · rename_i he;rw[if_pos he] at h;obtain⟨v,H',h1,h2,h3,h4⟩:=h;exact⟨v,H',h1,h2,h3,ih hq h4⟩
    rename_i he;rw[if_neg he] at h;obtain⟨v,h1,h2,h3⟩:=h;exact⟨v,h1,h2,ih hq h3⟩
  rename_i hw;rw[if_neg hw] at h;exact ih hq h
theorem eW {c:bV}:∀{s:List AV} {ds:List fY} {H:aA} {Q Q':AQ},(∀e s ds H,Q e s ds H->Q' e s ds H)->AC P g c s ds H Q->AC P g c s ds H Q':=by
 induction c with
 |skip=>exact fun hq h=>hq _ _ _ _ h
 |ops rl=>exact fun hq h=>Ra hq h
 |draw rl pairs=>exact fun hq h=>h.imp (fun h=>⟨h.1,VS (fun s H=>hq _ _ _ _) h.2⟩) fun h=>h.mono fun _ _ _=>hq _ _ _ _
 |seq a b rG uW=>
  intro s ds H Q Q' hq h;refine rG (fun e s ds H h=>?_) h
  cases e with
  |normal=>exact uW hq h
  |_=>exact hq _ _ _ _ h
 |cond c a b rG uW=>
  intro s ds H Q Q' hq h;obtain⟨t,h1,h2⟩:=h;refine⟨t,h1,?_⟩
  cases t with
  |true=>exact rG hq h2
  |false=>exact uW hq h2
 |block id a ih=>
  intro s ds H Q Q' hq h;refine ih (fun e s ds H h=>?_) h
  cases e with
  |exit i=>
   simp only[pS] at h ⊢;split
   · rename_i hi;rw[if_pos hi] at h;exact hq _ _ _ _ h
   rename_i hi;rw[if_neg hi] at h;exact hq _ _ _ _ h
  |_=>exact hq _ _ _ _ h
 |loop a ih=>
  intro s ds H Q Q' hq h;obtain⟨I,m,h0,hI⟩:=h;refine⟨I,m,h0,fun m s ds H hi=>ih (fun e s ds H h=>?_) (hI m s ds H hi)⟩
  cases e with
  |normal=>exact h
  |_=>exact hq _ _ _ _ h
 |exit id=>exact fun hq h=>hq _ _ _ _ h
 |ret=>exact fun hq h=>hq _ _ _ _ h
 |oE c ps a b rG uW=>
  intro s ds H Q Q' hq h;obtain⟨fid,fs,cs,v,He,k',s',st,Hf,h1,h2,h3,h4,h5⟩:=h;refine⟨fid,fs,cs,v,He,k',s',st,Hf,h1,h2,h3,h4,?_⟩
  cases st with
  |ready=>exact hq _ _ _ _ h5
  |done e=>cases e<;>exact hq _ _ _ _ h5
  |busy=>exact h5.elim
  |over _=>exact h5.elim
theorem DE (Mb:FG P g cf):∀(c:bV) (T:VT) (ds:List fY) (H:aA) (ae:AEx) (T':VT) (fC:List fY) (H':aA),NJ n T->Qm cf g n fuel c T ds H=some (ae,T',fC,H')->
 NJ n T'/\∀Q:AQ,Q ae (MG n T') fC H'->AC P g c (MG n T) ds H Q:=by
 intro c
 induction c with
 |skip=>intro T ds H ae T' fC H' hb h;simp only[Qm,Ac,Aj] at h;obtain⟨rfl,rfl,rfl,rfl⟩:=h;exact⟨hb,fun Q hq=>hq⟩
 |ops rl=>exact fun T ds H ae T' fC H' hb h=>rN Mb rl T ds H ae T' fC H' hb h
 |draw rl pairs=>
  intro T ds H ae T' fC H' hb h;simp only[Qm] at h;split at h
  · rename_i DI;split at h
    · rename_i T1 H1 hd;simp only[Ac,Aj] at h;obtain⟨rfl,rfl,rfl,rfl⟩:=h;have :=qO Mb rl 0 0 [] [] T _ T1 H1 hb hd;exact⟨this.1,fun Q hq=>.inl ⟨DI,this.2 _ hq⟩⟩
    cases h
  cases h
 |seq a b rG uW=>
  intro T ds H ae T' fC H' hb h;simp only[Qm] at h;split at h
  · rename_i T1 pQ H1 ha;have h1:=rG T ds H _ T1 pQ H1 hb ha;have h2:=uW T1 pQ H1 ae T' fC H' h1.1 h;exact⟨h2.1,fun Q hq=>h1.2 _ (h2.2 Q hq)⟩
  rename_i hn;have h1:=rG T ds H ae T' fC H' hb h;refine⟨h1.1,fun Q hq=>h1.2 _ ?_⟩
  cases ae with
  |normal=>exact absurd h (hn _ _ _)
  |_=>exact hq
 |cond c a b rG uW=>
  intro T ds H ae T' fC H' hb h;simp only[Qm] at h;rw[FW hb] at h;split at h
  · rename_i hc;have h1:=rG T ds H ae T' fC H' hb h;exact⟨h1.1,fun Q hq=>⟨true,hc,h1.2 Q hq⟩⟩
  · rename_i hc;have h1:=uW T ds H ae T' fC H' hb h;exact⟨h1.1,fun Q hq=>⟨false,hc,h1.2 Q hq⟩⟩
  cases h
 |block id a ih=>
  intro T ds H ae T' fC H' hb h;simp only[Qm] at h;split at h
  · rename_i i T1 pQ H1 ha;have h1:=ih T ds H _ T1 pQ H1 hb ha;split at h
    · rename_i hi;have oY:i=id:=Bg hi;simp only[Ac,Aj] at h;obtain⟨rfl,rfl,rfl,rfl⟩:=h;refine⟨h1.1,fun Q hq=>h1.2 _ ?_⟩;simp only[pS];rw[if_pos oY];exact hq
    rename_i hi;have oY:i≠id:=Nat.ne_of_beq_eq_false hi;simp only[Ac,Aj] at h;obtain⟨rfl,rfl,rfl,rfl⟩:=h;refine⟨h1.1,fun Q hq=>h1.2 _ ?_⟩;simp only[pS];rw[if_neg oY];exact hq
  rename_i hn;have h1:=ih T ds H ae T' fC H' hb h;refine⟨h1.1,fun Q hq=>h1.2 _ ?_⟩
  cases ae with
  |exit i=>exact absurd h (hn _ _ _ _)
  |_=>exact hq
 |loop a ih=>
  intro T ds H ae T' fC H' hb h;simp only[Qm] at h
  have key:∀(m:Nat) (T:VT) (ds:List fY) (H:aA),NJ n T->Sf (Qm cf g n fuel a) m T ds H=some (ae,T',fC,H')->NJ n T':=by
   intro m
   induction m with
   |zero=>intro T ds H _ h;cases h
   |succ m ihm=>
    intro T ds H hb h;simp only[Sf] at h;split at h
    · rename_i T1 pQ H1 h1;exact ihm T1 pQ H1 (ih _ _ _ _ _ _ _ hb h1).1 h
    exact(ih _ _ _ _ _ _ _ hb h).1
  refine⟨key fuel T ds H hb h,fun Q hq=>⟨fun m s ds H=>∃T,s=MG n T/\NJ n T/\Sf (Qm cf g n fuel a) m T ds H=some (ae,T',fC,H'),fuel,⟨T,rfl,hb,h⟩,?_⟩⟩;rintro m s pQ H1 ⟨T1,rfl,tR,h1⟩
  cases m with
  |zero=>cases h1
  |succ m=>
   simp only[Sf] at h1;split at h1
   · rename_i T2 RD H2 h2;have :=ih _ _ _ _ _ _ _ tR h2;exact this.2 _ ⟨m,Ew m,T2,rfl,this.1,h1⟩
   rename_i hn;have :=ih _ _ _ _ _ _ _ tR h1;refine this.2 _ ?_
   cases ae with
   |normal=>exact absurd h1 (hn _ _ _)
   |_=>exact hq
 |exit id=>intro T ds H ae T' fC H' hb h;simp only[Qm,Ac,Aj] at h;obtain⟨rfl,rfl,rfl,rfl⟩:=h;exact⟨hb,fun Q hq=>hq⟩
 |ret=>intro T ds H ae T' fC H' hb h;simp only[Qm,Ac,Aj] at h;obtain⟨rfl,rfl,rfl,rfl⟩:=h;exact⟨hb,fun Q hq=>hq⟩
 |oE c ps a b _ _=>
  intro T ds H ae T' fC H' hb h;simp only[Qm] at h;rw[FW hb] at h;split at h
  · rename_i fid fs cs hc;split at h
    · rename_i v He ES;have hS:=(Mb _ _ _ _ _ ES).sound rfl;have hl:xN He (H.next+1) (He.set (H.next+1) .dead):=⟨rfl,fun m=>aA.aC _ _ _ _⟩;split at h
      · rename_i k' s' hg;simp only[Ac,Aj] at h;obtain⟨rfl,rfl,rfl,rfl⟩:=h;exact⟨hb,fun Q hq=>⟨fid,fs,cs,v,He,k',s',.ready,_,hc,hS,hg,hl,hq⟩⟩
      · rename_i k' s' hg;simp only[Ac,Aj] at h;obtain⟨rfl,rfl,rfl,rfl⟩:=h;exact⟨hb,fun Q hq=>⟨fid,fs,cs,v,He,k',s',.done .ret,_,hc,hS,hg,hl,hq⟩⟩
      · rename_i k' s' i hg;simp only[Ac,Aj] at h;obtain⟨rfl,rfl,rfl,rfl⟩:=h;exact⟨hb,fun Q hq=>⟨fid,fs,cs,v,He,k',s',.done (.exit i),_,hc,hS,hg,hl,hq⟩⟩
      cases h
    cases h
  cases h
end
end
def aVo (G:Gh) (w:World):Option AV->FrameMode->Prop
 |none,m=>m=.returning
 |some v,m=>∃x,m=.panicking [{v:=x,recovered:=false}]/\VR G w v x
def AU (P:Program) (g:bB) (f:FuncId) (args:List AV) (md:Option AV) (H H':aA):Prop:=
 tZ P f/\∀(G:Gh) (w:World) (vs:List Value) (u:FrameMode),WR g G H w->gI G w args vs->aVo G w md u->
  CallsDIn Fence.wide 0 P f vs.toArray u w fun e u' w'=>(∃x,e=.returned x)/\settle u'=.returning/\∃G',WR g G' H' w'/\Ext G H w G' H' w'
def YM (P:Program) (g:bB):List fY->aA->(aA->Prop)->Prop
 |[],H,Q=>Q H
 |.call f azs::ds,H,Q=>∃H1,AU P g f azs none H H1/\YM P g ds H1 Q
 |.mark id::ds,H,Q=>H.get id=some .MO/\YM P g ds (H.set id .dfx) Q
def aMj (P:Program) (g:bB) (F:DY) (R:Out->aA->Prop):AQ
 |.normal,s,ds,H|.ret,s,ds,H=>YM P g ds H fun H1=>∃vs,mF s H1 F.results=some vs/\R (.ret (pY vs)) H1
 |.panic v,s,ds,H=>match ds with
  |[]=>R (.CD v) H
  |.mark _::_=>False
  |.call f azs::ds=>∃H1,AU P g f azs (some v) H H1/\YM P g ds H1 fun H2=>∃vs,mF s H2 F.results=some vs/\R (.ret (pY vs)) H2
 |.exit _,_,_,_=>False
theorem uH {P:Program} {g:bB} {fn:Func} {tmps:Array Value} {R:Ending->World->Prop} {Q:aA->Prop}:∀(ds:List fY) (l:List Deferred) (G:Gh) (H:aA) (w:World),
 YM P g ds H Q->WR g G H w->TO G w ds l->
 (∀G' H' w',Q H'->WR g G' H' w'->Ext G H w G' H' w'->∃v,(results fn tmps).run P w'=.ok v w'/\R (.returned v) w')->LeavesInM Fence.wide 0 P fn tmps R l .returning w
 |[],[],G,H,w,h,hw,hd,hR=>hR G H w h hw (Ext.refl G H w)
 |[],d::l,G,H,w,h,hw,hd,hR=>hd.elim
 |.call _ _::ds,[],G,H,w,h,hw,hd,hR=>hd.elim
 |.mark _::ds,[],G,H,w,h,hw,hd,hR=>hd.elim
 |.call f azs::ds,d::l,G,H,w,h,hw,hd,hR=>by obtain⟨H1,hS,hA⟩:=h;obtain⟨⟨cap,ht,hv⟩,rR⟩:=hd;refine⟨by simp,.inr ⟨BZ,.func f,cap.toArray,f,d.args++cap.toArray,ht,by rw[ht];exact nR hS.1 _ _ _,fun _ _=>trivial,?_⟩⟩;have hc:=hS.2 G w _ .returning hw hv rfl;rw[show(d.args.toList++cap).toArray=d.args++cap.toArray by apply Fq;simp] at hc;refine hc.mono fun e u' w' he=>?_;obtain⟨⟨x,rfl⟩,hu,G',jS,yU⟩:=he;show LeavesInM Fence.wide 0 P fn tmps R l (settle u') w';rw[hu];exact uH ds l G' H1 w' hA jS (rR.ext yU) fun G2 H2 w2 hq uY VH=>hR G2 H2 w2 hq uY (yU.trans VH)
 |.mark id::ds,d::l,G,H,w,h,hw,hd,hR=>by obtain⟨hg,hA⟩:=h;obtain⟨⟨lc,hl,ht⟩,rR⟩:=hd;obtain⟨_,_,hb⟩:=hw.gZ id lc _ hl hg rfl;have sH:=run_takeDeferred (P:=P) hb;obtain⟨q1,q2⟩:=hw.GW (o':=.dfx) (x:=.deferred none) (w':=w.putObj lc.cS (.deferred none)) hl hg rfl rfl rfl .now (fun _ hs=>hs);exact⟨by simp,.inl ⟨lc.cS,_,ht,sH,uH ds l G _ _ hA q1 (rR.ext q2) fun G2 H2 w2 hq uY VH=>hR G2 H2 w2 hq uY (q2.trans VH)⟩⟩
theorem pG {P:Program} {g:bB} {mu:Bool} (hm:Fit P g) {f:FuncId} {F:DY} (hF:fN P g mu f F) {args:List AV} {H H':aA} {out:Out}
 (h:AC P g F.body (sW F args) [] H (aMj P g F fun o h=>o=out/\h=H')):Sound P g f args H out H':=by
 refine⟨hF.ok,fun G w vs hw hv=>?_⟩;obtain⟨fn,c,h1,h2,_,h3,h4,h5⟩:=hF;refine callsIn_wide.1 (callsIn_of_wp_marks (n:=0) h1 h2 trivial (wpIn_mono (AN hm c none F.body h3 (.inl rfl) _ [] G H w _ _ h hw ?_ trivial) fun e a w' hq=>?_))
 · have hlen:=hv.1;show gI G w _ _;simp only[sW,Lg,Kh,Gr,hlen,h4];refine hv.append ⟨by simp,fun j hj=>?_⟩;simp only[Gl] at hj;simp only[Ck,Fz,hj,if_true,Bc];exact VR.nD G w
 obtain⟨ae,s',fC,H1,G',q,jS,he,EG,rR,hx⟩:=hq
 have fin:∀(G2:Gh) (H2:aA) (w2:World),(∃vs,mF s' H2 F.results=some vs/\(Out.ret (pY vs)=out/\H2=H'))->WR g G2 H2 w2->Ext G' H1 w' G2 H2 w2->
  ∃v,(results fn a.tmps).run P w2=.ok v w2/\(fun(e:Ending) w'=>∃G',WR g G' H' w'/\Ext G H w G' H' w'/\YU G' w' out e) (.returned v) w2:=by
  rintro G2 H2 w2 ⟨vm,fP,rfl,rfl⟩ uY VH;obtain⟨u,hu,KU⟩:=ND uY (EG.ext VH) h5 fP;exact⟨u,hu,G2,uY,he.trans VH,KU⟩
 cases ae with
 |normal=>
  cases e with
  |normal=>exact uH fC a.defers G' H1 w' q jS rR fin
  |_=>exact hx.elim
 |ret=>
  cases e with
  |ret=>exact uH fC a.defers G' H1 w' q jS rR fin
  |_=>exact hx.elim
 |exit id=>exact q.elim
 |panic v=>
  cases e with
  |panic ch=>
   obtain⟨x,rfl,hvx⟩:=hx
   cases VF:fC with
   |nil=>
    subst VF
    cases oz:a.defers with
    |nil=>obtain⟨rfl,rfl⟩:=q;show LeavesInM Fence.wide 0 P fn a.tmps _ a.defers _ w';rw[oz];exact⟨G',jS,he,x,rfl,hvx⟩
    |cons d r=>rw[oz] at rR;exact rR.elim
   |cons d ds=>
    subst VF
    cases d with
    |mark _=>exact q.elim
    |call f0 azs=>
    cases oz:a.defers with
    |nil=>rw[oz] at rR;exact rR.elim
    |cons d0 l=>rw[oz] at rR;obtain⟨⟨cap,ht,Qq⟩,hdr⟩:=rR;obtain⟨H2,hS,hA⟩:=q;show LeavesInM Fence.wide 0 P fn a.tmps _ a.defers _ w';rw[oz];refine⟨by simp,.inr ⟨BZ,.func f0,cap.toArray,f0,d0.args++cap.toArray,ht,by rw[ht];exact nR hS.1 _ _ _,fun _ _=>trivial,?_⟩⟩;have hc:=hS.2 G' w' _ (.panicking [{v:=x,recovered:=false}]) jS Qq ⟨x,rfl,hvx⟩;rw[show(d0.args.toList++cap).toArray=d0.args++cap.toArray by apply Fq;simp] at hc;refine hc.mono fun e u' w2 VH=>?_;obtain⟨⟨y,rfl⟩,hu,G2,uY,yU⟩:=VH;show LeavesInM Fence.wide 0 P fn a.tmps _ l (settle u') w2;rw[hu];exact uH ds l G2 H2 w2 hA uY (hdr.ext yU) fun G3 H3 w3 hq hw3 o6=>fin G3 H3 w3 hq hw3 (yU.trans o6)
  |_=>exact hx.elim
def Yb (P:Program) (g:bB) (mu:Bool):Code->Option (Option Nat×List bC×bV)
 |.seq (.region _ ops false) rest=>
  match ops.toList with
  |o::l=>match o.op,o.guard,gM P g mu ops l,eD P g mu rest with
   |.call c,none,some rl,some ac=>match c.callee,c.args.toList with
    |.builtin .recover,[]=>some (o.dst,rl,ac)
    |_,_=>none
   |_,_,_,_=>none
  |[]=>none
 |_=>none
theorem Xx {P:Program} {id:Nat} {ops:Array Oper} {o:Oper} {Q:Exit->Act->List Frame->World->Prop} {a:Act} {cs CY:List Frame} {w:World} {v:Value} (ho:ops[0]?=some o) (hg:o.guard=none)
 (aSi:∀a w,(execOp (Act.eval a) o).run P w=.ok .recover w) (hv:(recoverD cs=some (v,CY))\/(recoverD cs=none/\v=.nilIface/\CY=cs))
 (h:wpOpsIn Fence.wide 0 P ops (fun e a' w'=>Q e a' CY w') (List.range' 1 (ops.size -1)) (a.put o.dst v) w):(Code.region id ops false).wpS P Q a cs w:=by
 intro b k hb AM;obtain⟨e,a',w',hq,GB⟩:=wp_opsIn _ _ _ h b k CY AM trivial (room_wide _);rw[arrivesIn_iff (fun _ _=>stepsIn_wide) AM,Frame.atR_of_none AM] at GB;have wF:0<ops.size:=(Cd.1 ho).1
 have aSh:List.range ops.size=0::List.range' 1 (ops.size -1):=by rw[Kv];obtain⟨n,hn⟩:∃n,ops.size=n+1:=⟨ops.size -1,by omega⟩;rw[hn,List.range'_succ];simp
 have hw:Region.wanted o (yielded ops a.tmps)=true:=by simp[Region.wanted,hg]
 have HJ:=stepG_op (P:=P) (b:=b) (a:=a) (k:=k) (cs:=cs) (w:=w) (rest:=List.range' 1 (ops.size -1)) ho hw
 have wE:∀v,(b.at a (.inRegion ops (0::List.range' 1 (ops.size -1))::k)).finish v=b.at (a.put o.dst v) (.inRegion ops (List.range' 1 (ops.size -1))::k):=by intro v;rw[Frame.finish_at,ho];rfl
 have hk:(b.at a (.inRegion ops (0::List.range' 1 (ops.size -1))::k)).kind=.deferred:=hb;have htr:=tryRecover_deferred hk cs
 have h1:step P (lone (b.at a (.code (.region id ops false)::k)) cs w)=.next (lone (b.at a (.inRegion ops (0::List.range' 1 (ops.size -1))::k)) cs w):=by rw[<-aSh];exact step_region
 have h2:step P (lone (b.at a (.inRegion ops (0::List.range' 1 (ops.size -1))::k)) cs w)=.next (lone (b.at (a.put o.dst v) (.inRegion ops (List.range' 1 (ops.size -1))::k)) CY w):=by
  refine step_lone_go ?_;rw[HJ,<-wE];have hr:=aSi a w
  rcases hv with hv|⟨hv,rfl,rfl⟩
  · simp only[Frame.at] at htr ⊢;simp[stepG.apply,hr,htr,hv]
  simp only[Frame.at] at htr ⊢;simp[stepG.apply,hr,htr,hv]
 exact⟨e,a',CY,w',hq,.of_steps (.head h1 (.one h2)) GB⟩
def xy (P:Program) (g:bB) (mu:Bool) (f:FuncId) (n:Nat) (dst:Option Nat) (rl:List bC) (ac:bV):Prop:=
 ∃fn c,P.funcs[f]?=some fn/\fn.body=some c/\(fn.name== "runtime.NumGoroutine")=false/\Yb P g mu c=some (dst,rl,ac)/\fn.ntmps=n/\fn.results.toList=[]
theorem Qz {P:Program} {f:FuncId} {fn:Func} {c:Code} {args:Array Value} {u:FrameMode} {w:World} {R:Ending->FrameMode->World->Prop} (hf:P.funcs[f]?=some fn) (hb:fn.body=some c)
 (h:∀(top:Frame) (below:List Frame),top.mode=u->c.wpS P (bodyPostS P fn top below R) {tmps:=args++Array.replicate (fn.ntmps -args.size) undef,defers:=[]} (top::below) w):CallsDIn Fence.wide 0 P f args u w R:=by
 refine⟨trivial,fun top below hu _=>?_⟩;obtain⟨b,ER⟩:∃b:Frame,b={(default:Frame) with fn:=f,kind:=.deferred}:=⟨_,rfl⟩
 have gD:b.at {tmps:=args++Array.replicate (fn.ntmps -args.size) undef,defers:=[]} [.code c]=Frame.enter P f args .deferred:=by rw[ER];simp[Frame.enter,Frame.at,hf,hb]
 obtain⟨e,a1,fs,w1,hq,GB⟩:=h top below hu b [] (by rw[ER]) (by rw[ER];rfl);rw[gD] at GB;have hk:b.kind=.deferred:=by rw[ER]
 have hn:b.fn=f:=by rw[ER]
 cases e with
 |exit id=>exact hq.elim
 |goto l=>exact hq.elim
 |outgrown=>exact⟨.outgrown,hq.choose,w1,b,hq.choose_spec,GB.resolve_left (by rw[hk];simp),hk,hn,trivial⟩
 |normal=>obtain⟨hd,u1,rfl,v,hr,hR⟩:=hq;exact⟨.returned v,u1,w1,_,hR,comesIn_wide.2 (Steps.trans GB (.one step_end)),hk,hn,rfl,hd,fn,by rw[<-hn] at hf;exact hf,hr⟩
 |ret=>obtain⟨hd,u1,rfl,v,hr,hR⟩:=hq;exact⟨.returned v,u1,w1,_,hR,comesIn_wide.2 GB.choose_spec,hk,hn,rfl,hd,fn,by rw[<-hn] at hf;exact hf,hr⟩
 |panic chain=>obtain⟨hd,u1,rfl,hR⟩:=hq;exact⟨.panicked chain,u1,w1,_,hR,comesIn_wide.2 GB.choose_spec,hk,hn,rfl,hd,fn,by rw[<-hn] at hf;exact hf⟩
theorem TX {P:Program} {g:bB} {mu:Bool} (hm:Fit P g) {f:FuncId} {n:Nat} {dst:Option Nat} {rl:List bC} {ac:bV} (hF:xy P g mu f n dst rl ac)
 {args:List AV} {md:Option AV} {H H':aA}
 (h:tW P g rl (mE (args++List.replicate (n -args.length) aD) dst (md.getD .pW)) [] H (aEu (fun s ds H=>AC P g ac s ds H fun e s ds H=>(match e with|.normal=>True|.ret=>True|_=>False)/\ds=[]/\H=H')
   fun _ _ _ _=>False)):AU P g f args md H H':=by
 obtain⟨fn,c,h1,h2,h0,h3,h4,h5⟩:=hF;refine⟨⟨fn,h1,by rw[h2];rfl,h0⟩,fun G w vs u hw hv hmd=>?_⟩;refine Qz h1 h2 fun c₀ cs hc₀=>?_;unfold Yb at h3;split at h3
 · rename_i id ops rest;split at h3
   · rename_i o l hl;split at h3
     · rename_i cl rl' ac' fF hg Wf hac;split at h3
       · rename_i IW IV;simp only[Ac,Aj] at h3;obtain⟨rfl,rfl,rfl⟩:=h3
         have ho:ops[0]?=some o:=(by rw[<-Ko,hl];rfl);have hlen:ops.size=l.length+1:=by rw[<-Dh,hl];rfl
         have aSi:∀a w,(execOp (Act.eval a) o).run P w=.ok .recover w:=fun a w=>by have aRk:cl.args= #[]:=(by apply Fq;simpa using IV);simp[execOp,fF,resolve,IW,aRk,invoke,builtin]
         have key:∃(v:Value) (u':FrameMode),((recoverD (c₀::cs)=some (v,{c₀ with mode:=u'}::cs))\/(recoverD (c₀::cs)=none/\v=.nilIface/\u'=u))/\settle u'=.returning/\VR G w (md.getD .pW) v:=by
          cases md with
          |none=>obtain rfl:u=.returning:=hmd;exact⟨.nilIface,.returning,.inr ⟨by simp[recoverD,hc₀],rfl,rfl⟩,rfl,.pW⟩
          |some v=>obtain⟨x,rfl,hx⟩:=hmd;exact⟨x,.panicking [{v:=x,recovered:=true}],.inl (by simp[recoverD,hc₀]),rfl,hx⟩
         obtain⟨v,u',lP,hu',hvv⟩:=key
         have KT:(recoverD (c₀::cs)=some (v,{c₀ with mode:=u'}::cs))\/(recoverD (c₀::cs)=none/\v=.nilIface/\({c₀ with mode:=u'}::cs:List Frame)=c₀::cs):=by
          rcases lP with hh|⟨hh,rfl,rfl⟩
          · exact .inl hh
          refine .inr ⟨hh,rfl,?_⟩;subst hc₀;rfl
         have hs:SR G w (args++List.replicate (n -args.length) aD) {tmps:=vs.toArray++Array.replicate (fn.ntmps -vs.toArray.size) undef,defers:=[]}:=by have hlen:=hv.1;show gI G w _ _;simp only[Lg,Kh,Gr,hlen,h4];refine hv.append ⟨by simp,fun j hj=>?_⟩;simp only[Gl] at hj;simp only[Ck,Fz,hj,if_true,Bc];exact VR.nD G w
         refine wpS_seq (Xx ho hg aSi KT ?_)
         have hA:=FF (ro:=none) l rl' 1 Wf (fun j hj=>by
          rw[<-Ko,hl,Hh,Gy]
          exact Ab hj) (.inl rfl) _ [] G H w _ _ h hw (hs.put o.dst hvv) (by cases o.dst<;>trivial)
         rw[show ops.size -1=l.length by omega];refine KQ (ro:=none) (fun e a1 w1 hq=>?_) _ _ _ hA;obtain⟨ae,s',fC,H1,G',q,jS,he,EG,rR,hx⟩:=hq
         cases ae with
         |normal=>
          cases e with
          |normal=>
           refine wpS_of_wp (wp_mono (wpIn_wide.1 (AN hm rest none ac' hac (.inl rfl) s' fC G' H1 w1 a1 _ q jS EG rR)) fun e a2 w2 hq2=>?_);obtain⟨ae2,s2,RD,H2,G2,q2,uY,VH,hs2,hd2,hx2⟩:=hq2;obtain⟨q3,rfl,rfl⟩:=q2
           have Tu:a2.defers=[]:=by
            cases oz:a2.defers with
            |nil=>rfl
            |cons d r=>rw[oz] at hd2;exact hd2.elim
           have Zd:(results fn a2.tmps).run P w2=.ok (.tuple #[]) w2:=by have :fn.results= #[]:=(by apply Fq;simpa using h5);unfold results;simp[this]
           cases ae2 with
           |normal=>
            cases e with
            |normal=>exact⟨Tu,u',rfl,_,Zd,⟨_,rfl⟩,hu',G2,uY,he.trans VH⟩
            |_=>exact hx2.elim
           |ret=>
            cases e with
            |ret=>exact⟨Tu,u',rfl,_,Zd,⟨_,rfl⟩,hu',G2,uY,he.trans VH⟩
            |_=>exact hx2.elim
           |exit id=>exact q3.elim
           |panic v=>exact q3.elim
          |_=>exact hx.elim
         |exit id=>exact q.elim
         |ret=>exact q.elim
         |panic v=>exact q.elim
       cases h3
     cases h3
   cases h3
 cases h3
section
def Sx (T:VT) (H:aA):List HM->Option (List AV)
 |[]=>some []
 |x::r=>match (match x with
   |.tmp t=>some (T.get t)
   |.cell a agg n=>match dK (YD g0 T) H (.load agg n (.tmp a)) with
    |some (v,_)=>some v
    |none=>none),Sx T H r with
  |some v,some vs=>some (v::vs)
  |_,_=>none
theorem XU {n:Nat} {T:VT} (hb:NJ n T) (H:aA):∀l,Sx T H l=mF (MG n T) H l
 |[]=>rfl
 |x::r=>by
  have ih:=XU hb H r
  cases x with
  |tmp t=>simp only[Sx,mF,tw,ih,Qa hb];cases mF (MG n T) H r<;>rfl
  |cell a agg m=>
   simp only[Sx,mF,tw,ih,FW hb]
   cases dK (Arg.eval g0 (MG n T)) H (.load agg m (.tmp a)) with
   |none=>rfl
   |some p=>cases mF (MG n T) H r<;>rfl
def Yy (JR:FuncId->Nat->Bool):List fY->aA->Option aA
 |[],H=>some H
 |.call f azs::ds,H=>match JR f azs.length with
  |true=>Yy JR ds H
  |false=>none
 |.mark id::ds,H=>match H.get id with
  |some .MO=>Yy JR ds (H.set id .dfx)
  |_=>none
def aRa (cf:EI) (g:bB) (fuel:Nat) (JR:FuncId->Nat->Bool) (F:DY) (args:List AV) (H:aA):Option (Out×aA):=
 match Nat.ble args.length F.ntmps with
 |true=>match Qm cf g F.ntmps fuel F.body (zT F.ntmps args 0 .nil) [] H with
  |some (.normal,T,ds,H')|some (.ret,T,ds,H')=>match Yy JR ds H' with
   |some H1=>match Sx T H1 F.results with
    |some vs=>some (.ret (pY vs),H1)
    |none=>none
   |none=>none
  |some (.panic v,_,[],H')=>some (.CD v,H')
  |_=>none
 |false=>none
theorem NJ.nil (n:Nat):NJ n .nil:=fun _ _=>rfl
theorem NH (n:Nat):∀(vs:List AV) (i:Nat) (T:VT),NJ n T->i+vs.length<=n->
 NJ n (zT n vs i T)/\∀t,(zT n vs i T).get t=if i<=t/\t<i+vs.length then vs.getD (t -i) aD else T.get t
 |[],i,T,hb,h=>⟨hb,fun t=>by rw[if_neg (by simp only[Ay];omega)];rfl⟩
 |v::vs,i,T,hb,h=>by
  simp only[Ah] at h;have :=NH n vs (i+1) (xU n T (some i) v) (hb.put _ _) (by omega);refine⟨this.1,fun t=>?_⟩;show(zT n vs (i+1) (xU n T (some i) v)).get t=_;rw[this.2 t];have wD:Nat.blt i n=true:=by simpa [Gv] using(by omega:i<n)
  have GH:(xU n T (some i) v).get t=if t=i then v else T.get t:=by simp only[xU,wD];exact VT.aC T i v t
  rw[GH];simp only[Ah];by_cases h1:i+1<=t/\t<i+1+vs.length
  · rw[if_pos h1,if_pos (by omega)];obtain⟨m,hm⟩:∃m,t -i=m+1:=⟨t -i -1,by omega⟩;rw[hm,Dw,show t -(i+1)=m by omega]
  rw[if_neg h1];by_cases h2:t=i
  · subst h2;rw[if_pos rfl,if_pos (by omega)];simp
  rw[if_neg h2,if_neg (by omega)]
theorem QW {n:Nat} {args:List AV} (h:args.length<=n):NJ n (zT n args 0 .nil)/\MG n (zT n args 0 .nil)=args++List.replicate (n -args.length) aD:=by
 have :=NH n args 0 .nil (NJ.nil n) (by omega);refine⟨this.1,Gu fun t=>?_⟩;unfold MG;rw[Bo];by_cases ht:t<n
 · rw[Gw ht,Bt,this.2 t];by_cases h1:t<args.length
   · rw[if_pos (by omega),Ex h1];simp[Ab h1,getD_eq]
   rw[if_neg (by omega),Ib (by omega),Fz,if_pos (by omega)];rfl
 rw[Bw (by simp;omega),Bw (by simp;omega)];rfl
section
variable {P:Program} {g:bB} {fuel:Nat} {cf:EI}
def OB (P:Program) (g:bB) (JR:FuncId->Nat->Bool):Prop:=∀f k,JR f k=true->∀(args:List AV) (H:aA),args.length=k->AU P g f args none H H
theorem TJ {JR:FuncId->Nat->Bool} (hn:OB P g JR) {Q:aA->Prop}:∀(ds:List fY) (H H1:aA),Yy JR ds H=some H1->Q H1->YM P g ds H Q
 |[],H,H1,he,h=>by cases he;exact h
 |.mark id::ds,H,H1,he,h=>by
  simp only[Yy] at he;split at he
  · rename_i hg;exact⟨hg,TJ hn ds _ _ he h⟩
  cases he
 |.call f azs::ds,H,H1,he,h=>by
  simp only[Yy] at he;split at he
  · rename_i hd;exact⟨H,hn f _ hd azs H rfl,TJ hn ds H _ he h⟩
  cases he
theorem ZA (hm:Fit P g) (Mb:FG P g cf) {JR:FuncId->Nat->Bool} (hn:OB P g JR) {mu:Bool} {f:FuncId} {F:DY} (hF:fN P g mu f F) {args:List AV} {H H':aA} {out:Out}
 (h:aRa cf g fuel JR F args H=some (out,H')):Sound P g f args H out H':=by
 unfold aRa at h;split at h
 · rename_i hle;have ZT:args.length<=F.ntmps:=Af hle;obtain⟨hb,hs⟩:=QW ZT
   have fin:∀(ae:AEx) (T:VT) (ds:List fY) (H1:aA),(ae=.normal\/ae=.ret)->Qm cf g F.ntmps fuel F.body (zT F.ntmps args 0 .nil) [] H=some (ae,T,ds,H1)->
    (match Yy JR ds H1 with
      |some H2=>match Sx T H2 F.results with
       |some vs=>some (Out.ret (pY vs),H2)
       |none=>none
      |none=>none)=some (out,H')->Sound P g f args H out H':=by
    intro ae T ds H1 hae he h;obtain⟨hbT,hq⟩:=DE Mb F.body _ _ _ _ _ _ _ hb he;split at h
    · rename_i H2 dB;split at h
      · rename_i vs fP;simp only[Ac,Aj] at h;obtain⟨rfl,rfl⟩:=h;refine pG hm hF ?_;unfold sW;rw[<-hs];refine hq _ ?_
        have :YM P g ds H1 fun H1'=>∃vm,mF (MG F.ntmps T) H1' F.results=some vm/\(Out.ret (pY vm)=Out.ret (pY vs)/\H1'=H2):=by refine TJ hn ds H1 H2 dB ⟨vs,?_,rfl,rfl⟩;rw[<-XU hbT];exact fP
        rcases hae with rfl|rfl<;>exact this
      cases h
    cases h
   split at h
   · rename_i T ds H1 he;exact fin .normal T ds H1 (.inl rfl) he h
   · rename_i T ds H1 he;exact fin .ret T ds H1 (.inr rfl) he h
   · rename_i v T H1 he;simp only[Ac,Aj] at h;obtain⟨rfl,rfl⟩:=h;obtain⟨hbT,hq⟩:=DE Mb F.body _ _ _ _ _ _ _ hb he;refine pG hm hF ?_;unfold sW;rw[<-hs];exact hq _ ⟨rfl,rfl⟩
   cases h
 cases h
inductive FT where
 |leaf (k:Nat) (F:DY)
 |node (m:Nat) (l r:FT)
def FT.get:FT->FuncId->Option DY
 |.leaf k F,f=>match Nat.beq f k with
  |true=>some F
  |false=>none
 |.node m l r,f=>match Nat.blt f m with
  |true=>l.get f
  |false=>r.get f
def FT.All (p:FuncId->DY->Prop):FT->Prop
 |.leaf k F=>p k F
 |.node _ l r=>l.All p/\r.All p
theorem FT.All.get {p:FuncId->DY->Prop}:∀{t:FT},t.All p->∀{f:FuncId} {F:DY},t.get f=some F->p f F
 |.leaf k F',h,f,F,hg=>by
  simp only[FT.get] at hg;split at hg
  · rename_i hb;obtain rfl:=Aa hg;rw[Bg hb];exact h
  cases hg
 |.node m l r,h,f,F,hg=>by
  simp only[FT.get] at hg;split at hg
  · exact FT.All.get h.1 hg
  exact FT.All.get h.2 hg
def exY (cf:EI) (g:bB) (fuel:Nat) (id:Nat) (args:List AV) (H:aA):Option (Out×aA):=
 match H.get id with
 |some (.loop k s .ready)=>match Nat.beq args.length k.ps.length with
  |true=>match Qm cf g s.length fuel k.MK (KB s.length (zT s.length s 0 .nil) (k.ps.zip args)) [] H with
   |some (.normal,T1,[],H1)=>match H1.get id with
    |some (.loop k1 s1 .ready)=>match Qm cf g s.length fuel k.body T1 [] (H1.set id (.loop k1 s1 .busy)) with
     |some (e,_,[],H2)=>match H2.get id with
      |some (.loop k2 s2 .busy)=>match e with
       |.normal=>some (.ret (.bool true),H2.set id (.loop k2 s2 .ready))
       |.ret=>some (.ret (.bool false),H2.set id (.loop k2 s2 (.done .ret)))
       |.exit i=>some (.ret (.bool false),H2.set id (.loop k2 s2 (.done (.exit i))))
       |.panic _=>none
      |_=>none
     |_=>none
    |_=>none
   |_=>none
  |false=>none
 |_=>none
theorem Mx {n:Nat}:∀(l:List (Nat×AV)) (T:VT),NJ n T->NJ n (KB n T l)/\MG n (KB n T l)=pX (MG n T) l
 |[],T,h=>⟨h,rfl⟩
 |(t,v)::r,T,h=>by have ih:=Mx r (xU n T (some t) v) (h.put _ _);refine⟨ih.1,?_⟩;rw[KB,ih.2,rK];rfl
theorem nq (hm:Fit P g) (Mb:FG P g cf) {id:Nat} {args:List AV} {H H':aA} {out:Out} (h:exY cf g fuel id args H=some (out,H')):sK P g id args H out H':=by
 unfold exY at h;split at h
 · rename_i k s hg;split at h
   · rename_i hlen;obtain⟨Tp,hs0⟩:=QW (Ak s.length);rw[Kc,List.replicate_zero,Bz] at hs0;obtain⟨tR,hs1⟩:=Mx (k.ps.zip args) _ Tp;rw[hs0] at hs1;refine LL hm hg (Bg hlen) ?_;unfold Nx;split at h
     · rename_i T1 H1 ha;obtain⟨AL,hq1⟩:=DE Mb k.MK _ _ _ _ _ _ _ tR ha;rw[<-hs1];refine hq1 _ ?_;split at h
       · rename_i k1 s1 VI;split at h
         · rename_i e T2 H2 ER;obtain⟨hb3,hq2⟩:=DE Mb k.body _ _ _ _ _ _ _ AL ER;refine⟨rfl,k1,s1,VI,hq2 _ ?_⟩;split at h
           · rename_i k2 s2 Oz;split at h
             · simp only[Ac,Aj] at h;obtain⟨rfl,rfl⟩:=h;exact⟨rfl,rfl,k2,s2,Oz,rfl⟩
             · simp only[Ac,Aj] at h;obtain⟨rfl,rfl⟩:=h;exact⟨rfl,rfl,k2,s2,Oz,rfl⟩
             · simp only[Ac,Aj] at h;obtain⟨rfl,rfl⟩:=h;exact⟨rfl,rfl,k2,s2,Oz,rfl⟩
             cases h
           cases h
         cases h
       cases h
     cases h
   cases h
 cases h
abbrev TV:=FuncId->List AV->aA->Option (Out×aA)
def OC (P:Program) (g:bB) (rq:TV):Prop:=∀f args H out H',rq f args H=some (out,H')->Sound P g f args H out H'
def exF (rq:TV) (tab:FuncId->Option DY) (g:bB) (fuel:Nat) (JR:FuncId->Nat->Bool):Nat->EI
 |0=>fun _ _ _=>none
 |d+1=>fun c args H=>match c with
  |.yield id=>exY (exF rq tab g fuel JR d) g fuel id args H
  |.func (.func f) fs cs=>match rq f (fs++args++cs) H with
   |some r=>some r
   |none=>match tab f with
    |some F=>aRa (exF rq tab g fuel JR d) g fuel JR F (fs++args++cs) H
    |none=>none
  |_=>none
theorem LX (hm:Fit P g) {rq:TV} (ho:OC P g rq) {tab:FuncId->Option DY} {JR:FuncId->Nat->Bool} (hn:OB P g JR) (ht:∀f F,tab f=some F->∃mu,fN P g mu f F):∀d,FG P g (exF rq tab g fuel JR d)
 |0=>fun f args H out H' h=>by cases h
 |d+1=>fun c args H out H' h=>by
  simp only[exF] at h;split at h
  · rename_i id;exact .inr ⟨id,rfl,nq hm (LX hm ho hn ht d) h⟩
  · rename_i f fs cs;refine .inl ⟨(f,fs,cs),rfl,?_⟩;split at h
    · rename_i r hr;cases h;exact ho _ _ _ _ _ hr
    split at h
    · rename_i F hF;obtain⟨mu,hmu⟩:=ht f F hF;exact ZA hm (LX hm ho hn ht d) hn hmu h
    cases h
  cases h
end
end
section
mutual
def AV.free:AV->Bool
 |.pl cs=>bU cs
 |.aV tag _ els=>Nat.blt tag 2&&dJ els
 |.func _ a b=>bU a&&bU b
 |.iface _ v=>v.free
 |.agg cs=>bU cs
 |.gP vs=>bU vs
 |.ref _ _|.sl _ _ _ _ _|.map _|.yield _=>false
 |_=>true
def bU:List AV->Bool
 |[]=>true
 |x::r=>x.free&&bU r
def dJ:List (List AV)->Bool
 |[]=>true
 |x::r=>bU x&&dJ r
end
theorem SG:∀{l:List AV},bU l=true->∀x∈l,x.free=true
 |[],_,x,hx=>by cases hx
 |y::l,h,x,hx=>by
  simp only[bU,Am] at h
  rcases Aq.1 hx with rfl|hx
  · exact h.1
  exact SG h.2 x hx
theorem mL {a b:List AV}:bU (a++b)=(bU a&&bU b):=by
 induction a with
 |nil=>simp[bU]
 |cons x r ih=>simp[bU,ih,Bool.and_assoc]
theorem mB:∀{l:List (List AV)},dJ l=true->bU l.flatten=true
 |[],_=>rfl
 |y::l,h=>by simp only[dJ,Am] at h;rw[Bp,mL,h.1,mB h.2];rfl
theorem jZ {l:List AV} (h:bU l=true) {j:Nat} (hj:j<l.length):(l.getD j aD).free=true:=by refine SG h _ ?_;rw[getD_eq,Ab hj];exact Ai hj
theorem VR.qR {G G':Gh} {w w':World} {a:AV} {u:Value} (h:VR G w a u) (hf:a.free=true)
 (hi:∀b o,G.gJ b o->G'.gJ b o/\w'.cell? ⟨b,o,none⟩=w.cell? ⟨b,o,none⟩):VR G' w' a u:=by
 induction h with
 |bool b=>exact .bool b
 |int k n=>exact .int k n
 |str s=>exact .str s
 |Lv=>exact .Lv
 |ref id off l h=>cases hf
 |pl cells b o us h hv ih=>simp only[AV.free] at hf;exact .pl cells b o us (fun j hj=>⟨(hi _ _ (h j hj).1).1,by rw[(hi _ _ (h j hj).1).2];exact(h j hj).2.1,(h j hj).2.2⟩) (fun j hj=>ih j hj (jZ hf hj))
 |aS=>exact .aS
 |vA tag sz b o s ht=>exact .vA tag sz b o s ht
 |aV tag sz els b o cap us hu h hv ht ih=>
  simp only[AV.free,Am] at hf;have tS:=mB hf.2;refine .aV tag sz els b o cap us hu (fun j hj=>⟨(hi _ _ (h j hj).1).1,by rw[(hi _ _ (h j hj).1).2];exact(h j hj).2.1,(h j hj).2.2⟩) (fun j hj=>ih j hj (jZ tS hj)) ?_;refine⟨ht.1,?_⟩;have h2:=ht.2;have sQ:tag<2:=by have :=hf.1;simpa [Gv] using this
  match tag,h2,sQ with
  |0,_,_=>trivial
  |1,h2,_=>exact h2
  |k+2,_,hh=>omega
 |sl id sz off len cap iT l h hlen gD mY=>cases hf
 |func fn fs cs azs bs ha hb hav hbv rG uW=>simp only[AV.free,Am] at hf;exact .func fn fs cs azs bs ha hb (fun j hj=>rG j hj (jZ hf.1 hj)) (fun j hj=>uW j hj (jZ hf.2 hj))
 |BX=>exact .BX
 |iface t a v h ih=>exact .iface t a v (ih hf)
 |pW=>exact .pW
 |agg cs vs oS h1 hv ih=>simp only[AV.free] at hf;exact .agg cs vs oS h1 (fun j hj=>ih j hj (jZ hf hj))
 |gP cs vs oS hv ih=>simp only[AV.free] at hf;exact .gP cs vs oS (fun j hj=>ih j hj (jZ hf hj))
 |map id l h=>cases hf
 |yield id l h=>cases hf
 |sU=>exact .sU
theorem gI.qR {G G':Gh} {w w':World} {xs:List AV} {vs:List Value} (h:gI G w xs vs) (hf:bU xs=true)
 (hi:∀b o,G.gJ b o->G'.gJ b o/\w'.cell? ⟨b,o,none⟩=w.cell? ⟨b,o,none⟩):gI G' w' xs vs:=
 ⟨h.1,fun j hj=>(h.2 j hj).qR (jZ hf hj) hi⟩
def HE (tk:Option Nat) (nw tag:Nat):Nat:=
 match tag with
 |0=>0
 |1=>1
 |k+2=>match tk with
  |some k'=>match Nat.beq k k' with
   |true=>nw+2
   |false=>0
  |none=>0
def jR (H:aA) (tk:Option Nat) (nw:Nat):AV->Option AV
 |.aV tag sz els=>match dJ els with
  |true=>some (.aV (HE tk nw tag) sz els)
  |false=>none
 |.sl id sz off len cap=>match H.eP id with
  |some cs=>match Nat.ble (off+len*sz) cs.length&&bU (cs.drop off) with
   |true=>some (.aV 0 sz (eR sz len (cs.drop off)))
   |false=>none
  |none=>none
 |.ref id off=>match H.eP id with
  |some cs=>match bU (cs.drop off) with
   |true=>some (.pl (cs.drop off))
   |false=>none
  |none=>none
 |v=>match v.free with
  |true=>some v
  |false=>none
def Pb (f:AV->Option AV):List AV->Option (List AV)
 |[]=>some []
 |x::r=>match f x,Pb f r with
  |some y,some ys=>some (y::ys)
  |_,_=>none
def fT (H:aA) (tk:Option Nat) (nw:Nat):Nat->AV->Option AV
 |0,v=>jR H tk nw v
 |n+1,.agg cs=>(Pb (fT H tk nw n) cs).map .agg
 |n+1,.gP vs=>(Pb (fT H tk nw n) vs).map .gP
 |_,v=>jR H tk nw v
theorem Lu {f:AV->Option AV}:∀{l r:List AV},Pb f l=some r->r.length=l.length/\∀j,j<l.length->f (l.getD j aD)=some (r.getD j aD)
 |[],r,h=>by obtain rfl:=Aa h;exact⟨rfl,fun j hj=>absurd hj (Ax j)⟩
 |x::l,r,h=>by
  simp only[Pb] at h;split at h
  · rename_i y ys hy Ml;obtain rfl:=Aa h;obtain⟨h1,h2⟩:=Lu Ml;refine⟨by simp[h1],fun j hj=>?_⟩
    cases j with
    |zero=>simpa using hy
    |succ j=>simpa using h2 j (by simpa using hj)
  cases h
def sL (tk:Option Nat) (H:aA):aA:=match tk with
 |none=>H
 |some _=>H.alloc .tok
def HT (g:bB):Prop:=∀n cs,g n=some cs->bU cs=true
def Out.av:Out->AV
 |.ret v=>v
 |.CD v=>v
def Out.with:Out->AV->Out
 |.ret _,v=>.ret v
 |.CD _,v=>.CD v
section
variable {P:Program} {g:bB}
def FY (G G2:Gh) (H:aA) (H2:aA) (tk:Option Nat):Gh where
 loc:=fun id=>if id=H.next then tk.bind G2.loc else G.loc id
 gJ:=fun b o=>G2.gJ b o\/∃id l cs opn,G2.loc id=some l/\H2.get id=some (.cells cs opn)/\l.cS=b/\l.base<=o/\o<l.base+l.VP
 mo:=G.mo
theorem QO {G G2:Gh} {H H2:aA} {w2:World} {tk:Option Nat} (hn:∀k,tk=some k->H2.get k=some .tok) (uY:WR g G2 H2 w2) {v v':AV} {u:Value} (h:VR G2 w2 v u) (hs:jR H2 tk H.next v=some v'):
 VR (FY G G2 H H2 tk) w2 v' u:=by
 have hi:∀b o,G2.gJ b o->(FY G G2 H H2 tk).gJ b o/\w2.cell? ⟨b,o,none⟩=w2.cell? ⟨b,o,none⟩:=fun b o hh=>⟨.inl hh,rfl⟩
 have frozen:∀{id:Nat} {l:Loc} {cs:List AV} {off:Nat},G2.loc id=some l->H2.eP id=some cs->bU (cs.drop off)=true->∀j,j<(cs.drop off).length->
  ∃x,(FY G G2 H H2 tk).gJ l.cS (l.base+off+j)/\w2.cell? ⟨l.cS,l.base+off+j,none⟩=some x/\((cs.drop off).getD j aD).one=true/\VR (FY G G2 H H2 tk) w2 ((cs.drop off).getD j aD) x:=by
  intro id l cs off hl hc hf j hj;obtain⟨opn,hg⟩:=aA.pK hc;obtain⟨a1,a2,a3,a4,a5⟩:=uY.cells id l cs opn hl hg;simp only[Dy] at hj;obtain⟨x,hx,hvx⟩:=a5 (off+j) (by omega);have Mf:(cs.drop off).getD j aD=cs.getD (off+j) aD:=by rw[getD_eq,getD_eq,Ft]
  refine⟨x,.inr ⟨id,l,cs,opn,hl,hg,rfl,by omega,by omega⟩,by rw[Bm];exact hx,?_,?_⟩
  · rw[Mf];refine a4 _ ?_;rw[getD_eq,Ab (by omega)];exact Ai _
  have DI:=jZ hf (j:=j) (by simpa using hj);rw[Mf] at DI ⊢;exact hvx.qR DI hi
 unfold jR at hs;split at hs
 · rename_i tag sz els;split at hs
   · rename_i hf;obtain rfl:=Aa hs;have tS:=mB hf
     cases h with
     |vA _ _ b o s ht=>
      refine .vA _ _ _ _ _ ?_
      match tag,ht with
      |0,_=>exact Nat.zero_lt_two
      |1,_=>exact Nat.one_lt_two
     |aV _ _ _ b o cap us hu hh hv ht=>
      refine .aV _ sz els b o cap us hu (fun j hj=>⟨(hi _ _ (hh j hj).1).1,(hh j hj).2⟩) (fun j hj=>(hv j hj).qR (jZ tS hj) hi) ⟨ht.1,?_⟩;have h2:=ht.2
      match tag,h2 with
      |0,_=>trivial
      |1,h2=>exact h2
      |k+2,⟨l,h1,h2⟩=>
       cases tk with
       |none=>trivial
       |some k'=>
        simp only[HE]
        cases hk:Nat.beq k k' with
        |false=>trivial
        |true=>obtain rfl:=Bg hk;exact⟨l,by simp only[FY,if_true,Jy];exact h1,h2⟩
   cases hs
 · rename_i id sz off len cap;split at hs
   · rename_i cs hc;split at hs
     · rename_i eK;obtain rfl:=Aa hs;simp only[Am] at eK;have hle:off+len*sz<=cs.length:=Af eK.1
       cases h with
       |sl _ _ _ _ _ iT l hl hlen gD mY=>
        obtain⟨f1,f2,f3⟩:=lT sz len (cs.drop off) (by simp;omega);have fy:=frozen hl hc eK.2;have hmul:len*sz<=cap*sz:=Cj sz hlen
        have HH:∀j,j<(eR sz len (cs.drop off)).flatten.length->j<(cs.drop off).length/\(eR sz len (cs.drop off)).flatten.getD j aD=(cs.drop off).getD j aD:=fun j hj=>by rw[f1] at hj ⊢;simp only[Cb,Dy] at hj;refine⟨by simp;omega,?_⟩;rw[getD_take _ _ _ _ (by omega)]
        have key:=VR.aV (G:=FY G G2 H H2 tk) (w:=w2) 0 sz (eR sz len (cs.drop off)) l.cS (l.base+off) iT (fun j=>(w2.cell? ⟨l.cS,l.base+off+j,none⟩).getD undef) f3
         (fun j hj=>by
           obtain⟨h1,h2⟩:=HH j hj;obtain⟨x,q1,q2,q3,q4⟩:=fy j h1
           exact⟨q1,by rw[q2];rfl,by rw[h2];exact q3⟩)
         (fun j hj=>by
           obtain⟨h1,h2⟩:=HH j hj;obtain⟨x,q1,q2,q3,q4⟩:=fy j h1
           rw[h2,q2];exact q4)
         ⟨by rw[f2];rcases mY with rfl|⟨_,AB,_⟩<;>omega,trivial⟩
        rw[f2] at key;exact key
     cases hs
   cases hs
 · rename_i id off;split at hs
   · rename_i cs hc;split at hs
     · rename_i hf;obtain rfl:=Aa hs
       cases h with
       |ref _ _ l hl=>
        have fy:=frozen hl hc hf
        exact .pl (cs.drop off) l.cS (l.base+off) (fun j=>(w2.cell? ⟨l.cS,l.base+off+j,none⟩).getD undef)
         (fun j hj=>by
           obtain⟨x,q1,q2,q3,q4⟩:=fy j hj
           exact⟨q1,by rw[q2];rfl,q3⟩)
         (fun j hj=>by
           obtain⟨x,q1,q2,q3,q4⟩:=fy j hj
           rw[q2];exact q4)
     cases hs
   cases hs
 split at hs
 · rename_i hf;obtain rfl:=Aa hs;exact h.qR hf hi
 cases hs
theorem aEg {G G2:Gh} {H H2:aA} {w2:World} {tk:Option Nat} {nw n:Nat} {v v':AV} (hs:fT H2 tk nw n v=some v') (h:v.one=true):v'.one=true:=by
 have h1:jR H2 tk nw v=some v'->v'.one=true:=fun hs=>by
  unfold jR at hs
  repeat' (split at hs)
  all_goals first
   |(cases hs;done)
   |(obtain rfl:=Aa hs;first|rfl|exact h)
 cases n with
 |zero=>exact h1 hs
 |succ n=>
  unfold fT at hs;split at hs
  · exact h1 hs
  · cases h
  · cases h
  exact h1 hs
theorem KH {G G2:Gh} {H H2:aA} {w2:World} {tk:Option Nat} (hn:∀k,tk=some k->H2.get k=some .tok) (uY:WR g G2 H2 w2):∀(n:Nat) {v v':AV} {u:Value},VR G2 w2 v u->fT H2 tk H.next n v=some v'->
 VR (FY G G2 H H2 tk) w2 v' u
 |0,v,v',u,h,hs=>QO hn uY h hs
 |n+1,v,v',u,h,hs=>by
  unfold fT at hs;split at hs
  · exact QO hn uY h hs
  · rename_i m cs hm;obtain rfl:m=n:=by omega
    simp only[Ag] at hs;obtain⟨r,hr,rfl⟩:=hs;obtain⟨r1,r2⟩:=Lu hr
    cases h with
    |agg _ vs hl h1 hv=>refine .agg r vs (by omega) (fun c hc=>?_) (fun j hj=>KH hn uY m (hv j (by omega)) (r2 j (by omega)));obtain⟨j,hj,rfl⟩:=Ia.1 hc;have :=r2 j (by omega);rw[getD_eq,getD_eq,Ab hj,Ab (by omega)] at this;exact aEg (G:=G) (G2:=G2) (H:=H) (w2:=w2) this (h1 _ (Ai _))
  · rename_i m vs0 hm;obtain rfl:m=n:=by omega
    simp only[Ag] at hs;obtain⟨r,hr,rfl⟩:=hs;obtain⟨r1,r2⟩:=Lu hr
    cases h with
    |gP _ vs hl hv=>exact .gP r vs (by omega) (fun j hj=>KH hn uY m (hv j (by omega)) (r2 j (by omega)))
  exact QO hn uY h hs
theorem LK.frame (hg:HT g) {f:FuncId} {args:List AV} (hf:bU args=true) {R:Out->aA->Prop} (h:LK P g f args ⟨0,.nil⟩ R) (H:aA) {bDb:Out} {H':aA}
 (hR:∀out H2,R out H2->∃tk n v',(∀k,tk=some k->H2.get k=some .tok)/\fT H2 tk H.next n out.av=some v'/\out.with v'=bDb/\sL tk H=H'):Sound P g f args H bDb H':=by
 refine⟨h.1,fun G w vs hw hv=>?_⟩;let G0:Gh:=⟨fun _=>none,G.gJ,G.mo⟩;have hG0:∀b o,G.gJ b o->G0.gJ b o/\w.cell? ⟨b,o,none⟩=w.cell? ⟨b,o,none⟩:=fun b o hh=>⟨hh,rfl⟩
 have hw0:WR g G0 ⟨0,.nil⟩ w:={
  cells:=fun id l cs opn h1=>by cases h1
  room:=fun id l h1=>by cases h1
  kT:=fun id jU l l' _ h1=>by cases h1
  jM:=fun id l h1=>by cases h1
  gZ:=fun id l es h1=>by cases h1
  lt:=fun id l h1=>by cases h1
  gN:=hw.gN
  iF:=fun k cs hk=>(hw.iF k cs hk).qR (hg k cs hk) hG0
  BL:=hw.BL
  mo:=hw.mo}
 refine(h.2 G0 w vs hw0 (hv.qR hf hG0)).mono fun e w2 he=>?_;obtain⟨out,H2,G2,hr,uY,yU,tI⟩:=he;obtain⟨tk,n,v',sH,hs,rfl,rfl⟩:=hR _ _ hr
 have Ln:∀id l,G2.loc id=some l->H2.live id->w.heap.size<=l.cS:=fun id l h1 h2=>by
  rcases yU.lO id l h1 h2 with hh|⟨eJ,l0,hh,_⟩
  · exact hh
  cases hh
 have aBb:∀b,b<w.heap.size->w2.heap[b]?=w.heap[b]?:=fun b hb=>yU.frame b hb fun id l hh=>by cases hh
 have aLd:∀b o,(FY G G2 H H2 tk).gJ b o->G.gJ b o\/w.heap.size<=b:=fun b o hi=>by
  rcases hi with hi|⟨id,l,cs,opn,h1,h2,rfl,_⟩
  · rcases yU.pA b o hi with hh|hh|⟨eJ,l0,hh,_⟩
    · exact .inl hh
    · exact .inr hh
    cases hh
  exact .inr (Ln id l h1 ⟨_,h2,rfl⟩)
 have rT:∀id l,G.loc id=some l->(FY G G2 H H2 tk).loc id=some l:=fun id l hl=>by have :=hw.lt id l hl;simp only[FY];rw[if_neg (by omega)];exact hl
 have oD:∀b o,G.gJ b o->(FY G G2 H H2 tk).gJ b o/\w2.cell? ⟨b,o,none⟩=w.cell? ⟨b,o,none⟩:=fun b o hi=>⟨.inl (yU.gJ b o hi).1,(yU.gJ b o hi).2⟩;have aBj:H.next<=(sL tk H).next:=by cases tk<;>simp[sL]
 have cG:∀id,id≠H.next->(sL tk H).get id=H.get id:=fun id bN=>by
  cases tk with
  |none=>rfl
  |some k=>simp only[sL,aA.aF,if_neg bN]
 have qI:∀id l,(FY G G2 H H2 tk).loc id=some l->(id≠H.next/\G.loc id=some l)\/(id=H.next/\∃k,tk=some k/\G2.loc k=some l/\(sL tk H).get id=some .tok):=fun id l hl=>by
  simp only[FY] at hl;by_cases hid:id=H.next
  · rw[if_pos hid] at hl
    cases tk with
    |none=>cases hl
    |some k=>exact .inr ⟨hid,k,rfl,hl,by simp only[sL,aA.aF,if_pos hid]⟩
  rw[if_neg hid] at hl;exact .inl ⟨hid,hl⟩
 have qG:∀id,id≠H.next->(sL tk H).live id->H.live id:=fun id bN ⟨o,h1,h2⟩=>⟨o,by rw[<-cG id bN];exact h1,h2⟩;have UA:∀k l,tk=some k->G2.loc k=some l->w.heap.size<=l.cS:=fun k l h1 h2=>Ln k l h2 ⟨_,sH k h1,rfl⟩
 have aSj:WR g (FY G G2 H H2 tk) (sL tk H) w2:={
  cells:=fun id l cs opn h1 h2=>by
   rcases qI id l h1 with ⟨bN,hl⟩|⟨_,k,_,_,ht⟩
   · rw[cG id bN] at h2;obtain⟨a1,a2,a3,a4,a5⟩:=hw.cells id l cs opn hl h2;have hb:=hw.mR hl ⟨_,h2,rfl⟩;refine⟨a1,a2,a3,a4,fun j hj=>?_⟩;obtain⟨x,hx,hvx⟩:=a5 j hj;exact⟨x,by rw[fE (aBb _ hb)];exact hx,hvx.mono rT oD⟩
   rw[ht] at h2;cases h2
  room:=fun id l h1 h2=>by
   rcases qI id l h1 with ⟨bN,hl⟩|⟨_,k,hk,VL,ht⟩
   · rw[cG id bN] at h2
     have hb:l.cS<w.heap.size:=hw.mR hl (by
      rcases h2 with ⟨cs,opn,hh⟩|hh
      · exact⟨_,hh,rfl⟩
      exact⟨_,hh,rfl⟩)
     obtain⟨c,el,fz,b1,b2,b3⟩:=hw.room id l hl h2;exact⟨c,el,fz,by rw[aBb _ hb];exact b1,b2,fun j hj=>by rw[lE (aBb _ hb)];exact b3 j hj⟩
   exact uY.room k l VL (.inr (sH k hk))
  kT:=fun id jU l l' bN h1 h2 sR nJ=>by
   rcases qI id l h1 with ⟨DJ,xE⟩|⟨DJ,k,hk,RI,_⟩<;>rcases qI jU l' h2 with ⟨DK,VL⟩|⟨DK,k',rS,dA,_⟩
   · exact hw.kT id jU l l' bN xE VL (qG id DJ sR) (qG jU DK nJ)
   · have :=hw.mR xE (qG id DJ sR);have :=UA k' l' rS dA;exact .inl (by omega)
   · have :=hw.mR VL (qG jU DK nJ);have :=UA k l hk RI;exact .inl (by omega)
   exact absurd (DJ.trans DK.symm) bN
  jM:=fun id l h1 sR j hj hi=>by
   rcases qI id l h1 with ⟨DJ,xE⟩|⟨DJ,k,hk,RI,_⟩
   · have hb:=hw.mR xE (qG id DJ sR)
     rcases aLd _ _ hi with hh|hh
     · exact hw.jM id l xE (qG id DJ sR) j hj hh
     omega
   rcases hi with hi|⟨id2,l2,cs,opn,q1,q2,q3,q4,q5⟩
   · exact uY.jM k l RI ⟨_,sH k hk,rfl⟩ j hj hi
   have bN:id2≠k:=fun hh=>by rw[hh,sH k hk] at q2;cases q2
   have hs:=(uY.cells id2 l2 cs opn q1 q2).2.1
   rcases uY.kT id2 k l2 l bN q1 RI ⟨_,q2,rfl⟩ ⟨_,sH k hk,rfl⟩ with hd|hd|hd
   · exact hd q3
   · omega
   omega
  gZ:=fun id l o h1 h2 hk=>by
   rcases qI id l h1 with ⟨bN,hl⟩|⟨_,k,_,_,ht⟩
   · rw[cG id bN] at h2;have hb:=hw.mR hl ⟨_,h2,PX hk⟩;obtain⟨a1,a2,a3⟩:=hw.gZ id l o hl h2 hk;exact⟨a1,a2,a3.mono (aBb _ hb) fun _ _ h=>h.mono rT oD⟩
   rw[ht] at h2;cases h2;cases hk
  lt:=fun id l h1=>by
   rcases qI id l h1 with ⟨bN,hl⟩|⟨hn,k,hk,_,_⟩
   · have :=hw.lt id l hl;omega
   subst hk;simp[sL,hn]
  gN:=fun b o hi=>by
   rcases hi with hi|⟨id,l,cs,opn,q1,q2,rfl,q4,q5⟩
   · exact uY.gN b o hi
   obtain⟨a1,_,_,_,a5⟩:=uY.cells id l cs opn q1 q2;obtain⟨x,hx,_⟩:=a5 (o -l.base) (by omega);exact⟨x,by rw[show o=l.base+(o -l.base) by omega];exact hx⟩
  iF:=fun k cs hk=>(hw.iF k cs hk).mono rT oD
  BL:=uY.BL
  mo:=hw.mo}
 have aWo:Ext G H w (FY G G2 H H2 tk) (sL tk H) w2:={
  loc:=rT
  gJ:=oD
  size:=yU.size
  frame:=fun b hb _=>aBb b hb
  lO:=fun id l h1 sR=>by
   rcases qI id l h1 with ⟨bN,hl⟩|⟨_,k,hk,RI,_⟩
   · exact .inr ⟨id,l,hl,qG id bN sR,rfl⟩
   exact .inl (UA k l hk RI)
  pA:=fun b o hi=>by
   rcases aLd b o hi with hh|hh
   · exact .inl hh
   exact .inr (.inl hh)
  next:=aBj
  news:=fun id l h1 h2=>by
   rcases qI id l h1 with ⟨bN,hl⟩|⟨hn,_⟩
   · rw[h2] at hl;cases hl
   omega
  dead:=fun id l h1 sR=>qG id (by have :=hw.lt id l h1;omega) sR
  mo:=rfl
  same:=yU.same}
 refine⟨_,aSj,aWo,?_⟩
 cases out with
 |ret v=>
  cases e with
  |returned u=>exact KH sH uY n tI hs
  |_=>exact tI.elim
 |CD v=>
  cases e with
  |panicked ch=>obtain⟨u,rfl,KU⟩:=tI;exact⟨u,rfl,KH sH uY n KU hs⟩
  |_=>exact tI.elim
theorem Sound.frame (hg:HT g) {f:FuncId} {args:List AV} (hf:bU args=true) {out:Out} {H2:aA} (h:Sound P g f args ⟨0,.nil⟩ out H2) {tk:Option Nat} (sH:∀k,tk=some k->H2.get k=some .tok) {n:Nat}
 (H:aA) {v':AV} (hs:fT H2 tk H.next n out.av=some v'):Sound P g f args H (out.with v') (sL tk H):=
 h.open.frame hg hf H fun o H3 hh=>by obtain⟨rfl,rfl⟩:=hh;exact⟨tk,n,v',sH,hs,rfl,rfl⟩
end
end
section
abbrev cU:=Nat->AV
abbrev FQ:=AEx->cU->List fY->aA->Prop
def mT (g:bB) (f:cU):Arg->AV
 |.tmp t=>f t
 |.const v=>v
 |.iF n=>match g n with
  |some cs=>.pl cs
  |none=>aD
def jG (f:cU) (d:Nat) (v:AV):cU:=fun t=>if t=d then v else f t
theorem sG (f:cU) (d:Nat) (v:AV):jG f d v d=v:=by simp[jG]
theorem oM (f:cU) {d t:Nat} (v:AV) (h:t≠d):jG f d v t=f t:=by simp[jG,h]
def fD (n:Nat) (f:cU):Option Nat->AV->cU
 |none,_=>f
 |some d,v=>if d<n then jG f d v else f
def fJ (f:cU) (o:bC):Bool:=
 match o.guard with
 |none=>true
 |some (d,b)=>match f d with
  |.bool c=>c==b
  |_=>false
def mI (r:Option (AV×aA)) (k:AV->aA->Prop):Prop:=
 match r with
 |some (v,H)=>k v H
 |none=>False
def bL (P:Program) (g:bB) (n:Nat):List bC->cU->List fY->aA->FQ->Prop
 |[],f,ds,H,Q=>Q .normal f ds H
 |o::r,f,ds,H,Q=>
  if fJ f o then
   match o.op with
   |.call c azs=>∃out H',Rb P g (mT g f c) (azs.map (mT g f)) H out H'/\
     match out with
     |.ret v=>bL P g n r (fD n f o.dst v) ds H' Q
     |.CD v=>Q (.panic v) f ds H'
   |.panic x=>∃t v,mT g f x=.iface t v/\Q (.panic (.iface t v)) f ds H
   |.jY c azs=>∃p,lL (mT g f c)=some p/\bL P g n r (fD n f o.dst aD) (.call p.1 (p.2.1++azs.map (mT g f)++p.2.2)::ds) H Q
   |.wG x=>∃m es,mT g f x=.map m/\H.get m=some (.map es)/\∀bs c mb,bs.length=es.length->bs.Nodup->
     bL P g n r (fD n f o.dst (.ref H.next 0)) ds ((H.set m (.tK es bs c mb)).alloc (.iter m mb c [])) Q
   |.EW x=>∃it m mb c seen es bs,mT g f x=.ref it 0/\H.get it=some (.iter m mb c seen)/\H.get m=some (.tK es bs c mb)/\
     ((∀b∈bs,b∈seen)->bL P g n r (fD n f o.dst (.gP [.bool false])) ds H Q)/\
     ∀j,j<bs.length->bs.getD j 0∉seen->bL P g n r (fD n f o.dst (.gP [.bool true,(es.getD j (aD,aD)).1,(es.getD j (aD,aD)).2])) ds (H.set it (.iter m mb c (seen++[bs.getD j 0]))) Q
   |.zC x=>∃it m mb c seen es bs j,mT g f x=.ref it 0/\H.get it=some (.iter m mb c (seen++[bs.getD j 0]))/\H.get m=some (.tK es bs c mb)/\j<bs.length/\
     bL P g n r (fD n f o.dst (.gP [(es.getD j (aD,aD)).1,(es.getD j (aD,aD)).2])) ds H Q
   |op=>mI (dK (mT g f) H op) fun v H'=>bL P g n r (fD n f o.dst v) ds H' Q
  else bL P g n r (fD n f o.dst aD) ds H Q
def FJ (P:Program) (g:bB) (r:bC) (f:cU) (H:aA) (v:AV) (H':aA):Prop:=
 match r.op with
 |.call c azs=>∃p,lL (mT g f c)=some p/\Sound P g p.1 (p.2.1++azs.map (mT g f)++p.2.2) H (.ret v) H'
 |.panic _|.jY _ _=>False
 |op=>dK (mT g f) H op=some (v,H')
def YR (P:Program) (g:bB) (n:Nat) (pairs:List (Nat×Nat)) (base:Nat):Nat->Nat->List bC->List (Nat×Nat)->List (Nat×aA×aA)->cU->aA->(cU->aA->Prop)->Prop
 |_,_,[],_,_,f,H,Q=>Q f H
 |i,k,r::rs,rd,ef,f,H,Q=>
  if fJ f r then
   if r.op.fresh then
    ∃ob val,yQ (mT g f) r.op=some (ob,val)/\(∀x∈ef,(i,x.1)∈pairs->x.2.1.get (base+k)=x.2.2.get (base+k))/\
     YR P g n pairs base (i+1) (k+1) rs ((i,base+k)::rd) ef (fD n f r.dst (val (base+k))) (H.set (base+k) ob) Q
   else if r.op.qE then
    ∃v H',FJ P g r f H v H'/\H.next<=H'.next/\(∀x∈rd,(x.1,i)∈pairs->H.get x.2=H'.get x.2)/\
     YR P g n pairs base (i+1) k rs rd ((i,H,H')::ef) (fD n f r.dst v) H' Q
   else
    ∃v,FJ P g r f H v H/\(∀id,r.op.cY (mT g f)=some id->∀x∈ef,(i,x.1)∈pairs->x.2.1.get id=x.2.2.get id)/\
     YR P g n pairs base (i+1) k rs (match r.op.cY (mT g f) with|some id=>(i,id)::rd|none=>rd) ef (fD n f r.dst v) H Q
  else YR P g n pairs base (i+1) (if r.op.fresh then k+1 else k) rs rd ef (fD n f r.dst aD) H Q
def gC (next:cU->List fY->aA->Prop) (Q:FQ):FQ
 |.normal,f,ds,H=>next f ds H
 |e,f,ds,H=>Q e f ds H
def dO (id:Nat) (Q:FQ):FQ
 |.exit i,f,ds,H=>if i=id then Q .normal f ds H else Q (.exit i) f ds H
 |e,f,ds,H=>Q e f ds H
def tM (n:Nat) (f:cU):List (Nat×AV)->cU
 |[]=>f
 |(t,v)::r=>tM n (fD n f (some t) v) r
def ui (id:Nat) (out:Out) (H3:aA):FQ
 |.normal,_,ds,H=>ds=[]/\out=.ret (.bool true)/\∃k sn,H.get id=some (.loop k sn .busy)/\H3=H.set id (.loop k sn .ready)
 |.ret,_,ds,H=>ds=[]/\out=.ret (.bool false)/\∃k sn,H.get id=some (.loop k sn .busy)/\H3=H.set id (.loop k sn (.done .ret))
 |.exit i,_,ds,H=>ds=[]/\out=.ret (.bool false)/\∃k sn,H.get id=some (.loop k sn .busy)/\H3=H.set id (.loop k sn (.done (.exit i)))
 |.panic _,_,_,_=>False
def PY (st:LSt) (f:cU) (ds:List fY) (H:aA) (Q:FQ):Prop:=
 match st with
 |.ready=>Q .normal f ds H
 |.done .ret=>Q .ret f ds H
 |.done (.exit i)=>Q (.exit i) f ds H
 |_=>False
def LF (n:Nat) (f:cU):List AV:=(List.range n).map f
def nT (n:Nat) (f:cU):Prop:=∀t,n<=t->f t=aD
def FC (P:Program) (g:bB) (n:Nat):bV->cU->List fY->aA->FQ->Prop
 |.skip,f,ds,H,Q=>Q .normal f ds H
 |.ops rl,f,ds,H,Q=>bL P g n rl f ds H Q
 |.draw rl pairs,f,ds,H,Q=>(nZ H (rl.countP (·.op.fresh))=true/\
   YR P g n pairs H.next 0 0 rl [] [] f {H with next:=H.next+rl.countP (·.op.fresh)} fun f' H'=>Q .normal f' ds H')\/
   (nT n f->∃x f' H',Nw P g rl pairs (LF n f) H (fun x' s' h'=>x'=x/\s'=LF n f'/\h'=H')/\nT n f'/\(∀t,t∉rl.filterMap (·.dst)->f' t=f t)/\Q (.panic x) f' ds H')
 |.seq a b,f,ds,H,Q=>FC P g n a f ds H (gC (fun f ds H=>FC P g n b f ds H Q) Q)
 |.cond c a b,f,ds,H,Q=>∃t,mT g f c=.bool t/\if t then FC P g n a f ds H Q else FC P g n b f ds H Q
 |.block id a,f,ds,H,Q=>FC P g n a f ds H (dO id Q)
 |.loop a,f,ds,H,Q=>∃(I:Nat->cU->List fY->aA->Prop) (m:Nat),I m f ds H/\
   ∀m f ds H,I m f ds H->FC P g n a f ds H (gC (fun f ds H=>∃k,k<m/\I k f ds H) Q)
 |.exit id,f,ds,H,Q=>Q (.exit id) f ds H
 |.ret,f,ds,H,Q=>Q .ret f ds H
 |.oE c ps MK body,f,ds,H,Q=>∃fid fs cs v He k' s' st Hf,mT g f c=.func (.func fid) fs cs/\
   Sound P g fid (fs++[.yield (H.next+1)]++cs) ((H.alloc .MO).alloc (.loop ⟨ps,MK,body⟩ (LF n f) .ready)) (.ret v) He/\He.get (H.next+1)=some (.loop k' s' st)/\xN He (H.next+1) Hf/\
   PY st f (.mark H.next::ds) Hf Q
def TS (P:Program) (g:bB) (n:Nat) (k:LD) (f:cU) (id:Nat) (args:List AV) (H2:aA) (out:Out) (H3:aA):Prop:=
 FC P g n k.MK (tM n f (k.ps.zip args)) [] H2 fun e f1 pQ H1=>match e with
  |.normal=>pQ=[]/\∃k1 jz,H1.get id=some (.loop k1 jz .ready)/\FC P g n k.body f1 [] (H1.set id (.loop k1 jz .busy)) (ui id out H3)
  |_=>False
theorem nT.put {n:Nat} {f:cU} (h:nT n f) (dst:Option Nat) (v:AV):nT n (fD n f dst v):=by
 cases dst with
 |none=>exact h
 |some d=>
  simp only[fD];split
  · intro t ht;rw[oM f v (by omega)];exact h t ht
  exact h
theorem TU {n:Nat} {f:cU} (h:nT n f) (t:Nat):(LF n f).getD t aD=f t:=by
 unfold LF;rw[getD_eq,Bo];by_cases ht:t<n
 · simp[ht]
 rw[h t (by omega)];simp[ht]
theorem pE {n:Nat} {f:cU} (dst:Option Nat) (v:AV):LF n (fD n f dst v)=mE (LF n f) dst v:=by
 cases dst with
 |none=>rfl
 |some d=>
  simp only[fD,mE,LF];apply Gu;intro i;rw[Ht];simp only[Bo,Ad,Bs];by_cases hd:d<n
  · rw[if_pos hd];by_cases hi:d=i
    · subst hi;simp[hd,sG]
    rw[if_neg hi];by_cases gD:i<n
    · simp[gD,oM f v (Ne.symm hi)]
    simp[gD]
  rw[if_neg hd];by_cases hi:d=i
  · subst hi;simp[hd]
  rw[if_neg hi]
theorem vY {n:Nat} {f:cU} (h:nT n f) (g:bB):mT g f=Arg.eval g (LF n f):=by
 funext x
 cases x with
 |tmp t=>exact(TU h t).symm
 |const v=>rfl
 |iF n=>rfl
theorem Qe {n:Nat} {f:cU} (h:nT n f) (o:bC):fJ f o=bH (LF n f) o:=by
 unfold fJ bH
 cases o.guard with
 |none=>rfl
 |some p=>simp only[TU h];cases f p.1<;>rfl
theorem LB {n:Nat}:∀(l:List (Nat×AV)) (f:cU),pX (LF n f) l=LF n (tM n f l)
 |[],f=>rfl
 |(t,v)::l,f=>by rw[pX,tM,<-LB l];congr 1;rw[pE];rfl
theorem nT.pX {n:Nat}:∀(l:List (Nat×AV)) {f:cU},nT n f->nT n (tM n f l)
 |[],_,h=>h
 |(t,v)::l,_,h=>nT.pX l (h.put (some t) v)
def aMg (n:Nat) (Q:FQ):AQ:=fun e s ds H=>∃f,s=LF n f/\nT n f/\Q e f ds H
section
variable {P:Program} {g:bB} {n:Nat}
theorem iS:∀(rl:List bC) (f:cU) (ds:List fY) (H:aA) (Q:FQ),nT n f->bL P g n rl f ds H Q->tW P g rl (LF n f) ds H (aMg n Q)
 |[],f,ds,H,Q,hb,h=>⟨f,rfl,hb,h⟩
 |o::r,f,ds,H,Q,hb,h=>by
  unfold bL at h;unfold tW;rw[Qe hb,vY hb] at h;split at h
  · rename_i hw;rw[if_pos hw];split at h
    · rename_i c azs fF;obtain⟨out,H',h2,h3⟩:=h;rw[fF];refine⟨out,H',h2,?_⟩
      cases out with
      |ret v=>
       have :=iS r _ ds H' Q (hb.put o.dst v) h3
       rwa [pE] at this
      |CD v=>exact⟨f,rfl,hb,h3⟩
    · rename_i x fF;obtain⟨t,v,h1,h2⟩:=h;rw[fF];exact⟨t,v,h1,f,rfl,hb,h2⟩
    · rename_i c azs fF;obtain⟨p,h1,h2⟩:=h;rw[fF];refine⟨p,h1,?_⟩;have :=iS r _ _ H Q (hb.put o.dst aD) h2
      rwa [pE] at this
    · rename_i x fF;obtain⟨m,es,h1,h2,h3⟩:=h;rw[fF];refine⟨m,es,h1,h2,fun bs c mb k1 k2=>?_⟩;have :=iS r _ _ _ Q (hb.put o.dst _) (h3 bs c mb k1 k2)
      rwa [pE] at this
    · rename_i x fF;obtain⟨it,m,mb,c,seen,es,bs,h1,h2,h3,h4,h5⟩:=h;rw[fF];refine⟨it,m,mb,c,seen,es,bs,h1,h2,h3,fun k=>?_,fun j k1 k2=>?_⟩
      · have :=iS r _ _ _ Q (hb.put o.dst _) (h4 k)
        rwa [pE] at this
      have :=iS r _ _ _ Q (hb.put o.dst _) (h5 j k1 k2)
      rwa [pE] at this
    · rename_i x fF;obtain⟨it,m,mb,c,seen,es,bs,j,h1,h2,h3,h4,h5⟩:=h;rw[fF];refine⟨it,m,mb,c,seen,es,bs,j,h1,h2,h3,h4,?_⟩;have :=iS r _ _ _ Q (hb.put o.dst _) h5
      rwa [pE] at this
    rename_i n1 n2 n3 n4 n5 n6;unfold mI at h;split at h
    · rename_i v H' ha;have :=iS r _ ds H' Q (hb.put o.dst v) h;rw[pE] at this;split
      · rename_i c azs fF;exact absurd fF (n1 c azs)
      · rename_i x fF;exact absurd fF (n2 x)
      · rename_i c azs fF;exact absurd fF (n3 c azs)
      · rename_i x fF;exact absurd fF (n4 x)
      · rename_i x fF;exact absurd fF (n5 x)
      · rename_i x fF;exact absurd fF (n6 x)
      exact⟨v,H',ha,this⟩
    exact h.elim
  rename_i hw;rw[if_neg hw];have :=iS r _ ds H Q (hb.put o.dst aD) h
  rwa [pE] at this
theorem Re {f:cU} (hb:nT n f) {r:bC} {H H':aA} {v:AV} (h:FJ P g r f H v H'):HW P g r (LF n f) H v H':=by
 unfold FJ at h;unfold HW
 rwa [vY hb] at h
theorem tN {pairs:List (Nat×Nat)} {base:Nat} {Q:cU->aA->Prop}:∀(rl:List bC) (i k:Nat) (rd:List (Nat×Nat)) (ef:List (Nat×aA×aA)) (f:cU) (H:aA),nT n f->
 YR P g n pairs base i k rl rd ef f H Q->VQ P g pairs base i k rl rd ef (LF n f) H (fun s H=>∃f,s=LF n f/\nT n f/\Q f H)
 |[],i,k,rd,ef,f,H,hb,h=>⟨f,rfl,hb,h⟩
 |r::rs,i,k,rd,ef,f,H,hb,h=>by
  unfold YR at h;unfold VQ;rw[Qe hb] at h;split at h
  · rename_i hw;rw[if_pos hw];split at h
    · rename_i hf;rw[if_pos hf];obtain⟨ob,val,h1,h2,h3⟩:=h;rw[vY hb] at h1;refine⟨ob,val,h1,h2,?_⟩;have :=tN rs _ _ _ _ _ _ (hb.put r.dst _) h3
      rwa [pE] at this
    rename_i hf;rw[if_neg hf];split at h
    · rename_i he;rw[if_pos he];obtain⟨v,H',h1,h2,h3,h4⟩:=h;refine⟨v,H',Re hb h1,h2,h3,?_⟩;have :=tN rs _ _ _ _ _ _ (hb.put r.dst _) h4
      rwa [pE] at this
    rename_i he;rw[if_neg he];obtain⟨v,h1,h2,h3⟩:=h;refine⟨v,Re hb h1,by rw[<-vY hb];exact h2,?_⟩;have :=tN rs _ _ _ _ _ _ (hb.put r.dst _) h3;rw[pE] at this;rw[<-vY hb];exact this
  rename_i hw;rw[if_neg hw];have :=tN rs _ _ _ _ _ _ (hb.put r.dst _) h
  rwa [pE] at this
theorem tY:∀(c:bV) (f:cU) (ds:List fY) (H:aA) (Q:FQ),nT n f->FC P g n c f ds H Q->AC P g c (LF n f) ds H (aMg n Q):=by
 intro c
 induction c with
 |skip=>exact fun f ds H Q hb h=>⟨f,rfl,hb,h⟩
 |ops rl=>exact fun f ds H Q hb h=>iS rl f ds H Q hb h
 |draw rl pairs=>intro f ds H Q hb h;refine h.imp (fun h=>⟨h.1,tN rl 0 0 [] [] f _ hb h.2⟩) fun h=>?_;obtain⟨x,f',H',h1,h2,_,h3⟩:=h hb;exact h1.mono fun x' s' h' ⟨e1,e2,e3⟩=>⟨f',e2,h2,by rw[e1,e3];exact h3⟩
 |seq a b rG uW=>
  intro f ds H Q hb h;show AC P g a (LF n f) ds H _;refine eW (fun e s ds H hq=>?_) (rG f ds H _ hb h);obtain⟨f',rfl,wN,hq⟩:=hq
  cases e with
  |normal=>exact uW f' ds H Q wN hq
  |_=>exact⟨f',rfl,wN,hq⟩
 |cond c a b rG uW=>
  intro f ds H Q hb h;obtain⟨t,h1,h2⟩:=h;rw[vY hb] at h1;refine⟨t,h1,?_⟩
  cases t with
  |true=>exact rG f ds H Q hb h2
  |false=>exact uW f ds H Q hb h2
 |block id a ih=>
  intro f ds H Q hb h;show AC P g a (LF n f) ds H _;refine eW (fun e s ds H hq=>?_) (ih f ds H _ hb h);obtain⟨f',rfl,wN,hq⟩:=hq
  cases e with
  |exit i=>
   simp only[dO] at hq;simp only[pS];split
   · rename_i hi;rw[if_pos hi] at hq;exact⟨f',rfl,wN,hq⟩
   rename_i hi;rw[if_neg hi] at hq;exact⟨f',rfl,wN,hq⟩
  |_=>exact⟨f',rfl,wN,hq⟩
 |loop a ih=>
  intro f ds H Q hb h;obtain⟨I,m,h0,hI⟩:=h;refine⟨fun m s ds H=>∃f,s=LF n f/\nT n f/\I m f ds H,m,⟨f,rfl,hb,h0⟩,?_⟩;rintro m s pQ H1 ⟨f1,rfl,tR,h1⟩;refine eW (fun e s ds H hq=>?_) (ih f1 pQ H1 _ tR (hI m f1 pQ H1 h1));obtain⟨f',rfl,wN,hq⟩:=hq
  cases e with
  |normal=>obtain⟨k,hk,hq⟩:=hq;exact⟨k,hk,f',rfl,wN,hq⟩
  |_=>exact⟨f',rfl,wN,hq⟩
 |exit id=>exact fun f ds H Q hb h=>⟨f,rfl,hb,h⟩
 |ret=>exact fun f ds H Q hb h=>⟨f,rfl,hb,h⟩
 |oE c ps a b rG uW=>
  intro f ds H Q hb h;obtain⟨fid,fs,cs,v,He,k',s',st,Hf,h1,h2,h3,h4,h5⟩:=h;rw[vY hb] at h1;refine⟨fid,fs,cs,v,He,k',s',st,Hf,h1,h2,h3,h4,?_⟩
  cases st with
  |ready=>exact⟨f,rfl,hb,h5⟩
  |done e=>cases e<;>exact⟨f,rfl,hb,h5⟩
  |busy=>exact h5.elim
  |over _=>exact h5.elim
theorem kv {rl:List bC}:∀{f:cU} {ds:List fY} {H:aA} {Q Q':FQ},(∀e f ds H,Q e f ds H->Q' e f ds H)->bL P g n rl f ds H Q->bL P g n rl f ds H Q':=by
 induction rl with
 |nil=>exact fun hq h=>hq _ _ _ _ h
 |cons o r ih=>
  intro f ds H Q Q' hq h;unfold bL at h ⊢;split
  · rename_i hw;rw[if_pos hw] at h;split at h
    · obtain⟨out,H',h1,h3⟩:=h;refine⟨out,H',h1,?_⟩
      cases out with
      |ret v=>exact ih hq h3
      |CD v=>exact hq _ _ _ _ h3
    · obtain⟨t,v,h1,h2⟩:=h;exact⟨t,v,h1,hq _ _ _ _ h2⟩
    · obtain⟨p,h1,h2⟩:=h;exact⟨p,h1,ih hq h2⟩
    · obtain⟨m,es,h1,h2,h3⟩:=h;exact⟨m,es,h1,h2,fun bs c mb k1 k2=>ih hq (h3 bs c mb k1 k2)⟩
    · obtain⟨it,m,mb,c,seen,es,bs,h1,h2,h3,h4,h5⟩:=h;exact⟨it,m,mb,c,seen,es,bs,h1,h2,h3,fun k=>ih hq (h4 k),fun j k1 k2=>ih hq (h5 j k1 k2)⟩
    · obtain⟨it,m,mb,c,seen,es,bs,j,h1,h2,h3,h4,h5⟩:=h;exact⟨it,m,mb,c,seen,es,bs,j,h1,h2,h3,h4,ih hq h5⟩
    unfold mI at h ⊢;split at h
    · exact ih hq h
    exact h.elim
  rename_i hw;rw[if_neg hw] at h;exact ih hq h
theorem Vc {pairs:List (Nat×Nat)} {base:Nat} {rl:List bC}:∀{i k:Nat} {rd:List (Nat×Nat)} {ef:List (Nat×aA×aA)} {f:cU} {H:aA} {Q Q':cU->aA->Prop},(∀f H,Q f H->Q' f H)->
 YR P g n pairs base i k rl rd ef f H Q->YR P g n pairs base i k rl rd ef f H Q':=by
 induction rl with
 |nil=>exact fun hq h=>hq _ _ h
 |cons r rs ih=>
  intro i k rd ef f H Q Q' hq h;unfold YR at h ⊢;split
  · rename_i hw;rw[if_pos hw] at h;split
    · rename_i hf;rw[if_pos hf] at h;obtain⟨ob,val,h1,h2,h3⟩:=h;exact⟨ob,val,h1,h2,ih hq h3⟩
    rename_i hf;rw[if_neg hf] at h;split
    · rename_i he;rw[if_pos he] at h;obtain⟨v,H',h1,h2,h3,h4⟩:=h;exact⟨v,H',h1,h2,h3,ih hq h4⟩
    rename_i he;rw[if_neg he] at h;obtain⟨v,h1,h2,h3⟩:=h;exact⟨v,h1,h2,ih hq h3⟩
  rename_i hw;rw[if_neg hw] at h;exact ih hq h
theorem jB {c:bV}:∀{f:cU} {ds:List fY} {H:aA} {Q Q':FQ},(∀e f ds H,Q e f ds H->Q' e f ds H)->FC P g n c f ds H Q->FC P g n c f ds H Q':=by
 induction c with
 |skip=>exact fun hq h=>hq _ _ _ _ h
 |ops rl=>exact fun hq h=>kv hq h
 |draw rl pairs=>exact fun hq h=>h.imp (fun h=>⟨h.1,Vc (fun s H=>hq _ _ _ _) h.2⟩) fun h hb=>let⟨x,f',H',h1,h2,h3,h4⟩:=h hb;⟨x,f',H',h1,h2,h3,hq _ _ _ _ h4⟩
 |seq a b rG uW=>
  intro f ds H Q Q' hq h;refine rG (fun e f ds H h=>?_) h
  cases e with
  |normal=>exact uW hq h
  |_=>exact hq _ _ _ _ h
 |cond c a b rG uW=>
  intro f ds H Q Q' hq h;obtain⟨t,h1,h2⟩:=h;refine⟨t,h1,?_⟩
  cases t with
  |true=>exact rG hq h2
  |false=>exact uW hq h2
 |block id a ih=>
  intro f ds H Q Q' hq h;refine ih (fun e f ds H h=>?_) h
  cases e with
  |exit i=>
   simp only[dO] at h ⊢;split
   · rename_i hi;rw[if_pos hi] at h;exact hq _ _ _ _ h
   rename_i hi;rw[if_neg hi] at h;exact hq _ _ _ _ h
  |_=>exact hq _ _ _ _ h
 |loop a ih=>
  intro f ds H Q Q' hq h;obtain⟨I,m,h0,hI⟩:=h;refine⟨I,m,h0,fun m f ds H hi=>ih (fun e f ds H h=>?_) (hI m f ds H hi)⟩
  cases e with
  |normal=>exact h
  |_=>exact hq _ _ _ _ h
 |exit id=>exact fun hq h=>hq _ _ _ _ h
 |ret=>exact fun hq h=>hq _ _ _ _ h
 |oE c ps a b rG uW=>
  intro f ds H Q Q' hq h;obtain⟨fid,fs,cs,v,He,k',s',st,Hf,h1,h2,h3,h4,h5⟩:=h;refine⟨fid,fs,cs,v,He,k',s',st,Hf,h1,h2,h3,h4,?_⟩
  cases st with
  |ready=>exact hq _ _ _ _ h5
  |done e=>cases e<;>exact hq _ _ _ _ h5
  |busy=>exact h5.elim
  |over _=>exact h5.elim
def dW (args:List AV):cU:=fun t=>args.getD t aD
def RV (f:cU) (H:aA):HM->Option AV
 |.tmp t=>some (f t)
 |.cell a agg n=>match dK (mT g0 f) H (.load agg n (.tmp a)) with
  |some (v,_)=>some v
  |none=>none
def tA (f:cU) (H:aA):List HM->Option (List AV)
 |[]=>some []
 |x::r=>match RV f H x,tA f H r with
  |some v,some vs=>some (v::vs)
  |_,_=>none
theorem KD {f:cU} (hb:nT n f) (H:aA):∀l,tA f H l=mF (LF n f) H l
 |[]=>rfl
 |x::r=>by
  have ih:=KD hb H r
  cases x with
  |tmp t=>simp only[tA,mF,RV,tw,ih,TU hb];cases mF (LF n f) H r<;>rfl
  |cell a agg m=>
   simp only[tA,mF,RV,tw,ih,vY hb]
   cases dK (Arg.eval g0 (LF n f)) H (.load agg m (.tmp a)) with
   |none=>rfl
   |some p=>cases mF (LF n f) H r<;>rfl
theorem xZ {args:List AV} (h:args.length<=n):nT n (dW args)/\LF n (dW args)=args++List.replicate (n -args.length) aD:=by
 refine⟨fun t ht=>?_,Gu fun t=>?_⟩
 · simp only[dW,getD_eq];rw[Bw (by omega)];rfl
 unfold LF;rw[Bo];by_cases ht:t<n
 · rw[Gw ht,Bt];by_cases h1:t<args.length
   · rw[Ex h1];simp[dW,getD_eq,Ab h1]
   rw[Ib (by omega),Fz,if_pos (by omega)];simp only[dW,getD_eq];rw[Bw (by omega)];rfl
 rw[Bw (by simp;omega),Bw (by simp;omega)];rfl
def MA (rs:List HM) (R:Out->aA->Prop):FQ
 |.normal,f,ds,H|.ret,f,ds,H=>ds=[]/\∃vs,tA f H rs=some vs/\R (.ret (pY vs)) H
 |.panic v,_,ds,H=>ds=[]/\R (.CD v) H
 |.exit _,_,_,_=>False
theorem YL {F:DY} {args:List AV} (ha:args.length<=F.ntmps) {H:aA} {R:Out->aA->Prop} (h:FC P g F.ntmps F.body (dW args) [] H (MA F.results R)):
 AC P g F.body (sW F args) [] H (aJl F R):=by
 obtain⟨hb,hl⟩:=xZ ha;unfold sW;rw[<-hl];refine eW (fun e s ds H hq=>?_) (tY F.body _ [] H _ hb h);obtain⟨f,rfl,wN,hq⟩:=hq
 cases e with
 |normal=>obtain⟨h1,vs,h2,h3⟩:=hq;exact⟨h1,vs,by rw[<-KD wN];exact h2,h3⟩
 |ret=>obtain⟨h1,vs,h2,h3⟩:=hq;exact⟨h1,vs,by rw[<-KD wN];exact h2,h3⟩
 |panic v=>exact hq
 |exit id=>exact hq
def bC.dL (r:bC):Bool:=match r.op with|.wG _|.EW _=>false|_=>true
def bV.dL:bV->Bool
 |.ops rl=>rl.all bC.dL
 |.seq a b|.cond _ a b=>a.dL&&b.dL
 |.block _ a|.loop a=>a.dL
 |_=>true
theorem YN {rl:List bC} (hd:rl.all bC.dL=true):∀{s:List AV} {ds:List fY} {H:aA} {Q:AQ},tW P g rl s ds H Q->
 ∃ae s' fC H',Q ae s' fC H'/\tW P g rl s ds H (fun e s d h=>e=ae/\s=s'/\d=fC/\h=H'):=by
 induction rl with
 |nil=>exact fun {s ds H Q} h=>⟨.normal,s,ds,H,h,rfl,rfl,rfl,rfl⟩
 |cons o r ih=>
  intro s ds H Q h;simp only[Ik,Am] at hd;have ih:=fun {s ds H Q}=> @ih hd.2 s ds H Q;unfold tW at h ⊢;by_cases hw:bH s o=true
  · simp only[hw,if_true] at h ⊢;split at h
    · obtain⟨out,H',h1,h3⟩:=h
      cases out with
      |ret v=>obtain⟨ae,s',fC,H1,q,hA⟩:=ih h3;exact⟨ae,s',fC,H1,q,.ret v,H',h1,hA⟩
      |CD v=>exact⟨.panic v,s,ds,H',h3,.CD v,H',h1,rfl,rfl,rfl,rfl⟩
    · obtain⟨t,v,h1,h2⟩:=h;exact⟨_,s,ds,H,h2,t,v,h1,rfl,rfl,rfl,rfl⟩
    · obtain⟨p,h1,h2⟩:=h;obtain⟨ae,s',fC,H1,q,hA⟩:=ih h2;exact⟨ae,s',fC,H1,q,p,h1,hA⟩
    · rename_i x fF;simp[bC.dL,fF] at hd
    · rename_i x fF;simp[bC.dL,fF] at hd
    · obtain⟨it,m,mb,c,seen,es,bs,j,h1,h2,h3,h4,h5⟩:=h;obtain⟨ae,s',fC,H1,q,hA⟩:=ih h5;exact⟨ae,s',fC,H1,q,it,m,mb,c,seen,es,bs,j,h1,h2,h3,h4,hA⟩
    obtain⟨v,H',h1,h2⟩:=h;obtain⟨ae,s',fC,H1,q,hA⟩:=ih h2;exact⟨ae,s',fC,H1,q,v,H',h1,hA⟩
  simp only[hw] at h ⊢;exact ih h
theorem kg {pairs:List (Nat×Nat)} {base:Nat} {rl:List bC}:∀{i k:Nat} {rd:List (Nat×Nat)} {ef:List (Nat×aA×aA)} {s:List AV} {H:aA} {Q:List AV->aA->Prop},
 VQ P g pairs base i k rl rd ef s H Q->∃s' H',Q s' H'/\VQ P g pairs base i k rl rd ef s H (fun s h=>s=s'/\h=H'):=by
 induction rl with
 |nil=>exact fun {i k rd ef s H Q} h=>⟨s,H,h,rfl,rfl⟩
 |cons r rs ih=>
  intro i k rd ef s H Q h;unfold VQ at h ⊢;by_cases hw:bH s r=true
  · simp only[hw,if_true] at h ⊢;by_cases hf:r.op.fresh=true
    · simp only[hf,if_true] at h ⊢;obtain⟨ob,val,h1,h2,h3⟩:=h;obtain⟨s',H',q,hA⟩:=ih h3;exact⟨s',H',q,ob,val,h1,h2,hA⟩
    simp only[hf] at h ⊢;by_cases he:r.op.qE=true
    · simp only[he,if_true] at h ⊢;obtain⟨v,H1,h1,h2,h3,h4⟩:=h;obtain⟨s',H',q,hA⟩:=ih h4;exact⟨s',H',q,v,H1,h1,h2,h3,hA⟩
    simp only[he] at h ⊢;obtain⟨v,h1,h2,h3⟩:=h;obtain⟨s',H',q,hA⟩:=ih h3;exact⟨s',H',q,v,h1,h2,hA⟩
  simp only[hw] at h ⊢;exact ih h
theorem HK {c:bV} (hd:c.dL=true):∀{s:List AV} {ds:List fY} {H:aA} {Q:AQ},AC P g c s ds H Q->
 ∃ae s' fC H',Q ae s' fC H'/\AC P g c s ds H (fun e s d h=>e=ae/\s=s'/\d=fC/\h=H'):=by
 induction c with
 |skip=>exact fun {s ds H Q} h=>⟨.normal,s,ds,H,h,rfl,rfl,rfl,rfl⟩
 |ops rl=>exact fun h=>YN hd h
 |draw rl pairs=>
  intro s ds H Q h
  rcases h with h|⟨j,Hs,ss,vs,h1,D,r,f,azs,p,x,H1,e1,e2,e3,e4,e5,q⟩
  · obtain⟨s',H',q,hA⟩:=kg h.2;exact⟨.normal,s',ds,H',q,.inl ⟨h.1,VS (fun s H h=>⟨rfl,h.1,rfl,h.2⟩) hA⟩⟩
  exact⟨.panic x,ss j,ds,H1,q,.inr ⟨j,Hs,ss,vs,h1,D,r,f,azs,p,x,H1,e1,e2,e3,e4,e5,rfl,rfl,rfl,rfl⟩⟩
 |seq a b rG uW=>
  simp only[bV.dL,Am] at hd;have rG:=fun {s ds H Q}=> @rG hd.1 s ds H Q;have uW:=fun {s ds H Q}=> @uW hd.2 s ds H Q;intro s ds H Q h;obtain⟨ae,s1,pQ,H1,q,hA⟩:=rG h
  cases ae with
  |normal=>obtain⟨ae2,s2,RD,H2,q2,hB⟩:=uW q;refine⟨ae2,s2,RD,H2,q2,?_⟩;show AC P g a s ds H _;refine eW (fun e s d h hh=>?_) hA;obtain⟨rfl,rfl,rfl,rfl⟩:=hh;exact hB
  |_=>refine⟨_,s1,pQ,H1,q,?_⟩;show AC P g a s ds H _;refine eW (fun e s d h hh=>?_) hA;obtain⟨rfl,rfl,rfl,rfl⟩:=hh;exact⟨rfl,rfl,rfl,rfl⟩
 |cond c a b rG uW=>
  simp only[bV.dL,Am] at hd;have rG:=fun {s ds H Q}=> @rG hd.1 s ds H Q;have uW:=fun {s ds H Q}=> @uW hd.2 s ds H Q;intro s ds H Q h;obtain⟨t,h1,h2⟩:=h
  cases t with
  |true=>obtain⟨ae,s1,pQ,H1,q,hA⟩:=rG h2;exact⟨ae,s1,pQ,H1,q,true,h1,hA⟩
  |false=>obtain⟨ae,s1,pQ,H1,q,hA⟩:=uW h2;exact⟨ae,s1,pQ,H1,q,false,h1,hA⟩
 |block id a ih=>
  have ih:=fun {s ds H Q}=> @ih hd s ds H Q;intro s ds H Q h;obtain⟨ae,s1,pQ,H1,q,hA⟩:=ih h
  have other:∀e,(∀i,e≠ .exit i)->Q e s1 pQ H1->AC P g a s ds H (fun e' s d h=>e'=e/\s=s1/\d=pQ/\h=H1)->
   ∃ae s' fC H',Q ae s' fC H'/\AC P g (.block id a) s ds H (fun e s d h=>e=ae/\s=s'/\d=fC/\h=H'):=fun e bN hq hA=>by
   refine⟨e,s1,pQ,H1,hq,?_⟩;show AC P g a s ds H _;refine eW (fun e' s d h hh=>?_) hA;obtain⟨rfl,rfl,rfl,rfl⟩:=hh
   cases e' with
   |exit i=>exact absurd rfl (bN i)
   |_=>exact⟨rfl,rfl,rfl,rfl⟩
  cases ae with
  |exit i=>
   simp only[pS] at q;by_cases hi:i=id
   · rw[if_pos hi] at q;refine⟨.normal,s1,pQ,H1,q,?_⟩;show AC P g a s ds H _;refine eW (fun e s d h hh=>?_) hA;obtain⟨rfl,rfl,rfl,rfl⟩:=hh;simp only[pS];rw[if_pos hi]
     first|exact⟨rfl,rfl,rfl,rfl⟩|simp
   rw[if_neg hi] at q;refine⟨.exit i,s1,pQ,H1,q,?_⟩;show AC P g a s ds H _;refine eW (fun e s d h hh=>?_) hA;obtain⟨rfl,rfl,rfl,rfl⟩:=hh;simp only[pS];rw[if_neg hi]
   first|exact⟨rfl,rfl,rfl,rfl⟩|simp
  |normal=>exact other _ (fun i hh=>by cases hh) q hA
  |ret=>exact other _ (fun i hh=>by cases hh) q hA
  |panic v=>exact other _ (fun i hh=>by cases hh) q hA
 |loop a ih=>
  have ih:=fun {s ds H Q}=> @ih hd s ds H Q;intro s ds H Q h;obtain⟨I,m,h0,hI⟩:=h
  have key:∀(m:Nat) (s:List AV) (ds:List fY) (H:aA),I m s ds H->
   ∃ae s' fC H',Q ae s' fC H'/\AC P g (.loop a) s ds H (fun e s d h=>e=ae/\s=s'/\d=fC/\h=H'):=by
   intro m
   induction m using Nat.strongRecOn with
   |_ m ihm=>
    intro s ds H hi;obtain⟨ae,s1,pQ,H1,q,hA⟩:=ih (hI m s ds H hi)
    have once:∀e,e≠ .normal->Q e s1 pQ H1->AC P g a s ds H (fun e' s d h=>e'=e/\s=s1/\d=pQ/\h=H1)->
     ∃ae s' fC H',Q ae s' fC H'/\AC P g (.loop a) s ds H (fun e s d h=>e=ae/\s=s'/\d=fC/\h=H'):=fun e bN hq hA=>by
     refine⟨e,s1,pQ,H1,hq,fun k s' d' h'=>s'=s/\d'=ds/\h'=H,0,⟨rfl,rfl,rfl⟩,?_⟩;rintro k _ _ _ ⟨rfl,rfl,rfl⟩;refine eW (fun e' s d h hh=>?_) hA;obtain⟨rfl,rfl,rfl,rfl⟩:=hh
     cases e' with
     |normal=>exact absurd rfl bN
     |_=>exact⟨rfl,rfl,rfl,rfl⟩
    cases ae with
    |normal=>
     obtain⟨k,hk,VJ⟩:=q;obtain⟨ae2,s2,RD,H2,q2,J,j,hj,hJ⟩:=ihm k hk s1 pQ H1 VJ;refine⟨ae2,s2,RD,H2,q2,fun x s' d' h'=>J x s' d' h'\/(x=j+1/\s'=s/\d'=ds/\h'=H),j+1,.inr ⟨rfl,rfl,rfl,rfl⟩,?_⟩;rintro x s' d' h' (hx|⟨rfl,rfl,rfl,rfl⟩)
     · refine eW (fun e s d h hh=>?_) (hJ x s' d' h' hx)
       cases e with
       |normal=>obtain⟨y,hy,hyy⟩:=hh;exact⟨y,hy,.inl hyy⟩
       |_=>exact hh
     refine eW (fun e s d h hh=>?_) hA;obtain⟨rfl,rfl,rfl,rfl⟩:=hh;exact⟨j,Ew j,.inl hj⟩
    |exit i=>exact once _ (fun hh=>by cases hh) q hA
    |ret=>exact once _ (fun hh=>by cases hh) q hA
    |panic v=>exact once _ (fun hh=>by cases hh) q hA
  exact key m s ds H h0
 |exit id=>exact fun {s ds H Q} h=>⟨_,s,ds,H,h,rfl,rfl,rfl,rfl⟩
 |ret=>exact fun {s ds H Q} h=>⟨_,s,ds,H,h,rfl,rfl,rfl,rfl⟩
 |oE c ps a b rG uW=>
  intro s ds H Q h;obtain⟨fid,fs,cs,v,He,k',s',st,Hf,h1,h2,h3,h4,h5⟩:=h
  cases st with
  |ready=>exact⟨_,_,_,Hf,h5,fid,fs,cs,v,He,k',s',.ready,Hf,h1,h2,h3,h4,rfl,rfl,rfl,rfl⟩
  |done e=>cases e<;>exact⟨_,_,_,Hf,h5,fid,fs,cs,v,He,k',s',.done _,Hf,h1,h2,h3,h4,rfl,rfl,rfl,rfl⟩
  |busy=>exact h5.elim
  |over _=>exact h5.elim
theorem gA {mu:Bool} (hm:Fit P g) {f:FuncId} {F:DY} (hF:fN P g mu f F) {args:List AV} (ha:args.length<=F.ntmps) {H:aA} {R:Out->aA->Prop}
 (h:FC P g F.ntmps F.body (dW args) [] H (MA F.results R)) (hdt:F.body.dL=true:=by first|rfl|decide):∃out H',R out H'/\Sound P g f args H out H':=by
 obtain⟨ae,s,ds,H',q,hA⟩:=HK hdt (YL ha h);have fin:∀out,R out H'->AC P g F.body (sW F args) [] H (aJl F fun o h=>o=out/\h=H')->∃out H',R out H'/\Sound P g f args H out H':=fun out hR hA=>⟨out,H',hR,Vh hm hF hA⟩
 cases ae with
 |exit id=>exact q.elim
 |panic v=>refine fin (.CD v) q.2 (eW (fun e s d h hh=>?_) hA);obtain⟨rfl,rfl,rfl,rfl⟩:=hh;exact⟨q.1,rfl,rfl⟩
 |normal=>obtain⟨h1,vs,h2,h3⟩:=q;refine fin _ h3 (eW (fun e s d h hh=>?_) hA);obtain⟨rfl,rfl,rfl,rfl⟩:=hh;exact⟨h1,vs,h2,rfl,rfl⟩
 |ret=>obtain⟨h1,vs,h2,h3⟩:=q;refine fin _ h3 (eW (fun e s d h hh=>?_) hA);obtain⟨rfl,rfl,rfl,rfl⟩:=hh;exact⟨h1,vs,h2,rfl,rfl⟩
end
end
section
theorem dV {a b:Prop} (h1:a->b) (h2:b->a):a=b:=propext ⟨h1,h2⟩
theorem aO {r r':Option (AV×aA)} (h:r=r') (k:AV->aA->Prop):mI r k=mI r' k:=by rw[h]
theorem bP (v:AV) (H:aA) (k:AV->aA->Prop):mI (some (v,H)) k=k v H:=dV id id
section
variable {P:Program} {g:bB} {n:Nat} {r:List bC} {f:cU} {ds:List fY} {H:aA} {Q:FQ}
theorem wR:bL P g n [] f ds H Q=Q .normal f ds H:=dV id id
theorem TR (d:Nat) (op:dX) (hp:op.plain=true) (hd:d<n):
 bL P g n (⟨some d,op,none⟩::r) f ds H Q=mI (dK (mT g f) H op) fun v H'=>bL P g n r (jG f d v) ds H' Q:=by
 have :∀v,fD n f (some d) v=jG f d v:=fun v=>by simp[fD,hd]
 conv=>lhs;unfold bL
 simp only[fJ,if_true,this]
 cases op<;>first|rfl|cases hp
theorem xu (op:dX) (hp:op.plain=true):
 bL P g n (⟨none,op,none⟩::r) f ds H Q=mI (dK (mT g f) H op) fun v H'=>bL P g n r f ds H' Q:=by
 conv=>lhs;unfold bL
 simp only[fJ,if_true,fD]
 cases op<;>first|rfl|cases hp
theorem HQ (d:Nat) (x:Arg) (hd:d<n):bL P g n (⟨some d,(.Ni x),none⟩::r) f ds H Q=mI (dK (mT g f) H (.Ni x)) fun v H'=>bL P g n r (jG f d v) ds H' Q:=TR d _ rfl hd
theorem AO (d:Nat) (o:BinOp) (x y:Arg) (hd:d<n):bL P g n (⟨some d,(.bin o x y),none⟩::r) f ds H Q=mI (dK (mT g f) H (.bin o x y)) fun v H'=>bL P g n r (jG f d v) ds H' Q:=TR d _ rfl hd
theorem kr {d:Nat} {fid:FuncId} {azs:List Arg} {args:List AV} {v:AV} {H':aA} (hd:d<n) (ha:azs.map (mT g f)=args) (hS:Sound P g fid args H (.ret v) H')
 (h:bL P g n r (jG f d v) ds H' Q):bL P g n (⟨some d,.call (.const (.func (.func fid) [] [])) azs,none⟩::r) f ds H Q:=by
 have :∀v,fD n f (some d) v=jG f d v:=fun v=>by simp[fD,hd]
 unfold bL;simp only[fJ,if_true,this];exact⟨.ret v,H',.inl ⟨(fid,[],[]),rfl,by simpa [ha] using hS⟩,h⟩
theorem Ny {d:Nat} {c:Arg} {fid:FuncId} {fs cs:List AV} {azs:List Arg} {args:List AV} {v:AV} {H':aA} (hd:d<n) (hc:mT g f c=.func (.func fid) fs cs) (ha:fs++azs.map (mT g f)++cs=args)
 (hS:Sound P g fid args H (.ret v) H') (h:bL P g n r (jG f d v) ds H' Q):bL P g n (⟨some d,.call c azs,none⟩::r) f ds H Q:=by
 have :∀v,fD n f (some d) v=jG f d v:=fun v=>by simp[fD,hd]
 unfold bL;simp only[fJ,if_true,this];exact⟨.ret v,H',.inl ⟨(fid,fs,cs),by rw[hc];rfl,by rw[ha];exact hS⟩,h⟩
theorem jD (t:Nat):mT g f (.tmp t)=f t:=by cases h:f t<;>exact h
theorem wZ (v:AV):mT g f (.const v)=v:=by cases v<;>rfl
theorem KY (rl:List bC):FC P g n (.ops rl) f ds H Q=bL P g n rl f ds H Q:=dV id id
theorem NY:FC P g n .skip f ds H Q=Q .normal f ds H:=dV id id
theorem aMp:FC P g n .ret f ds H Q=Q .ret f ds H:=dV id id
theorem NW (id:Nat):FC P g n (.exit id) f ds H Q=Q (.exit id) f ds H:=dV (fun h=>h) (fun h=>h)
theorem aJ {a b:bV} (h:∀K:cU->List fY->aA->Prop,(∀f ds H,FC P g n b f ds H Q->K f ds H)->FC P g n a f ds H (gC K Q)):FC P g n (.seq a b) f ds H Q:=h _ fun _ _ _ h=>h
theorem aH {id:Nat} {a:bV} (h:FC P g n a f ds H (dO id Q)):FC P g n (.block id a) f ds H Q:=h
theorem CU {c:Arg} {a b:bV} (t:Bool) (hc:mT g f c=.bool t) (h1:t=true->FC P g n a f ds H Q) (h2:t=false->FC P g n b f ds H Q):FC P g n (.cond c a b) f ds H Q:=by
 refine⟨t,hc,?_⟩
 cases t with
 |true=>exact h1 rfl
 |false=>exact h2 rfl
theorem TQ {a:bV} (I:Nat->cU->List fY->aA->Prop) (m:Nat) (h0:I m f ds H) (h:∀m f ds H,I m f ds H->FC P g n a f ds H (gC (fun f ds H=>∃k,k<m/\I k f ds H) Q)):FC P g n (.loop a) f ds H Q:=⟨I,m,h0,h⟩
theorem fW (K:cU->List fY->aA->Prop):gC K Q .normal f ds H=K f ds H:=dV id id
theorem ve (K:cU->List fY->aA->Prop):gC K Q .ret f ds H=Q .ret f ds H:=dV id id
theorem oK (K:cU->List fY->aA->Prop) (i:Nat):gC K Q (.exit i) f ds H=Q (.exit i) f ds H:=dV id id
theorem NQ (i:Nat):dO i Q .normal f ds H=Q .normal f ds H:=dV id id
theorem UE (i:Nat):dO i Q .ret f ds H=Q .ret f ds H:=dV id id
theorem rH (i:Nat):dO i Q (.exit i) f ds H=Q .normal f ds H:=by simp[dO]
theorem PI (i j:Nat) (h:j≠i):dO i Q (.exit j) f ds H=Q (.exit j) f ds H:=by simp[dO,h]
end
class Pl (op:dX):Prop where h:op.plain=true
instance (x:Arg):Pl (.Ni x):=⟨rfl⟩
instance (c a b:Arg):Pl (.pick c a b):=⟨rfl⟩
instance (z:List AV):Pl (.alloc z):=⟨rfl⟩
instance (x:Arg):Pl (.box x):=⟨rfl⟩
instance (z:List AV) (ps:List (Nat×Nat×Arg)):Pl (.build z ps):=⟨rfl⟩
instance (sz:Nat) (xs:List Arg):Pl (.Pg sz xs):=⟨rfl⟩
instance (agg:Bool) (m:Nat) (a:Arg):Pl (.load agg m a):=⟨rfl⟩
instance (m:Nat) (a x:Arg):Pl (.store m a x):=⟨rfl⟩
instance (o:BinOp) (x y:Arg):Pl (.bin o x y):=⟨rfl⟩
instance (neg:Bool) (x y:Arg):Pl (.eqb neg x y):=⟨rfl⟩
instance (neg:Bool) (sh:List Sk) (x y:Arg):Pl (.eqf neg sh x y):=⟨rfl⟩
instance (neg:Bool) (k:Nk) (lit:Bool) (x y:Arg):Pl (.eqn neg k lit x y):=⟨rfl⟩
instance (o:UnOp) (x:Arg):Pl (.un o x):=⟨rfl⟩
instance (k:IntKind) (x:Arg):Pl (.OZ k x):=⟨rfl⟩
instance (x:Arg):Pl (.CO x):=⟨rfl⟩
instance (x:Arg):Pl (.EL x):=⟨rfl⟩
instance (m:Nat) (x:Arg):Pl (.cj m x):=⟨rfl⟩
instance (t:TypeId) (x:Arg):Pl (.Zr t x):=⟨rfl⟩
instance (fn:Fn) (a b:List Arg):Pl (.Zq fn a b):=⟨rfl⟩
instance:Pl (.AF):=⟨rfl⟩
instance (sz bytes:Nat) (z:List AV) (l c:Arg):Pl (.jE sz bytes z l c):=⟨rfl⟩
instance (x:Arg) (lo hi:Option Arg):Pl (.QQ x lo hi):=⟨rfl⟩
instance (sz:Nat) (x:Arg) (lo hi mx:Option Arg):Pl (.cm sz x lo hi mx):=⟨rfl⟩
instance (m sz:Nat) (x:Arg) (lo hi mx:Option Arg):Pl (.FD m sz x lo hi mx):=⟨rfl⟩
instance (off:Nat) (x:Arg):Pl (.ZD off x):=⟨rfl⟩
instance (arr:Option Nat) (sz:Nat) (x i:Arg):Pl (.UD arr sz x i):=⟨rfl⟩
instance (m sz:Nat) (agg:Bool) (x i:Arg):Pl (.idx m sz agg x i):=⟨rfl⟩
instance (x i:Arg):Pl (.idxs x i):=⟨rfl⟩
instance (t:TypeId) (ok:Bool) (z:AV) (x:Arg):Pl (.cy t ok z x):=⟨rfl⟩
instance (x:Arg) (i:Nat):Pl (.ZB x i):=⟨rfl⟩
instance (x:Arg):Pl (.lens x):=⟨rfl⟩
instance (x:Arg):Pl (.Zi x):=⟨rfl⟩
instance (x y:Arg):Pl (.Wy x y):=⟨rfl⟩
instance (x y:Arg):Pl (.XA x y):=⟨rfl⟩
instance (sz bytes:Nat) (mu:Bool) (x y:Arg):Pl (.append sz bytes mu x y):=⟨rfl⟩
instance (k:Sk) (z:AV) (ok:Bool) (x i:Arg):Pl (.lookup k z ok x i):=⟨rfl⟩
instance (k:Sk) (m i v:Arg):Pl (.Pd k m i v):=⟨rfl⟩
instance (sz:Nat) (z:List AV) (x:Arg):Pl (.clr sz z x):=⟨rfl⟩
theorem bDm (P:Program) (g:bB) (n:Nat):
 (∀(r:List bC) (f:cU) (ds:List fY) (H:aA) (Q:FQ) (d:Nat) (op:dX) [Pl op] (hd:d<n),bL P g n (⟨some d,op,none⟩::r) f ds H Q=mI (dK (mT g f) H op) fun v H'=>bL P g n r (jG f d v) ds H' Q)/\
 (∀(r:List bC) (f:cU) (ds:List fY) (H:aA) (Q:FQ) (op:dX) [Pl op],bL P g n (⟨none,op,none⟩::r) f ds H Q=mI (dK (mT g f) H op) fun v H'=>bL P g n r f ds H' Q)/\
 (∀(f:cU) (ds:List fY) (H:aA) (Q:FQ),bL P g n [] f ds H Q=Q .normal f ds H)/\
 (∀(f:cU) (ds:List fY) (H:aA) (Q:FQ) (rl:List bC),FC P g n (.ops rl) f ds H Q=bL P g n rl f ds H Q)/\
 (∀(f:cU) (ds:List fY) (H:aA) (Q:FQ),FC P g n .skip f ds H Q=Q .normal f ds H)/\
 (∀(f:cU) (ds:List fY) (H:aA) (Q:FQ),FC P g n .ret f ds H Q=Q .ret f ds H)/\
 (∀(f:cU) (ds:List fY) (H:aA) (Q:FQ) (id:Nat),FC P g n (.exit id) f ds H Q=Q (.exit id) f ds H):=
 ⟨fun _ _ _ _ _ d op i hd=>TR d op i.h hd,fun _ _ _ _ _ op i=>xu op i.h,fun _ _ _ _=>wR,fun _ _ _ _ rl=>KY rl,fun _ _ _ _=>NY,fun _ _ _ _=>aMp,fun _ _ _ _ id=>NW id⟩
theorem aEn:
 (∀(v:AV) (H:aA) (k:AV->aA->Prop),mI (some (v,H)) k=k v H)/\
 (∀(g:bB) (f:cU) (t:Nat),mT g f (.tmp t)=f t)/\
 (∀(g:bB) (f:cU) (v:AV),mT g f (.const v)=v)/\
 (∀(f:cU) (d:Nat) (v:AV),jG f d v d=v)/\
 (∀(f:cU) (d t:Nat) (v:AV),t≠d->jG f d v t=f t)/\
 (∀(f:cU) (ds:List fY) (H:aA) (Q:FQ) (K:cU->List fY->aA->Prop),gC K Q .normal f ds H=K f ds H)/\
 (∀(f:cU) (ds:List fY) (H:aA) (Q:FQ) (K:cU->List fY->aA->Prop),gC K Q .ret f ds H=Q .ret f ds H)/\
 (∀(f:cU) (ds:List fY) (H:aA) (Q:FQ) (K:cU->List fY->aA->Prop) (i:Nat),gC K Q (.exit i) f ds H=Q (.exit i) f ds H)/\
 (∀(f:cU) (ds:List fY) (H:aA) (Q:FQ) (i:Nat),dO i Q .normal f ds H=Q .normal f ds H)/\
 (∀(f:cU) (ds:List fY) (H:aA) (Q:FQ) (i:Nat),dO i Q .ret f ds H=Q .ret f ds H)/\
 (∀(f:cU) (ds:List fY) (H:aA) (Q:FQ) (i:Nat),dO i Q (.exit i) f ds H=Q .normal f ds H)/\
 (∀(f:cU) (ds:List fY) (H:aA) (Q:FQ) (i j:Nat),j≠i->dO i Q (.exit j) f ds H=Q (.exit j) f ds H):=
 ⟨bP,
   (fun g f t=>jD t),
   (fun g f v=>wZ v),
   sG,
   (fun f d t v h=>oM f v h),
   (fun f ds H Q K=>fW K),
   (fun f ds H Q K=>ve K),
   (fun f ds H Q K i=>oK K i),
   (fun f ds H Q i=>NQ i),
   (fun f ds H Q i=>UE i),
   (fun f ds H Q i=>rH i),
   (fun f ds H Q i j h=>PI i j h)⟩
end
def Own (H:aA) (sz:Nat) (v:AV) (els:List (List AV)):Prop:=
 (v=.aS/\els=[])\/∃k,v=.aV (k+2) sz els/\k<H.next/\H.get k=some .tok
def Xn:AV->Option Nat
 |.aV (k+2) _ _=>some k
 |_=>none
structure aVm (H H':aA) (v:AV):Prop where
 next:H.next<=H'.next
 get:∀id,Xn v≠some id->id<H.next->H'.get id=H.get id
theorem Own.nil (H:aA) (sz:Nat):Own H sz .aS []:=.inl ⟨rfl,rfl⟩
theorem Own.aV {H:aA} {sz k:Nat} {els:List (List AV)} (hk:k<H.next) (h:H.get k=some .tok):Own H sz (.aV (k+2) sz els) els:=.inr ⟨k,rfl,hk,h⟩
theorem Own.fresh (H:aA) (sz:Nat) (els:List (List AV)):Own (H.alloc .tok) sz (.aV (H.next+2) sz els) els:=.aV (by simp) (by rw[aA.aF,if_pos rfl])
theorem Own.alloc {H:aA} {sz:Nat} {v:AV} {els:List (List AV)} (h:Own H sz v els) (o:dY):Own (H.alloc o) sz v els:=by
 rcases h with h|⟨k,h1,h2,h3⟩
 · exact .inl h
 exact .inr ⟨k,h1,by simp;omega,by rw[aA.aF,if_neg (by omega)];exact h3⟩
theorem Own.set {H:aA} {sz:Nat} {v:AV} {els:List (List AV)} (h:Own H sz v els) (id:Nat) (o:dY) (hid:Xn v≠some id):Own (H.set id o) sz v els:=by
 rcases h with h|⟨k,rfl,h2,h3⟩
 · exact .inl h
 refine .inr ⟨k,rfl,h2,?_⟩;rw[aA.aC,if_neg]
 · exact h3
 intro hh;exact hid (by simp[Xn,hh])
theorem Own.append {H:aA} {sz bytes:Nat} {v:AV} {els ys:List (List AV)} (h:Own H sz v els) (hb:(els.length+ys.length)*bytes<=2^40):
 ∃v' H',dU H sz bytes false v ys=some (v',H')/\Own H' sz v' (els++ys)/\aVm H H' v:=by
 by_cases hy:ys=[]
 · subst hy;refine⟨v,H,?_,by rw[Bz];exact h,Ak _,fun _ _ _=>rfl⟩
   rcases h with ⟨rfl,rfl⟩|⟨k,rfl,_,hk⟩<;>rfl
 have bN:ys.isEmpty=false:=by cases ys with
  |nil=>exact absurd rfl hy
  |cons _ _=>rfl
 rcases h with ⟨rfl,rfl⟩|⟨k,rfl,hkn,hk⟩
 · refine⟨.aV (H.next+2) sz ys,H.alloc .tok,?_,.inr ⟨H.next,by simp,by simp,by simp[aA.aF]⟩,by simp,fun id _ hid=>by rw[aA.aF,if_neg (by omega)]⟩;simp only[dU,bN,iO];simp only[Ay,Df] at hb;simp[hb]
 refine⟨.aV (H.next+2) sz (els++ys),(H.set k .dead).alloc .tok,?_,.inr ⟨H.next,rfl,by simp,by simp[aA.aF]⟩,by simp,fun id h1 hid=>?_⟩
 · simp only[dU,bN];simp[hb,hk]
 rw[aA.aF,if_neg (by simp;omega),aA.aC,if_neg];intro hh;exact h1 (by simp[Xn,hh])
def eA (l:List Int):List (List AV):=l.map fun x=>[AV.int .i64 x]
theorem JC (a b:List Int):eA (a++b)=eA a++eA b:=by simp[eA]
theorem dZ (a:List Int):(eA a).length=a.length:=by simp[eA]
theorem IL:∀l,dJ (eA l)=true
 |[]=>rfl
 |x::l=>by simp only[eA,By,dJ,bU,AV.free,Ds,Cq];exact IL l
theorem CV {P:Program} {g:bB} (hg:HT g) {f:FuncId} {args:List AV} (ha:bU args=true) {sz:Nat} {els:List (List AV)} (bN:els≠[]) (hf:dJ els=true)
 (h:∃out H',(∃v,out=.ret v/\Own H' sz v els)/\Sound P g f args ⟨0,.nil⟩ out H') (H:aA):Sound P g f args H (.ret (.aV (H.next+2) sz els)) (H.alloc .tok):=by
 obtain⟨out,H',⟨v,rfl,Lo⟩,hS⟩:=h
 rcases Lo with ⟨_,he⟩|⟨k,rfl,_,hk⟩
 · exact absurd he bN
 refine hS.frame hg ha (tk:=some k) (fun k' rS=>by cases rS;exact hk) (n:=0) H ?_;simp[Out.av,fT,jR,hf,HE]
theorem To (H:aA) (id:Nat) (o:dY):(H.set id o).get id=some o:=by rw[aA.aC,if_pos rfl]
attribute [local congr] aO
theorem wrap_i64 {x:Int} (h0: -2^63<=x) (h1:x<2^63):IntKind.i64.wrap x=x:=by simp only[IntKind.wrap,IntKind.bits,IntKind.signed];simp;split<;>omega
def rangeLoop (id cmp ix ln nx:Nat) (B:bV):bV:=
 .block id (.loop (.seq (.ops [⟨some cmp,.bin .lss (.tmp ix) (.tmp ln),none⟩]) (.seq (.cond (.tmp cmp) .skip (.exit id)) (.seq B
  (.ops [⟨some nx,.bin .add (.tmp ix) (.const (.int .i64 1)),none⟩,⟨some ix,.Ni (.tmp nx),none⟩])))))
theorem xt {P:Program} {g:bB} {n:Nat} {id cmp ix ln nx:Nat} {B:bV} {f:cU} {ds:List fY} {H:aA} {Q:FQ} (J:Nat->cU->aA->Prop) (N:Nat) (hN:(N:Int)<2^63)
 (hs:cmp<n/\ix<n/\nx<n/\cmp≠ix/\cmp≠ln/\nx≠ix/\nx≠ln/\ix≠ln)
 (h1:f ix=.int .i64 0) (h2:f ln=.int .i64 N) (h0:J 0 f H)
 (st:∀(i:Nat) (f:cU) (H:aA) (d:Nat) (v:AV),d=cmp\/d=nx\/d=ix->J i f H->J i (jG f d v) H)
 (body:∀(i:Nat) (f:cU) (H:aA),i<N->f ix=.int .i64 i->f ln=.int .i64 N->J i f H->
   FC P g n B f ds H (gC (fun f' fC H'=>fC=ds/\f' ix=.int .i64 i/\f' ln=.int .i64 N/\J (i+1) f' H') (dO id Q)))
 (done:∀(f:cU) (H:aA),f ln=.int .i64 N->J N f H->Q .normal f ds H):FC P g n (rangeLoop id cmp ix ln nx B) f ds H Q:=by
 obtain⟨s1,s2,s3,s4,s5,s6,s7,s8⟩:=hs;refine aH (TQ (fun m f' fC H'=>fC=ds/\∃i:Nat,i<=N/\m=N -i/\f' ix=.int .i64 i/\f' ln=.int .i64 N/\J i f' H') N ⟨rfl,0,Bb _,by omega,h1,h2,h0⟩ ?_);rintro m f1 pQ H1 ⟨rfl,i,hi,rfl,e1,e2,e3⟩;refine aJ fun K hK=>?_;rw[KY,AO _ _ _ _ s1];simp only[dK,jD,e1,e2,qF,if_true,Bt,bP,wR,fW];apply hK;clear hK K;have st1:=st i f1 H1 cmp (.bool (decide ((i:Int)<N))) (.inl rfl) e3;refine aJ fun K hK=>CU (decide ((i:Int)<N)) (by rw[jD,sG]) (fun ht=>?_) (fun ht=>?_)
 · rw[NY,fW];apply hK;clear hK K;have eQ:i<N:=by have :=Ea ht;omega
   refine aJ fun K hK=>?_;have hb:=body i _ H1 eQ (by rw[oM _ _ (Ne.symm s4)];exact e1) (by rw[oM _ _ (Ne.symm s5)];exact e2) st1;have mono:∀{c:bV} {f:cU} {ds:List fY} {H:aA} {Q Q':FQ},(∀e f ds H,Q e f ds H->Q' e f ds H)->FC P g n c f ds H Q->FC P g n c f ds H Q':=fun {c f ds H Q Q'} hq h=>jB hq h;refine mono (fun e f2 RD H2 h=>?_) hb
   cases e with
   |normal=>
    obtain⟨rfl,b1,b2,b3⟩:=h;show K f2 RD H2;apply hK;rw[KY,AO _ _ _ _ s3];have hw:IntKind.i64.wrap ((i:Int)+1)=((i+1:Nat):Int):=(by rw[wrap_i64 (by omega) (by omega)];rfl);simp only[dK,jD,wZ,b1,qF,if_true,Bt,bP];rw[HQ _ _ s2];simp only[dK,jD,bP,wR,fW,sG,hw];refine⟨N -(i+1),by omega,trivial,i+1,by omega,rfl,rfl,?_,?_⟩
    · rw[oM _ _ (Ne.symm s8),oM _ _ (Ne.symm s7)];exact b2
    exact st _ _ _ _ _ (.inr (.inr rfl)) (st _ _ _ _ _ (.inr (.inl rfl)) b3)
   |_=>exact h
 rw[NW,oK,oK,rH];have Mg:i=N:=by have :=Ek ht;omega
 subst Mg;exact done _ _ (by rw[oM _ _ (Ne.symm s5)];exact e2) st1
theorem l5 (ev:Arg->AV) (H:aA) (zero:List AV):dK ev H (.alloc zero)=some (.ref H.next 0,H.alloc (.cells zero false)):=rfl
def bJf:=And.intro l5 <| And.intro @dK.eq_1 <| And.intro @dK.eq_2 <| And.intro @dK.eq_4 <| And.intro @dK.eq_5 <| And.intro @dK.eq_6 <| And.intro @dK.eq_7 <| And.intro @dK.eq_8 <| And.intro @dK.eq_9 <| And.intro @dK.eq_10 <| And.intro @dK.eq_11 <| And.intro @dK.eq_12 <| And.intro @dK.eq_13 <| And.intro @dK.eq_14 <| And.intro @dK.eq_15 <| And.intro @dK.eq_16 <| And.intro @dK.eq_17 <| And.intro @dK.eq_18 <| And.intro @dK.eq_19 <| And.intro @dK.eq_20 <| And.intro @dK.eq_21 <| And.intro @dK.eq_22 <| And.intro @dK.eq_23 <| And.intro @dK.eq_24 <| And.intro @dK.eq_25 <| And.intro @dK.eq_26 <| And.intro @dK.eq_27 <| And.intro @dK.eq_28 <| And.intro @dK.eq_29 <| And.intro @dK.eq_30 <| And.intro @dK.eq_31 <| And.intro @dK.eq_32 <| And.intro @dK.eq_33 <| And.intro @dK.eq_34 <| And.intro @dK.eq_35 <| And.intro @dK.eq_36 <| And.intro @dK.eq_37 @dK.eq_38
def bJg:=And.intro @qF.eq_1 <| And.intro @qF.eq_2 <| And.intro @qF.eq_3 <| And.intro @qF.eq_4 <| And.intro @qF.eq_5 <| And.intro @qF.eq_6 <| And.intro @qF.eq_7 <| And.intro @qF.eq_8 <| And.intro @qF.eq_9 <| And.intro @qF.eq_10 <| And.intro @qF.eq_11 <| And.intro @qF.eq_12 <| And.intro @qF.eq_13 <| And.intro @qF.eq_14 <| And.intro @qF.eq_15 <| And.intro @qF.eq_16 @qF.eq_17
section
def wV (v:AV) (A B:Prop):Prop:=
 match v with
 |.bool true=>A
 |.bool false=>B
 |_=>False
def iW (v:AV) (b:Bool) (A B:Prop):Prop:=
 match v with
 |.bool c=>if c=b then A else B
 |_=>B
section
variable {P:Program} {g:bB} {n:Nat} {r:List bC} {f:cU} {ds:List fY} {H:aA} {Q:FQ}
theorem VZ (c:Arg) (a b:bV):FC P g n (.cond c a b) f ds H Q=wV (mT g f c) (FC P g n a f ds H Q) (FC P g n b f ds H Q):=by
 refine dV (fun h=>?_) (fun h=>?_)
 · obtain⟨t,h1,h2⟩:=h;rw[h1]
   cases t with
   |true=>exact h2
   |false=>exact h2
 unfold wV at h;split at h
 · rename_i hv;exact⟨true,hv,h⟩
 · rename_i hv;exact⟨false,hv,h⟩
 exact h.elim
theorem yL (A B:Prop):wV (.bool true) A B=A:=dV id id
theorem vG (A B:Prop):wV (.bool false) A B=B:=dV id id
theorem me (p:Prop) [Decidable p] (A B:Prop):wV (.bool (decide p)) A B=((p->A)/\(¬p->B)):=by
 by_cases hp:p
 · simp[hp,yL]
 simp[hp,vG]
theorem mg (b:Bool) (A B:Prop):wV (.bool (!b)) A B=wV (.bool b) B A:=by cases b<;>rfl
theorem aP {v v':AV} (h:v=v') (A B:Prop):wV v A B=wV v' A B:=by rw[h]
theorem aMq (d x:Nat) (b:Bool) (op:dX) (hd:d<n):
 bL P g n (⟨some d,op,some (x,b)⟩::r) f ds H Q=iW (f x) b (bL P g n (⟨some d,op,none⟩::r) f ds H Q) (bL P g n r (jG f d aD) ds H Q):=by
 have :∀v,fD n f (some d) v=jG f d v:=fun v=>by simp[fD,hd]
 conv=>lhs;unfold bL
 conv=>rhs;arg 3;unfold bL
 simp only[fJ,this,if_true];unfold iW
 cases h:f x with
 |bool c=>by_cases hc:c=b<;>simp[hc]
 |_=>simp
theorem om (A B:Prop):iW (.bool true) true A B=A:=dV id id
theorem oh (A B:Prop):iW (.bool false) false A B=A:=dV id id
theorem oj (A B:Prop):iW (.bool true) false A B=B:=dV id id
theorem oi (A B:Prop):iW (.bool false) true A B=B:=dV id id
theorem aN {v v':AV} (h:v=v') (b:Bool) (A B:Prop):iW v b A B=iW v' b A B:=by rw[h]
theorem dc (a b:bV):FC P g n (.seq a b) f ds H Q=FC P g n a f ds H (gC (fun f ds H=>FC P g n b f ds H Q) Q):=dV id id
theorem aY {c:bV} {f':cU} (h:f=f'):FC P g n c f ds H Q=FC P g n c f' ds H Q:=by rw[h]
theorem aR {f':cU} (h:f=f'):bL P g n r f ds H Q=bL P g n r f' ds H Q:=by rw[h]
theorem aQ {K:cU->List fY->aA->Prop} {e:AEx} {f':cU} (h:f=f'):gC K Q e f ds H=gC K Q e f' ds H:=by rw[h]
theorem aI {id:Nat} {e:AEx} {f':cU} (h:f=f'):dO id Q e f ds H=dO id Q e f' ds H:=by rw[h]
end
theorem bDn:
 (∀(P:Program) (g:bB) (n:Nat) (f:cU) (ds:List fY) (H:aA) (Q:FQ) (c:Arg) (a b:bV),FC P g n (.cond c a b) f ds H Q=wV (mT g f c) (FC P g n a f ds H Q) (FC P g n b f ds H Q))/\
 (∀(A B:Prop),wV (.bool true) A B=A)/\
 (∀(A B:Prop),wV (.bool false) A B=B)/\
 (∀(P:Program) (g:bB) (n:Nat) (r:List bC) (f:cU) (ds:List fY) (H:aA) (Q:FQ) (d x:Nat) (b:Bool) (op:dX) (hd:d<n),
   bL P g n (⟨some d,op,some (x,b)⟩::r) f ds H Q=iW (f x) b (bL P g n (⟨some d,op,none⟩::r) f ds H Q) (bL P g n r (jG f d aD) ds H Q))/\
 (∀(A B:Prop),iW (.bool true) true A B=A)/\
 (∀(A B:Prop),iW (.bool false) false A B=A)/\
 (∀(A B:Prop),iW (.bool true) false A B=B)/\
 (∀(A B:Prop),iW (.bool false) true A B=B)/\
 (∀(P:Program) (g:bB) (n:Nat) (f:cU) (ds:List fY) (H:aA) (Q:FQ) (a b:bV),FC P g n (.seq a b) f ds H Q=FC P g n a f ds H (gC (fun f ds H=>FC P g n b f ds H Q) Q)):=
 ⟨fun _ _ _ _ _ _ _ c a b=>VZ c a b,yL,vG,fun _ _ _ _ _ _ _ _ d x b op hd=>aMq d x b op hd,om,oh,oj,oi,fun _ _ _ _ _ _ _ a b=>dc a b⟩
def aHa (id c:Nat) (ts:bV) (B:bV) (st:bV):bV:=
 .block id (.loop (.seq (.seq ts (.cond (.tmp c) .skip (.exit id))) (.seq B st)))
theorem aMo {P:Program} {g:bB} {n:Nat} {id c:Nat} {ts B st:bV} {f:cU} {ds:List fY} {H:aA} {Q:FQ} (J:Nat->cU->aA->Prop) (N:Nat)
 (h0:J 0 f H)
 (test:∀(i:Nat) (f:cU) (H:aA),i<=N->J i f H->∀(K:cU->Prop),(∀f',f' c=.bool (decide (i<N))->J i f' H->K f')->∀Q':FQ,FC P g n ts f ds H (gC (fun f' fC H'=>fC=ds/\H'=H/\K f') Q'))
 (body:∀(i:Nat) (f:cU) (H:aA),i<N->J i f H->
   FC P g n B f ds H (gC (fun f' fC H'=>fC=ds/\FC P g n st f' ds H' (gC (fun f' fC H'=>fC=ds/\J (i+1) f' H') (dO id Q))) (dO id Q)))
 (done:∀(f:cU) (H:aA),J N f H->Q .normal f ds H):FC P g n (aHa id c ts B st) f ds H Q:=by
 have mono:∀{c:bV} {f:cU} {ds:List fY} {H:aA} {Q Q':FQ},(∀e f ds H,Q e f ds H->Q' e f ds H)->FC P g n c f ds H Q->FC P g n c f ds H Q':=fun {c f ds H Q Q'} hq h=>jB hq h;refine aH (TQ (fun m f' fC H'=>fC=ds/\∃i:Nat,i<=N/\m=N -i/\J i f' H') N ⟨rfl,0,Bb _,by omega,h0⟩ ?_);rintro m f1 pQ H1 ⟨rfl,i,hi,rfl,e3⟩;refine aJ fun K hK=>?_;refine aJ fun K2 cK=>?_;refine mono (fun e f2 RD H2 h=>?_) (test i f1 H1 hi e3 (fun f'=>K2 f' pQ H1) (fun f' h1 h2=>?_) (gC K (dO id Q) |> fun Z=>Z))
 · cases e with
   |normal=>obtain⟨rfl,rfl,h⟩:=h;exact h
   |_=>exact h
 apply cK;rw[VZ,jD,h1];by_cases eQ:i<N
 · rw[Al eQ,yL,NY,fW];apply hK;refine aJ fun K3 EB=>?_;refine mono (fun e f2 RD H2 h=>?_) (body i f' H1 eQ h2)
   cases e with
   |normal=>
    obtain⟨rfl,h⟩:=h;show K3 f2 RD H2;apply EB;refine mono (fun e f3 ds3 H3 hh=>?_) h
    cases e with
    |normal=>obtain⟨h5,h6⟩:=hh;exact⟨N -(i+1),by omega,h5,i+1,by omega,rfl,h6⟩
    |_=>exact hh
   |_=>exact h
 rw[Ae eQ,vG,NW,oK,oK,rH];obtain rfl:i=N:=by omega
 exact done f' H1 h2
theorem VR.yB {G:Gh} {w:World} {tag sz:Nat} {els:List (List AV)} {u:Value} (h:VR G w (.aV tag sz els) u):VR G w (.aV 0 sz els) u:=by
 cases h with
 |aV _ _ _ b o cap us hu h hv ht=>exact .aV 0 sz els b o cap us hu h hv ⟨ht.1,trivial⟩
 |vA _ _ b o s ht=>exact .vA _ _ b o s (by omega)
theorem Sound.yB {P:Program} {g:bB} {f:FuncId} {sz:Nat} {els:List (List AV)} {rest:List AV} {H H':aA} {out:Out} (h:Sound P g f (.aV 0 sz els::rest) H out H') (tag:Nat):
 Sound P g f (.aV tag sz els::rest) H out H':=by
 refine⟨h.1,fun G w vs hw hv=>h.2 G w vs hw ⟨hv.1,fun j hj=>?_⟩⟩;have :=hv.2 j hj
 cases j with
 |zero=>exact VR.yB this
 |succ j=>exact this
def pF (H:aA) (sz:Nat) (v:AV) (els:List (List AV)):Prop:=Own H sz v els/\(els=[]->v=.aS)
theorem pF.nil (H:aA) (sz:Nat):pF H sz .aS []:=⟨.nil H sz,fun _=>rfl⟩
theorem pF.alloc {H:aA} {sz:Nat} {v:AV} {els:List (List AV)} (h:pF H sz v els) (o:dY):pF (H.alloc o) sz v els:=⟨h.1.alloc o,h.2⟩
theorem pF.append {H:aA} {sz bytes:Nat} {v:AV} {els:List (List AV)} {e:List AV} (h:pF H sz v els) (hb:(els.length+1)*bytes<=2^40):
 ∃v' H',dU H sz bytes false v [e]=some (v',H')/\pF H' sz v' (els++[e])/\aVm H H' v:=by
 obtain⟨v',H',h1,h2,h3⟩:=h.1.append (bytes:=bytes) (ys:=[e]) (by simpa using hb);exact⟨v',H',h1,⟨h2,fun he=>by simp at he⟩,h3⟩
def bDd (H:aA) (sz:Nat) (els:List (List AV)):AV:=if els=[] then .aS else .aV (H.next+2) sz els
def bDc (H:aA) (els:List (List AV)):aA:=if els=[] then H else H.alloc .tok
theorem pF.out (H:aA) (sz:Nat) (els:List (List AV)):pF (bDc H els) sz (bDd H sz els) els:=by
 unfold bDc bDd;by_cases h:els=[]
 · subst h;exact pF.nil _ _
 rw[if_neg h,if_neg h];exact⟨Own.fresh _ _ _,fun he=>absurd he h⟩
theorem GY (tag sz:Nat) {els:List (List AV)} {a:Nat} (ha:a<=els.length):∃bDq,(tag<2->bDq<2)/\iY sz (.aV tag sz els) (some a) none none=some (.aV bDq sz (els.drop a)):=by
 simp only[iY,Bc,Dg];rw[if_pos ⟨trivial,ha,Ak _⟩];by_cases h:a<els.length\/tag<2
 · rw[if_pos ⟨trivial,h⟩];exact⟨tag,id,rfl⟩
 rw[if_neg (by simp[h])];refine⟨0,fun _=>by omega,?_⟩;rw[Bk (by simp)]
theorem bJi:
 (∀{α:Type} (a b:α),(a≠b)=¬(a=b))/\((¬False)=True)/\(∀{α:Type} {_:Decidable True} (a b:α),(if True then a else b)=a)/\((false=true)=False)/\
 (∀{α:Type} {_:Decidable False} (a b:α),(if False then a else b)=b)/\(∀{α β:Type} (f:α->β) (a:α),Option.map f (some a)=some (f a))/\(∀{α:Type} (a:α) (l:List α),(a::l).length=l.length+1)/\
 (∀{α:Type},([]:List α).length=0)/\(∀n:Nat,0+n=n)/\(∀{α:Type} (a d:α) (l:List α),(a::l).getD 0 d=a)/\(∀{α:Type} (a d:α) (l:List α) (n:Nat),(a::l).getD (n+1) d=l.getD n d)/\
 (∀p:Prop,(p/\p)=p)/\(∀n:Nat,(n<=n)=True)/\(∀(p:Prop) [Decidable p] (A B:Prop),wV (.bool (decide p)) A B=((p->A)/\(¬p->B))):=
 ⟨fun a b=>ne_eq a b,Is,fun a b=>if_true a b,Bj,fun a b=>Cm a b,fun f a=>rfl,fun a l=>rfl,rfl,Df,fun _ _ _=>rfl,fun _ _ _ _=>rfl,and_self,fun n=>eq_true (Ak n),fun p _ A B=>me p A B⟩
def sy:=And.intro aEn (And.intro bDn (And.intro bJf (And.intro bJg bJi)))
theorem sn:(∀n:Nat,n*1=n)/\(∀n:Nat,1*n=n)/\(∀n:Nat,0*n=0)/\(∀n:Nat,n -0=n)/\(∀n:Nat,n+0=n)/\(∀n:Nat,0+n=n):=
 ⟨Dl,Gq,Ic,Ie,Di,Df⟩
theorem sh:(∀n m:Nat,aA.get ⟨n,.nil⟩ m=none)/\(∀(H:aA) (o:dY) (i:Nat),(H.alloc o).get i=if i=H.next then some o else H.get i)/\(∀(H:aA) (j:Nat) (o:dY) (i:Nat),(H.set j o).get i=if i=j then some o else H.get i)/\
 (∀(H:aA) (o:dY),(H.alloc o).next=H.next+1)/\(∀(H:aA) (j:Nat) (o:dY),(H.set j o).next=H.next)/\(∀n:Nat,0+n=n)/\
 (∀{α:Type} {_:Decidable True} (a b:α),(if True then a else b)=a)/\(∀{α:Type} {_:Decidable False} (a b:α),(if False then a else b)=b):=
 ⟨fun _ _=>rfl,fun _ _ _=>aA.aF ..,fun _ _ _ _=>aA.aC ..,fun _ _=>aA.bJ ..,fun _ _ _=>aA.aX ..,Df,fun a b=>if_true a b,fun a b=>Cm a b⟩
theorem sl:
 (∀{α:Type} (a:α) (l:List α) (n:Nat),(a::l).take (n+1)=a::l.take n)/\(∀{α:Type} (a:α) (l:List α) (n:Nat),(a::l).drop (n+1)=l.drop n)/\(∀{α:Type} (l:List α),l.take 0=[])/\(∀{α:Type} (l:List α),l.drop 0=l)/\
 (∀{α:Type} (n:Nat),([]:List α).take n=[])/\(∀{α:Type} (n:Nat),([]:List α).drop n=[])/\(∀{α:Type} (a:α) (l m:List α),a::l++m=a::(l++m))/\(∀{α:Type} (l:List α),[]++l=l)/\(∀{α:Type} (l:List α),l++[]=l)/\
 (∀{α β:Type} (f:α->β) (a:α) (l:List α),(a::l).map f=f a::l.map f)/\(∀{α β:Type} (f:α->β),[].map f=[])/\(∀{α:Type} (a d:α) (l:List α),(a::l).getD 0 d=a)/\
 (∀{α:Type} (a d:α) (l:List α) (n:Nat),(a::l).getD (n+1) d=l.getD n d)/\(∀{α:Type} (a b:α) (l:List α),(a::l).set 0 b=b::l)/\(∀{α:Type} (a b:α) (l:List α) (n:Nat),(a::l).set (n+1) b=a::l.set n b):=
 ⟨fun _ _ _=>rfl,fun _ _ _=>rfl,fun l=>Eb,fun _=>rfl,fun n=>List.take_nil,fun n=>Li,fun _ _ _=>rfl,fun _=>rfl,fun l=>Bz l,fun _ _ _=>rfl,fun _=>rfl,fun _ _ _=>rfl,fun _ _ _ _=>rfl,fun _ _ _=>rfl,fun _ _ _ _=>rfl⟩
theorem sm:(∀{α β:Type} (f:α->β) (a:α) (l:List α),(a::l).map f=f a::l.map f)/\(∀{α β:Type} (f:α->β),[].map f=[])/\(∀{α:Type} (a b:α),(a≠b)=¬(a=b))/\((¬False)=True)/\
 (∀{α:Type} (a d:α) (l:List α),(a::l).getD 0 d=a)/\(∀{α:Type} (a d:α) (l:List α) (n:Nat),(a::l).getD (n+1) d=l.getD n d):=
 ⟨fun _ _ _=>rfl,fun _=>rfl,fun a b=>ne_eq a b,Is,fun _ _ _=>rfl,fun _ _ _ _=>rfl⟩
end
end Go.Av
