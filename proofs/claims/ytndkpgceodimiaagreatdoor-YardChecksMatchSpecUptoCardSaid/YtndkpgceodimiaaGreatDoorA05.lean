/-
  Part of the proof of statement 10
-/
import Derived.Test.YtndkpgceodimiaaGreatDoorA04
import Derived.Recover
set_option linter.unusedVariables false
set_option linter.unusedSimpArgs false
set_option linter.unusedSectionVars false
set_option linter.defProp false
namespace Go.Av
open Go
section
inductive VT where
 |nil
 |node (v:AV) (l r:VT)
def VT.get:VT->Nat->AV
 |.nil,_=>aD
 |.node v l r,n=>match n with
  |0=>v
  |m+1=>match Nat.beq (Nat.mod m 2) 0 with
   |true=>l.get (Nat.div m 2)
   |false=>r.get (Nat.div m 2)
def VT.root:VT->AV
 |.nil=>aD
 |.node v _ _=>v
def VT.left:VT->VT
 |.nil=>.nil
 |.node _ l _=>l
def VT.right:VT->VT
 |.nil=>.nil
 |.node _ _ r=>r
def VT.BI:Nat->VT->Nat->AV->VT
 |0,t,_,v=>.node v t.left t.right
 |f+1,t,n,v=>match n with
  |0=>.node v t.left t.right
  |m+1=>match Nat.beq (Nat.mod m 2) 0 with
   |true=>.node t.root (VT.BI f t.left (Nat.div m 2) v) t.right
   |false=>.node t.root t.left (VT.BI f t.right (Nat.div m 2) v)
theorem VT.HU (t:VT):t.get 0=t.root:=by cases t<;>rfl
theorem VT.wL (t:VT) (m:Nat):t.get (m+1)=if Nat.beq (Nat.mod m 2) 0=true then t.left.get (Nat.div m 2) else t.right.get (Nat.div m 2):=by
 cases t with
 |nil=>simp[VT.get,VT.left,VT.right]
 |node v l r=>simp only[VT.get,VT.left,VT.right];cases Nat.beq (Nat.mod m 2) 0<;>rfl
theorem VB {m k:Nat} (h1:Nat.beq (Nat.mod m 2) 0=Nat.beq (Nat.mod k 2) 0) (h2:Nat.div m 2=Nat.div k 2):m=k:=by
 have a1:m%2=Nat.mod m 2:=rfl;have a2:k%2=Nat.mod k 2:=rfl;have a3:m / 2=Nat.div m 2:=rfl;have a4:k / 2=Nat.div k 2:=rfl
 have h4:m%2=0↔k%2=0:=by
  constructor
  · intro h;refine Bh (?_:Nat.beq (Nat.mod k 2) 0=true);rw[<-h1];show Nat.beq (m%2) 0=true;rw[h];rfl
  intro h;refine Bh (?_:Nat.beq (Nat.mod m 2) 0=true);rw[h1];show Nat.beq (k%2) 0=true;rw[h];rfl
 omega
theorem VT.HT:∀(f:Nat) (t:VT) (n:Nat) (v:AV) (m:Nat),n<=f->(VT.BI f t n v).get m=if m=n then v else t.get m:=by
 intro f
 induction f with
 |zero=>
  intro t n v m hn;obtain rfl:n=0:=by omega
  cases m with
  |zero=>simp[VT.BI,VT.HU,VT.root]
  |succ m=>simp[VT.BI,VT.wL,VT.left,VT.right]
 |succ f ih=>
  intro t n v m hn
  cases n with
  |zero=>
   cases m with
   |zero=>simp[VT.BI,VT.HU,VT.root]
   |succ m=>simp[VT.BI,VT.wL,VT.left,VT.right]
  |succ n=>
   have hd:Nat.div n 2<=f:=Cb (Jr n 2) (by omega)
   cases hb:Nat.beq (Nat.mod n 2) 0 with
   |true=>
    simp only[VT.BI,hb]
    cases m with
    |zero=>simp[VT.HU,VT.root]
    |succ m=>
     rw[VT.wL,VT.wL];simp only[VT.left,VT.right]
     cases wu:Nat.beq (Nat.mod m 2) 0 with
     |true=>
      simp only[if_true];rw[ih _ _ _ _ hd];by_cases he:Nat.div m 2=Nat.div n 2
      · rw[if_pos he,if_pos];rw[VB (by rw[hb,wu]) he]
      rw[if_neg he,if_neg];intro hh;apply he;rw[Nat.succ.inj hh]
     |false=>simp only[Be,Cm];rw[if_neg];intro hh;rw[Nat.succ.inj hh,hb] at wu;cases wu
   |false=>
    simp only[VT.BI,hb]
    cases m with
    |zero=>simp[VT.HU,VT.root]
    |succ m=>
     rw[VT.wL,VT.wL];simp only[VT.left,VT.right]
     cases wu:Nat.beq (Nat.mod m 2) 0 with
     |false=>
      simp only[Be,Cm];rw[ih _ _ _ _ hd];by_cases he:Nat.div m 2=Nat.div n 2
      · rw[if_pos he,if_pos];rw[VB (by rw[hb,wu]) he]
      rw[if_neg he,if_neg];intro hh;apply he;rw[Nat.succ.inj hh]
     |true=>simp only[if_true];rw[if_neg];intro hh;rw[Nat.succ.inj hh,hb] at wu;cases wu
def VT.set (t:VT) (n:Nat) (v:AV):VT:=VT.BI n t n v
theorem VT.aC (t:VT) (n:Nat) (v:AV) (m:Nat):(t.set n v).get m=if m=n then v else t.get m:=VT.HT n t n v m (Ak _)
def LQ (n:Nat) (T:VT):List AV:=(List.range n).map T.get
def MF (n:Nat) (T:VT):Prop:=∀t,n<=t->T.get t=aD
def xC (n:Nat) (T:VT) (dst:Option Nat) (v:AV):VT:=
 match dst with
 |none=>T
 |some d=>match Nat.blt d n with
  |true=>T.set d v
  |false=>T
theorem MF.put {n:Nat} {T:VT} (h:MF n T) (dst:Option Nat) (v:AV):MF n (xC n T dst v):=by
 unfold xC;split
 · exact h
 rename_i d
 cases hb:Nat.blt d n with
 |true=>
  intro t ht;rw[VT.aC,if_neg]
  · exact h t ht
  intro hh;have :d<n:=by simpa [Gr] using hb
  omega
 |false=>exact h
theorem PS {n:Nat} {T:VT} (h:MF n T) (t:Nat):(LQ n T).getD t aD=T.get t:=by
 unfold LQ;rw[getD_eq,Cz];by_cases ht:t<n
 · simp[ht]
 rw[h t (by omega)];simp[ht]
theorem qW {n:Nat} {T:VT} (dst:Option Nat) (v:AV):LQ n (xC n T dst v)=mX (LQ n T) dst v:=by
 unfold xC mX
 cases dst with
 |none=>rfl
 |some d=>
  simp only;unfold LQ;apply Fh;intro i;rw[Gy]
  cases hb:Nat.blt d n with
  |true=>
   have hd:d<n:=(by simpa [Gr] using hb);simp only[Cz,Ai,Bp,hd,if_true];by_cases hi:d=i
   · subst hi;simp[hd,VT.aC]
   rw[if_neg hi];by_cases gG:i<n
   · simp[gG,VT.aC,Ne.symm hi]
   simp[gG]
  |false=>
   have hd:¬d<n:=by intro hh;have :Nat.blt d n=true:=(by simpa [Gr] using hh);rw[hb] at this;cases this
   simp only[Cz,Ai,Bp,hd,Cm];by_cases hi:d=i
   · subst hi;simp[hd]
   rw[if_neg hi]
def yK (n:Nat):List AV->Nat->VT->VT
 |[],_,T=>T
 |v::vs,i,T=>yK n vs (i+1) (xC n T (some i) v)
def Wg (g:bB) (T:VT):Arg->AV
 |.tmp t=>T.get t
 |.const v=>v
 |.jA n=>match g n with
  |some cs=>.pl cs
  |none=>aD
theorem ER {n:Nat} {T:VT} (h:MF n T) (g:bB):Wg g T=Arg.eval g (LQ n T):=by
 funext x
 cases x with
 |tmp t=>exact(PS h t).symm
 |const v=>rfl
 |jA n=>rfl
def NA (T:VT) (o:bD):Bool:=
 match o.guard with
 |none=>true
 |some (d,b)=>match T.get d with
  |.bool c=>c==b
  |_=>false
theorem PW {n:Nat} {T:VT} (h:MF n T) (o:bD):NA T o=bP (LQ n T) o:=by
 unfold NA bP
 cases o.guard with
 |none=>rfl
 |some p=>simp only[PS h];cases T.get p.1<;>rfl
mutual
def AV.same:AV->AV->Bool
 |.bool a,.bool b=>a==b
 |.int j a,.int k b=>decide (j=k)&&decide (a=b)
 |.str a,.str b=>a==b
 |.LD,.LD=>true
 |.ref i o,.ref j p=>i==j&&o==p
 |.pl a,.pl b=>rL a b
 |.aS,.aS=>true
 |.aU t s e,.aU t' s' e'=>t==t'&&s==s'&&LN e e'
 |.sl a b c d e,.sl a' b' c' d' e'=>a==a'&&b==b'&&c==c'&&d==d'&&e==e'
 |.func f a b,.func f' a' b'=>decide (f=f')&&rL a a'&&rL b b'
 |.AX,.AX=>true
 |.iface t v,.iface t' v'=>decide (t=t')&&v.same v'
 |.wZ,.wZ=>true
 |.agg a,.agg b=>rL a b
 |.jR a,.jR b=>rL a b
 |.map i,.map j=>i==j
 |.rX,.rX=>true
 |_,_=>false
def rL:List AV->List AV->Bool
 |[],[]=>true
 |x::r,y::s=>x.same y&&rL r s
 |_,_=>false
def LN:List (List AV)->List (List AV)->Bool
 |[],[]=>true
 |x::r,y::s=>rL x y&&LN r s
 |_,_=>false
end
mutual
theorem AV.Tg:∀(a b:AV),a.same b=true->a=b:=by
 intro a b h
 cases a<;>cases b<;>simp only[AV.same,Am,Da,Bg] at h<;>first
  |rfl
  |(cases h;done)
  |(subst h;rfl)
  |(obtain⟨h1,h2⟩:=h;subst h1;subst h2;rfl)
  |(obtain⟨⟨⟨⟨h1,h2⟩,h3⟩,h4⟩,h5⟩:=h;subst h1;subst h2;subst h3;subst h4;subst h5;rfl)
  |(rw[nJ _ _ h];done)
  |(obtain⟨h1,h2⟩:=h;subst h1;rw[AV.Tg _ _ h2];done)
  |(obtain⟨⟨h1,h2⟩,h3⟩:=h;subst h1;subst h2;rw[Rt _ _ h3];done)
  |(obtain⟨⟨h1,h2⟩,h3⟩:=h;subst h1;rw[nJ _ _ h2,nJ _ _ h3];done)
theorem nJ:∀(a b:List AV),rL a b=true->a=b:=by
 intro a b h
 cases a with
 |nil=>cases b with
  |nil=>rfl
  |cons y s=>simp[rL] at h
 |cons x r=>cases b with
  |nil=>simp[rL] at h
  |cons y s=>simp only[rL,Am] at h;rw[AV.Tg _ _ h.1,nJ _ _ h.2]
theorem Rt:∀(a b:List (List AV)),LN a b=true->a=b:=by
 intro a b h
 cases a with
 |nil=>cases b with
  |nil=>rfl
  |cons y s=>simp[LN] at h
 |cons x r=>cases b with
  |nil=>simp[LN] at h
  |cons y s=>simp only[LN,Am] at h;rw[nJ _ _ h.1,Rt _ _ h.2]
end
def Mv:Option fE->Option fE->Bool
 |none,none=>true
 |some (.cells a o),some (.cells b p)=>rL a b&&o==p
 |some .tok,some .tok=>true
 |some .dead,some .dead=>true
 |some (.map a),some (.map b)=>rL (a.map (·.1)) (b.map (·.1))&&rL (a.map (·.2)) (b.map (·.2))
 |_,_=>false
theorem l8 {a b:List (AV×AV)} (h1:a.map (·.1)=b.map (·.1)) (h2:a.map (·.2)=b.map (·.2)):a=b:=by
 induction a generalizing b with
 |nil=>cases b with
  |nil=>rfl
  |cons y s=>simp at h1
 |cons x r ih=>cases b with
  |nil=>simp at h1
  |cons y s=>simp only[Bv,Iw] at h1 h2;rw[ih h1.2 h2.2,Prod.ext h1.1 h2.1]
theorem PI {a b:Option fE} (h:Mv a b=true):a=b:=by
 unfold Mv at h
 split at h<;>first
  |rfl
  |(cases h;done)
  |skip
 · simp only[Am,Da] at h;rw[nJ _ _ h.1,h.2]
 simp only[Am] at h;rw[l8 (nJ _ _ h.1) (nJ _ _ h.2)]
abbrev CX:=AV->List AV->aA->Option (Out×aA)
abbrev Res:=AEx×VT×List gH×aA
def Ld (cf:CX) (g:bB) (n:Nat):List bD->VT->List gH->aA->Option Res
 |[],T,ds,H=>some (.normal,T,ds,H)
 |o::r,T,ds,H=>
  match NA T o with
  |true=>match o.op with
   |.call f azs=>match cf (Wg g T f) (azs.map (Wg g T)) H with
    |some (.ret v,H')=>Ld cf g n r (xC n T o.dst v) ds H'
    |some (.KC v,H')=>some (.panic v,T,ds,H')
    |none=>none
   |.panic x=>match Wg g T x with
    |.iface t v=>some (.panic (.iface t v),T,ds,H)
    |_=>none
   |.lC f azs=>match mJ (Wg g T f) with
    |some p=>Ld cf g n r (xC n T o.dst aD) (.call p.1 (p.2.1++azs.map (Wg g T)++p.2.2)::ds) H
    |none=>none
   |op=>match cX (Wg g T) H op with
    |some (v,H')=>Ld cf g n r (xC n T o.dst v) ds H'
    |none=>none
  |false=>Ld cf g n r (xC n T o.dst aD) ds H
def exQ (cf:CX) (g:bB) (T:VT) (H:aA):eC->Option (AV×aA)
 |.call f azs=>match mJ (Wg g T f) with
  |some _=>match cf (Wg g T f) (azs.map (Wg g T)) H with
   |some (.ret v,H')=>some (v,H')
   |_=>none
  |none=>none
 |.panic _|.lC _ _=>none
 |op=>cX (Wg g T) H op
def YE (pairs:List (Nat×Nat)) (i id:Nat) (ef:List (Nat×aA×aA)):Bool:=
 ef.all fun x=> !pairs.contains (i,x.1)||Mv (x.2.1.get id) (x.2.2.get id)
def Sm (cf:CX) (g:bB) (n:Nat) (pairs:List (Nat×Nat)) (base:Nat):Nat->Nat->List bD->List (Nat×Nat)->List (Nat×aA×aA)->VT->aA->Option (VT×aA)
 |_,_,[],_,_,T,H=>some (T,H)
 |i,k,r::rs,rd,ef,T,H=>
  match NA T r with
  |true=>match r.op.fresh with
   |true=>match xK (Wg g T) r.op with
    |some (ob,val)=>match YE pairs i (base+k) ef with
     |true=>Sm cf g n pairs base (i+1) (k+1) rs ((i,base+k)::rd) ef (xC n T r.dst (val (base+k))) (H.set (base+k) ob)
     |false=>none
    |none=>none
   |false=>match r.op.pR with
    |true=>match exQ cf g T H r.op with
     |some (v,H')=>match Nat.ble H.next H'.next&&rd.all fun x=> !pairs.contains (x.1,i)||Mv (H.get x.2) (H'.get x.2) with
      |true=>Sm cf g n pairs base (i+1) k rs rd ((i,H,H')::ef) (xC n T r.dst v) H'
      |false=>none
     |none=>none
    |false=>match exQ cf g T H r.op with
     |some (v,_)=>match r.op.dG (Wg g T) with
      |some id=>match YE pairs i id ef with
       |true=>Sm cf g n pairs base (i+1) k rs ((i,id)::rd) ef (xC n T r.dst v) H
       |false=>none
      |none=>Sm cf g n pairs base (i+1) k rs rd ef (xC n T r.dst v) H
     |none=>none
  |false=>Sm cf g n pairs base (i+1) (match r.op.fresh with|true=>k+1|false=>k) rs rd ef (xC n T r.dst aD) H
def RZ (f:VT->List gH->aA->Option Res):Nat->VT->List gH->aA->Option Res
 |0,_,_,_=>none
 |m+1,T,ds,H=>match f T ds H with
  |some (.normal,T',fO,H')=>RZ f m T' fO H'
  |r=>r
def Pa (cf:CX) (g:bB) (n fuel:Nat):cD->VT->List gH->aA->Option Res
 |.skip,T,ds,H=>some (.normal,T,ds,H)
 |.ops rl,T,ds,H=>Ld cf g n rl T ds H
 |.draw rl pairs,T,ds,H=>match mQ H (rl.countP (·.op.fresh)) with
  |true=>match Sm cf g n pairs H.next 0 0 rl [] [] T {H with next:=H.next+rl.countP (·.op.fresh)} with
   |some (T',H')=>some (.normal,T',ds,H')
   |none=>none
  |false=>none
 |.seq a b,T,ds,H=>match Pa cf g n fuel a T ds H with
  |some (.normal,T',fO,H')=>Pa cf g n fuel b T' fO H'
  |r=>r
 |.cond c a b,T,ds,H=>match Wg g T c with
  |.bool true=>Pa cf g n fuel a T ds H
  |.bool false=>Pa cf g n fuel b T ds H
  |_=>none
 |.block id a,T,ds,H=>match Pa cf g n fuel a T ds H with
  |some (.exit i,T',fO,H')=>match Nat.beq i id with
   |true=>some (.normal,T',fO,H')
   |false=>some (.exit i,T',fO,H')
  |r=>r
 |.loop a,T,ds,H=>RZ (Pa cf g n fuel a) fuel T ds H
 |.exit id,T,ds,H=>some (.exit id,T,ds,H)
 |.ret,T,ds,H=>some (.ret,T,ds,H)
 |.oD c ps LX body,T,ds,H=>match Wg g T c with
  |.func (.func pS) fs cs=>match cf (.func (.func pS) fs cs) [.yield (H.next+1)] ((H.alloc .LZ).alloc (.loop ⟨ps,LX,body⟩ (LQ n T) .ready)) with
   |some (.ret _,He)=>match He.get (H.next+1) with
    |some (.loop _ _ .ready)=>some (.normal,T,.mark H.next::ds,He.set (H.next+1) .dead)
    |some (.loop _ _ (.done .ret))=>some (.ret,T,.mark H.next::ds,He.set (H.next+1) .dead)
    |some (.loop _ _ (.done (.exit i)))=>some (.exit i,T,.mark H.next::ds,He.set (H.next+1) .dead)
    |_=>none
   |_=>none
  |_=>none
def JK (n:Nat) (T:VT):List (Nat×AV)->VT
 |[]=>T
 |(t,v)::r=>JK n (xC n T (some t) v) r
section
variable {P:Program} {g:bB} {n fuel:Nat} {cf:CX}
theorem QX.sound {fv:AV} {args:List AV} {H H':aA} {out:Out} {p:FuncId×List AV×List AV} (h:QX P g fv args H out H') (hp:mJ fv=some p):Sound P g p.1 (p.2.1++args++p.2.2) H out H':=by
 rcases h with ⟨q,hq,h⟩|⟨id,rfl,_⟩
 · rw[hq] at hp;cases hp;exact h
 cases hp
def DZ (P:Program) (g:bB) (cf:CX):Prop:=∀c args H out H',cf c args H=some (out,H')->QX P g c args H out H'
theorem rB (Lk:DZ P g cf):∀(rl:List bD) (T:VT) (ds:List gH) (H:aA) (ae:AEx) (T':VT) (fO:List gH) (H':aA),MF n T->Ld cf g n rl T ds H=some (ae,T',fO,H')->
 MF n T'/\∀Q:AQ,Q ae (LQ n T') fO H'->uN P g rl (LQ n T) ds H Q
 |[],T,ds,H,ae,T',fO,H',hb,h=>by simp only[Ld,Ad,Ah] at h;obtain⟨rfl,rfl,rfl,rfl⟩:=h;exact⟨hb,fun Q hq=>hq⟩
 |o::r,T,ds,H,ae,T',fO,H',hb,h=>by
  unfold Ld at h;rw[ER hb,PW hb] at h;unfold uN
  cases hw:bP (LQ n T) o with
  |false=>rw[hw] at h;dsimp only at h;have ih:=rB Lk r _ ds H ae T' fO H' (hb.put o.dst aD) h;rw[qW] at ih;exact⟨ih.1,fun Q hq=>by simpa using ih.2 Q hq⟩
  |true=>
   rw[hw] at h;dsimp only at h;simp only[if_true];split at h
   · rename_i f azs fP;split at h
     · rename_i v H1 hc;have ih:=rB Lk r _ ds H1 ae T' fO H' (hb.put o.dst v) h;rw[qW] at ih;exact⟨ih.1,fun Q hq=>by rw[fP];exact⟨.ret v,H1,Lk _ _ _ _ _ hc,ih.2 Q hq⟩⟩
     · rename_i v H1 hc;simp only[Ad,Ah] at h;obtain⟨rfl,rfl,rfl,rfl⟩:=h;exact⟨hb,fun Q hq=>by rw[fP];exact⟨.KC v,H1,Lk _ _ _ _ _ hc,hq⟩⟩
     cases h
   · rename_i x fP;split at h
     · rename_i t v hx;simp only[Ad,Ah] at h;obtain⟨rfl,rfl,rfl,rfl⟩:=h;exact⟨hb,fun Q hq=>by rw[fP];exact⟨t,v,hx,hq⟩⟩
     cases h
   · rename_i f azs fP;split at h
     · rename_i p hp;have ih:=rB Lk r _ _ H ae T' fO H' (hb.put o.dst aD) h;rw[qW] at ih;exact⟨ih.1,fun Q hq=>by rw[fP];exact⟨p,hp,ih.2 Q hq⟩⟩
     cases h
   rename_i n1 n2 n3;split at h
   · rename_i v H1 ha;have ih:=rB Lk r _ ds H1 ae T' fO H' (hb.put o.dst v) h;rw[qW] at ih;refine⟨ih.1,fun Q hq=>?_⟩;split
     · rename_i f azs fP;exact absurd fP (n1 f azs)
     · rename_i x fP;exact absurd fP (n2 x)
     · rename_i f azs fP;exact absurd fP (n3 f azs)
     · rename_i x fP;rw[fP] at ha;cases ha
     · rename_i x fP;rw[fP] at ha;cases ha
     · rename_i x fP;rw[fP] at ha;cases ha
     exact⟨v,H1,ha,ih.2 Q hq⟩
   cases h
theorem Qr (Lk:DZ P g cf) {T:VT} (hb:MF n T) {H H':aA} {r:bD} {v:AV} (h:exQ cf g T H r.op=some (v,H')):GO P g r (LQ n T) H v H':=by
 unfold exQ at h;rw[ER hb] at h;unfold GO;split at h
 · rename_i f azs fP;rw[fP];split at h
   · rename_i p hp;split at h
     · rename_i v' H1 hc;simp only[Ad,Ah] at h;obtain⟨rfl,rfl⟩:=h;exact⟨p,hp,(Lk _ _ _ _ _ hc).sound hp⟩
     cases h
   cases h
 · cases h
 · cases h
 rename_i n1 n2 n3;split
 · rename_i f azs fP;exact absurd fP (n1 f azs)
 · rename_i x fP;exact absurd fP (n2 x)
 · rename_i f azs fP;exact absurd fP (n3 f azs)
 exact h
theorem OO {pairs:List (Nat×Nat)} {i id:Nat} {ef:List (Nat×aA×aA)} (h:YE pairs i id ef=true):∀x∈ef,(i,x.1)∈pairs->x.2.1.get id=x.2.2.get id:=by intro x hx hp;have :=Aw.1 h x hx;simp only[Dp,Cp,List.contains_eq_mem,Bk] at this;exact PI (this.resolve_left fun hh=>hh hp)
theorem qD (Lk:DZ P g cf) {pairs:List (Nat×Nat)} {base:Nat}:∀(rl:List bD) (i k:Nat) (rd:List (Nat×Nat)) (ef:List (Nat×aA×aA)) (T:VT) (H:aA) (T':VT) (H':aA),MF n T->
 Sm cf g n pairs base i k rl rd ef T H=some (T',H')->MF n T'/\∀Q:List AV->aA->Prop,Q (LQ n T') H'->UE P g pairs base i k rl rd ef (LQ n T) H Q
 |[],i,k,rd,ef,T,H,T',H',hb,h=>by simp only[Sm,Ad,Ah] at h;obtain⟨rfl,rfl⟩:=h;exact⟨hb,fun Q hq=>hq⟩
 |r::rs,i,k,rd,ef,T,H,T',H',hb,h=>by
  unfold Sm at h;rw[PW hb] at h;unfold UE
  cases hw:bP (LQ n T) r with
  |false=>
   rw[hw] at h;dsimp only at h;have ih:=qD Lk rs _ _ _ _ _ _ T' H' (hb.put r.dst aD) h;rw[qW] at ih
   have hk:(match r.op.fresh with|true=>k+1|false=>k)=if r.op.fresh then k+1 else k:=(by cases r.op.fresh<;>rfl);rw[hk] at ih;exact⟨ih.1,fun Q hq=>by simpa using ih.2 Q hq⟩
  |true=>
   rw[hw] at h;dsimp only at h;simp only[if_true]
   cases hf:r.op.fresh with
   |true=>
    rw[hf] at h;dsimp only at h;simp only[if_true];rw[ER hb] at h;split at h
    · rename_i ob val ho;split at h
      · rename_i hk;have ih:=qD Lk rs _ _ _ _ _ _ T' H' (hb.put r.dst (val (base+k))) h;rw[qW] at ih;exact⟨ih.1,fun Q hq=>⟨ob,val,ho,OO hk,ih.2 Q hq⟩⟩
      cases h
    cases h
   |false=>
    rw[hf] at h;dsimp only at h;simp only[Be,Cm]
    cases he:r.op.pR with
    |true=>
     rw[he] at h;dsimp only at h;simp only[if_true];split at h
     · rename_i v H1 KB;split at h
       · rename_i hk;simp only[Am] at hk;have ih:=qD Lk rs _ _ _ _ _ _ T' H' (hb.put r.dst v) h;rw[qW] at ih;refine⟨ih.1,fun Q hq=>⟨v,H1,Qr Lk hb KB,by simpa using Aj hk.1,fun x hx hp=>?_,ih.2 Q hq⟩⟩;have :=Aw.1 hk.2 x hx;simp only[Dp,Cp,List.contains_eq_mem,Bk] at this;exact PI (this.resolve_left fun hh=>hh hp)
       cases h
     cases h
    |false=>
     rw[he] at h;dsimp only at h;simp only[Be,Cm];split at h
     · rename_i v H1 KB;have hqs:=Qr Lk hb KB
       have hH:H1=H:=by
        unfold GO at hqs;split at hqs
        · rename_i fP;rw[fP] at he;cases he
        · exact hqs.elim
        · exact hqs.elim
        exact(KQ (H1:=H) he hf hqs (fun id _=>rfl)).1
       rw[hH] at hqs;rw[ER hb] at h;split at h
       · rename_i id cZ;split at h
         · rename_i hk;have ih:=qD Lk rs _ _ _ _ _ _ T' H' (hb.put r.dst v) h;rw[qW] at ih;refine⟨ih.1,fun Q hq=>⟨v,hqs,fun kG EZ=>?_,?_⟩⟩
           · rw[cZ] at EZ;cases EZ;exact OO hk
           rw[cZ];exact ih.2 Q hq
         cases h
       rename_i cZ;have ih:=qD Lk rs _ _ _ _ _ _ T' H' (hb.put r.dst v) h;rw[qW] at ih;refine⟨ih.1,fun Q hq=>⟨v,hqs,fun kG EZ=>?_,?_⟩⟩
       · rw[cZ] at EZ;cases EZ
       rw[cZ];exact ih.2 Q hq
     cases h
theorem e8 {rl:List bD}:∀{s:List AV} {ds:List gH} {H:aA} {Q Q':AQ},(∀e s ds H,Q e s ds H->Q' e s ds H)->uN P g rl s ds H Q->uN P g rl s ds H Q':=by
 induction rl with
 |nil=>exact fun hq h=>hq _ _ _ _ h
 |cons o r ih=>
  intro s ds H Q Q' hq h;unfold uN at h ⊢;split
  · rename_i hw;rw[if_pos hw] at h;split at h
    · obtain⟨out,H',h1,h3⟩:=h;refine⟨out,H',h1,?_⟩
      cases out with
      |ret v=>exact ih hq h3
      |KC v=>exact hq _ _ _ _ h3
    · obtain⟨t,v,h1,h2⟩:=h;exact⟨t,v,h1,hq _ _ _ _ h2⟩
    · obtain⟨p,h1,h2⟩:=h;exact⟨p,h1,ih hq h2⟩
    · obtain⟨m,es,h1,h2,h3⟩:=h;exact⟨m,es,h1,h2,fun bs c mb k1 k2=>ih hq (h3 bs c mb k1 k2)⟩
    · obtain⟨it,m,mb,c,seen,es,bs,h1,h2,h3,h4,h5⟩:=h;exact⟨it,m,mb,c,seen,es,bs,h1,h2,h3,fun k=>ih hq (h4 k),fun j k1 k2=>ih hq (h5 j k1 k2)⟩
    · obtain⟨it,m,mb,c,seen,es,bs,j,h1,h2,h3,h4,h5⟩:=h;exact⟨it,m,mb,c,seen,es,bs,j,h1,h2,h3,h4,ih hq h5⟩
    obtain⟨v,H',h1,h2⟩:=h;exact⟨v,H',h1,ih hq h2⟩
  rename_i hw;rw[if_neg hw] at h;exact ih hq h
theorem UF {pairs:List (Nat×Nat)} {base:Nat} {rl:List bD}:∀{i k:Nat} {rd:List (Nat×Nat)} {ef:List (Nat×aA×aA)} {s:List AV} {H:aA} {Q Q':List AV->aA->Prop},(∀s H,Q s H->Q' s H)->
 UE P g pairs base i k rl rd ef s H Q->UE P g pairs base i k rl rd ef s H Q':=by
 induction rl with
 |nil=>exact fun hq h=>hq _ _ h
 |cons r rs ih=>
  intro i k rd ef s H Q Q' hq h;unfold UE at h ⊢;split
  · rename_i hw;rw[if_pos hw] at h;split
    · rename_i hf;rw[if_pos hf] at h;obtain⟨ob,val,h1,h2,h3⟩:=h;exact⟨ob,val,h1,h2,ih hq h3⟩
    rename_i hf;rw[if_neg hf] at h;split
    · rename_i he;rw[if_pos he] at h;obtain⟨v,H',h1,h2,h3,h4⟩:=h;exact⟨v,H',h1,h2,h3,ih hq h4⟩
    rename_i he;rw[if_neg he] at h;obtain⟨v,h1,h2,h3⟩:=h;exact⟨v,h1,h2,ih hq h3⟩
  rename_i hw;rw[if_neg hw] at h;exact ih hq h
theorem fI {c:cD}:∀{s:List AV} {ds:List gH} {H:aA} {Q Q':AQ},(∀e s ds H,Q e s ds H->Q' e s ds H)->AC P g c s ds H Q->AC P g c s ds H Q':=by
 induction c with
 |skip=>exact fun hq h=>hq _ _ _ _ h
 |ops rl=>exact fun hq h=>e8 hq h
 |draw rl pairs=>exact fun hq h=>h.imp (fun h=>⟨h.1,UF (fun s H=>hq _ _ _ _) h.2⟩) fun h=>h.mono fun _ _ _=>hq _ _ _ _
 |seq a b qR uM=>
  intro s ds H Q Q' hq h;refine qR (fun e s ds H h=>?_) h
  cases e with
  |normal=>exact uM hq h
  |_=>exact hq _ _ _ _ h
 |cond c a b qR uM=>
  intro s ds H Q Q' hq h;obtain⟨t,h1,h2⟩:=h;refine⟨t,h1,?_⟩
  cases t with
  |true=>exact qR hq h2
  |false=>exact uM hq h2
 |block id a ih=>
  intro s ds H Q Q' hq h;refine ih (fun e s ds H h=>?_) h
  cases e with
  |exit i=>
   simp only[pI] at h ⊢;split
   · rename_i hi;rw[if_pos hi] at h;exact hq _ _ _ _ h
   rename_i hi;rw[if_neg hi] at h;exact hq _ _ _ _ h
  |_=>exact hq _ _ _ _ h
 |loop a ih=>
  intro s ds H Q Q' hq h;obtain⟨I,m,h0,hI⟩:=h;refine⟨I,m,h0,fun m s ds H hi=>ih (fun e s ds H h=>?_) (hI m s ds H hi)⟩
  cases e with
  |normal=>exact h
  |_=>exact hq _ _ _ _ h
 |exit id=>exact fun hq h=>hq _ _ _ _ h
 |ret=>exact fun hq h=>hq _ _ _ _ h
 |oD c ps a b qR uM=>
  intro s ds H Q Q' hq h;obtain⟨pS,fs,cs,v,He,k',s',st,Hf,h1,h2,h3,h4,h5⟩:=h;refine⟨pS,fs,cs,v,He,k',s',st,Hf,h1,h2,h3,h4,?_⟩
  cases st with
  |ready=>exact hq _ _ _ _ h5
  |done e=>cases e<;>exact hq _ _ _ _ h5
  |busy=>exact h5.elim
  |over _=>exact h5.elim
theorem BV (Lk:DZ P g cf):∀(c:cD) (T:VT) (ds:List gH) (H:aA) (ae:AEx) (T':VT) (fO:List gH) (H':aA),MF n T->Pa cf g n fuel c T ds H=some (ae,T',fO,H')->
 MF n T'/\∀Q:AQ,Q ae (LQ n T') fO H'->AC P g c (LQ n T) ds H Q:=by
 intro c
 induction c with
 |skip=>intro T ds H ae T' fO H' hb h;simp only[Pa,Ad,Ah] at h;obtain⟨rfl,rfl,rfl,rfl⟩:=h;exact⟨hb,fun Q hq=>hq⟩
 |ops rl=>exact fun T ds H ae T' fO H' hb h=>rB Lk rl T ds H ae T' fO H' hb h
 |draw rl pairs=>
  intro T ds H ae T' fO H' hb h;simp only[Pa] at h;split at h
  · rename_i JX;split at h
    · rename_i T1 H1 hd;simp only[Ad,Ah] at h;obtain⟨rfl,rfl,rfl,rfl⟩:=h;have :=qD Lk rl 0 0 [] [] T _ T1 H1 hb hd;exact⟨this.1,fun Q hq=>.inl ⟨JX,this.2 _ hq⟩⟩
    cases h
  cases h
 |seq a b qR uM=>
  intro T ds H ae T' fO H' hb h;simp only[Pa] at h;split at h
  · rename_i T1 pA H1 ha;have h1:=qR T ds H _ T1 pA H1 hb ha;have h2:=uM T1 pA H1 ae T' fO H' h1.1 h;exact⟨h2.1,fun Q hq=>h1.2 _ (h2.2 Q hq)⟩
  rename_i hn;have h1:=qR T ds H ae T' fO H' hb h;refine⟨h1.1,fun Q hq=>h1.2 _ ?_⟩
  cases ae with
  |normal=>exact absurd h (hn _ _ _)
  |_=>exact hq
 |cond c a b qR uM=>
  intro T ds H ae T' fO H' hb h;simp only[Pa] at h;rw[ER hb] at h;split at h
  · rename_i hc;have h1:=qR T ds H ae T' fO H' hb h;exact⟨h1.1,fun Q hq=>⟨true,hc,h1.2 Q hq⟩⟩
  · rename_i hc;have h1:=uM T ds H ae T' fO H' hb h;exact⟨h1.1,fun Q hq=>⟨false,hc,h1.2 Q hq⟩⟩
  cases h
 |block id a ih=>
  intro T ds H ae T' fO H' hb h;simp only[Pa] at h;split at h
  · rename_i i T1 pA H1 ha;have h1:=ih T ds H _ T1 pA H1 hb ha;split at h
    · rename_i hi;have gR:i=id:=Bh hi;simp only[Ad,Ah] at h;obtain⟨rfl,rfl,rfl,rfl⟩:=h;refine⟨h1.1,fun Q hq=>h1.2 _ ?_⟩;simp only[pI];rw[if_pos gR];exact hq
    rename_i hi;have gR:i≠id:=Nat.ne_of_beq_eq_false hi;simp only[Ad,Ah] at h;obtain⟨rfl,rfl,rfl,rfl⟩:=h;refine⟨h1.1,fun Q hq=>h1.2 _ ?_⟩;simp only[pI];rw[if_neg gR];exact hq
  rename_i hn;have h1:=ih T ds H ae T' fO H' hb h;refine⟨h1.1,fun Q hq=>h1.2 _ ?_⟩
  cases ae with
  |exit i=>exact absurd h (hn _ _ _ _)
  |_=>exact hq
 |loop a ih=>
  intro T ds H ae T' fO H' hb h;simp only[Pa] at h
  have key:∀(m:Nat) (T:VT) (ds:List gH) (H:aA),MF n T->RZ (Pa cf g n fuel a) m T ds H=some (ae,T',fO,H')->MF n T':=by
   intro m
   induction m with
   |zero=>intro T ds H _ h;cases h
   |succ m ihm=>
    intro T ds H hb h;simp only[RZ] at h;split at h
    · rename_i T1 pA H1 h1;exact ihm T1 pA H1 (ih _ _ _ _ _ _ _ hb h1).1 h
    exact(ih _ _ _ _ _ _ _ hb h).1
  refine⟨key fuel T ds H hb h,fun Q hq=>⟨fun m s ds H=>∃T,s=LQ n T/\MF n T/\RZ (Pa cf g n fuel a) m T ds H=some (ae,T',fO,H'),fuel,⟨T,rfl,hb,h⟩,?_⟩⟩;rintro m s pA H1 ⟨T1,rfl,dR,h1⟩
  cases m with
  |zero=>cases h1
  |succ m=>
   simp only[RZ] at h1;split at h1
   · rename_i T2 Qn H2 h2;have :=ih _ _ _ _ _ _ _ dR h2;exact this.2 _ ⟨m,Ez m,T2,rfl,this.1,h1⟩
   rename_i hn;have :=ih _ _ _ _ _ _ _ dR h1;refine this.2 _ ?_
   cases ae with
   |normal=>exact absurd h1 (hn _ _ _)
   |_=>exact hq
 |exit id=>intro T ds H ae T' fO H' hb h;simp only[Pa,Ad,Ah] at h;obtain⟨rfl,rfl,rfl,rfl⟩:=h;exact⟨hb,fun Q hq=>hq⟩
 |ret=>intro T ds H ae T' fO H' hb h;simp only[Pa,Ad,Ah] at h;obtain⟨rfl,rfl,rfl,rfl⟩:=h;exact⟨hb,fun Q hq=>hq⟩
 |oD c ps a b _ _=>
  intro T ds H ae T' fO H' hb h;simp only[Pa] at h;rw[ER hb] at h;split at h
  · rename_i pS fs cs hc;split at h
    · rename_i v He DI;have hS:=(Lk _ _ _ _ _ DI).sound rfl;have hl:wV He (H.next+1) (He.set (H.next+1) .dead):=⟨rfl,fun m=>aA.aC _ _ _ _⟩;split at h
      · rename_i k' s' hg;simp only[Ad,Ah] at h;obtain⟨rfl,rfl,rfl,rfl⟩:=h;exact⟨hb,fun Q hq=>⟨pS,fs,cs,v,He,k',s',.ready,_,hc,hS,hg,hl,hq⟩⟩
      · rename_i k' s' hg;simp only[Ad,Ah] at h;obtain⟨rfl,rfl,rfl,rfl⟩:=h;exact⟨hb,fun Q hq=>⟨pS,fs,cs,v,He,k',s',.done .ret,_,hc,hS,hg,hl,hq⟩⟩
      · rename_i k' s' i hg;simp only[Ad,Ah] at h;obtain⟨rfl,rfl,rfl,rfl⟩:=h;exact⟨hb,fun Q hq=>⟨pS,fs,cs,v,He,k',s',.done (.exit i),_,hc,hS,hg,hl,hq⟩⟩
      cases h
    cases h
  cases h
end
end
def aTe (G:Gh) (w:World):Option AV->FrameMode->Prop
 |none,m=>m=.returning
 |some v,m=>∃x,m=.panicking [{v:=x,recovered:=false}]/\VR G w v x
def SX (P:Program) (g:bB) (f:FuncId) (args:List AV) (md:Option AV) (H H':aA):Prop:=
 MG P f/\∀(G:Gh) (w:World) (vs:List Value) (u:FrameMode),WR g G H w->iF G w args vs->aTe G w md u->
  CallsDIn Fence.wide 0 P f vs.toArray u w fun e u' w'=>(∃x,e=.returned x)/\settle u'=.returning/\∃G',WR g G' H' w'/\Ext G H w G' H' w'
def Wu (P:Program) (g:bB):List gH->aA->(aA->Prop)->Prop
 |[],H,Q=>Q H
 |.call f azs::ds,H,Q=>∃H1,SX P g f azs none H H1/\Wu P g ds H1 Q
 |.mark id::ds,H,Q=>H.get id=some .LZ/\Wu P g ds (H.set id .dfx) Q
def aKd (P:Program) (g:bB) (F:BR) (R:Out->aA->Prop):AQ
 |.normal,s,ds,H|.ret,s,ds,H=>Wu P g ds H fun H1=>∃vs,mC s H1 F.results=some vs/\R (.ret (mY vs)) H1
 |.panic v,s,ds,H=>match ds with
  |[]=>R (.KC v) H
  |.mark _::_=>False
  |.call f azs::ds=>∃H1,SX P g f azs (some v) H H1/\Wu P g ds H1 fun H2=>∃vs,mC s H2 F.results=some vs/\R (.ret (mY vs)) H2
 |.exit _,_,_,_=>False
theorem tW {P:Program} {g:bB} {fn:Func} {tmps:Array Value} {R:Ending->World->Prop} {Q:aA->Prop}:∀(ds:List gH) (l:List Deferred) (G:Gh) (H:aA) (w:World),
 Wu P g ds H Q->WR g G H w->SM G w ds l->
 (∀G' H' w',Q H'->WR g G' H' w'->Ext G H w G' H' w'->∃v,(results fn tmps).run P w'=.ok v w'/\R (.returned v) w')->LeavesInM Fence.wide 0 P fn tmps R l .returning w
 |[],[],G,H,w,h,hw,hd,hR=>hR G H w h hw (Ext.refl G H w)
 |[],d::l,G,H,w,h,hw,hd,hR=>hd.elim
 |.call _ _::ds,[],G,H,w,h,hw,hd,hR=>hd.elim
 |.mark _::ds,[],G,H,w,h,hw,hd,hR=>hd.elim
 |.call f azs::ds,d::l,G,H,w,h,hw,hd,hR=>by obtain⟨H1,hS,hA⟩:=h;obtain⟨⟨cap,ht,hv⟩,rV⟩:=hd;refine⟨by simp,.inr ⟨AZ,.func f,cap.toArray,f,d.args++cap.toArray,ht,by rw[ht];exact nO hS.1 _ _ _,fun _ _=>trivial,?_⟩⟩;have hc:=hS.2 G w _ .returning hw hv rfl;rw[show(d.args.toList++cap).toArray=d.args++cap.toArray by apply Fm;simp] at hc;refine hc.mono fun e u' w' he=>?_;obtain⟨⟨x,rfl⟩,hu,G',lM,xV⟩:=he;show LeavesInM Fence.wide 0 P fn tmps R l (settle u') w';rw[hu];exact tW ds l G' H1 w' hA lM (rV.ext xV) fun G2 H2 w2 hq zH Xr=>hR G2 H2 w2 hq zH (xV.trans Xr)
 |.mark id::ds,d::l,G,H,w,h,hw,hd,hR=>by obtain⟨hg,hA⟩:=h;obtain⟨⟨lc,hl,ht⟩,rV⟩:=hd;obtain⟨_,_,hb⟩:=hw.iM id lc _ hl hg rfl;have nM:=run_takeDeferred (P:=P) hb;obtain⟨q1,q2⟩:=hw.FU (o':=.dfx) (x:=.deferred none) (w':=w.putObj lc.cY (.deferred none)) hl hg rfl rfl rfl .now (fun _ hs=>hs);exact⟨by simp,.inl ⟨lc.cY,_,ht,nM,tW ds l G _ _ hA q1 (rV.ext q2) fun G2 H2 w2 hq zH Xr=>hR G2 H2 w2 hq zH (q2.trans Xr)⟩⟩
theorem oW {P:Program} {g:bB} {mu:Bool} (hm:Fit P g) {f:FuncId} {F:BR} (hF:kP P g mu f F) {args:List AV} {H H':aA} {out:Out}
 (h:AC P g F.body (kO F args) [] H (aKd P g F fun o h=>o=out/\h=H')):Sound P g f args H out H':=by
 refine⟨hF.ok,fun G w vs hw hv=>?_⟩;obtain⟨fn,c,h1,h2,_,h3,h4,h5⟩:=hF;refine callsIn_wide.1 (callsIn_of_wp_marks (n:=0) h1 h2 trivial (wpIn_mono (GF hm c none F.body h3 (.inl rfl) _ [] G H w _ _ h hw ?_ trivial) fun e a w' hq=>?_))
 · have hlen:=hv.1;show iF G w _ _;simp only[kO,Array.toList_append,Array.toList_replicate,Gx,hlen,h4];refine hv.append ⟨by simp,fun j hj=>?_⟩;simp only[Jx] at hj;simp only[Bw,Gf,hj,if_true,Bi];exact VR.oH G w
 obtain⟨ae,s',fO,H1,G',q,lM,he,FE,rV,hx⟩:=hq
 have fin:∀(G2:Gh) (H2:aA) (w2:World),(∃vs,mC s' H2 F.results=some vs/\(Out.ret (mY vs)=out/\H2=H'))->WR g G2 H2 w2->Ext G' H1 w' G2 H2 w2->
  ∃v,(results fn a.tmps).run P w2=.ok v w2/\(fun(e:Ending) w'=>∃G',WR g G' H' w'/\Ext G H w G' H' w'/\XD G' w' out e) (.returned v) w2:=by
  rintro G2 H2 w2 ⟨vs',lH,rfl,rfl⟩ zH Xr;obtain⟨u,hu,MS⟩:=MA zH (FE.ext Xr) h5 lH;exact⟨u,hu,G2,zH,he.trans Xr,MS⟩
 cases ae with
 |normal=>
  cases e with
  |normal=>exact tW fO a.defers G' H1 w' q lM rV fin
  |_=>exact hx.elim
 |ret=>
  cases e with
  |ret=>exact tW fO a.defers G' H1 w' q lM rV fin
  |_=>exact hx.elim
 |exit id=>exact q.elim
 |panic v=>
  cases e with
  |panic ch=>
   obtain⟨x,rfl,hvx⟩:=hx
   cases hds:fO with
   |nil=>
    subst hds
    cases xd:a.defers with
    |nil=>obtain⟨rfl,rfl⟩:=q;show LeavesInM Fence.wide 0 P fn a.tmps _ a.defers _ w';rw[xd];exact⟨G',lM,he,x,rfl,hvx⟩
    |cons d r=>rw[xd] at rV;exact rV.elim
   |cons d ds=>
    subst hds
    cases d with
    |mark _=>exact q.elim
    |call f0 azs=>
    cases xd:a.defers with
    |nil=>rw[xd] at rV;exact rV.elim
    |cons d0 l=>rw[xd] at rV;obtain⟨⟨cap,ht,Pf⟩,hdr⟩:=rV;obtain⟨H2,hS,hA⟩:=q;show LeavesInM Fence.wide 0 P fn a.tmps _ a.defers _ w';rw[xd];refine⟨by simp,.inr ⟨AZ,.func f0,cap.toArray,f0,d0.args++cap.toArray,ht,by rw[ht];exact nO hS.1 _ _ _,fun _ _=>trivial,?_⟩⟩;have hc:=hS.2 G' w' _ (.panicking [{v:=x,recovered:=false}]) lM Pf ⟨x,rfl,hvx⟩;rw[show(d0.args.toList++cap).toArray=d0.args++cap.toArray by apply Fm;simp] at hc;refine hc.mono fun e u' w2 Xr=>?_;obtain⟨⟨y,rfl⟩,hu,G2,zH,xV⟩:=Xr;show LeavesInM Fence.wide 0 P fn a.tmps _ l (settle u') w2;rw[hu];exact tW ds l G2 H2 w2 hA zH (hdr.ext xV) fun G3 H3 w3 hq QJ j9=>fin G3 H3 w3 hq QJ (xV.trans j9)
  |_=>exact hx.elim
section
def Ro (T:VT) (H:aA):List GH->Option (List AV)
 |[]=>some []
 |x::r=>match (match x with
   |.tmp t=>some (T.get t)
   |.cell a agg n=>match cX (Wg g0 T) H (.load agg n (.tmp a)) with
    |some (v,_)=>some v
    |none=>none),Ro T H r with
  |some v,some vs=>some (v::vs)
  |_,_=>none
theorem Vy {n:Nat} {T:VT} (hb:MF n T) (H:aA):∀l,Ro T H l=mC (LQ n T) H l
 |[]=>rfl
 |x::r=>by
  have ih:=Vy hb H r
  cases x with
  |tmp t=>simp only[Ro,mC,my,ih,PS hb];cases mC (LQ n T) H r<;>rfl
  |cell a agg m=>
   simp only[Ro,mC,my,ih,ER hb]
   cases cX (Arg.eval g0 (LQ n T)) H (.load agg m (.tmp a)) with
   |none=>rfl
   |some p=>cases mC (LQ n T) H r<;>rfl
def Xb (JC:FuncId->Nat->Bool):List gH->aA->Option aA
 |[],H=>some H
 |.call f azs::ds,H=>match JC f azs.length with
  |true=>Xb JC ds H
  |false=>none
 |.mark id::ds,H=>match H.get id with
  |some .LZ=>Xb JC ds (H.set id .dfx)
  |_=>none
def aQe (cf:CX) (g:bB) (fuel:Nat) (JC:FuncId->Nat->Bool) (F:BR) (args:List AV) (H:aA):Option (Out×aA):=
 match Nat.ble args.length F.ntmps with
 |true=>match Pa cf g F.ntmps fuel F.body (yK F.ntmps args 0 .nil) [] H with
  |some (.normal,T,ds,H')|some (.ret,T,ds,H')=>match Xb JC ds H' with
   |some H1=>match Ro T H1 F.results with
    |some vs=>some (.ret (mY vs),H1)
    |none=>none
   |none=>none
  |some (.panic v,_,[],H')=>some (.KC v,H')
  |_=>none
 |false=>none
theorem MF.nil (n:Nat):MF n .nil:=fun _ _=>rfl
theorem MD (n:Nat):∀(vs:List AV) (i:Nat) (T:VT),MF n T->i+vs.length<=n->
 MF n (yK n vs i T)/\∀t,(yK n vs i T).get t=if i<=t/\t<i+vs.length then vs.getD (t -i) aD else T.get t
 |[],i,T,hb,h=>⟨hb,fun t=>by rw[if_neg (by simp only[Bj];omega)];rfl⟩
 |v::vs,i,T,hb,h=>by
  simp only[Aq] at h;have :=MD n vs (i+1) (xC n T (some i) v) (hb.put _ _) (by omega);refine⟨this.1,fun t=>?_⟩;show(yK n vs (i+1) (xC n T (some i) v)).get t=_;rw[this.2 t];have VE:Nat.blt i n=true:=by simpa [Gr] using(by omega:i<n)
  have FD:(xC n T (some i) v).get t=if t=i then v else T.get t:=by simp only[xC,VE];exact VT.aC T i v t
  rw[FD];simp only[Aq];by_cases h1:i+1<=t/\t<i+1+vs.length
  · rw[if_pos h1,if_pos (by omega)];obtain⟨m,hm⟩:∃m,t -i=m+1:=⟨t -i -1,by omega⟩;rw[hm,Ge,show t -(i+1)=m by omega]
  rw[if_neg h1];by_cases h2:t=i
  · subst h2;rw[if_pos rfl,if_pos (by omega)];simp
  rw[if_neg h2,if_neg (by omega)]
theorem PR {n:Nat} {args:List AV} (h:args.length<=n):MF n (yK n args 0 .nil)/\LQ n (yK n args 0 .nil)=args++List.replicate (n -args.length) aD:=by
 have :=MD n args 0 .nil (MF.nil n) (by omega);refine⟨this.1,Fh fun t=>?_⟩;unfold LQ;rw[Cz];by_cases ht:t<n
 · rw[Iy ht,Bz,this.2 t];by_cases h1:t<args.length
   · rw[if_pos (by omega),Ex h1];simp[Ab h1,getD_eq]
   rw[if_neg (by omega),Fy (by omega),Gf,if_pos (by omega)];rfl
 rw[Bs (by simp;omega),Bs (by simp;omega)];rfl
section
variable {P:Program} {g:bB} {fuel:Nat} {cf:CX}
def Qc (P:Program) (g:bB) (JC:FuncId->Nat->Bool):Prop:=∀f k,JC f k=true->∀(args:List AV) (H:aA),args.length=k->SX P g f args none H H
theorem SI {JC:FuncId->Nat->Bool} (hn:Qc P g JC) {Q:aA->Prop}:∀(ds:List gH) (H H1:aA),Xb JC ds H=some H1->Q H1->Wu P g ds H Q
 |[],H,H1,he,h=>by cases he;exact h
 |.mark id::ds,H,H1,he,h=>by
  simp only[Xb] at he;split at he
  · rename_i hg;exact⟨hg,SI hn ds _ _ he h⟩
  cases he
 |.call f azs::ds,H,H1,he,h=>by
  simp only[Xb] at he;split at he
  · rename_i hd;exact⟨H,hn f _ hd azs H rfl,SI hn ds H _ he h⟩
  cases he
theorem Xd (hm:Fit P g) (Lk:DZ P g cf) {JC:FuncId->Nat->Bool} (hn:Qc P g JC) {mu:Bool} {f:FuncId} {F:BR} (hF:kP P g mu f F) {args:List AV} {H H':aA} {out:Out}
 (h:aQe cf g fuel JC F args H=some (out,H')):Sound P g f args H out H':=by
 unfold aQe at h;split at h
 · rename_i hle;have Xu:args.length<=F.ntmps:=Aj hle;obtain⟨hb,hs⟩:=PR Xu
   have fin:∀(ae:AEx) (T:VT) (ds:List gH) (H1:aA),(ae=.normal\/ae=.ret)->Pa cf g F.ntmps fuel F.body (yK F.ntmps args 0 .nil) [] H=some (ae,T,ds,H1)->
    (match Xb JC ds H1 with
      |some H2=>match Ro T H2 F.results with
       |some vs=>some (Out.ret (mY vs),H2)
       |none=>none
      |none=>none)=some (out,H')->Sound P g f args H out H':=by
    intro ae T ds H1 hae he h;obtain⟨hbT,hq⟩:=BV Lk F.body _ _ _ _ _ _ _ hb he;split at h
    · rename_i H2 bM;split at h
      · rename_i vs lH;simp only[Ad,Ah] at h;obtain⟨rfl,rfl⟩:=h;refine oW hm hF ?_;unfold kO;rw[<-hs];refine hq _ ?_
        have :Wu P g ds H1 fun H1'=>∃vs',mC (LQ F.ntmps T) H1' F.results=some vs'/\(Out.ret (mY vs')=Out.ret (mY vs)/\H1'=H2):=by refine SI hn ds H1 H2 bM ⟨vs,?_,rfl,rfl⟩;rw[<-Vy hbT];exact lH
        rcases hae with rfl|rfl<;>exact this
      cases h
    cases h
   split at h
   · rename_i T ds H1 he;exact fin .normal T ds H1 (.inl rfl) he h
   · rename_i T ds H1 he;exact fin .ret T ds H1 (.inr rfl) he h
   · rename_i v T H1 he;simp only[Ad,Ah] at h;obtain⟨rfl,rfl⟩:=h;obtain⟨hbT,hq⟩:=BV Lk F.body _ _ _ _ _ _ _ hb he;refine oW hm hF ?_;unfold kO;rw[<-hs];exact hq _ ⟨rfl,rfl⟩
   cases h
 cases h
inductive FT where
 |leaf (k:Nat) (F:BR)
 |node (m:Nat) (l r:FT)
def FT.get:FT->FuncId->Option BR
 |.leaf k F,f=>match Nat.beq f k with
  |true=>some F
  |false=>none
 |.node m l r,f=>match Nat.blt f m with
  |true=>l.get f
  |false=>r.get f
def FT.rn (p:FuncId->BR->Prop):FT->Prop
 |.leaf k F=>p k F
 |.node _ l r=>l.rn p/\r.rn p
theorem FT.rn.get {p:FuncId->BR->Prop}:∀{t:FT},t.rn p->∀{f:FuncId} {F:BR},t.get f=some F->p f F
 |.leaf k F',h,f,F,hg=>by
  simp only[FT.get] at hg;split at hg
  · rename_i hb;obtain rfl:=Aa hg;rw[Bh hb];exact h
  cases hg
 |.node m l r,h,f,F,hg=>by
  simp only[FT.get] at hg;split at hg
  · exact FT.rn.get h.1 hg
  exact FT.rn.get h.2 hg
def exY (cf:CX) (g:bB) (fuel:Nat) (id:Nat) (args:List AV) (H:aA):Option (Out×aA):=
 match H.get id with
 |some (.loop k s .ready)=>match Nat.beq args.length k.ps.length with
  |true=>match Pa cf g s.length fuel k.LX (JK s.length (yK s.length s 0 .nil) (k.ps.zip args)) [] H with
   |some (.normal,T1,[],H1)=>match H1.get id with
    |some (.loop k1 s1 .ready)=>match Pa cf g s.length fuel k.body T1 [] (H1.set id (.loop k1 s1 .busy)) with
     |some (e,_,[],H2)=>match H2.get id with
      |some (.loop k2 s2 .busy)=>match e with
       |.normal=>some (.ret (.bool true),H2.set id (.loop k2 s2 .ready))
       |.ret=>some (.ret (.bool false),H2.set id (.loop k2 s2 (.done .ret)))
       |.exit i=>some (.ret (.bool false),H2.set id (.loop k2 s2 (.done (.exit i))))
       |.panic _=>none
      |_=>none
     |_=>none
    |_=>none
   |_=>none
  |false=>none
 |_=>none
theorem Lu {n:Nat}:∀(l:List (Nat×AV)) (T:VT),MF n T->MF n (JK n T l)/\LQ n (JK n T l)=pK (LQ n T) l
 |[],T,h=>⟨h,rfl⟩
 |(t,v)::r,T,h=>by have ih:=Lu r (xC n T (some t) v) (h.put _ _);refine⟨ih.1,?_⟩;rw[JK,ih.2,qW];rfl
theorem jj (hm:Fit P g) (Lk:DZ P g cf) {id:Nat} {args:List AV} {H H':aA} {out:Out} (h:exY cf g fuel id args H=some (out,H')):rR P g id args H out H':=by
 unfold exY at h;split at h
 · rename_i k s hg;split at h
   · rename_i hlen;obtain⟨VD,hs0⟩:=PR (Ak s.length);rw[Nat.sub_self,List.replicate_zero,Cd] at hs0;obtain⟨dR,hs1⟩:=Lu (k.ps.zip args) _ VD;rw[hs0] at hs1;refine KO hm hg (Bh hlen) ?_;unfold ND;split at h
     · rename_i T1 H1 ha;obtain⟨fH,KB⟩:=BV Lk k.LX _ _ _ _ _ _ _ dR ha;rw[<-hs1];refine KB _ ?_;split at h
       · rename_i k1 s1 CT;split at h
         · rename_i e T2 H2 hbd;obtain⟨tS,Mm⟩:=BV Lk k.body _ _ _ _ _ _ _ fH hbd;refine⟨rfl,k1,s1,CT,Mm _ ?_⟩;split at h
           · rename_i k2 s2 Kn;split at h
             · simp only[Ad,Ah] at h;obtain⟨rfl,rfl⟩:=h;exact⟨rfl,rfl,k2,s2,Kn,rfl⟩
             · simp only[Ad,Ah] at h;obtain⟨rfl,rfl⟩:=h;exact⟨rfl,rfl,k2,s2,Kn,rfl⟩
             · simp only[Ad,Ah] at h;obtain⟨rfl,rfl⟩:=h;exact⟨rfl,rfl,k2,s2,Kn,rfl⟩
             cases h
           cases h
         cases h
       cases h
     cases h
   cases h
 cases h
abbrev MH:=FuncId->List AV->aA->Option (Out×aA)
def LV (P:Program) (g:bB) (Ws:MH):Prop:=∀f args H out H',Ws f args H=some (out,H')->Sound P g f args H out H'
def exF (Ws:MH) (tab:FuncId->Option BR) (g:bB) (fuel:Nat) (JC:FuncId->Nat->Bool):Nat->CX
 |0=>fun _ _ _=>none
 |d+1=>fun c args H=>match c with
  |.yield id=>exY (exF Ws tab g fuel JC d) g fuel id args H
  |.func (.func f) fs cs=>match Ws f (fs++args++cs) H with
   |some r=>some r
   |none=>match tab f with
    |some F=>aQe (exF Ws tab g fuel JC d) g fuel JC F (fs++args++cs) H
    |none=>none
  |_=>none
theorem KW (hm:Fit P g) {Ws:MH} (ho:LV P g Ws) {tab:FuncId->Option BR} {JC:FuncId->Nat->Bool} (hn:Qc P g JC) (ht:∀f F,tab f=some F->∃mu,kP P g mu f F):∀d,DZ P g (exF Ws tab g fuel JC d)
 |0=>fun f args H out H' h=>by cases h
 |d+1=>fun c args H out H' h=>by
  simp only[exF] at h;split at h
  · rename_i id;exact .inr ⟨id,rfl,jj hm (KW hm ho hn ht d) h⟩
  · rename_i f fs cs;refine .inl ⟨(f,fs,cs),rfl,?_⟩;split at h
    · rename_i r hr;cases h;exact ho _ _ _ _ _ hr
    split at h
    · rename_i F hF;obtain⟨mu,hmu⟩:=ht f F hF;exact Xd hm (KW hm ho hn ht d) hn hmu h
    cases h
  cases h
end
end
section
mutual
def AV.free:AV->Bool
 |.pl cs=>bL cs
 |.aU tag _ els=>Nat.blt tag 2&&dM els
 |.func _ a b=>bL a&&bL b
 |.iface _ v=>v.free
 |.agg cs=>bL cs
 |.jR vs=>bL vs
 |.ref _ _|.sl _ _ _ _ _|.map _|.yield _=>false
 |_=>true
def bL:List AV->Bool
 |[]=>true
 |x::r=>x.free&&bL r
def dM:List (List AV)->Bool
 |[]=>true
 |x::r=>bL x&&dM r
end
theorem RF:∀{l:List AV},bL l=true->∀x∈l,x.free=true
 |[],_,x,hx=>by cases hx
 |y::l,h,x,hx=>by
  simp only[bL,Am] at h
  rcases Ap.1 hx with rfl|hx
  · exact h.1
  exact RF h.2 x hx
theorem gS {a b:List AV}:bL (a++b)=(bL a&&bL b):=by
 induction a with
 |nil=>simp[bL]
 |cons x r ih=>simp[bL,ih,Bool.and_assoc]
theorem mA:∀{l:List (List AV)},dM l=true->bL l.flatten=true
 |[],_=>rfl
 |y::l,h=>by simp only[dM,Am] at h;rw[Bx,gS,h.1,mA h.2];rfl
theorem kL {l:List AV} (h:bL l=true) {j:Nat} (hj:j<l.length):(l.getD j aD).free=true:=by refine RF h _ ?_;rw[getD_eq,Ab hj];exact Ac hj
theorem VR.qH {G G':Gh} {w w':World} {a:AV} {u:Value} (h:VR G w a u) (hf:a.free=true)
 (hi:∀b o,G.gV b o->G'.gV b o/\w'.cell? ⟨b,o,none⟩=w.cell? ⟨b,o,none⟩):VR G' w' a u:=by
 induction h with
 |bool b=>exact .bool b
 |int k n=>exact .int k n
 |str s=>exact .str s
 |LD=>exact .LD
 |ref id off l h=>cases hf
 |pl cells b o us h hv ih=>simp only[AV.free] at hf;exact .pl cells b o us (fun j hj=>⟨(hi _ _ (h j hj).1).1,by rw[(hi _ _ (h j hj).1).2];exact(h j hj).2.1,(h j hj).2.2⟩) (fun j hj=>ih j hj (kL hf hj))
 |aS=>exact .aS
 |vP tag sz b o s ht=>exact .vP tag sz b o s ht
 |aU tag sz els b o cap us hu h hv ht ih=>
  simp only[AV.free,Am] at hf;have vN:=mA hf.2;refine .aU tag sz els b o cap us hu (fun j hj=>⟨(hi _ _ (h j hj).1).1,by rw[(hi _ _ (h j hj).1).2];exact(h j hj).2.1,(h j hj).2.2⟩) (fun j hj=>ih j hj (kL vN hj)) ?_;refine⟨ht.1,?_⟩;have h2:=ht.2;have rW:tag<2:=by have :=hf.1;simpa [Gr] using this
  match tag,h2,rW with
  |0,_,_=>trivial
  |1,h2,_=>exact h2
  |k+2,_,hh=>omega
 |sl id sz off len cap jV l h hlen gG qJ=>cases hf
 |func fn fs cs azs bs ha hb hav hbv qR uM=>simp only[AV.free,Am] at hf;exact .func fn fs cs azs bs ha hb (fun j hj=>qR j hj (kL hf.1 hj)) (fun j hj=>uM j hj (kL hf.2 hj))
 |AX=>exact .AX
 |iface t a v h ih=>exact .iface t a v (ih hf)
 |wZ=>exact .wZ
 |agg cs vs oU h1 hv ih=>simp only[AV.free] at hf;exact .agg cs vs oU h1 (fun j hj=>ih j hj (kL hf hj))
 |jR cs vs oU hv ih=>simp only[AV.free] at hf;exact .jR cs vs oU (fun j hj=>ih j hj (kL hf hj))
 |map id l h=>cases hf
 |yield id l h=>cases hf
 |rX=>exact .rX
theorem iF.qH {G G':Gh} {w w':World} {xs:List AV} {vs:List Value} (h:iF G w xs vs) (hf:bL xs=true)
 (hi:∀b o,G.gV b o->G'.gV b o/\w'.cell? ⟨b,o,none⟩=w.cell? ⟨b,o,none⟩):iF G' w' xs vs:=
 ⟨h.1,fun j hj=>(h.2 j hj).qH (kL hf hj) hi⟩
def FW (tk:Option Nat) (nw tag:Nat):Nat:=
 match tag with
 |0=>0
 |1=>1
 |k+2=>match tk with
  |some k'=>match Nat.beq k k' with
   |true=>nw+2
   |false=>0
  |none=>0
def fU (H:aA) (tk:Option Nat) (nw:Nat):AV->Option AV
 |.aU tag sz els=>match dM els with
  |true=>some (.aU (FW tk nw tag) sz els)
  |false=>none
 |.sl id sz off len cap=>match H.eW id with
  |some cs=>match Nat.ble (off+len*sz) cs.length&&bL (cs.drop off) with
   |true=>some (.aU 0 sz (fS sz len (cs.drop off)))
   |false=>none
  |none=>none
 |.ref id off=>match H.eW id with
  |some cs=>match bL (cs.drop off) with
   |true=>some (.pl (cs.drop off))
   |false=>none
  |none=>none
 |v=>match v.free with
  |true=>some v
  |false=>none
def MV (f:AV->Option AV):List AV->Option (List AV)
 |[]=>some []
 |x::r=>match f x,MV f r with
  |some y,some ys=>some (y::ys)
  |_,_=>none
def gK (H:aA) (tk:Option Nat) (nw:Nat):Nat->AV->Option AV
 |0,v=>fU H tk nw v
 |n+1,.agg cs=>(MV (gK H tk nw n) cs).map .agg
 |n+1,.jR vs=>(MV (gK H tk nw n) vs).map .jR
 |_,v=>fU H tk nw v
theorem Kz {f:AV->Option AV}:∀{l r:List AV},MV f l=some r->r.length=l.length/\∀j,j<l.length->f (l.getD j aD)=some (r.getD j aD)
 |[],r,h=>by obtain rfl:=Aa h;exact⟨rfl,fun j hj=>absurd hj (As j)⟩
 |x::l,r,h=>by
  simp only[MV] at h;split at h
  · rename_i y ys hy Mo;obtain rfl:=Aa h;obtain⟨h1,h2⟩:=Kz Mo;refine⟨by simp[h1],fun j hj=>?_⟩
    cases j with
    |zero=>simpa using hy
    |succ j=>simpa using h2 j (by simpa using hj)
  cases h
def rS (tk:Option Nat) (H:aA):aA:=match tk with
 |none=>H
 |some _=>H.alloc .tok
def CZ (g:bB):Prop:=∀n cs,g n=some cs->bL cs=true
def Out.av:Out->AV
 |.ret v=>v
 |.KC v=>v
def Out.with:Out->AV->Out
 |.ret _,v=>.ret v
 |.KC _,v=>.KC v
section
variable {P:Program} {g:bB}
def ET (G G2:Gh) (H:aA) (H2:aA) (tk:Option Nat):Gh where
 loc:=fun id=>if id=H.next then tk.bind G2.loc else G.loc id
 gV:=fun b o=>G2.gV b o\/∃id l cs eI,G2.loc id=some l/\H2.get id=some (.cells cs eI)/\l.cY=b/\l.base<=o/\o<l.base+l.UD
 mo:=G.mo
theorem PK {G G2:Gh} {H H2:aA} {w2:World} {tk:Option Nat} (hn:∀k,tk=some k->H2.get k=some .tok) (zH:WR g G2 H2 w2) {v v':AV} {u:Value} (h:VR G2 w2 v u) (hs:fU H2 tk H.next v=some v'):
 VR (ET G G2 H H2 tk) w2 v' u:=by
 have hi:∀b o,G2.gV b o->(ET G G2 H H2 tk).gV b o/\w2.cell? ⟨b,o,none⟩=w2.cell? ⟨b,o,none⟩:=fun b o hh=>⟨.inl hh,rfl⟩
 have frozen:∀{id:Nat} {l:Loc} {cs:List AV} {off:Nat},G2.loc id=some l->H2.eW id=some cs->bL (cs.drop off)=true->∀j,j<(cs.drop off).length->
  ∃x,(ET G G2 H H2 tk).gV l.cY (l.base+off+j)/\w2.cell? ⟨l.cY,l.base+off+j,none⟩=some x/\((cs.drop off).getD j aD).one=true/\VR (ET G G2 H H2 tk) w2 ((cs.drop off).getD j aD) x:=by
  intro id l cs off hl hc hf j hj;obtain⟨eI,hg⟩:=aA.oX hc;obtain⟨a1,a2,a3,a4,a5⟩:=zH.cells id l cs eI hl hg;simp only[Hi] at hj;obtain⟨x,hx,hvx⟩:=a5 (off+j) (by omega);have Pb:(cs.drop off).getD j aD=cs.getD (off+j) aD:=by rw[getD_eq,getD_eq,Fx]
  refine⟨x,.inr ⟨id,l,cs,eI,hl,hg,rfl,by omega,by omega⟩,by rw[Bm];exact hx,?_,?_⟩
  · rw[Pb];refine a4 _ ?_;rw[getD_eq,Ab (by omega)];exact Ac _
  have JX:=kL hf (j:=j) (by simpa using hj);rw[Pb] at JX ⊢;exact hvx.qH JX hi
 unfold fU at hs;split at hs
 · rename_i tag sz els;split at hs
   · rename_i hf;obtain rfl:=Aa hs;have vN:=mA hf
     cases h with
     |vP _ _ b o s ht=>
      refine .vP _ _ _ _ _ ?_
      match tag,ht with
      |0,_=>exact Nat.zero_lt_two
      |1,_=>exact Nat.one_lt_two
     |aU _ _ _ b o cap us hu hh hv ht=>
      refine .aU _ sz els b o cap us hu (fun j hj=>⟨(hi _ _ (hh j hj).1).1,(hh j hj).2⟩) (fun j hj=>(hv j hj).qH (kL vN hj) hi) ⟨ht.1,?_⟩;have h2:=ht.2
      match tag,h2 with
      |0,_=>trivial
      |1,h2=>exact h2
      |k+2,⟨l,h1,h2⟩=>
       cases tk with
       |none=>trivial
       |some k'=>
        simp only[FW]
        cases hk:Nat.beq k k' with
        |false=>trivial
        |true=>obtain rfl:=Bh hk;exact⟨l,by simp only[ET,if_true,Option.bind_some];exact h1,h2⟩
   cases hs
 · rename_i id sz off len cap;split at hs
   · rename_i cs hc;split at hs
     · rename_i eN;obtain rfl:=Aa hs;simp only[Am] at eN;have hle:off+len*sz<=cs.length:=Aj eN.1
       cases h with
       |sl _ _ _ _ _ jV l hl hlen gG qJ=>
        obtain⟨f1,f2,f3⟩:=lV sz len (cs.drop off) (by simp;omega);have Zx:=frozen hl hc eN.2;have hmul:len*sz<=cap*sz:=Dd sz hlen
        have GA:∀j,j<(fS sz len (cs.drop off)).flatten.length->j<(cs.drop off).length/\(fS sz len (cs.drop off)).flatten.getD j aD=(cs.drop off).getD j aD:=fun j hj=>by rw[f1] at hj ⊢;simp only[Cq,Hi] at hj;refine⟨by simp;omega,?_⟩;rw[getD_take _ _ _ _ (by omega)]
        have key:=VR.aU (G:=ET G G2 H H2 tk) (w:=w2) 0 sz (fS sz len (cs.drop off)) l.cY (l.base+off) jV (fun j=>(w2.cell? ⟨l.cY,l.base+off+j,none⟩).getD undef) f3
         (fun j hj=>by
           obtain⟨h1,h2⟩:=GA j hj;obtain⟨x,q1,q2,q3,q4⟩:=Zx j h1
           exact⟨q1,by rw[q2];rfl,by rw[h2];exact q3⟩)
         (fun j hj=>by
           obtain⟨h1,h2⟩:=GA j hj;obtain⟨x,q1,q2,q3,q4⟩:=Zx j h1
           rw[h2,q2];exact q4)
         ⟨by rw[f2];rcases qJ with rfl|⟨_,uP,_⟩<;>omega,trivial⟩
        rw[f2] at key;exact key
     cases hs
   cases hs
 · rename_i id off;split at hs
   · rename_i cs hc;split at hs
     · rename_i hf;obtain rfl:=Aa hs
       cases h with
       |ref _ _ l hl=>
        have Zx:=frozen hl hc hf
        exact .pl (cs.drop off) l.cY (l.base+off) (fun j=>(w2.cell? ⟨l.cY,l.base+off+j,none⟩).getD undef)
         (fun j hj=>by
           obtain⟨x,q1,q2,q3,q4⟩:=Zx j hj
           exact⟨q1,by rw[q2];rfl,q3⟩)
         (fun j hj=>by
           obtain⟨x,q1,q2,q3,q4⟩:=Zx j hj
           rw[q2];exact q4)
     cases hs
   cases hs
 split at hs
 · rename_i hf;obtain rfl:=Aa hs;exact h.qH hf hi
 cases hs
theorem aBo {G G2:Gh} {H H2:aA} {w2:World} {tk:Option Nat} {nw n:Nat} {v v':AV} (hs:gK H2 tk nw n v=some v') (h:v.one=true):v'.one=true:=by
 have h1:fU H2 tk nw v=some v'->v'.one=true:=fun hs=>by
  unfold fU at hs
  repeat' (split at hs)
  all_goals first
   |(cases hs;done)
   |(obtain rfl:=Aa hs;first|rfl|exact h)
 cases n with
 |zero=>exact h1 hs
 |succ n=>
  unfold gK at hs;split at hs
  · exact h1 hs
  · cases h
  · cases h
  exact h1 hs
theorem JO {G G2:Gh} {H H2:aA} {w2:World} {tk:Option Nat} (hn:∀k,tk=some k->H2.get k=some .tok) (zH:WR g G2 H2 w2):∀(n:Nat) {v v':AV} {u:Value},VR G2 w2 v u->gK H2 tk H.next n v=some v'->
 VR (ET G G2 H H2 tk) w2 v' u
 |0,v,v',u,h,hs=>PK hn zH h hs
 |n+1,v,v',u,h,hs=>by
  unfold gK at hs;split at hs
  · exact PK hn zH h hs
  · rename_i m cs hm;obtain rfl:m=n:=by omega
    simp only[Ag] at hs;obtain⟨r,hr,rfl⟩:=hs;obtain⟨r1,r2⟩:=Kz hr
    cases h with
    |agg _ vs hl h1 hv=>refine .agg r vs (by omega) (fun c hc=>?_) (fun j hj=>JO hn zH m (hv j (by omega)) (r2 j (by omega)));obtain⟨j,hj,rfl⟩:=Hd.1 hc;have :=r2 j (by omega);rw[getD_eq,getD_eq,Ab hj,Ab (by omega)] at this;exact aBo (G:=G) (G2:=G2) (H:=H) (w2:=w2) this (h1 _ (Ac _))
  · rename_i m vs0 hm;obtain rfl:m=n:=by omega
    simp only[Ag] at hs;obtain⟨r,hr,rfl⟩:=hs;obtain⟨r1,r2⟩:=Kz hr
    cases h with
    |jR _ vs hl hv=>exact .jR r vs (by omega) (fun j hj=>JO hn zH m (hv j (by omega)) (r2 j (by omega)))
  exact PK hn zH h hs
theorem KN.frame (hg:CZ g) {f:FuncId} {args:List AV} (hf:bL args=true) {R:Out->aA->Prop} (h:KN P g f args ⟨0,.nil⟩ R) (H:aA) {bBm:Out} {H':aA}
 (hR:∀out H2,R out H2->∃tk n v',(∀k,tk=some k->H2.get k=some .tok)/\gK H2 tk H.next n out.av=some v'/\out.with v'=bBm/\rS tk H=H'):Sound P g f args H bBm H':=by
 refine⟨h.1,fun G w vs hw hv=>?_⟩;let G0:Gh:=⟨fun _=>none,G.gV,G.mo⟩;have hG0:∀b o,G.gV b o->G0.gV b o/\w.cell? ⟨b,o,none⟩=w.cell? ⟨b,o,none⟩:=fun b o hh=>⟨hh,rfl⟩
 have hw0:WR g G0 ⟨0,.nil⟩ w:={
  cells:=fun id l cs eI h1=>by cases h1
  room:=fun id l h1=>by cases h1
  kT:=fun id kG l l' _ h1=>by cases h1
  jY:=fun id l h1=>by cases h1
  iM:=fun id l es h1=>by cases h1
  lt:=fun id l h1=>by cases h1
  iR:=hw.iR
  jA:=fun k cs hk=>(hw.jA k cs hk).qH (hg k cs hk) hG0
  CA:=hw.CA
  mo:=hw.mo}
 refine(h.2 G0 w vs hw0 (hv.qH hf hG0)).mono fun e w2 he=>?_;obtain⟨out,H2,G2,hr,zH,xV,qK⟩:=he;obtain⟨tk,n,v',nM,hs,rfl,rfl⟩:=hR _ _ hr
 have Kr:∀id l,G2.loc id=some l->H2.live id->w.heap.size<=l.cY:=fun id l h1 h2=>by
  rcases xV.lR id l h1 h2 with hh|⟨eS,l0,hh,_⟩
  · exact hh
  cases hh
 have xh:∀b,b<w.heap.size->w2.heap[b]?=w.heap[b]?:=fun b hb=>xV.frame b hb fun id l hh=>by cases hh
 have aIs:∀b o,(ET G G2 H H2 tk).gV b o->G.gV b o\/w.heap.size<=b:=fun b o hi=>by
  rcases hi with hi|⟨id,l,cs,eI,h1,h2,rfl,_⟩
  · rcases xV.pH b o hi with hh|hh|⟨eS,l0,hh,_⟩
    · exact .inl hh
    · exact .inr hh
    cases hh
  exact .inr (Kr id l h1 ⟨_,h2,rfl⟩)
 have sP:∀id l,G.loc id=some l->(ET G G2 H H2 tk).loc id=some l:=fun id l hl=>by have :=hw.lt id l hl;simp only[ET];rw[if_neg (by omega)];exact hl
 have pF:∀b o,G.gV b o->(ET G G2 H H2 tk).gV b o/\w2.cell? ⟨b,o,none⟩=w.cell? ⟨b,o,none⟩:=fun b o hi=>⟨.inl (xV.gV b o hi).1,(xV.gV b o hi).2⟩;have xt:H.next<=(rS tk H).next:=by cases tk<;>simp[rS]
 have cT:∀id,id≠H.next->(rS tk H).get id=H.get id:=fun id cK=>by
  cases tk with
  |none=>rfl
  |some k=>simp only[rS,aA.aJ,if_neg cK]
 have pW:∀id l,(ET G G2 H H2 tk).loc id=some l->(id≠H.next/\G.loc id=some l)\/(id=H.next/\∃k,tk=some k/\G2.loc k=some l/\(rS tk H).get id=some .tok):=fun id l hl=>by
  simp only[ET] at hl;by_cases cZ:id=H.next
  · rw[if_pos cZ] at hl
    cases tk with
    |none=>cases hl
    |some k=>exact .inr ⟨cZ,k,rfl,hl,by simp only[rS,aA.aJ,if_pos cZ]⟩
  rw[if_neg cZ] at hl;exact .inl ⟨cZ,hl⟩
 have pT:∀id,id≠H.next->(rS tk H).live id->H.live id:=fun id cK ⟨o,h1,h2⟩=>⟨o,by rw[<-cT id cK];exact h1,h2⟩;have TC:∀k l,tk=some k->G2.loc k=some l->w.heap.size<=l.cY:=fun k l h1 h2=>Kr k l h2 ⟨_,nM k h1,rfl⟩
 have aRg:WR g (ET G G2 H H2 tk) (rS tk H) w2:={
  cells:=fun id l cs eI h1 h2=>by
   rcases pW id l h1 with ⟨cK,hl⟩|⟨_,k,_,_,ht⟩
   · rw[cT id cK] at h2;obtain⟨a1,a2,a3,a4,a5⟩:=hw.cells id l cs eI hl h2;have hb:=hw.mP hl ⟨_,h2,rfl⟩;refine⟨a1,a2,a3,a4,fun j hj=>?_⟩;obtain⟨x,hx,hvx⟩:=a5 j hj;exact⟨x,by rw[gI (xh _ hb)];exact hx,hvx.mono sP pF⟩
   rw[ht] at h2;cases h2
  room:=fun id l h1 h2=>by
   rcases pW id l h1 with ⟨cK,hl⟩|⟨_,k,hk,qj,ht⟩
   · rw[cT id cK] at h2
     have hb:l.cY<w.heap.size:=hw.mP hl (by
      rcases h2 with ⟨cs,eI,hh⟩|hh
      · exact⟨_,hh,rfl⟩
      exact⟨_,hh,rfl⟩)
     obtain⟨c,el,fz,b1,b2,b3⟩:=hw.room id l hl h2;exact⟨c,el,fz,by rw[xh _ hb];exact b1,b2,fun j hj=>by rw[kY (xh _ hb)];exact b3 j hj⟩
   exact zH.room k l qj (.inr (nM k hk))
  kT:=fun id kG l l' cK h1 h2 sQ pU=>by
   rcases pW id l h1 with ⟨Kq,zC⟩|⟨Kq,k,hk,hk1,_⟩<;>rcases pW kG l' h2 with ⟨KA,qj⟩|⟨KA,k',rF,dP,_⟩
   · exact hw.kT id kG l l' cK zC qj (pT id Kq sQ) (pT kG KA pU)
   · have :=hw.mP zC (pT id Kq sQ);have :=TC k' l' rF dP;exact .inl (by omega)
   · have :=hw.mP qj (pT kG KA pU);have :=TC k l hk hk1;exact .inl (by omega)
   exact absurd (Kq.trans KA.symm) cK
  jY:=fun id l h1 sQ j hj hi=>by
   rcases pW id l h1 with ⟨Kq,zC⟩|⟨Kq,k,hk,hk1,_⟩
   · have hb:=hw.mP zC (pT id Kq sQ)
     rcases aIs _ _ hi with hh|hh
     · exact hw.jY id l zC (pT id Kq sQ) j hj hh
     omega
   rcases hi with hi|⟨id2,l2,cs,eI,q1,q2,q3,q4,q5⟩
   · exact zH.jY k l hk1 ⟨_,nM k hk,rfl⟩ j hj hi
   have cK:id2≠k:=fun hh=>by rw[hh,nM k hk] at q2;cases q2
   have hs:=(zH.cells id2 l2 cs eI q1 q2).2.1
   rcases zH.kT id2 k l2 l cK q1 hk1 ⟨_,q2,rfl⟩ ⟨_,nM k hk,rfl⟩ with hd|hd|hd
   · exact hd q3
   · omega
   omega
  iM:=fun id l o h1 h2 hk=>by
   rcases pW id l h1 with ⟨cK,hl⟩|⟨_,k,_,_,ht⟩
   · rw[cT id cK] at h2;have hb:=hw.mP hl ⟨_,h2,OS hk⟩;obtain⟨a1,a2,a3⟩:=hw.iM id l o hl h2 hk;exact⟨a1,a2,a3.mono (xh _ hb) fun _ _ h=>h.mono sP pF⟩
   rw[ht] at h2;cases h2;cases hk
  lt:=fun id l h1=>by
   rcases pW id l h1 with ⟨cK,hl⟩|⟨hn,k,hk,_,_⟩
   · have :=hw.lt id l hl;omega
   subst hk;simp[rS,hn]
  iR:=fun b o hi=>by
   rcases hi with hi|⟨id,l,cs,eI,q1,q2,rfl,q4,q5⟩
   · exact zH.iR b o hi
   obtain⟨a1,_,_,_,a5⟩:=zH.cells id l cs eI q1 q2;obtain⟨x,hx,_⟩:=a5 (o -l.base) (by omega);exact⟨x,by rw[show o=l.base+(o -l.base) by omega];exact hx⟩
  jA:=fun k cs hk=>(hw.jA k cs hk).mono sP pF
  CA:=zH.CA
  mo:=hw.mo}
 have aUc:Ext G H w (ET G G2 H H2 tk) (rS tk H) w2:={
  loc:=sP
  gV:=pF
  size:=xV.size
  frame:=fun b hb _=>xh b hb
  lR:=fun id l h1 sQ=>by
   rcases pW id l h1 with ⟨cK,hl⟩|⟨_,k,hk,hk1,_⟩
   · exact .inr ⟨id,l,hl,pT id cK sQ,rfl⟩
   exact .inl (TC k l hk hk1)
  pH:=fun b o hi=>by
   rcases aIs b o hi with hh|hh
   · exact .inl hh
   exact .inr (.inl hh)
  next:=xt
  news:=fun id l h1 h2=>by
   rcases pW id l h1 with ⟨cK,hl⟩|⟨hn,_⟩
   · rw[h2] at hl;cases hl
   omega
  dead:=fun id l h1 sQ=>pT id (by have :=hw.lt id l h1;omega) sQ
  mo:=rfl
  same:=xV.same}
 refine⟨_,aRg,aUc,?_⟩
 cases out with
 |ret v=>
  cases e with
  |returned u=>exact JO nM zH n qK hs
  |_=>exact qK.elim
 |KC v=>
  cases e with
  |panicked ch=>obtain⟨u,rfl,MS⟩:=qK;exact⟨u,rfl,JO nM zH n MS hs⟩
  |_=>exact qK.elim
theorem Sound.frame (hg:CZ g) {f:FuncId} {args:List AV} (hf:bL args=true) {out:Out} {H2:aA} (h:Sound P g f args ⟨0,.nil⟩ out H2) {tk:Option Nat} (nM:∀k,tk=some k->H2.get k=some .tok) {n:Nat}
 (H:aA) {v':AV} (hs:gK H2 tk H.next n out.av=some v'):Sound P g f args H (out.with v') (rS tk H):=
 h.open.frame hg hf H fun o H3 hh=>by obtain⟨rfl,rfl⟩:=hh;exact⟨tk,n,v',nM,hs,rfl,rfl⟩
end
end
section
abbrev dD:=Nat->AV
abbrev FQ:=AEx->dD->List gH->aA->Prop
def nY (g:bB) (f:dD):Arg->AV
 |.tmp t=>f t
 |.const v=>v
 |.jA n=>match g n with
  |some cs=>.pl cs
  |none=>aD
def jM (f:dD) (d:Nat) (v:AV):dD:=fun t=>if t=d then v else f t
theorem rO (f:dD) (d:Nat) (v:AV):jM f d v d=v:=by simp[jM]
theorem oI (f:dD) {d t:Nat} (v:AV) (h:t≠d):jM f d v t=f t:=by simp[jM,h]
def fN (n:Nat) (f:dD):Option Nat->AV->dD
 |none,_=>f
 |some d,v=>if d<n then jM f d v else f
def gW (f:dD) (o:bD):Bool:=
 match o.guard with
 |none=>true
 |some (d,b)=>match f d with
  |.bool c=>c==b
  |_=>false
def mF (r:Option (AV×aA)) (k:AV->aA->Prop):Prop:=
 match r with
 |some (v,H)=>k v H
 |none=>False
def bY (P:Program) (g:bB) (n:Nat):List bD->dD->List gH->aA->FQ->Prop
 |[],f,ds,H,Q=>Q .normal f ds H
 |o::r,f,ds,H,Q=>
  if gW f o then
   match o.op with
   |.call c azs=>∃out H',QX P g (nY g f c) (azs.map (nY g f)) H out H'/\
     match out with
     |.ret v=>bY P g n r (fN n f o.dst v) ds H' Q
     |.KC v=>Q (.panic v) f ds H'
   |.panic x=>∃t v,nY g f x=.iface t v/\Q (.panic (.iface t v)) f ds H
   |.lC c azs=>∃p,mJ (nY g f c)=some p/\bY P g n r (fN n f o.dst aD) (.call p.1 (p.2.1++azs.map (nY g f)++p.2.2)::ds) H Q
   |.vQ x=>∃m es,nY g f x=.map m/\H.get m=some (.map es)/\∀bs c mb,bs.length=es.length->bs.Nodup->
     bY P g n r (fN n f o.dst (.ref H.next 0)) ds ((H.set m (.sT es bs c mb)).alloc (.iter m mb c [])) Q
   |.DN x=>∃it m mb c seen es bs,nY g f x=.ref it 0/\H.get it=some (.iter m mb c seen)/\H.get m=some (.sT es bs c mb)/\
     ((∀b∈bs,b∈seen)->bY P g n r (fN n f o.dst (.jR [.bool false])) ds H Q)/\
     ∀j,j<bs.length->bs.getD j 0∉seen->bY P g n r (fN n f o.dst (.jR [.bool true,(es.getD j (aD,aD)).1,(es.getD j (aD,aD)).2])) ds (H.set it (.iter m mb c (seen++[bs.getD j 0]))) Q
   |.yB x=>∃it m mb c seen es bs j,nY g f x=.ref it 0/\H.get it=some (.iter m mb c (seen++[bs.getD j 0]))/\H.get m=some (.sT es bs c mb)/\j<bs.length/\
     bY P g n r (fN n f o.dst (.jR [(es.getD j (aD,aD)).1,(es.getD j (aD,aD)).2])) ds H Q
   |op=>mF (cX (nY g f) H op) fun v H'=>bY P g n r (fN n f o.dst v) ds H' Q
  else bY P g n r (fN n f o.dst aD) ds H Q
def ED (P:Program) (g:bB) (r:bD) (f:dD) (H:aA) (v:AV) (H':aA):Prop:=
 match r.op with
 |.call c azs=>∃p,mJ (nY g f c)=some p/\Sound P g p.1 (p.2.1++azs.map (nY g f)++p.2.2) H (.ret v) H'
 |.panic _|.lC _ _=>False
 |op=>cX (nY g f) H op=some (v,H')
def XA (P:Program) (g:bB) (n:Nat) (pairs:List (Nat×Nat)) (base:Nat):Nat->Nat->List bD->List (Nat×Nat)->List (Nat×aA×aA)->dD->aA->(dD->aA->Prop)->Prop
 |_,_,[],_,_,f,H,Q=>Q f H
 |i,k,r::rs,rd,ef,f,H,Q=>
  if gW f r then
   if r.op.fresh then
    ∃ob val,xK (nY g f) r.op=some (ob,val)/\(∀x∈ef,(i,x.1)∈pairs->x.2.1.get (base+k)=x.2.2.get (base+k))/\
     XA P g n pairs base (i+1) (k+1) rs ((i,base+k)::rd) ef (fN n f r.dst (val (base+k))) (H.set (base+k) ob) Q
   else if r.op.pR then
    ∃v H',ED P g r f H v H'/\H.next<=H'.next/\(∀x∈rd,(x.1,i)∈pairs->H.get x.2=H'.get x.2)/\
     XA P g n pairs base (i+1) k rs rd ((i,H,H')::ef) (fN n f r.dst v) H' Q
   else
    ∃v,ED P g r f H v H/\(∀id,r.op.dG (nY g f)=some id->∀x∈ef,(i,x.1)∈pairs->x.2.1.get id=x.2.2.get id)/\
     XA P g n pairs base (i+1) k rs (match r.op.dG (nY g f) with|some id=>(i,id)::rd|none=>rd) ef (fN n f r.dst v) H Q
  else XA P g n pairs base (i+1) (if r.op.fresh then k+1 else k) rs rd ef (fN n f r.dst aD) H Q
def gZ (next:dD->List gH->aA->Prop) (Q:FQ):FQ
 |.normal,f,ds,H=>next f ds H
 |e,f,ds,H=>Q e f ds H
def dN (id:Nat) (Q:FQ):FQ
 |.exit i,f,ds,H=>if i=id then Q .normal f ds H else Q (.exit i) f ds H
 |e,f,ds,H=>Q e f ds H
def sY (n:Nat) (f:dD):List (Nat×AV)->dD
 |[]=>f
 |(t,v)::r=>sY n (fN n f (some t) v) r
def nh (id:Nat) (out:Out) (H3:aA):FQ
 |.normal,_,ds,H=>ds=[]/\out=.ret (.bool true)/\∃k sn,H.get id=some (.loop k sn .busy)/\H3=H.set id (.loop k sn .ready)
 |.ret,_,ds,H=>ds=[]/\out=.ret (.bool false)/\∃k sn,H.get id=some (.loop k sn .busy)/\H3=H.set id (.loop k sn (.done .ret))
 |.exit i,_,ds,H=>ds=[]/\out=.ret (.bool false)/\∃k sn,H.get id=some (.loop k sn .busy)/\H3=H.set id (.loop k sn (.done (.exit i)))
 |.panic _,_,_,_=>False
def OT (st:LSt) (f:dD) (ds:List gH) (H:aA) (Q:FQ):Prop:=
 match st with
 |.ready=>Q .normal f ds H
 |.done .ret=>Q .ret f ds H
 |.done (.exit i)=>Q (.exit i) f ds H
 |_=>False
def LF (n:Nat) (f:dD):List AV:=(List.range n).map f
def nQ (n:Nat) (f:dD):Prop:=∀t,n<=t->f t=aD
def FC (P:Program) (g:bB) (n:Nat):cD->dD->List gH->aA->FQ->Prop
 |.skip,f,ds,H,Q=>Q .normal f ds H
 |.ops rl,f,ds,H,Q=>bY P g n rl f ds H Q
 |.draw rl pairs,f,ds,H,Q=>(mQ H (rl.countP (·.op.fresh))=true/\
   XA P g n pairs H.next 0 0 rl [] [] f {H with next:=H.next+rl.countP (·.op.fresh)} fun f' H'=>Q .normal f' ds H')\/
   (nQ n f->∃x f' H',NB P g rl pairs (LF n f) H (fun x' s' h'=>x'=x/\s'=LF n f'/\h'=H')/\nQ n f'/\(∀t,t∉rl.filterMap (·.dst)->f' t=f t)/\Q (.panic x) f' ds H')
 |.seq a b,f,ds,H,Q=>FC P g n a f ds H (gZ (fun f ds H=>FC P g n b f ds H Q) Q)
 |.cond c a b,f,ds,H,Q=>∃t,nY g f c=.bool t/\if t then FC P g n a f ds H Q else FC P g n b f ds H Q
 |.block id a,f,ds,H,Q=>FC P g n a f ds H (dN id Q)
 |.loop a,f,ds,H,Q=>∃(I:Nat->dD->List gH->aA->Prop) (m:Nat),I m f ds H/\
   ∀m f ds H,I m f ds H->FC P g n a f ds H (gZ (fun f ds H=>∃k,k<m/\I k f ds H) Q)
 |.exit id,f,ds,H,Q=>Q (.exit id) f ds H
 |.ret,f,ds,H,Q=>Q .ret f ds H
 |.oD c ps LX body,f,ds,H,Q=>∃pS fs cs v He k' s' st Hf,nY g f c=.func (.func pS) fs cs/\
   Sound P g pS (fs++[.yield (H.next+1)]++cs) ((H.alloc .LZ).alloc (.loop ⟨ps,LX,body⟩ (LF n f) .ready)) (.ret v) He/\He.get (H.next+1)=some (.loop k' s' st)/\wV He (H.next+1) Hf/\
   OT st f (.mark H.next::ds) Hf Q
def SP (P:Program) (g:bB) (n:Nat) (k:KI) (f:dD) (id:Nat) (args:List AV) (H2:aA) (out:Out) (H3:aA):Prop:=
 FC P g n k.LX (sY n f (k.ps.zip args)) [] H2 fun e f1 pA H1=>match e with
  |.normal=>pA=[]/\∃k1 dr,H1.get id=some (.loop k1 dr .ready)/\FC P g n k.body f1 [] (H1.set id (.loop k1 dr .busy)) (nh id out H3)
  |_=>False
theorem nQ.put {n:Nat} {f:dD} (h:nQ n f) (dst:Option Nat) (v:AV):nQ n (fN n f dst v):=by
 cases dst with
 |none=>exact h
 |some d=>
  simp only[fN];split
  · intro t ht;rw[oI f v (by omega)];exact h t ht
  exact h
theorem SS {n:Nat} {f:dD} (h:nQ n f) (t:Nat):(LF n f).getD t aD=f t:=by
 unfold LF;rw[getD_eq,Cz];by_cases ht:t<n
 · simp[ht]
 rw[h t (by omega)];simp[ht]
theorem pY {n:Nat} {f:dD} (dst:Option Nat) (v:AV):LF n (fN n f dst v)=mX (LF n f) dst v:=by
 cases dst with
 |none=>rfl
 |some d=>
  simp only[fN,mX,LF];apply Fh;intro i;rw[Gy];simp only[Cz,Ai,Bp];by_cases hd:d<n
  · rw[if_pos hd];by_cases hi:d=i
    · subst hi;simp[hd,rO]
    rw[if_neg hi];by_cases gG:i<n
    · simp[gG,oI f v (Ne.symm hi)]
    simp[gG]
  rw[if_neg hd];by_cases hi:d=i
  · subst hi;simp[hd]
  rw[if_neg hi]
theorem AH {n:Nat} {f:dD} (h:nQ n f) (g:bB):nY g f=Arg.eval g (LF n f):=by
 funext x
 cases x with
 |tmp t=>exact(SS h t).symm
 |const v=>rfl
 |jA n=>rfl
theorem PV {n:Nat} {f:dD} (h:nQ n f) (o:bD):gW f o=bP (LF n f) o:=by
 unfold gW bP
 cases o.guard with
 |none=>rfl
 |some p=>simp only[SS h];cases f p.1<;>rfl
theorem KH {n:Nat}:∀(l:List (Nat×AV)) (f:dD),pK (LF n f) l=LF n (sY n f l)
 |[],f=>rfl
 |(t,v)::l,f=>by rw[pK,sY,<-KH l];congr 1;rw[pY];rfl
theorem nQ.pK {n:Nat}:∀(l:List (Nat×AV)) {f:dD},nQ n f->nQ n (sY n f l)
 |[],_,h=>h
 |(t,v)::l,_,h=>nQ.pK l (h.put (some t) v)
def aJz (n:Nat) (Q:FQ):AQ:=fun e s ds H=>∃f,s=LF n f/\nQ n f/\Q e f ds H
section
variable {P:Program} {g:bB} {n:Nat}
theorem kI:∀(rl:List bD) (f:dD) (ds:List gH) (H:aA) (Q:FQ),nQ n f->bY P g n rl f ds H Q->uN P g rl (LF n f) ds H (aJz n Q)
 |[],f,ds,H,Q,hb,h=>⟨f,rfl,hb,h⟩
 |o::r,f,ds,H,Q,hb,h=>by
  unfold bY at h;unfold uN;rw[PV hb,AH hb] at h;split at h
  · rename_i hw;rw[if_pos hw];split at h
    · rename_i c azs fP;obtain⟨out,H',h2,h3⟩:=h;rw[fP];refine⟨out,H',h2,?_⟩
      cases out with
      |ret v=>
       have :=kI r _ ds H' Q (hb.put o.dst v) h3
       rwa [pY] at this
      |KC v=>exact⟨f,rfl,hb,h3⟩
    · rename_i x fP;obtain⟨t,v,h1,h2⟩:=h;rw[fP];exact⟨t,v,h1,f,rfl,hb,h2⟩
    · rename_i c azs fP;obtain⟨p,h1,h2⟩:=h;rw[fP];refine⟨p,h1,?_⟩;have :=kI r _ _ H Q (hb.put o.dst aD) h2
      rwa [pY] at this
    · rename_i x fP;obtain⟨m,es,h1,h2,h3⟩:=h;rw[fP];refine⟨m,es,h1,h2,fun bs c mb k1 k2=>?_⟩;have :=kI r _ _ _ Q (hb.put o.dst _) (h3 bs c mb k1 k2)
      rwa [pY] at this
    · rename_i x fP;obtain⟨it,m,mb,c,seen,es,bs,h1,h2,h3,h4,h5⟩:=h;rw[fP];refine⟨it,m,mb,c,seen,es,bs,h1,h2,h3,fun k=>?_,fun j k1 k2=>?_⟩
      · have :=kI r _ _ _ Q (hb.put o.dst _) (h4 k)
        rwa [pY] at this
      have :=kI r _ _ _ Q (hb.put o.dst _) (h5 j k1 k2)
      rwa [pY] at this
    · rename_i x fP;obtain⟨it,m,mb,c,seen,es,bs,j,h1,h2,h3,h4,h5⟩:=h;rw[fP];refine⟨it,m,mb,c,seen,es,bs,j,h1,h2,h3,h4,?_⟩;have :=kI r _ _ _ Q (hb.put o.dst _) h5
      rwa [pY] at this
    rename_i n1 n2 n3 n4 n5 n6;unfold mF at h;split at h
    · rename_i v H' ha;have :=kI r _ ds H' Q (hb.put o.dst v) h;rw[pY] at this;split
      · rename_i c azs fP;exact absurd fP (n1 c azs)
      · rename_i x fP;exact absurd fP (n2 x)
      · rename_i c azs fP;exact absurd fP (n3 c azs)
      · rename_i x fP;exact absurd fP (n4 x)
      · rename_i x fP;exact absurd fP (n5 x)
      · rename_i x fP;exact absurd fP (n6 x)
      exact⟨v,H',ha,this⟩
    exact h.elim
  rename_i hw;rw[if_neg hw];have :=kI r _ ds H Q (hb.put o.dst aD) h
  rwa [pY] at this
theorem Qa {f:dD} (hb:nQ n f) {r:bD} {H H':aA} {v:AV} (h:ED P g r f H v H'):GO P g r (LF n f) H v H':=by
 unfold ED at h;unfold GO
 rwa [AH hb] at h
theorem wA {pairs:List (Nat×Nat)} {base:Nat} {Q:dD->aA->Prop}:∀(rl:List bD) (i k:Nat) (rd:List (Nat×Nat)) (ef:List (Nat×aA×aA)) (f:dD) (H:aA),nQ n f->
 XA P g n pairs base i k rl rd ef f H Q->UE P g pairs base i k rl rd ef (LF n f) H (fun s H=>∃f,s=LF n f/\nQ n f/\Q f H)
 |[],i,k,rd,ef,f,H,hb,h=>⟨f,rfl,hb,h⟩
 |r::rs,i,k,rd,ef,f,H,hb,h=>by
  unfold XA at h;unfold UE;rw[PV hb] at h;split at h
  · rename_i hw;rw[if_pos hw];split at h
    · rename_i hf;rw[if_pos hf];obtain⟨ob,val,h1,h2,h3⟩:=h;rw[AH hb] at h1;refine⟨ob,val,h1,h2,?_⟩;have :=wA rs _ _ _ _ _ _ (hb.put r.dst _) h3
      rwa [pY] at this
    rename_i hf;rw[if_neg hf];split at h
    · rename_i he;rw[if_pos he];obtain⟨v,H',h1,h2,h3,h4⟩:=h;refine⟨v,H',Qa hb h1,h2,h3,?_⟩;have :=wA rs _ _ _ _ _ _ (hb.put r.dst _) h4
      rwa [pY] at this
    rename_i he;rw[if_neg he];obtain⟨v,h1,h2,h3⟩:=h;refine⟨v,Qa hb h1,by rw[<-AH hb];exact h2,?_⟩;have :=wA rs _ _ _ _ _ _ (hb.put r.dst _) h3;rw[pY] at this;rw[<-AH hb];exact this
  rename_i hw;rw[if_neg hw];have :=wA rs _ _ _ _ _ _ (hb.put r.dst _) h
  rwa [pY] at this
theorem vZ:∀(c:cD) (f:dD) (ds:List gH) (H:aA) (Q:FQ),nQ n f->FC P g n c f ds H Q->AC P g c (LF n f) ds H (aJz n Q):=by
 intro c
 induction c with
 |skip=>exact fun f ds H Q hb h=>⟨f,rfl,hb,h⟩
 |ops rl=>exact fun f ds H Q hb h=>kI rl f ds H Q hb h
 |draw rl pairs=>intro f ds H Q hb h;refine h.imp (fun h=>⟨h.1,wA rl 0 0 [] [] f _ hb h.2⟩) fun h=>?_;obtain⟨x,f',H',h1,h2,_,h3⟩:=h hb;exact h1.mono fun x' s' h' ⟨e1,e2,e3⟩=>⟨f',e2,h2,by rw[e1,e3];exact h3⟩
 |seq a b qR uM=>
  intro f ds H Q hb h;show AC P g a (LF n f) ds H _;refine fI (fun e s ds H hq=>?_) (qR f ds H _ hb h);obtain⟨f',rfl,IA,hq⟩:=hq
  cases e with
  |normal=>exact uM f' ds H Q IA hq
  |_=>exact⟨f',rfl,IA,hq⟩
 |cond c a b qR uM=>
  intro f ds H Q hb h;obtain⟨t,h1,h2⟩:=h;rw[AH hb] at h1;refine⟨t,h1,?_⟩
  cases t with
  |true=>exact qR f ds H Q hb h2
  |false=>exact uM f ds H Q hb h2
 |block id a ih=>
  intro f ds H Q hb h;show AC P g a (LF n f) ds H _;refine fI (fun e s ds H hq=>?_) (ih f ds H _ hb h);obtain⟨f',rfl,IA,hq⟩:=hq
  cases e with
  |exit i=>
   simp only[dN] at hq;simp only[pI];split
   · rename_i hi;rw[if_pos hi] at hq;exact⟨f',rfl,IA,hq⟩
   rename_i hi;rw[if_neg hi] at hq;exact⟨f',rfl,IA,hq⟩
  |_=>exact⟨f',rfl,IA,hq⟩
 |loop a ih=>
  intro f ds H Q hb h;obtain⟨I,m,h0,hI⟩:=h;refine⟨fun m s ds H=>∃f,s=LF n f/\nQ n f/\I m f ds H,m,⟨f,rfl,hb,h0⟩,?_⟩;rintro m s pA H1 ⟨f1,rfl,dR,h1⟩;refine fI (fun e s ds H hq=>?_) (ih f1 pA H1 _ dR (hI m f1 pA H1 h1));obtain⟨f',rfl,IA,hq⟩:=hq
  cases e with
  |normal=>obtain⟨k,hk,hq⟩:=hq;exact⟨k,hk,f',rfl,IA,hq⟩
  |_=>exact⟨f',rfl,IA,hq⟩
 |exit id=>exact fun f ds H Q hb h=>⟨f,rfl,hb,h⟩
 |ret=>exact fun f ds H Q hb h=>⟨f,rfl,hb,h⟩
 |oD c ps a b qR uM=>
  intro f ds H Q hb h;obtain⟨pS,fs,cs,v,He,k',s',st,Hf,h1,h2,h3,h4,h5⟩:=h;rw[AH hb] at h1;refine⟨pS,fs,cs,v,He,k',s',st,Hf,h1,h2,h3,h4,?_⟩
  cases st with
  |ready=>exact⟨f,rfl,hb,h5⟩
  |done e=>cases e<;>exact⟨f,rfl,hb,h5⟩
  |busy=>exact h5.elim
  |over _=>exact h5.elim
theorem fu {rl:List bD}:∀{f:dD} {ds:List gH} {H:aA} {Q Q':FQ},(∀e f ds H,Q e f ds H->Q' e f ds H)->bY P g n rl f ds H Q->bY P g n rl f ds H Q':=by
 induction rl with
 |nil=>exact fun hq h=>hq _ _ _ _ h
 |cons o r ih=>
  intro f ds H Q Q' hq h;unfold bY at h ⊢;split
  · rename_i hw;rw[if_pos hw] at h;split at h
    · obtain⟨out,H',h1,h3⟩:=h;refine⟨out,H',h1,?_⟩
      cases out with
      |ret v=>exact ih hq h3
      |KC v=>exact hq _ _ _ _ h3
    · obtain⟨t,v,h1,h2⟩:=h;exact⟨t,v,h1,hq _ _ _ _ h2⟩
    · obtain⟨p,h1,h2⟩:=h;exact⟨p,h1,ih hq h2⟩
    · obtain⟨m,es,h1,h2,h3⟩:=h;exact⟨m,es,h1,h2,fun bs c mb k1 k2=>ih hq (h3 bs c mb k1 k2)⟩
    · obtain⟨it,m,mb,c,seen,es,bs,h1,h2,h3,h4,h5⟩:=h;exact⟨it,m,mb,c,seen,es,bs,h1,h2,h3,fun k=>ih hq (h4 k),fun j k1 k2=>ih hq (h5 j k1 k2)⟩
    · obtain⟨it,m,mb,c,seen,es,bs,j,h1,h2,h3,h4,h5⟩:=h;exact⟨it,m,mb,c,seen,es,bs,j,h1,h2,h3,h4,ih hq h5⟩
    unfold mF at h ⊢;split at h
    · exact ih hq h
    exact h.elim
  rename_i hw;rw[if_neg hw] at h;exact ih hq h
theorem UM {pairs:List (Nat×Nat)} {base:Nat} {rl:List bD}:∀{i k:Nat} {rd:List (Nat×Nat)} {ef:List (Nat×aA×aA)} {f:dD} {H:aA} {Q Q':dD->aA->Prop},(∀f H,Q f H->Q' f H)->
 XA P g n pairs base i k rl rd ef f H Q->XA P g n pairs base i k rl rd ef f H Q':=by
 induction rl with
 |nil=>exact fun hq h=>hq _ _ h
 |cons r rs ih=>
  intro i k rd ef f H Q Q' hq h;unfold XA at h ⊢;split
  · rename_i hw;rw[if_pos hw] at h;split
    · rename_i hf;rw[if_pos hf] at h;obtain⟨ob,val,h1,h2,h3⟩:=h;exact⟨ob,val,h1,h2,ih hq h3⟩
    rename_i hf;rw[if_neg hf] at h;split
    · rename_i he;rw[if_pos he] at h;obtain⟨v,H',h1,h2,h3,h4⟩:=h;exact⟨v,H',h1,h2,h3,ih hq h4⟩
    rename_i he;rw[if_neg he] at h;obtain⟨v,h1,h2,h3⟩:=h;exact⟨v,h1,h2,ih hq h3⟩
  rename_i hw;rw[if_neg hw] at h;exact ih hq h
theorem iY {c:cD}:∀{f:dD} {ds:List gH} {H:aA} {Q Q':FQ},(∀e f ds H,Q e f ds H->Q' e f ds H)->FC P g n c f ds H Q->FC P g n c f ds H Q':=by
 induction c with
 |skip=>exact fun hq h=>hq _ _ _ _ h
 |ops rl=>exact fun hq h=>fu hq h
 |draw rl pairs=>exact fun hq h=>h.imp (fun h=>⟨h.1,UM (fun s H=>hq _ _ _ _) h.2⟩) fun h hb=>let⟨x,f',H',h1,h2,h3,h4⟩:=h hb;⟨x,f',H',h1,h2,h3,hq _ _ _ _ h4⟩
 |seq a b qR uM=>
  intro f ds H Q Q' hq h;refine qR (fun e f ds H h=>?_) h
  cases e with
  |normal=>exact uM hq h
  |_=>exact hq _ _ _ _ h
 |cond c a b qR uM=>
  intro f ds H Q Q' hq h;obtain⟨t,h1,h2⟩:=h;refine⟨t,h1,?_⟩
  cases t with
  |true=>exact qR hq h2
  |false=>exact uM hq h2
 |block id a ih=>
  intro f ds H Q Q' hq h;refine ih (fun e f ds H h=>?_) h
  cases e with
  |exit i=>
   simp only[dN] at h ⊢;split
   · rename_i hi;rw[if_pos hi] at h;exact hq _ _ _ _ h
   rename_i hi;rw[if_neg hi] at h;exact hq _ _ _ _ h
  |_=>exact hq _ _ _ _ h
 |loop a ih=>
  intro f ds H Q Q' hq h;obtain⟨I,m,h0,hI⟩:=h;refine⟨I,m,h0,fun m f ds H hi=>ih (fun e f ds H h=>?_) (hI m f ds H hi)⟩
  cases e with
  |normal=>exact h
  |_=>exact hq _ _ _ _ h
 |exit id=>exact fun hq h=>hq _ _ _ _ h
 |ret=>exact fun hq h=>hq _ _ _ _ h
 |oD c ps a b qR uM=>
  intro f ds H Q Q' hq h;obtain⟨pS,fs,cs,v,He,k',s',st,Hf,h1,h2,h3,h4,h5⟩:=h;refine⟨pS,fs,cs,v,He,k',s',st,Hf,h1,h2,h3,h4,?_⟩
  cases st with
  |ready=>exact hq _ _ _ _ h5
  |done e=>cases e<;>exact hq _ _ _ _ h5
  |busy=>exact h5.elim
  |over _=>exact h5.elim
def fG (args:List AV):dD:=fun t=>args.getD t aD
def QP (f:dD) (H:aA):GH->Option AV
 |.tmp t=>some (f t)
 |.cell a agg n=>match cX (nY g0 f) H (.load agg n (.tmp a)) with
  |some (v,_)=>some v
  |none=>none
def sJ (f:dD) (H:aA):List GH->Option (List AV)
 |[]=>some []
 |x::r=>match QP f H x,sJ f H r with
  |some v,some vs=>some (v::vs)
  |_,_=>none
theorem JL {f:dD} (hb:nQ n f) (H:aA):∀l,sJ f H l=mC (LF n f) H l
 |[]=>rfl
 |x::r=>by
  have ih:=JL hb H r
  cases x with
  |tmp t=>simp only[sJ,mC,QP,my,ih,SS hb];cases mC (LF n f) H r<;>rfl
  |cell a agg m=>
   simp only[sJ,mC,QP,my,ih,AH hb]
   cases cX (Arg.eval g0 (LF n f)) H (.load agg m (.tmp a)) with
   |none=>rfl
   |some p=>cases mC (LF n f) H r<;>rfl
theorem CL {args:List AV} (h:args.length<=n):nQ n (fG args)/\LF n (fG args)=args++List.replicate (n -args.length) aD:=by
 refine⟨fun t ht=>?_,Fh fun t=>?_⟩
 · simp only[fG,getD_eq];rw[Bs (by omega)];rfl
 unfold LF;rw[Cz];by_cases ht:t<n
 · rw[Iy ht,Bz];by_cases h1:t<args.length
   · rw[Ex h1];simp[fG,getD_eq,Ab h1]
   rw[Fy (by omega),Gf,if_pos (by omega)];simp only[fG,getD_eq];rw[Bs (by omega)];rfl
 rw[Bs (by simp;omega),Bs (by simp;omega)];rfl
def MZ (rs:List GH) (R:Out->aA->Prop):FQ
 |.normal,f,ds,H|.ret,f,ds,H=>ds=[]/\∃vs,sJ f H rs=some vs/\R (.ret (mY vs)) H
 |.panic v,_,ds,H=>ds=[]/\R (.KC v) H
 |.exit _,_,_,_=>False
theorem rf {F:BR} {args:List AV} (ha:args.length<=F.ntmps) {H:aA} {R:Out->aA->Prop} (h:FC P g F.ntmps F.body (fG args) [] H (MZ F.results R)):
 AC P g F.body (kO F args) [] H (aHh F R):=by
 obtain⟨hb,hl⟩:=CL ha;unfold kO;rw[<-hl];refine fI (fun e s ds H hq=>?_) (vZ F.body _ [] H _ hb h);obtain⟨f,rfl,IA,hq⟩:=hq
 cases e with
 |normal=>obtain⟨h1,vs,h2,h3⟩:=hq;exact⟨h1,vs,by rw[<-JL IA];exact h2,h3⟩
 |ret=>obtain⟨h1,vs,h2,h3⟩:=hq;exact⟨h1,vs,by rw[<-JL IA];exact h2,h3⟩
 |panic v=>exact hq
 |exit id=>exact hq
def bD.dJ (r:bD):Bool:=match r.op with|.vQ _|.DN _=>false|_=>true
def cD.dJ:cD->Bool
 |.ops rl=>rl.all bD.dJ
 |.seq a b|.cond _ a b=>a.dJ&&b.dJ
 |.block _ a|.loop a=>a.dJ
 |_=>true
theorem Wv {rl:List bD} (hd:rl.all bD.dJ=true):∀{s:List AV} {ds:List gH} {H:aA} {Q:AQ},uN P g rl s ds H Q->
 ∃ae s' fO H',Q ae s' fO H'/\uN P g rl s ds H (fun e s d h=>e=ae/\s=s'/\d=fO/\h=H'):=by
 induction rl with
 |nil=>exact fun {s ds H Q} h=>⟨.normal,s,ds,H,h,rfl,rfl,rfl,rfl⟩
 |cons o r ih=>
  intro s ds H Q h;simp only[Ho,Am] at hd;have ih:=fun {s ds H Q}=> @ih hd.2 s ds H Q;unfold uN at h ⊢;by_cases hw:bP s o=true
  · simp only[hw,if_true] at h ⊢;split at h
    · obtain⟨out,H',h1,h3⟩:=h
      cases out with
      |ret v=>obtain⟨ae,s',fO,H1,q,hA⟩:=ih h3;exact⟨ae,s',fO,H1,q,.ret v,H',h1,hA⟩
      |KC v=>exact⟨.panic v,s,ds,H',h3,.KC v,H',h1,rfl,rfl,rfl,rfl⟩
    · obtain⟨t,v,h1,h2⟩:=h;exact⟨_,s,ds,H,h2,t,v,h1,rfl,rfl,rfl,rfl⟩
    · obtain⟨p,h1,h2⟩:=h;obtain⟨ae,s',fO,H1,q,hA⟩:=ih h2;exact⟨ae,s',fO,H1,q,p,h1,hA⟩
    · rename_i x fP;simp[bD.dJ,fP] at hd
    · rename_i x fP;simp[bD.dJ,fP] at hd
    · obtain⟨it,m,mb,c,seen,es,bs,j,h1,h2,h3,h4,h5⟩:=h;obtain⟨ae,s',fO,H1,q,hA⟩:=ih h5;exact⟨ae,s',fO,H1,q,it,m,mb,c,seen,es,bs,j,h1,h2,h3,h4,hA⟩
    obtain⟨v,H',h1,h2⟩:=h;obtain⟨ae,s',fO,H1,q,hA⟩:=ih h2;exact⟨ae,s',fO,H1,q,v,H',h1,hA⟩
  simp only[hw] at h ⊢;exact ih h
theorem ey {pairs:List (Nat×Nat)} {base:Nat} {rl:List bD}:∀{i k:Nat} {rd:List (Nat×Nat)} {ef:List (Nat×aA×aA)} {s:List AV} {H:aA} {Q:List AV->aA->Prop},
 UE P g pairs base i k rl rd ef s H Q->∃s' H',Q s' H'/\UE P g pairs base i k rl rd ef s H (fun s h=>s=s'/\h=H'):=by
 induction rl with
 |nil=>exact fun {i k rd ef s H Q} h=>⟨s,H,h,rfl,rfl⟩
 |cons r rs ih=>
  intro i k rd ef s H Q h;unfold UE at h ⊢;by_cases hw:bP s r=true
  · simp only[hw,if_true] at h ⊢;by_cases hf:r.op.fresh=true
    · simp only[hf,if_true] at h ⊢;obtain⟨ob,val,h1,h2,h3⟩:=h;obtain⟨s',H',q,hA⟩:=ih h3;exact⟨s',H',q,ob,val,h1,h2,hA⟩
    simp only[hf] at h ⊢;by_cases he:r.op.pR=true
    · simp only[he,if_true] at h ⊢;obtain⟨v,H1,h1,h2,h3,h4⟩:=h;obtain⟨s',H',q,hA⟩:=ih h4;exact⟨s',H',q,v,H1,h1,h2,h3,hA⟩
    simp only[he] at h ⊢;obtain⟨v,h1,h2,h3⟩:=h;obtain⟨s',H',q,hA⟩:=ih h3;exact⟨s',H',q,v,h1,h2,hA⟩
  simp only[hw] at h ⊢;exact ih h
theorem GD {c:cD} (hd:c.dJ=true):∀{s:List AV} {ds:List gH} {H:aA} {Q:AQ},AC P g c s ds H Q->
 ∃ae s' fO H',Q ae s' fO H'/\AC P g c s ds H (fun e s d h=>e=ae/\s=s'/\d=fO/\h=H'):=by
 induction c with
 |skip=>exact fun {s ds H Q} h=>⟨.normal,s,ds,H,h,rfl,rfl,rfl,rfl⟩
 |ops rl=>exact fun h=>Wv hd h
 |draw rl pairs=>
  intro s ds H Q h
  rcases h with h|⟨j,Hs,ss,vs,h1,D,r,f,azs,p,x,H1,e1,e2,e3,e4,e5,q⟩
  · obtain⟨s',H',q,hA⟩:=ey h.2;exact⟨.normal,s',ds,H',q,.inl ⟨h.1,UF (fun s H h=>⟨rfl,h.1,rfl,h.2⟩) hA⟩⟩
  exact⟨.panic x,ss j,ds,H1,q,.inr ⟨j,Hs,ss,vs,h1,D,r,f,azs,p,x,H1,e1,e2,e3,e4,e5,rfl,rfl,rfl,rfl⟩⟩
 |seq a b qR uM=>
  simp only[cD.dJ,Am] at hd;have qR:=fun {s ds H Q}=> @qR hd.1 s ds H Q;have uM:=fun {s ds H Q}=> @uM hd.2 s ds H Q;intro s ds H Q h;obtain⟨ae,s1,pA,H1,q,hA⟩:=qR h
  cases ae with
  |normal=>obtain⟨ae2,s2,Qn,H2,q2,hB⟩:=uM q;refine⟨ae2,s2,Qn,H2,q2,?_⟩;show AC P g a s ds H _;refine fI (fun e s d h hh=>?_) hA;obtain⟨rfl,rfl,rfl,rfl⟩:=hh;exact hB
  |_=>refine⟨_,s1,pA,H1,q,?_⟩;show AC P g a s ds H _;refine fI (fun e s d h hh=>?_) hA;obtain⟨rfl,rfl,rfl,rfl⟩:=hh;exact⟨rfl,rfl,rfl,rfl⟩
 |cond c a b qR uM=>
  simp only[cD.dJ,Am] at hd;have qR:=fun {s ds H Q}=> @qR hd.1 s ds H Q;have uM:=fun {s ds H Q}=> @uM hd.2 s ds H Q;intro s ds H Q h;obtain⟨t,h1,h2⟩:=h
  cases t with
  |true=>obtain⟨ae,s1,pA,H1,q,hA⟩:=qR h2;exact⟨ae,s1,pA,H1,q,true,h1,hA⟩
  |false=>obtain⟨ae,s1,pA,H1,q,hA⟩:=uM h2;exact⟨ae,s1,pA,H1,q,false,h1,hA⟩
 |block id a ih=>
  have ih:=fun {s ds H Q}=> @ih hd s ds H Q;intro s ds H Q h;obtain⟨ae,s1,pA,H1,q,hA⟩:=ih h
  have other:∀e,(∀i,e≠ .exit i)->Q e s1 pA H1->AC P g a s ds H (fun e' s d h=>e'=e/\s=s1/\d=pA/\h=H1)->
   ∃ae s' fO H',Q ae s' fO H'/\AC P g (.block id a) s ds H (fun e s d h=>e=ae/\s=s'/\d=fO/\h=H'):=fun e cK hq hA=>by
   refine⟨e,s1,pA,H1,hq,?_⟩;show AC P g a s ds H _;refine fI (fun e' s d h hh=>?_) hA;obtain⟨rfl,rfl,rfl,rfl⟩:=hh
   cases e' with
   |exit i=>exact absurd rfl (cK i)
   |_=>exact⟨rfl,rfl,rfl,rfl⟩
  cases ae with
  |exit i=>
   simp only[pI] at q;by_cases hi:i=id
   · rw[if_pos hi] at q;refine⟨.normal,s1,pA,H1,q,?_⟩;show AC P g a s ds H _;refine fI (fun e s d h hh=>?_) hA;obtain⟨rfl,rfl,rfl,rfl⟩:=hh;simp only[pI];rw[if_pos hi]
     first|exact⟨rfl,rfl,rfl,rfl⟩|simp
   rw[if_neg hi] at q;refine⟨.exit i,s1,pA,H1,q,?_⟩;show AC P g a s ds H _;refine fI (fun e s d h hh=>?_) hA;obtain⟨rfl,rfl,rfl,rfl⟩:=hh;simp only[pI];rw[if_neg hi]
   first|exact⟨rfl,rfl,rfl,rfl⟩|simp
  |normal=>exact other _ (fun i hh=>by cases hh) q hA
  |ret=>exact other _ (fun i hh=>by cases hh) q hA
  |panic v=>exact other _ (fun i hh=>by cases hh) q hA
 |loop a ih=>
  have ih:=fun {s ds H Q}=> @ih hd s ds H Q;intro s ds H Q h;obtain⟨I,m,h0,hI⟩:=h
  have key:∀(m:Nat) (s:List AV) (ds:List gH) (H:aA),I m s ds H->
   ∃ae s' fO H',Q ae s' fO H'/\AC P g (.loop a) s ds H (fun e s d h=>e=ae/\s=s'/\d=fO/\h=H'):=by
   intro m
   induction m using Nat.strongRecOn with
   |_ m ihm=>
    intro s ds H hi;obtain⟨ae,s1,pA,H1,q,hA⟩:=ih (hI m s ds H hi)
    have once:∀e,e≠ .normal->Q e s1 pA H1->AC P g a s ds H (fun e' s d h=>e'=e/\s=s1/\d=pA/\h=H1)->
     ∃ae s' fO H',Q ae s' fO H'/\AC P g (.loop a) s ds H (fun e s d h=>e=ae/\s=s'/\d=fO/\h=H'):=fun e cK hq hA=>by
     refine⟨e,s1,pA,H1,hq,fun k s' d' h'=>s'=s/\d'=ds/\h'=H,0,⟨rfl,rfl,rfl⟩,?_⟩;rintro k _ _ _ ⟨rfl,rfl,rfl⟩;refine fI (fun e' s d h hh=>?_) hA;obtain⟨rfl,rfl,rfl,rfl⟩:=hh
     cases e' with
     |normal=>exact absurd rfl cK
     |_=>exact⟨rfl,rfl,rfl,rfl⟩
    cases ae with
    |normal=>
     obtain⟨k,hk,zA⟩:=q;obtain⟨ae2,s2,Qn,H2,q2,J,j,hj,hJ⟩:=ihm k hk s1 pA H1 zA;refine⟨ae2,s2,Qn,H2,q2,fun x s' d' h'=>J x s' d' h'\/(x=j+1/\s'=s/\d'=ds/\h'=H),j+1,.inr ⟨rfl,rfl,rfl,rfl⟩,?_⟩;rintro x s' d' h' (hx|⟨rfl,rfl,rfl,rfl⟩)
     · refine fI (fun e s d h hh=>?_) (hJ x s' d' h' hx)
       cases e with
       |normal=>obtain⟨y,hy,hyy⟩:=hh;exact⟨y,hy,.inl hyy⟩
       |_=>exact hh
     refine fI (fun e s d h hh=>?_) hA;obtain⟨rfl,rfl,rfl,rfl⟩:=hh;exact⟨j,Ez j,.inl hj⟩
    |exit i=>exact once _ (fun hh=>by cases hh) q hA
    |ret=>exact once _ (fun hh=>by cases hh) q hA
    |panic v=>exact once _ (fun hh=>by cases hh) q hA
  exact key m s ds H h0
 |exit id=>exact fun {s ds H Q} h=>⟨_,s,ds,H,h,rfl,rfl,rfl,rfl⟩
 |ret=>exact fun {s ds H Q} h=>⟨_,s,ds,H,h,rfl,rfl,rfl,rfl⟩
 |oD c ps a b qR uM=>
  intro s ds H Q h;obtain⟨pS,fs,cs,v,He,k',s',st,Hf,h1,h2,h3,h4,h5⟩:=h
  cases st with
  |ready=>exact⟨_,_,_,Hf,h5,pS,fs,cs,v,He,k',s',.ready,Hf,h1,h2,h3,h4,rfl,rfl,rfl,rfl⟩
  |done e=>cases e<;>exact⟨_,_,_,Hf,h5,pS,fs,cs,v,He,k',s',.done _,Hf,h1,h2,h3,h4,rfl,rfl,rfl,rfl⟩
  |busy=>exact h5.elim
  |over _=>exact h5.elim
theorem eD {mu:Bool} (hm:Fit P g) {f:FuncId} {F:BR} (hF:kP P g mu f F) {args:List AV} (ha:args.length<=F.ntmps) {H:aA} {R:Out->aA->Prop}
 (h:FC P g F.ntmps F.body (fG args) [] H (MZ F.results R)) (hdt:F.body.dJ=true:=by first|rfl|decide):∃out H',R out H'/\Sound P g f args H out H':=by
 obtain⟨ae,s,ds,H',q,hA⟩:=GD hdt (rf ha h);have fin:∀out,R out H'->AC P g F.body (kO F args) [] H (aHh F fun o h=>o=out/\h=H')->∃out H',R out H'/\Sound P g f args H out H':=fun out hR hA=>⟨out,H',hR,UP hm hF hA⟩
 cases ae with
 |exit id=>exact q.elim
 |panic v=>refine fin (.KC v) q.2 (fI (fun e s d h hh=>?_) hA);obtain⟨rfl,rfl,rfl,rfl⟩:=hh;exact⟨q.1,rfl,rfl⟩
 |normal=>obtain⟨h1,vs,h2,h3⟩:=q;refine fin _ h3 (fI (fun e s d h hh=>?_) hA);obtain⟨rfl,rfl,rfl,rfl⟩:=hh;exact⟨h1,vs,h2,rfl,rfl⟩
 |ret=>obtain⟨h1,vs,h2,h3⟩:=q;refine fin _ h3 (fI (fun e s d h hh=>?_) hA);obtain⟨rfl,rfl,rfl,rfl⟩:=hh;exact⟨h1,vs,h2,rfl,rfl⟩
end
end
section
theorem eB {a b:Prop} (h1:a->b) (h2:b->a):a=b:=propext ⟨h1,h2⟩
theorem aO {r r':Option (AV×aA)} (h:r=r') (k:AV->aA->Prop):mF r k=mF r' k:=by rw[h]
theorem bZ (v:AV) (H:aA) (k:AV->aA->Prop):mF (some (v,H)) k=k v H:=eB id id
section
variable {P:Program} {g:bB} {n:Nat} {r:List bD} {f:dD} {ds:List gH} {H:aA} {Q:FQ}
theorem wB:bY P g n [] f ds H Q=Q .normal f ds H:=eB id id
theorem SO (d:Nat) (op:eC) (hp:op.plain=true) (hd:d<n):
 bY P g n (⟨some d,op,none⟩::r) f ds H Q=mF (cX (nY g f) H op) fun v H'=>bY P g n r (jM f d v) ds H' Q:=by
 have :∀v,fN n f (some d) v=jM f d v:=fun v=>by simp[fN,hd]
 conv=>lhs;unfold bY
 simp only[gW,if_true,this]
 cases op<;>first|rfl|cases hp
theorem so (op:eC) (hp:op.plain=true):
 bY P g n (⟨none,op,none⟩::r) f ds H Q=mF (cX (nY g f) H op) fun v H'=>bY P g n r f ds H' Q:=by
 conv=>lhs;unfold bY
 simp only[gW,if_true,fN]
 cases op<;>first|rfl|cases hp
theorem GK (d:Nat) (x:Arg) (hd:d<n):bY P g n (⟨some d,(.TM x),none⟩::r) f ds H Q=mF (cX (nY g f) H (.TM x)) fun v H'=>bY P g n r (jM f d v) ds H' Q:=SO d _ rfl hd
theorem zK (d:Nat) (o:BinOp) (x y:Arg) (hd:d<n):bY P g n (⟨some d,(.bin o x y),none⟩::r) f ds H Q=mF (cX (nY g f) H (.bin o x y)) fun v H'=>bY P g n r (jM f d v) ds H' Q:=SO d _ rfl hd
theorem fp {d:Nat} {pS:FuncId} {azs:List Arg} {args:List AV} {v:AV} {H':aA} (hd:d<n) (ha:azs.map (nY g f)=args) (hS:Sound P g pS args H (.ret v) H')
 (h:bY P g n r (jM f d v) ds H' Q):bY P g n (⟨some d,.call (.const (.func (.func pS) [] [])) azs,none⟩::r) f ds H Q:=by
 have :∀v,fN n f (some d) v=jM f d v:=fun v=>by simp[fN,hd]
 unfold bY;simp only[gW,if_true,this];exact⟨.ret v,H',.inl ⟨(pS,[],[]),rfl,by simpa [ha] using hS⟩,h⟩
theorem EB {d:Nat} {c:Arg} {pS:FuncId} {fs cs:List AV} {azs:List Arg} {args:List AV} {v:AV} {H':aA} (hd:d<n) (hc:nY g f c=.func (.func pS) fs cs) (ha:fs++azs.map (nY g f)++cs=args)
 (hS:Sound P g pS args H (.ret v) H') (h:bY P g n r (jM f d v) ds H' Q):bY P g n (⟨some d,.call c azs,none⟩::r) f ds H Q:=by
 have :∀v,fN n f (some d) v=jM f d v:=fun v=>by simp[fN,hd]
 unfold bY;simp only[gW,if_true,this];exact⟨.ret v,H',.inl ⟨(pS,fs,cs),by rw[hc];rfl,by rw[ha];exact hS⟩,h⟩
theorem dV (t:Nat):nY g f (.tmp t)=f t:=by cases h:f t<;>exact h
theorem wJ (v:AV):nY g f (.const v)=v:=by cases v<;>rfl
theorem KE (rl:List bD):FC P g n (.ops rl) f ds H Q=bY P g n rl f ds H Q:=eB id id
theorem Me:FC P g n .skip f ds H Q=Q .normal f ds H:=eB id id
theorem aKk:FC P g n .ret f ds H Q=Q .ret f ds H:=eB id id
theorem Md (id:Nat):FC P g n (.exit id) f ds H Q=Q (.exit id) f ds H:=eB (fun h=>h) (fun h=>h)
theorem aG {a b:cD} (h:∀K:dD->List gH->aA->Prop,(∀f ds H,FC P g n b f ds H Q->K f ds H)->FC P g n a f ds H (gZ K Q)):FC P g n (.seq a b) f ds H Q:=h _ fun _ _ _ h=>h
theorem aF {id:Nat} {a:cD} (h:FC P g n a f ds H (dN id Q)):FC P g n (.block id a) f ds H Q:=h
theorem BS {c:Arg} {a b:cD} (t:Bool) (hc:nY g f c=.bool t) (h1:t=true->FC P g n a f ds H Q) (h2:t=false->FC P g n b f ds H Q):FC P g n (.cond c a b) f ds H Q:=by
 refine⟨t,hc,?_⟩
 cases t with
 |true=>exact h1 rfl
 |false=>exact h2 rfl
theorem SN {a:cD} (I:Nat->dD->List gH->aA->Prop) (m:Nat) (h0:I m f ds H) (h:∀m f ds H,I m f ds H->FC P g n a f ds H (gZ (fun f ds H=>∃k,k<m/\I k f ds H) Q)):FC P g n (.loop a) f ds H Q:=⟨I,m,h0,h⟩
theorem gD (K:dD->List gH->aA->Prop):gZ K Q .normal f ds H=K f ds H:=eB id id
theorem o8 (K:dD->List gH->aA->Prop):gZ K Q .ret f ds H=Q .ret f ds H:=eB id id
theorem oG (K:dD->List gH->aA->Prop) (i:Nat):gZ K Q (.exit i) f ds H=Q (.exit i) f ds H:=eB id id
theorem MT (i:Nat):dN i Q .normal f ds H=Q .normal f ds H:=eB id id
theorem TH (i:Nat):dN i Q .ret f ds H=Q .ret f ds H:=eB id id
theorem qS (i:Nat):dN i Q (.exit i) f ds H=Q .normal f ds H:=by simp[dN]
theorem OH (i j:Nat) (h:j≠i):dN i Q (.exit j) f ds H=Q (.exit j) f ds H:=by simp[dN,h]
end
class Pl (op:eC):Prop where h:op.plain=true
instance (x:Arg):Pl (.TM x):=⟨rfl⟩
instance (c a b:Arg):Pl (.pick c a b):=⟨rfl⟩
instance (z:List AV):Pl (.alloc z):=⟨rfl⟩
instance (x:Arg):Pl (.box x):=⟨rfl⟩
instance (z:List AV) (ps:List (Nat×Nat×Arg)):Pl (.build z ps):=⟨rfl⟩
instance (sz:Nat) (xs:List Arg):Pl (.Ob sz xs):=⟨rfl⟩
instance (agg:Bool) (m:Nat) (a:Arg):Pl (.load agg m a):=⟨rfl⟩
instance (m:Nat) (a x:Arg):Pl (.store m a x):=⟨rfl⟩
instance (x:Arg):Pl (.Re x):=⟨rfl⟩
instance (o:BinOp) (x y:Arg):Pl (.bin o x y):=⟨rfl⟩
instance (neg:Bool) (x y:Arg):Pl (.eqb neg x y):=⟨rfl⟩
instance (neg:Bool) (sh:List Sk) (x y:Arg):Pl (.eqf neg sh x y):=⟨rfl⟩
instance (neg:Bool) (k:Nk) (lit:Bool) (x y:Arg):Pl (.u9 neg k lit x y):=⟨rfl⟩
instance (o:UnOp) (x:Arg):Pl (.un o x):=⟨rfl⟩
instance (k:IntKind) (x:Arg):Pl (.NX k x):=⟨rfl⟩
instance (x:Arg):Pl (.BK x):=⟨rfl⟩
instance (x:Arg):Pl (.DB x):=⟨rfl⟩
instance (m:Nat) (x:Arg):Pl (.Yw m x):=⟨rfl⟩
instance (t:TypeId) (x:Arg):Pl (.YO t x):=⟨rfl⟩
instance (fn:Fn) (a b:List Arg):Pl (.YN fn a b):=⟨rfl⟩
instance:Pl (.yU):=⟨rfl⟩
instance (sz bytes:Nat) (z:List AV) (l c:Arg):Pl (.jD sz bytes z l c):=⟨rfl⟩
instance (x:Arg) (lo hi:Option Arg):Pl (.PM x lo hi):=⟨rfl⟩
instance (sz:Nat) (x:Arg) (lo hi mx:Option Arg):Pl (.Yy sz x lo hi mx):=⟨rfl⟩
instance (m sz:Nat) (x:Arg) (lo hi mx:Option Arg):Pl (.DU m sz x lo hi mx):=⟨rfl⟩
instance (off:Nat) (x:Arg):Pl (.Xf off x):=⟨rfl⟩
instance (arr:Option Nat) (sz:Nat) (x i:Arg):Pl (.TG arr sz x i):=⟨rfl⟩
instance (m sz:Nat) (agg:Bool) (x i:Arg):Pl (.idx m sz agg x i):=⟨rfl⟩
instance (x i:Arg):Pl (.idxs x i):=⟨rfl⟩
instance (t:TypeId) (ok:Bool) (z:AV) (x:Arg):Pl (.ZF t ok z x):=⟨rfl⟩
instance (x:Arg) (i:Nat):Pl (.Xe x i):=⟨rfl⟩
instance (x:Arg):Pl (.lens x):=⟨rfl⟩
instance (x:Arg):Pl (.OQ x):=⟨rfl⟩
instance (x y:Arg):Pl (.Vc x y):=⟨rfl⟩
instance (x y:Arg):Pl (.Ve x y):=⟨rfl⟩
instance (sz bytes:Nat) (mu:Bool) (x y:Arg):Pl (.append sz bytes mu x y):=⟨rfl⟩
instance (sz:Nat) (x y:Arg):Pl (.copy sz x y):=⟨rfl⟩
instance (k:Sk) (z:AV) (ok:Bool) (x i:Arg):Pl (.lookup k z ok x i):=⟨rfl⟩
instance (k:Sk) (m i v:Arg):Pl (.OY k m i v):=⟨rfl⟩
instance (sz:Nat) (z:List AV) (x:Arg):Pl (.clr sz z x):=⟨rfl⟩
theorem bBx (P:Program) (g:bB) (n:Nat):
 (∀(r:List bD) (f:dD) (ds:List gH) (H:aA) (Q:FQ) (d:Nat) (op:eC) [Pl op] (hd:d<n),bY P g n (⟨some d,op,none⟩::r) f ds H Q=mF (cX (nY g f) H op) fun v H'=>bY P g n r (jM f d v) ds H' Q)/\
 (∀(r:List bD) (f:dD) (ds:List gH) (H:aA) (Q:FQ) (op:eC) [Pl op],bY P g n (⟨none,op,none⟩::r) f ds H Q=mF (cX (nY g f) H op) fun v H'=>bY P g n r f ds H' Q)/\
 (∀(f:dD) (ds:List gH) (H:aA) (Q:FQ),bY P g n [] f ds H Q=Q .normal f ds H)/\
 (∀(f:dD) (ds:List gH) (H:aA) (Q:FQ) (rl:List bD),FC P g n (.ops rl) f ds H Q=bY P g n rl f ds H Q)/\
 (∀(f:dD) (ds:List gH) (H:aA) (Q:FQ),FC P g n .skip f ds H Q=Q .normal f ds H)/\
 (∀(f:dD) (ds:List gH) (H:aA) (Q:FQ),FC P g n .ret f ds H Q=Q .ret f ds H)/\
 (∀(f:dD) (ds:List gH) (H:aA) (Q:FQ) (id:Nat),FC P g n (.exit id) f ds H Q=Q (.exit id) f ds H):=
 ⟨fun _ _ _ _ _ d op i hd=>SO d op i.h hd,fun _ _ _ _ _ op i=>so op i.h,fun _ _ _ _=>wB,fun _ _ _ _ rl=>KE rl,fun _ _ _ _=>Me,fun _ _ _ _=>aKk,fun _ _ _ _ id=>Md id⟩
theorem aBw:
 (∀(v:AV) (H:aA) (k:AV->aA->Prop),mF (some (v,H)) k=k v H)/\
 (∀(g:bB) (f:dD) (t:Nat),nY g f (.tmp t)=f t)/\
 (∀(g:bB) (f:dD) (v:AV),nY g f (.const v)=v)/\
 (∀(f:dD) (d:Nat) (v:AV),jM f d v d=v)/\
 (∀(f:dD) (d t:Nat) (v:AV),t≠d->jM f d v t=f t)/\
 (∀(f:dD) (ds:List gH) (H:aA) (Q:FQ) (K:dD->List gH->aA->Prop),gZ K Q .normal f ds H=K f ds H)/\
 (∀(f:dD) (ds:List gH) (H:aA) (Q:FQ) (K:dD->List gH->aA->Prop),gZ K Q .ret f ds H=Q .ret f ds H)/\
 (∀(f:dD) (ds:List gH) (H:aA) (Q:FQ) (K:dD->List gH->aA->Prop) (i:Nat),gZ K Q (.exit i) f ds H=Q (.exit i) f ds H)/\
 (∀(f:dD) (ds:List gH) (H:aA) (Q:FQ) (i:Nat),dN i Q .normal f ds H=Q .normal f ds H)/\
 (∀(f:dD) (ds:List gH) (H:aA) (Q:FQ) (i:Nat),dN i Q .ret f ds H=Q .ret f ds H)/\
 (∀(f:dD) (ds:List gH) (H:aA) (Q:FQ) (i:Nat),dN i Q (.exit i) f ds H=Q .normal f ds H)/\
 (∀(f:dD) (ds:List gH) (H:aA) (Q:FQ) (i j:Nat),j≠i->dN i Q (.exit j) f ds H=Q (.exit j) f ds H):=
 ⟨bZ,
   (fun g f t=>dV t),
   (fun g f v=>wJ v),
   rO,
   (fun f d t v h=>oI f v h),
   (fun f ds H Q K=>gD K),
   (fun f ds H Q K=>o8 K),
   (fun f ds H Q K i=>oG K i),
   (fun f ds H Q i=>MT i),
   (fun f ds H Q i=>TH i),
   (fun f ds H Q i=>qS i),
   (fun f ds H Q i j h=>OH i j h)⟩
end
def Own (H:aA) (sz:Nat) (v:AV) (els:List (List AV)):Prop:=
 (v=.aS/\els=[])\/∃k,v=.aU (k+2) sz els/\k<H.next/\H.get k=some .tok
def rN:AV->Option Nat
 |.aU (k+2) _ _=>some k
 |_=>none
structure XB (H H':aA) (v:AV):Prop where
 next:H.next<=H'.next
 get:∀id,rN v≠some id->id<H.next->H'.get id=H.get id
theorem Own.nil (H:aA) (sz:Nat):Own H sz .aS []:=.inl ⟨rfl,rfl⟩
theorem Own.aU {H:aA} {sz k:Nat} {els:List (List AV)} (hk:k<H.next) (h:H.get k=some .tok):Own H sz (.aU (k+2) sz els) els:=.inr ⟨k,rfl,hk,h⟩
theorem Own.fresh (H:aA) (sz:Nat) (els:List (List AV)):Own (H.alloc .tok) sz (.aU (H.next+2) sz els) els:=.aU (by simp) (by rw[aA.aJ,if_pos rfl])
theorem Own.alloc {H:aA} {sz:Nat} {v:AV} {els:List (List AV)} (h:Own H sz v els) (o:fE):Own (H.alloc o) sz v els:=by
 rcases h with h|⟨k,h1,h2,h3⟩
 · exact .inl h
 exact .inr ⟨k,h1,by simp;omega,by rw[aA.aJ,if_neg (by omega)];exact h3⟩
theorem Own.set {H:aA} {sz:Nat} {v:AV} {els:List (List AV)} (h:Own H sz v els) (id:Nat) (o:fE) (cZ:rN v≠some id):Own (H.set id o) sz v els:=by
 rcases h with h|⟨k,rfl,h2,h3⟩
 · exact .inl h
 refine .inr ⟨k,rfl,h2,?_⟩;rw[aA.aC,if_neg]
 · exact h3
 intro hh;exact cZ (by simp[rN,hh])
theorem Own.aCb {H:aA} {sz:Nat} {v:AV} {els:List (List AV)} (h:Own H sz v els) {id:Nat} (ht:rN v=some id):id<H.next:=by
 rcases h with ⟨rfl,_⟩|⟨k,rfl,h2,h3⟩
 · cases ht
 simp only[rN,Ad] at ht;omega
theorem Own.append {H:aA} {sz bytes:Nat} {v:AV} {els ys:List (List AV)} (h:Own H sz v els) (hb:(els.length+ys.length)*bytes<=2^40):
 ∃v' H',eF H sz bytes false v ys=some (v',H')/\Own H' sz v' (els++ys)/\XB H H' v:=by
 by_cases hy:ys=[]
 · subst hy;refine⟨v,H,?_,by rw[Cd];exact h,Ak _,fun _ _ _=>rfl⟩
   rcases h with ⟨rfl,rfl⟩|⟨k,rfl,_,hk⟩<;>rfl
 have cK:ys.isEmpty=false:=by cases ys with
  |nil=>exact absurd rfl hy
  |cons _ _=>rfl
 rcases h with ⟨rfl,rfl⟩|⟨k,rfl,xm,hk⟩
 · refine⟨.aU (H.next+2) sz ys,H.alloc .tok,?_,.inr ⟨H.next,by simp,by simp,by simp[aA.aJ]⟩,by simp,fun id _ cZ=>by rw[aA.aJ,if_neg (by omega)]⟩;simp only[eF,cK,lJ];simp only[Bj,Cv] at hb;simp[hb]
 refine⟨.aU (H.next+2) sz (els++ys),(H.set k .dead).alloc .tok,?_,.inr ⟨H.next,rfl,by simp,by simp[aA.aJ]⟩,by simp,fun id h1 cZ=>?_⟩
 · simp only[eF,cK];simp[hb,hk]
 rw[aA.aJ,if_neg (by simp;omega),aA.aC,if_neg];intro hh;exact h1 (by simp[rN,hh])
def dF (l:List Nat):List (List AV):=l.map fun(b:Nat)=>[AV.int .u8 b]
def eY (l:List Int):List (List AV):=l.map fun x=>[AV.int .i64 x]
theorem gX (a b:List Nat):dF (a++b)=dF a++dF b:=by simp[dF]
theorem fZ (a:List Nat):(dF a).length=a.length:=by simp[dF]
theorem sR (a b:List Int):eY (a++b)=eY a++eY b:=by simp[eY]
theorem dX (a:List Int):(eY a).length=a.length:=by simp[eY]
theorem kX:∀l,dM (dF l)=true
 |[]=>rfl
 |x::l=>by simp only[dF,Bv,dM,bL,AV.free,Df,Cr];exact kX l
theorem HN:∀l,dM (eY l)=true
 |[]=>rfl
 |x::l=>by simp only[eY,Bv,dM,bL,AV.free,Df,Cr];exact HN l
theorem mI {P:Program} {g:bB} (hg:CZ g) {f:FuncId} {args:List AV} (ha:bL args=true) {sz:Nat} {els:List (List AV)} (cK:els≠[]) (hf:dM els=true)
 (h:∃out H',(∃v,out=.ret v/\Own H' sz v els)/\Sound P g f args ⟨0,.nil⟩ out H') (H:aA):Sound P g f args H (.ret (.aU (H.next+2) sz els)) (H.alloc .tok):=by
 obtain⟨out,H',⟨v,rfl,aFa⟩,hS⟩:=h
 rcases aFa with ⟨_,he⟩|⟨k,rfl,_,hk⟩
 · exact absurd he cK
 refine hS.frame hg ha (tk:=some k) (fun k' rF=>by cases rF;exact hk) (n:=0) H ?_;simp[Out.av,gK,fU,hf,FW]
attribute [local congr] aO
theorem wrap_i64 {x:Int} (h0: -2^63<=x) (h1:x<2^63):IntKind.i64.wrap x=x:=by simp only[IntKind.wrap,IntKind.bits,IntKind.signed];simp;split<;>omega
def rangeLoop (id cmp ix ln nx:Nat) (B:cD):cD:=
 .block id (.loop (.seq (.ops [⟨some cmp,.bin .lss (.tmp ix) (.tmp ln),none⟩]) (.seq (.cond (.tmp cmp) .skip (.exit id)) (.seq B
  (.ops [⟨some nx,.bin .add (.tmp ix) (.const (.int .i64 1)),none⟩,⟨some ix,.TM (.tmp nx),none⟩])))))
theorem sj {P:Program} {g:bB} {n:Nat} {id cmp ix ln nx:Nat} {B:cD} {f:dD} {ds:List gH} {H:aA} {Q:FQ} (J:Nat->dD->aA->Prop) (N:Nat) (hN:(N:Int)<2^63)
 (hs:cmp<n/\ix<n/\nx<n/\cmp≠ix/\cmp≠ln/\nx≠ix/\nx≠ln/\ix≠ln)
 (h1:f ix=.int .i64 0) (h2:f ln=.int .i64 N) (h0:J 0 f H)
 (st:∀(i:Nat) (f:dD) (H:aA) (d:Nat) (v:AV),d=cmp\/d=nx\/d=ix->J i f H->J i (jM f d v) H)
 (body:∀(i:Nat) (f:dD) (H:aA),i<N->f ix=.int .i64 i->f ln=.int .i64 N->J i f H->
   FC P g n B f ds H (gZ (fun f' fO H'=>fO=ds/\f' ix=.int .i64 i/\f' ln=.int .i64 N/\J (i+1) f' H') (dN id Q)))
 (done:∀(f:dD) (H:aA),f ln=.int .i64 N->J N f H->Q .normal f ds H):FC P g n (rangeLoop id cmp ix ln nx B) f ds H Q:=by
 obtain⟨s1,s2,s3,s4,s5,s6,s7,s8⟩:=hs;refine aF (SN (fun m f' fO H'=>fO=ds/\∃i:Nat,i<=N/\m=N -i/\f' ix=.int .i64 i/\f' ln=.int .i64 N/\J i f' H') N ⟨rfl,0,Az _,by omega,h1,h2,h0⟩ ?_);rintro m f1 pA H1 ⟨rfl,i,hi,rfl,e1,e2,e3⟩;refine aG fun K hK=>?_;rw[KE,zK _ _ _ _ s1];simp only[cX,dV,e1,e2,qA,if_true,Bz,bZ,wB,gD];apply hK;clear hK K;have st1:=st i f1 H1 cmp (.bool (decide ((i:Int)<N))) (.inl rfl) e3;refine aG fun K hK=>BS (decide ((i:Int)<N)) (by rw[dV,rO]) (fun ht=>?_) (fun ht=>?_)
 · rw[Me,gD];apply hK;clear hK K;have eZ:i<N:=by have :=Cc ht;omega
   refine aG fun K hK=>?_;have hb:=body i _ H1 eZ (by rw[oI _ _ (Ne.symm s4)];exact e1) (by rw[oI _ _ (Ne.symm s5)];exact e2) st1;have mono:∀{c:cD} {f:dD} {ds:List gH} {H:aA} {Q Q':FQ},(∀e f ds H,Q e f ds H->Q' e f ds H)->FC P g n c f ds H Q->FC P g n c f ds H Q':=fun {c f ds H Q Q'} hq h=>iY hq h;refine mono (fun e f2 Qn H2 h=>?_) hb
   cases e with
   |normal=>
    obtain⟨rfl,b1,b2,b3⟩:=h;show K f2 Qn H2;apply hK;rw[KE,zK _ _ _ _ s3];have hw:IntKind.i64.wrap ((i:Int)+1)=((i+1:Nat):Int):=(by rw[wrap_i64 (by omega) (by omega)];rfl);simp only[cX,dV,wJ,b1,qA,if_true,Bz,bZ];rw[GK _ _ s2];simp only[cX,dV,bZ,wB,gD,rO,hw];refine⟨N -(i+1),by omega,trivial,i+1,by omega,rfl,rfl,?_,?_⟩
    · rw[oI _ _ (Ne.symm s8),oI _ _ (Ne.symm s7)];exact b2
    exact st _ _ _ _ _ (.inr (.inr rfl)) (st _ _ _ _ _ (.inr (.inl rfl)) b3)
   |_=>exact h
 rw[Md,oG,oG,qS];have Lm:i=N:=by have :=Cs ht;omega
 subst Lm;exact done _ _ (by rw[oI _ _ (Ne.symm s5)];exact e2) st1
theorem gu (ev:Arg->AV) (H:aA) (zero:List AV):cX ev H (.alloc zero)=some (.ref H.next 0,H.alloc (.cells zero false)):=rfl
def bHj:=And.intro gu <| And.intro @cX.eq_1 <| And.intro @cX.eq_2 <| And.intro @cX.eq_4 <| And.intro @cX.eq_5 <| And.intro @cX.eq_6 <| And.intro @cX.eq_7 <| And.intro @cX.eq_8 <| And.intro @cX.eq_9 <| And.intro @cX.eq_10 <| And.intro @cX.eq_11 <| And.intro @cX.eq_12 <| And.intro @cX.eq_13 <| And.intro @cX.eq_14 <| And.intro @cX.eq_15 <| And.intro @cX.eq_16 <| And.intro @cX.eq_17 <| And.intro @cX.eq_18 <| And.intro @cX.eq_19 <| And.intro @cX.eq_20 <| And.intro @cX.eq_21 <| And.intro @cX.eq_22 <| And.intro @cX.eq_23 <| And.intro @cX.eq_24 <| And.intro @cX.eq_25 <| And.intro @cX.eq_26 <| And.intro @cX.eq_27 <| And.intro @cX.eq_28 <| And.intro @cX.eq_29 <| And.intro @cX.eq_30 <| And.intro @cX.eq_31 <| And.intro @cX.eq_32 <| And.intro @cX.eq_33 <| And.intro @cX.eq_34 <| And.intro @cX.eq_35 <| And.intro @cX.eq_36 <| And.intro @cX.eq_37 <| And.intro @cX.eq_38 <| And.intro @cX.eq_39 @cX.eq_40
def bHk:=And.intro @qA.eq_1 <| And.intro @qA.eq_2 <| And.intro @qA.eq_3 <| And.intro @qA.eq_4 <| And.intro @qA.eq_5 <| And.intro @qA.eq_6 <| And.intro @qA.eq_7 <| And.intro @qA.eq_8 <| And.intro @qA.eq_9 <| And.intro @qA.eq_10 <| And.intro @qA.eq_11 <| And.intro @qA.eq_12 <| And.intro @qA.eq_13 <| And.intro @qA.eq_14 <| And.intro @qA.eq_15 <| And.intro @qA.eq_16 @qA.eq_17
section
def sG (v:AV) (A B:Prop):Prop:=
 match v with
 |.bool true=>A
 |.bool false=>B
 |_=>False
def jK (v:AV) (b:Bool) (A B:Prop):Prop:=
 match v with
 |.bool c=>if c=b then A else B
 |_=>B
section
variable {P:Program} {g:bB} {n:Nat} {r:List bD} {f:dD} {ds:List gH} {H:aA} {Q:FQ}
theorem UK (c:Arg) (a b:cD):FC P g n (.cond c a b) f ds H Q=sG (nY g f c) (FC P g n a f ds H Q) (FC P g n b f ds H Q):=by
 refine eB (fun h=>?_) (fun h=>?_)
 · obtain⟨t,h1,h2⟩:=h;rw[h1]
   cases t with
   |true=>exact h2
   |false=>exact h2
 unfold sG at h;split at h
 · rename_i hv;exact⟨true,hv,h⟩
 · rename_i hv;exact⟨false,hv,h⟩
 exact h.elim
theorem EM (A B:Prop):sG (.bool true) A B=A:=eB id id
theorem AA (A B:Prop):sG (.bool false) A B=B:=eB id id
theorem ij (p:Prop) [Decidable p] (A B:Prop):sG (.bool (decide p)) A B=((p->A)/\(¬p->B)):=by
 by_cases hp:p
 · simp[hp,EM]
 simp[hp,AA]
theorem ik (b:Bool) (A B:Prop):sG (.bool (!b)) A B=sG (.bool b) B A:=by cases b<;>rfl
theorem aP {v v':AV} (h:v=v') (A B:Prop):sG v A B=sG v' A B:=by rw[h]
theorem aKl (d x:Nat) (b:Bool) (op:eC) (hd:d<n):
 bY P g n (⟨some d,op,some (x,b)⟩::r) f ds H Q=jK (f x) b (bY P g n (⟨some d,op,none⟩::r) f ds H Q) (bY P g n r (jM f d aD) ds H Q):=by
 have :∀v,fN n f (some d) v=jM f d v:=fun v=>by simp[fN,hd]
 conv=>lhs;unfold bY
 conv=>rhs;arg 3;unfold bY
 simp only[gW,this,if_true];unfold jK
 cases h:f x with
 |bool c=>by_cases hc:c=b<;>simp[hc]
 |_=>simp
theorem jx (A B:Prop):jK (.bool true) true A B=A:=eB id id
theorem ju (A B:Prop):jK (.bool false) false A B=A:=eB id id
theorem jw (A B:Prop):jK (.bool true) false A B=B:=eB id id
theorem jv (A B:Prop):jK (.bool false) true A B=B:=eB id id
theorem aL {v v':AV} (h:v=v') (b:Bool) (A B:Prop):jK v b A B=jK v' b A B:=by rw[h]
theorem ZQ (a b:cD):FC P g n (.seq a b) f ds H Q=FC P g n a f ds H (gZ (fun f ds H=>FC P g n b f ds H Q) Q):=eB id id
theorem aX {c:cD} {f':dD} (h:f=f'):FC P g n c f ds H Q=FC P g n c f' ds H Q:=by rw[h]
theorem aR {f':dD} (h:f=f'):bY P g n r f ds H Q=bY P g n r f' ds H Q:=by rw[h]
theorem aQ {K:dD->List gH->aA->Prop} {e:AEx} {f':dD} (h:f=f'):gZ K Q e f ds H=gZ K Q e f' ds H:=by rw[h]
theorem aH {id:Nat} {e:AEx} {f':dD} (h:f=f'):dN id Q e f ds H=dN id Q e f' ds H:=by rw[h]
end
theorem bBy:
 (∀(P:Program) (g:bB) (n:Nat) (f:dD) (ds:List gH) (H:aA) (Q:FQ) (c:Arg) (a b:cD),FC P g n (.cond c a b) f ds H Q=sG (nY g f c) (FC P g n a f ds H Q) (FC P g n b f ds H Q))/\
 (∀(A B:Prop),sG (.bool true) A B=A)/\
 (∀(A B:Prop),sG (.bool false) A B=B)/\
 (∀(P:Program) (g:bB) (n:Nat) (r:List bD) (f:dD) (ds:List gH) (H:aA) (Q:FQ) (d x:Nat) (b:Bool) (op:eC) (hd:d<n),
   bY P g n (⟨some d,op,some (x,b)⟩::r) f ds H Q=jK (f x) b (bY P g n (⟨some d,op,none⟩::r) f ds H Q) (bY P g n r (jM f d aD) ds H Q))/\
 (∀(A B:Prop),jK (.bool true) true A B=A)/\
 (∀(A B:Prop),jK (.bool false) false A B=A)/\
 (∀(A B:Prop),jK (.bool true) false A B=B)/\
 (∀(A B:Prop),jK (.bool false) true A B=B)/\
 (∀(P:Program) (g:bB) (n:Nat) (f:dD) (ds:List gH) (H:aA) (Q:FQ) (a b:cD),FC P g n (.seq a b) f ds H Q=FC P g n a f ds H (gZ (fun f ds H=>FC P g n b f ds H Q) Q)):=
 ⟨fun _ _ _ _ _ _ _ c a b=>UK c a b,EM,AA,fun _ _ _ _ _ _ _ _ d x b op hd=>aKl d x b op hd,jx,ju,jw,jv,fun _ _ _ _ _ _ _ a b=>ZQ a b⟩
def aEo (id c:Nat) (ts:cD) (B:cD) (st:cD):cD:=
 .block id (.loop (.seq (.seq ts (.cond (.tmp c) .skip (.exit id))) (.seq B st)))
theorem aKj {P:Program} {g:bB} {n:Nat} {id c:Nat} {ts B st:cD} {f:dD} {ds:List gH} {H:aA} {Q:FQ} (J:Nat->dD->aA->Prop) (N:Nat)
 (h0:J 0 f H)
 (test:∀(i:Nat) (f:dD) (H:aA),i<=N->J i f H->∀(K:dD->Prop),(∀f',f' c=.bool (decide (i<N))->J i f' H->K f')->∀Q':FQ,FC P g n ts f ds H (gZ (fun f' fO H'=>fO=ds/\H'=H/\K f') Q'))
 (body:∀(i:Nat) (f:dD) (H:aA),i<N->J i f H->
   FC P g n B f ds H (gZ (fun f' fO H'=>fO=ds/\FC P g n st f' ds H' (gZ (fun f' fO H'=>fO=ds/\J (i+1) f' H') (dN id Q))) (dN id Q)))
 (done:∀(f:dD) (H:aA),J N f H->Q .normal f ds H):FC P g n (aEo id c ts B st) f ds H Q:=by
 have mono:∀{c:cD} {f:dD} {ds:List gH} {H:aA} {Q Q':FQ},(∀e f ds H,Q e f ds H->Q' e f ds H)->FC P g n c f ds H Q->FC P g n c f ds H Q':=fun {c f ds H Q Q'} hq h=>iY hq h;refine aF (SN (fun m f' fO H'=>fO=ds/\∃i:Nat,i<=N/\m=N -i/\J i f' H') N ⟨rfl,0,Az _,by omega,h0⟩ ?_);rintro m f1 pA H1 ⟨rfl,i,hi,rfl,e3⟩;refine aG fun K hK=>?_;refine aG fun K2 bK=>?_;refine mono (fun e f2 Qn H2 h=>?_) (test i f1 H1 hi e3 (fun f'=>K2 f' pA H1) (fun f' h1 h2=>?_) (gZ K (dN id Q) |> fun Z=>Z))
 · cases e with
   |normal=>obtain⟨rfl,rfl,h⟩:=h;exact h
   |_=>exact h
 apply bK;rw[UK,dV,h1];by_cases eZ:i<N
 · rw[Af eZ,EM,Me,gD];apply hK;refine aG fun K3 FZ=>?_;refine mono (fun e f2 Qn H2 h=>?_) (body i f' H1 eZ h2)
   cases e with
   |normal=>
    obtain⟨rfl,h⟩:=h;show K3 f2 Qn H2;apply FZ;refine mono (fun e f3 ds3 H3 hh=>?_) h
    cases e with
    |normal=>obtain⟨h5,h6⟩:=hh;exact⟨N -(i+1),by omega,h5,i+1,by omega,rfl,h6⟩
    |_=>exact hh
   |_=>exact h
 rw[Ae eZ,AA,Md,oG,oG,qS];obtain rfl:i=N:=by omega
 exact done f' H1 h2
theorem VR.CV {G:Gh} {w:World} {tag sz:Nat} {els:List (List AV)} {u:Value} (h:VR G w (.aU tag sz els) u):VR G w (.aU 0 sz els) u:=by
 cases h with
 |aU _ _ _ b o cap us hu h hv ht=>exact .aU 0 sz els b o cap us hu h hv ⟨ht.1,trivial⟩
 |vP _ _ b o s ht=>exact .vP _ _ b o s (by omega)
theorem Sound.CV {P:Program} {g:bB} {f:FuncId} {sz:Nat} {els:List (List AV)} {rest:List AV} {H H':aA} {out:Out} (h:Sound P g f (.aU 0 sz els::rest) H out H') (tag:Nat):
 Sound P g f (.aU tag sz els::rest) H out H':=by
 refine⟨h.1,fun G w vs hw hv=>h.2 G w vs hw ⟨hv.1,fun j hj=>?_⟩⟩;have :=hv.2 j hj
 cases j with
 |zero=>exact VR.CV this
 |succ j=>exact this
def nB (H:aA) (sz:Nat) (v:AV) (els:List (List AV)):Prop:=Own H sz v els/\(els=[]->v=.aS)
theorem nB.nil (H:aA) (sz:Nat):nB H sz .aS []:=⟨.nil H sz,fun _=>rfl⟩
theorem nB.alloc {H:aA} {sz:Nat} {v:AV} {els:List (List AV)} (h:nB H sz v els) (o:fE):nB (H.alloc o) sz v els:=⟨h.1.alloc o,h.2⟩
theorem nB.append {H:aA} {sz bytes:Nat} {v:AV} {els:List (List AV)} {e:List AV} (h:nB H sz v els) (hb:(els.length+1)*bytes<=2^40):
 ∃v' H',eF H sz bytes false v [e]=some (v',H')/\nB H' sz v' (els++[e])/\XB H H' v:=by
 obtain⟨v',H',h1,h2,h3⟩:=h.1.append (bytes:=bytes) (ys:=[e]) (by simpa using hb);exact⟨v',H',h1,⟨h2,fun he=>by simp at he⟩,h3⟩
def bBo (H:aA) (sz:Nat) (els:List (List AV)):AV:=if els=[] then .aS else .aU (H.next+2) sz els
def bBn (H:aA) (els:List (List AV)):aA:=if els=[] then H else H.alloc .tok
theorem nB.out (H:aA) (sz:Nat) (els:List (List AV)):nB (bBn H els) sz (bBo H sz els) els:=by
 unfold bBn bBo;by_cases h:els=[]
 · subst h;exact nB.nil _ _
 rw[if_neg h,if_neg h];exact⟨Own.fresh _ _ _,fun he=>absurd he h⟩
theorem bHm:
 (∀{α:Type} (a b:α),(a≠b)=¬(a=b))/\((¬False)=True)/\(∀{α:Type} {_:Decidable True} (a b:α),(if True then a else b)=a)/\((false=true)=False)/\
 (∀{α:Type} {_:Decidable False} (a b:α),(if False then a else b)=b)/\(∀{α β:Type} (f:α->β) (a:α),Option.map f (some a)=some (f a))/\(∀{α:Type} (a:α) (l:List α),(a::l).length=l.length+1)/\
 (∀{α:Type},([]:List α).length=0)/\(∀n:Nat,0+n=n)/\(∀{α:Type} (a d:α) (l:List α),(a::l).getD 0 d=a)/\(∀{α:Type} (a d:α) (l:List α) (n:Nat),(a::l).getD (n+1) d=l.getD n d)/\
 (∀p:Prop,(p/\p)=p)/\(∀n:Nat,(n<=n)=True)/\(∀(p:Prop) [Decidable p] (A B:Prop),sG (.bool (decide p)) A B=((p->A)/\(¬p->B))):=
 ⟨fun a b=>ne_eq a b,Ia,fun a b=>if_true a b,Be,fun a b=>Cm a b,fun f a=>rfl,fun a l=>rfl,rfl,Cv,fun _ _ _=>rfl,fun _ _ _ _=>rfl,and_self,fun n=>eq_true (Ak n),fun p _ A B=>ij p A B⟩
def sy:=And.intro aBw (And.intro bBy (And.intro bHj (And.intro bHk bHm)))
theorem sn:(∀n:Nat,n*1=n)/\(∀n:Nat,1*n=n)/\(∀n:Nat,0*n=0)/\(∀n:Nat,n -0=n)/\(∀n:Nat,n+0=n)/\(∀n:Nat,0+n=n):=
 ⟨Dt,Gp,Ja,Ic,Cy,Cv⟩
theorem sh:(∀n m:Nat,aA.get ⟨n,.nil⟩ m=none)/\(∀(H:aA) (o:fE) (i:Nat),(H.alloc o).get i=if i=H.next then some o else H.get i)/\(∀(H:aA) (j:Nat) (o:fE) (i:Nat),(H.set j o).get i=if i=j then some o else H.get i)/\
 (∀(H:aA) (o:fE),(H.alloc o).next=H.next+1)/\(∀(H:aA) (j:Nat) (o:fE),(H.set j o).next=H.next)/\(∀n:Nat,0+n=n)/\
 (∀{α:Type} {_:Decidable True} (a b:α),(if True then a else b)=a)/\(∀{α:Type} {_:Decidable False} (a b:α),(if False then a else b)=b):=
 ⟨fun _ _=>rfl,fun _ _ _=>aA.aJ ..,fun _ _ _ _=>aA.aC ..,fun _ _=>aA.aZ ..,fun _ _ _=>aA.aW ..,Cv,fun a b=>if_true a b,fun a b=>Cm a b⟩
theorem sl:
 (∀{α:Type} (a:α) (l:List α) (n:Nat),(a::l).take (n+1)=a::l.take n)/\(∀{α:Type} (a:α) (l:List α) (n:Nat),(a::l).drop (n+1)=l.drop n)/\(∀{α:Type} (l:List α),l.take 0=[])/\(∀{α:Type} (l:List α),l.drop 0=l)/\
 (∀{α:Type} (n:Nat),([]:List α).take n=[])/\(∀{α:Type} (n:Nat),([]:List α).drop n=[])/\(∀{α:Type} (a:α) (l m:List α),a::l++m=a::(l++m))/\(∀{α:Type} (l:List α),[]++l=l)/\(∀{α:Type} (l:List α),l++[]=l)/\
 (∀{α β:Type} (f:α->β) (a:α) (l:List α),(a::l).map f=f a::l.map f)/\(∀{α β:Type} (f:α->β),[].map f=[])/\(∀{α:Type} (a d:α) (l:List α),(a::l).getD 0 d=a)/\
 (∀{α:Type} (a d:α) (l:List α) (n:Nat),(a::l).getD (n+1) d=l.getD n d)/\(∀{α:Type} (a b:α) (l:List α),(a::l).set 0 b=b::l)/\(∀{α:Type} (a b:α) (l:List α) (n:Nat),(a::l).set (n+1) b=a::l.set n b):=
 ⟨fun _ _ _=>rfl,fun _ _ _=>rfl,fun l=>Es,fun _=>rfl,fun n=>List.take_nil,fun n=>Ki,fun _ _ _=>rfl,fun _=>rfl,fun l=>Cd l,fun _ _ _=>rfl,fun _=>rfl,fun _ _ _=>rfl,fun _ _ _ _=>rfl,fun _ _ _=>rfl,fun _ _ _ _=>rfl⟩
theorem sm:(∀{α β:Type} (f:α->β) (a:α) (l:List α),(a::l).map f=f a::l.map f)/\(∀{α β:Type} (f:α->β),[].map f=[])/\(∀{α:Type} (a b:α),(a≠b)=¬(a=b))/\((¬False)=True)/\
 (∀{α:Type} (a d:α) (l:List α),(a::l).getD 0 d=a)/\(∀{α:Type} (a d:α) (l:List α) (n:Nat),(a::l).getD (n+1) d=l.getD n d):=
 ⟨fun _ _ _=>rfl,fun _=>rfl,fun a b=>ne_eq a b,Ia,fun _ _ _=>rfl,fun _ _ _ _=>rfl⟩
end
section
def eX (P:Program) (g:bB) (n:Nat) (pairs:List (Nat×Nat)) (base:Nat):Nat->Nat->List bD->List (Nat×Nat)->List (Nat×aA×aA)->dD->aA->(dD->aA->Prop)->Prop
 |_,_,[],_,_,f,H,Q=>Q f H
 |i,k,r::rs,rd,ef,f,H,Q=>
  if gW f r=true then
  match r.op with
  |.call c azs=>∃v H',ED P g r f H v H'/\H.next<=H'.next/\(∀x∈rd,(x.1,i)∈pairs->H.get x.2=H'.get x.2)/\
    eX P g n pairs base (i+1) k rs rd ((i,H,H')::ef) (fN n f r.dst v) H' Q
  |.panic _|.lC _ _=>False
  |op=>
   if op.fresh then
    match xK (nY g f) op with
    |some (ob,val)=>(∀x∈ef,(i,x.1)∈pairs->x.2.1.get (base+k)=x.2.2.get (base+k))/\
     eX P g n pairs base (i+1) (k+1) rs ((i,base+k)::rd) ef (fN n f r.dst (val (base+k))) (H.set (base+k) ob) Q
    |none=>False
   else if op.pR then
    mF (cX (nY g f) H op) fun v H'=>H.next<=H'.next/\(∀x∈rd,(x.1,i)∈pairs->H.get x.2=H'.get x.2)/\
     eX P g n pairs base (i+1) k rs rd ((i,H,H')::ef) (fN n f r.dst v) H' Q
   else
    mF (cX (nY g f) H op) fun v H'=>H'=H/\(∀id,op.dG (nY g f)=some id->∀x∈ef,(i,x.1)∈pairs->x.2.1.get id=x.2.2.get id)/\
     eX P g n pairs base (i+1) k rs (match op.dG (nY g f) with|some id=>(i,id)::rd|none=>rd) ef (fN n f r.dst v) H Q
  else eX P g n pairs base (i+1) (if r.op.fresh then k+1 else k) rs rd ef (fN n f r.dst aD) H Q
section
variable {P:Program} {g:bB} {n:Nat} {pairs:List (Nat×Nat)} {base:Nat}
theorem pX:∀(rl:List bD) (i k:Nat) (rd:List (Nat×Nat)) (ef:List (Nat×aA×aA)) (f:dD) (H:aA) (Q:dD->aA->Prop),eX P g n pairs base i k rl rd ef f H Q->XA P g n pairs base i k rl rd ef f H Q
 |[],i,k,rd,ef,f,H,Q,h=>h
 |r::rs,i,k,rd,ef,f,H,Q,h=>by
  unfold eX at h;unfold XA;split at h
  · rename_i hw;rw[if_pos hw];split at h
    · rename_i c azs fP;obtain⟨v,H',h1,h2,h3,h4⟩:=h;rw[if_neg (by simp[fP,eC.fresh]),if_pos (by simp[fP,eC.pR])];exact⟨v,H',h1,h2,h3,pX rs _ _ _ _ _ _ _ h4⟩
    · exact h.elim
    · exact h.elim
    rename_i n1 n2 n3
    have hq:∀v H',cX (nY g f) H r.op=some (v,H')->ED P g r f H v H':=by
     intro v H' ha;unfold ED;split
     · rename_i c azs fP;exact absurd fP (n1 c azs)
     · rename_i x fP;exact absurd fP (n2 x)
     · rename_i c azs fP;exact absurd fP (n3 c azs)
     exact ha
    split at h
    · rename_i hf;rw[if_pos hf];split at h
      · rename_i ob val ho;exact⟨ob,val,ho,h.1,pX rs _ _ _ _ _ _ _ h.2⟩
      exact h.elim
    rename_i hf;rw[if_neg hf];unfold mF at h;split at h
    · rename_i he;rw[if_pos he];split at h
      · rename_i v H' ha;exact⟨v,H',hq v H' ha,h.1,h.2.1,pX rs _ _ _ _ _ _ _ h.2.2⟩
      exact h.elim
    rename_i he;rw[if_neg he];split at h
    · rename_i v H' ha;obtain⟨rfl,h2,h3⟩:=h;exact⟨v,hq v _ ha,h2,pX rs _ _ _ _ _ _ _ h3⟩
    exact h.elim
  rename_i hw;rw[if_neg hw];exact pX rs _ _ _ _ _ _ _ h
variable {ds:List gH} {Q:FQ} {f:dD} {H:aA}
theorem UL {rl:List bD} (h0:rl.countP (·.op.fresh)=0) (h:eX P g n pairs H.next 0 0 rl [] [] f H fun f' H'=>Q .normal f' ds H'):FC P g n (.draw rl pairs) f ds H Q:=by refine .inl ⟨by rw[h0];rfl,?_⟩;rw[h0];exact pX _ _ _ _ _ _ _ _ h
theorem aCl {rl:List bD} (c:Nat) (h0:rl.countP (·.op.fresh)=c) (hf:mQ H c=true) (h:eX P g n pairs H.next 0 0 rl [] [] f {H with next:=H.next+c} fun f' H'=>Q .normal f' ds H'):FC P g n (.draw rl pairs) f ds H Q:=by refine .inl ⟨by rw[h0];exact hf,?_⟩;rw[h0];exact pX _ _ _ _ _ _ _ _ h
theorem lN {rl:List bD} (c:Nat) (h0:rl.countP (·.op.fresh)=c) (hf:mQ H c=true)
 (h:∀H1:aA,H1.next=H.next+c->(∀id,H1.get id=H.get id)->eX P g n pairs H.next 0 0 rl [] [] f H1 fun f' H'=>Q .normal f' ds H'):FC P g n (.draw rl pairs) f ds H Q:=
 aCl c h0 hf (h _ rfl fun _=>rfl)
variable {i k:Nat} {rs:List bD} {rd:List (Nat×Nat)} {ef:List (Nat×aA×aA)} {R:dD->aA->Prop}
theorem ZR:eX P g n pairs base i k [] rd ef f H R=R f H:=eB id id
theorem fk (d:Nat) (op:eC) (hp:op.plain=true) (hf:op.fresh=false) (he:op.pR=false) (hd:d<n):
 eX P g n pairs base i k (⟨some d,op,none⟩::rs) rd ef f H R=mF (cX (nY g f) H op) fun v H'=>H'=H/\(∀id,op.dG (nY g f)=some id->∀x∈ef,(i,x.1)∈pairs->x.2.1.get id=x.2.2.get id)/\
       eX P g n pairs base (i+1) k rs (match op.dG (nY g f) with|some id=>(i,id)::rd|none=>rd) ef (jM f d v) H R:=by
 have :∀v,fN n f (some d) v=jM f d v:=fun v=>by simp[fN,hd]
 conv=>lhs;unfold eX
 rw[if_pos (by rfl)];simp only[hf,he,this]
 cases op<;>first|rfl|(simp[eC.fresh] at hf;done)|(simp[eC.pR] at he;done)|(simp[eC.plain] at hp;done)
theorem fm (m:Nat) (a x:Arg):
 eX P g n pairs base i k (⟨none,.store m a x,none⟩::rs) rd ef f H R=mF (cX (nY g f) H (.store m a x)) fun v H'=>H.next<=H'.next/\(∀x∈rd,(x.1,i)∈pairs->H.get x.2=H'.get x.2)/\
       eX P g n pairs base (i+1) k rs rd ((i,H,H')::ef) f H' R:=by
 conv=>lhs;unfold eX
 rw[if_pos (by rfl)];simp only[eC.fresh,eC.pR,Be,Cm,if_true,fN]
theorem fh (d:Nat) (z:List AV) (hd:d<n):
 eX P g n pairs base i k (⟨some d,.alloc z,none⟩::rs) rd ef f H R=((∀x∈ef,(i,x.1)∈pairs->x.2.1.get (base+k)=x.2.2.get (base+k))/\
       eX P g n pairs base (i+1) (k+1) rs ((i,base+k)::rd) ef (jM f d (.ref (base+k) 0)) (H.set (base+k) (.cells z false)) R):=by
 have :∀v,fN n f (some d) v=jM f d v:=fun v=>by simp[fN,hd]
 conv=>lhs;unfold eX
 rw[if_pos (by rfl)];simp only[eC.fresh,if_true,xK,this]
theorem Wz (d:Nat) (sz bytes:Nat) (mu:Bool) (x y:Arg) (hd:d<n):
 eX P g n pairs base i k (⟨some d,.append sz bytes mu x y,none⟩::rs) rd ef f H R=mF (cX (nY g f) H (.append sz bytes mu x y)) fun v H'=>H.next<=H'.next/\(∀x∈rd,(x.1,i)∈pairs->H.get x.2=H'.get x.2)/\
       eX P g n pairs base (i+1) k rs rd ((i,H,H')::ef) (jM f d v) H' R:=by
 have :∀v,fN n f (some d) v=jM f d v:=fun v=>by simp[fN,hd]
 conv=>lhs;unfold eX
 rw[if_pos (by rfl)];simp only[eC.fresh,eC.pR,Be,Cm,if_true,this]
theorem nA {d:Nat} {pS:FuncId} {azs:List Arg} {args:List AV} {v:AV} {H':aA} (hd:d<n) (ha:azs.map (nY g f)=args) (hS:Sound P g pS args H (.ret v) H') (hn:H.next<=H'.next)
 (hr:∀x∈rd,(x.1,i)∈pairs->H.get x.2=H'.get x.2)
 (h:eX P g n pairs base (i+1) k rs rd ((i,H,H')::ef) (jM f d v) H' R):eX P g n pairs base i k (⟨some d,.call (.const (.func (.func pS) [] [])) azs,none⟩::rs) rd ef f H R:=by
 have :∀v,fN n f (some d) v=jM f d v:=fun v=>by simp[fN,hd]
 unfold eX;rw[if_pos (by rfl)];simp only[this];refine⟨v,H',?_,hn,hr,h⟩;exact⟨(pS,[],[]),rfl,by simpa [ha] using hS⟩
theorem QA (d:Option Nat) (x:Nat) (b:Bool) (op:eC) (A B:Prop):jK (f x) b A B=if gW f ⟨d,op,some (x,b)⟩=true then A else B:=by
 by_cases hw:gW f ⟨d,op,some (x,b)⟩=true
 · rw[if_pos hw];unfold gW at hw;dsimp only at hw;split at hw
   · rename_i c hc;rw[hc];unfold jK;dsimp only;rw[if_pos (by simpa using hw)]
   cases hw
 rw[if_neg hw];unfold gW at hw;dsimp only at hw;unfold jK;split
 · rename_i c hc;rw[hc] at hw;rw[if_neg (by simpa using hw)]
 rfl
theorem aTc (d x:Nat) (b:Bool) (op:eC) (hd:d<n):
 eX P g n pairs base i k (⟨some d,op,some (x,b)⟩::rs) rd ef f H R=jK (f x) b (eX P g n pairs base i k (⟨some d,op,none⟩::rs) rd ef f H R) (eX P g n pairs base (i+1) (if op.fresh then k+1 else k) rs rd ef (jM f d aD) H R):=by
 have :∀v,fN n f (some d) v=jM f d v:=fun v=>by simp[fN,hd]
 rw[QA (some d) x b op];by_cases hw:gW f ⟨some d,op,some (x,b)⟩=true
 · rw[if_pos hw]
   conv=>lhs;unfold eX
   conv=>rhs;unfold eX
   rw[if_pos hw,if_pos (by rfl)];rfl
 rw[if_neg hw]
 conv=>lhs;unfold eX
 rw[if_neg hw,this]
theorem aV {f':dD} {rl:List bD} (h:f=f'):eX P g n pairs base i k rl rd ef f H R=eX P g n pairs base i k rl rd ef f' H R:=by rw[h]
end
theorem bHl (P:Program) (g:bB) (n:Nat):
 (∀(pairs:List (Nat×Nat)) (base i k:Nat) (rs:List bD) (rd:List (Nat×Nat)) (ef:List (Nat×aA×aA)) (f:dD) (H:aA) (R:dD->aA->Prop),eX P g n pairs base i k [] rd ef f H R=R f H)/\
 (∀(pairs:List (Nat×Nat)) (base i k:Nat) (rs:List bD) (rd:List (Nat×Nat)) (ef:List (Nat×aA×aA)) (f:dD) (H:aA) (R:dD->aA->Prop) (m:Nat) (a x:Arg),
   eX P g n pairs base i k (⟨none,.store m a x,none⟩::rs) rd ef f H R=mF (cX (nY g f) H (.store m a x)) fun v H'=>H.next<=H'.next/\(∀x∈rd,(x.1,i)∈pairs->H.get x.2=H'.get x.2)/\
       eX P g n pairs base (i+1) k rs rd ((i,H,H')::ef) f H' R)/\
 (∀(pairs:List (Nat×Nat)) (base i k:Nat) (rs:List bD) (rd:List (Nat×Nat)) (ef:List (Nat×aA×aA)) (f:dD) (H:aA) (R:dD->aA->Prop) (d:Nat) (z:List AV) (hd:d<n),
   eX P g n pairs base i k (⟨some d,.alloc z,none⟩::rs) rd ef f H R=((∀x∈ef,(i,x.1)∈pairs->x.2.1.get (base+k)=x.2.2.get (base+k))/\
       eX P g n pairs base (i+1) (k+1) rs ((i,base+k)::rd) ef (jM f d (.ref (base+k) 0)) (H.set (base+k) (.cells z false)) R))/\
 (∀(pairs:List (Nat×Nat)) (base i k:Nat) (rs:List bD) (rd:List (Nat×Nat)) (ef:List (Nat×aA×aA)) (f:dD) (H:aA) (R:dD->aA->Prop) (d sz bytes:Nat) (mu:Bool) (x y:Arg) (hd:d<n),
   eX P g n pairs base i k (⟨some d,.append sz bytes mu x y,none⟩::rs) rd ef f H R=mF (cX (nY g f) H (.append sz bytes mu x y)) fun v H'=>H.next<=H'.next/\(∀x∈rd,(x.1,i)∈pairs->H.get x.2=H'.get x.2)/\
       eX P g n pairs base (i+1) k rs rd ((i,H,H')::ef) (jM f d v) H' R)/\
 (∀(pairs:List (Nat×Nat)) (base i k:Nat) (rs:List bD) (rd:List (Nat×Nat)) (ef:List (Nat×aA×aA)) (f:dD) (H:aA) (R:dD->aA->Prop) (d x:Nat) (b:Bool) (op:eC) (hd:d<n),
   eX P g n pairs base i k (⟨some d,op,some (x,b)⟩::rs) rd ef f H R=jK (f x) b (eX P g n pairs base i k (⟨some d,op,none⟩::rs) rd ef f H R) (eX P g n pairs base (i+1) (if op.fresh then k+1 else k) rs rd ef (jM f d aD) H R)):=
 ⟨fun _ _ _ _ _ _ _ _ _ _=>ZR,fun _ _ _ _ _ _ _ _ _ _ m a x=>fm m a x,
  fun _ _ _ _ _ _ _ _ _ _ d z hd=>fh d z hd,fun _ _ _ _ _ _ _ _ _ _ d sz bytes mu x y hd=>Wz d sz bytes mu x y hd,
  fun _ _ _ _ _ _ _ _ _ _ d x b op hd=>aTc d x b op hd⟩
def Yk (id cmp ix nx:Nat) (N:Int) (B:cD):cD:=
 .block id (.loop (.seq (.ops [⟨some cmp,.bin .lss (.tmp ix) (.const (.int .i64 N)),none⟩]) (.seq (.cond (.tmp cmp) .skip (.exit id)) (.seq B
  (.ops [⟨some nx,.bin .add (.tmp ix) (.const (.int .i64 1)),none⟩,⟨some ix,.TM (.tmp nx),none⟩])))))
theorem ff {P:Program} {g:bB} {n:Nat} {id cmp ix nx:Nat} {B:cD} {f:dD} {ds:List gH} {H:aA} {Q:FQ} (J:Nat->dD->aA->Prop) (N:Nat) {N':Int} (hN:(N:Int)<2^63)
 (hNN:N'=(N:Int))
 (hs:cmp<n/\ix<n/\nx<n/\cmp≠ix/\nx≠ix)
 (h1:f ix=.int .i64 0) (h0:J 0 f H)
 (st:∀(i:Nat) (f:dD) (H:aA) (d:Nat) (v:AV),d=cmp\/d=nx\/d=ix->J i f H->J i (jM f d v) H)
 (body:∀(i:Nat) (f:dD) (H:aA),i<N->f ix=.int .i64 i->J i f H->
   FC P g n B f ds H (gZ (fun f' fO H'=>fO=ds/\f' ix=.int .i64 i/\J (i+1) f' H') (dN id Q)))
 (done:∀(f:dD) (H:aA),J N f H->Q .normal f ds H):FC P g n (Yk id cmp ix nx N' B) f ds H Q:=by
 subst hNN;obtain⟨s1,s2,s3,s4,s7⟩:=hs;refine aF (SN (fun m f' fO H'=>fO=ds/\∃i:Nat,i<=N/\m=N -i/\f' ix=.int .i64 i/\J i f' H') N ⟨rfl,0,Az _,by omega,h1,h0⟩ ?_);rintro m f1 pA H1 ⟨rfl,i,hi,rfl,e1,e3⟩;refine aG fun K hK=>?_;rw[KE,zK _ _ _ _ s1];simp only[cX,dV,wJ,e1,qA,if_true,Bz,bZ,wB,gD];apply hK;clear hK K;have st1:=st i f1 H1 cmp (.bool (decide ((i:Int)<N))) (.inl rfl) e3;refine aG fun K hK=>BS (decide ((i:Int)<N)) (by rw[dV,rO]) (fun ht=>?_) (fun ht=>?_)
 · rw[Me,gD];apply hK;clear hK K;have eZ:i<N:=by have :=Cc ht;omega
   refine aG fun K hK=>?_;have hb:=body i _ H1 eZ (by rw[oI _ _ (Ne.symm s4)];exact e1) st1;have mono:∀{c:cD} {f:dD} {ds:List gH} {H:aA} {Q Q':FQ},(∀e f ds H,Q e f ds H->Q' e f ds H)->FC P g n c f ds H Q->FC P g n c f ds H Q':=fun {c f ds H Q Q'} hq h=>iY hq h;refine mono (fun e f2 Qn H2 h=>?_) hb
   cases e with
   |normal=>obtain⟨rfl,b1,b3⟩:=h;show K f2 Qn H2;apply hK;rw[KE,zK _ _ _ _ s3];have hw:IntKind.i64.wrap ((i:Int)+1)=((i+1:Nat):Int):=(by rw[wrap_i64 (by omega) (by omega)];rfl);simp only[cX,dV,wJ,b1,qA,if_true,Bz,bZ];rw[GK _ _ s2];simp only[cX,dV,bZ,wB,gD,rO,hw];exact⟨N -(i+1),by omega,trivial,i+1,by omega,rfl,rfl,st _ _ _ _ _ (.inr (.inr rfl)) (st _ _ _ _ _ (.inr (.inl rfl)) b3)⟩
   |_=>exact h
 rw[Md,oG,oG,qS];have Lm:i=N:=by have :=Cs ht;omega
 subst Lm;exact done _ _ st1
class Pp (op:eC):Prop where
 h:op.plain=true
 f:op.fresh=false
 e:op.pR=false
instance (x:Arg):Pp (.TM x):=⟨rfl,rfl,rfl⟩
instance (c a b:Arg):Pp (.pick c a b):=⟨rfl,rfl,rfl⟩
instance (z:List AV) (ps:List (Nat×Nat×Arg)):Pp (.build z ps):=⟨rfl,rfl,rfl⟩
instance (sz:Nat) (xs:List Arg):Pp (.Ob sz xs):=⟨rfl,rfl,rfl⟩
instance (agg:Bool) (m:Nat) (a:Arg):Pp (.load agg m a):=⟨rfl,rfl,rfl⟩
instance (x:Arg):Pp (.Re x):=⟨rfl,rfl,rfl⟩
instance (o:BinOp) (x y:Arg):Pp (.bin o x y):=⟨rfl,rfl,rfl⟩
instance (neg:Bool) (x y:Arg):Pp (.eqb neg x y):=⟨rfl,rfl,rfl⟩
instance (neg:Bool) (sh:List Sk) (x y:Arg):Pp (.eqf neg sh x y):=⟨rfl,rfl,rfl⟩
instance (neg:Bool) (k:Nk) (lit:Bool) (x y:Arg):Pp (.u9 neg k lit x y):=⟨rfl,rfl,rfl⟩
instance (o:UnOp) (x:Arg):Pp (.un o x):=⟨rfl,rfl,rfl⟩
instance (k:IntKind) (x:Arg):Pp (.NX k x):=⟨rfl,rfl,rfl⟩
instance (x:Arg):Pp (.DB x):=⟨rfl,rfl,rfl⟩
instance (m:Nat) (x:Arg):Pp (.Yw m x):=⟨rfl,rfl,rfl⟩
instance (t:TypeId) (x:Arg):Pp (.YO t x):=⟨rfl,rfl,rfl⟩
instance (fn:Fn) (a b:List Arg):Pp (.YN fn a b):=⟨rfl,rfl,rfl⟩
instance (x:Arg) (lo hi:Option Arg):Pp (.PM x lo hi):=⟨rfl,rfl,rfl⟩
instance (sz:Nat) (x:Arg) (lo hi mx:Option Arg):Pp (.Yy sz x lo hi mx):=⟨rfl,rfl,rfl⟩
instance (m sz:Nat) (x:Arg) (lo hi mx:Option Arg):Pp (.DU m sz x lo hi mx):=⟨rfl,rfl,rfl⟩
instance (off:Nat) (x:Arg):Pp (.Xf off x):=⟨rfl,rfl,rfl⟩
instance (arr:Option Nat) (sz:Nat) (x i:Arg):Pp (.TG arr sz x i):=⟨rfl,rfl,rfl⟩
instance (m sz:Nat) (agg:Bool) (x i:Arg):Pp (.idx m sz agg x i):=⟨rfl,rfl,rfl⟩
instance (x i:Arg):Pp (.idxs x i):=⟨rfl,rfl,rfl⟩
instance (t:TypeId) (ok:Bool) (z:AV) (x:Arg):Pp (.ZF t ok z x):=⟨rfl,rfl,rfl⟩
instance (x:Arg) (i:Nat):Pp (.Xe x i):=⟨rfl,rfl,rfl⟩
instance (x:Arg):Pp (.lens x):=⟨rfl,rfl,rfl⟩
instance (x:Arg):Pp (.OQ x):=⟨rfl,rfl,rfl⟩
instance (x y:Arg):Pp (.Vc x y):=⟨rfl,rfl,rfl⟩
instance (x y:Arg):Pp (.Ve x y):=⟨rfl,rfl,rfl⟩
instance (k:Sk) (z:AV) (ok:Bool) (x i:Arg):Pp (.lookup k z ok x i):=⟨rfl,rfl,rfl⟩
theorem bBz (P:Program) (g:bB) (n:Nat) (pairs:List (Nat×Nat)) (base i0 k0:Nat) (rs:List bD) (rd:List (Nat×Nat)) (ef:List (Nat×aA×aA)) (f:dD) (H:aA) (R:dD->aA->Prop) (d:Nat) (op:eC) [Pp op] (hd:d<n):
 eX P g n pairs base i0 k0 (⟨some d,op,none⟩::rs) rd ef f H R=mF (cX (nY g f) H op) fun v H'=>H'=H/\(∀id,op.dG (nY g f)=some id->∀x∈ef,(i0,x.1)∈pairs->x.2.1.get id=x.2.2.get id)/\
     eX P g n pairs base (i0+1) k0 rs (match op.dG (nY g f) with|some id=>(i0,id)::rd|none=>rd) ef (jM f d v) H R:=
 fk d op Pp.h Pp.f Pp.e hd
end
end Go.Av
