/-
  Part of the proof of statement 12
-/
import Derived.Test.YtgggiembljfnhaaGreatDoorB04
import Derived.Recover
set_option linter.unusedVariables false
set_option linter.unusedSimpArgs false
set_option linter.unusedSectionVars false
set_option linter.defProp false
namespace Go.Av
open Go
section
inductive VT where
 |nil
 |node (v:AV) (l r:VT)
def VT.get:VT->Nat->AV
 |.nil,_=>aD
 |.node v l r,n=>match n with
  |0=>v
  |m+1=>match Nat.beq (Nat.mod m 2) 0 with
   |true=>l.get (Nat.div m 2)
   |false=>r.get (Nat.div m 2)
def VT.root:VT->AV
 |.nil=>aD
 |.node v _ _=>v
def VT.left:VT->VT
 |.nil=>.nil
 |.node _ l _=>l
def VT.right:VT->VT
 |.nil=>.nil
 |.node _ _ r=>r
def VT.BE:Nat->VT->Nat->AV->VT
 |0,t,_,v=>.node v t.left t.right
 |f+1,t,n,v=>match n with
  |0=>.node v t.left t.right
  |m+1=>match Nat.beq (Nat.mod m 2) 0 with
   |true=>.node t.root (VT.BE f t.left (Nat.div m 2) v) t.right
   |false=>.node t.root t.left (VT.BE f t.right (Nat.div m 2) v)
theorem VT.HL (t:VT):t.get 0=t.root:=by cases t<;>rfl
theorem VT.wB (t:VT) (m:Nat):t.get (m+1)=if Nat.beq (Nat.mod m 2) 0=true then t.left.get (Nat.div m 2) else t.right.get (Nat.div m 2):=by
 cases t with
 |nil=>simp[VT.get,VT.left,VT.right]
 |node v l r=>simp only[VT.get,VT.left,VT.right];cases Nat.beq (Nat.mod m 2) 0<;>rfl
theorem Um {m k:Nat} (h1:Nat.beq (Nat.mod m 2) 0=Nat.beq (Nat.mod k 2) 0) (h2:Nat.div m 2=Nat.div k 2):m=k:=by
 have a1:m%2=Nat.mod m 2:=rfl;have a2:k%2=Nat.mod k 2:=rfl;have a3:m / 2=Nat.div m 2:=rfl;have a4:k / 2=Nat.div k 2:=rfl
 have h4:m%2=0↔k%2=0:=by
  constructor
  . intro h;refine Be (?_:Nat.beq (Nat.mod k 2) 0=true);rw[<-h1];show Nat.beq (m%2) 0=true;rw[h];rfl
  intro h;refine Be (?_:Nat.beq (Nat.mod m 2) 0=true);rw[h1];show Nat.beq (k%2) 0=true;rw[h];rfl
 omega
theorem VT.HK:∀(f:Nat) (t:VT) (n:Nat) (v:AV) (m:Nat),n<=f->(VT.BE f t n v).get m=if m=n then v else t.get m:=by
 intro f
 induction f with
 |zero=>
  intro t n v m hn;obtain rfl:n=0:=by omega
  cases m with
  |zero=>simp[VT.BE,VT.HL,VT.root]
  |succ m=>simp[VT.BE,VT.wB,VT.left,VT.right]
 |succ f ih=>
  intro t n v m hn
  cases n with
  |zero=>
   cases m with
   |zero=>simp[VT.BE,VT.HL,VT.root]
   |succ m=>simp[VT.BE,VT.wB,VT.left,VT.right]
  |succ n=>
   have hd:Nat.div n 2<=f:=Cd (Js n 2) (by omega)
   cases hb:Nat.beq (Nat.mod n 2) 0 with
   |true=>
    simp only[VT.BE,hb]
    cases m with
    |zero=>simp[VT.HL,VT.root]
    |succ m=>
     rw[VT.wB,VT.wB];simp only[VT.left,VT.right]
     cases vh:Nat.beq (Nat.mod m 2) 0 with
     |true=>
      simp only[if_true];exact Zbb
     |false=>simp only[Bb,Bp];rw[if_neg];intro hh;rw[Nat.succ.inj hh,hb] at vh;cases vh
   |false=>
    simp only[VT.BE,hb]
    cases m with
    |zero=>simp[VT.HL,VT.root]
    |succ m=>
     rw[VT.wB,VT.wB];simp only[VT.left,VT.right]
     cases vh:Nat.beq (Nat.mod m 2) 0 with
     |false=>
      simp only[Bb,Bp];exact Zbb
     |true=>simp only[if_true];rw[if_neg];intro hh;rw[Nat.succ.inj hh,hb] at vh;cases vh
def VT.set (t:VT) (n:Nat) (v:AV):VT:=VT.BE n t n v
theorem VT.aC (t:VT) (n:Nat) (v:AV) (m:Nat):(t.set n v).get m=if m=n then v else t.get m:=VT.HK n t n v m (Ab _)
def Kw (n:Nat) (T:VT):List AV:=(List.range n).map T.get
def Lo (n:Nat) (T:VT):Prop:=∀t,n<=t->T.get t=aD
def wT (n:Nat) (T:VT) (dst:Option Nat) (v:AV):VT:=
 match dst with
 |none=>T
 |some d=>match Nat.blt d n with
  |true=>T.set d v
  |false=>T
theorem Lo.put {n:Nat} {T:VT} (h:Lo n T) (dst:Option Nat) (v:AV):Lo n (wT n T dst v):=by
 unfold wT;split
 . exact h
 rename_i d
 cases hb:Nat.blt d n with
 |true=>
  intro t ht;rw[VT.aC,if_neg]
  . exact h t ht
  intro hh;have :d<n:=by simpa [Gq] using hb
  omega
 |false=>exact h
theorem PF {n:Nat} {T:VT} (h:Lo n T) (t:Nat):(Kw n T).getD t aD=T.get t:=by
 unfold Kw;rw[getD_eq,Cv];by_cases ht:t<n
 . simp[ht]
 rw[h t (by omega)];simp[ht]
theorem qV {n:Nat} {T:VT} (dst:Option Nat) (v:AV):Kw n (wT n T dst v)=nA (Kw n T) dst v:=by
 unfold wT nA
 cases dst with
 |none=>rfl
 |some d=>
  simp only;unfold Kw;apply Gd;intro i;rw[Ha]
  cases hb:Nat.blt d n with
  |true=>
   have hd:d<n:=(by simpa [Gq] using hb);simp only[Cv,Af,Bw,hd,if_true];by_cases hi:d=i
   . subst hi;simp[hd,VT.aC]
   rw[if_neg hi];by_cases gT:i<n
   . simp[gT,VT.aC,Ne.symm hi]
   simp[gT]
  |false=>
   have hd:¬d<n:=by intro hh;have :Nat.blt d n=true:=(by simpa [Gq] using hh);rw[hb] at this;cases this
   simp only[Cv,Af,Bw,hd,Bp];by_cases hi:d=i
   . subst hi;simp[hd]
   rw[if_neg hi]
def yF (n:Nat):List AV->Nat->VT->VT
 |[],_,T=>T
 |v::vs,i,T=>yF n vs (i+1) (wT n T (some i) v)
def WL (g:bG) (T:VT):Arg->AV
 |.tmp t=>T.get t
 |.const v=>v
 |.jG n=>match g n with
  |some cs=>.pl cs
  |none=>aD
theorem EO {n:Nat} {T:VT} (h:Lo n T) (g:bG):WL g T=Arg.eval g (Kw n T):=by
 funext x
 cases x with
 |tmp t=>exact(PF h t).symm
 |const v=>rfl
 |jG n=>rfl
def Mj (T:VT) (o:bK):Bool:=
 match o.guard with
 |none=>true
 |some (d,b)=>match T.get d with
  |.bool c=>c==b
  |_=>false
theorem PI {n:Nat} {T:VT} (h:Lo n T) (o:bK):Mj T o=bT (Kw n T) o:=by
 unfold Mj bT
 cases o.guard with
 |none=>rfl
 |some p=>simp only[PF h];cases T.get p.1<;>rfl
mutual
def AV.same:AV->AV->Bool
 |.bool a,.bool b=>a==b
 |.int j a,.int k b=>decide (j=k)&&decide (a=b)
 |.str a,.str b=>a==b
 |.KT,.KT=>true
 |.ref i o,.ref j p=>i==j&&o==p
 |.pl a,.pl b=>rH a b
 |.aO,.aO=>true
 |.bD t s e,.bD t' s' e'=>t==t'&&s==s'&&Ko e e'
 |.sl a b c d e,.sl a' b' c' d' e'=>a==a'&&b==b'&&c==c'&&d==d'&&e==e'
 |.func f a b,.func f' a' b'=>decide (f=f')&&rH a a'&&rH b b'
 |.AP,.AP=>true
 |.iface t v,.iface t' v'=>decide (t=t')&&v.same v'
 |.wP,.wP=>true
 |.agg a,.agg b=>rH a b
 |.iA a,.iA b=>rH a b
 |.map i,.map j=>i==j
 |.rV,.rV=>true
 |_,_=>false
def rH:List AV->List AV->Bool
 |[],[]=>true
 |x::r,y::s=>x.same y&&rH r s
 |_,_=>false
def Ko:List (List AV)->List (List AV)->Bool
 |[],[]=>true
 |x::r,y::s=>rH x y&&Ko r s
 |_,_=>false
end
mutual
theorem AV.TS:∀(a b:AV),a.same b=true->a=b:=by
 intro a b h
 cases a<;>cases b<;>simp only[AV.same,Al,Cf,Bd] at h<;>first
  |rfl
  |(cases h;done)
  |(subst h;rfl)
  |(obtain⟨h1,h2⟩:=h;subst h1;subst h2;rfl)
  |(obtain⟨⟨⟨⟨h1,h2⟩,h3⟩,h4⟩,h5⟩:=h;subst h1;subst h2;subst h3;subst h4;subst h5;rfl)
  |(rw[nL _ _ h];done)
  |(obtain⟨h1,h2⟩:=h;subst h1;rw[AV.TS _ _ h2];done)
  |(obtain⟨⟨h1,h2⟩,h3⟩:=h;subst h1;subst h2;rw[Re _ _ h3];done)
  |(obtain⟨⟨h1,h2⟩,h3⟩:=h;subst h1;rw[nL _ _ h2,nL _ _ h3];done)
theorem nL:∀(a b:List AV),rH a b=true->a=b:=by
 intro a b h
 cases a with
 |nil=>cases b with
  |nil=>rfl
  |cons y s=>simp[rH] at h
 |cons x r=>cases b with
  |nil=>simp[rH] at h
  |cons y s=>simp only[rH,Al] at h;rw[AV.TS _ _ h.1,nL _ _ h.2]
theorem Re:∀(a b:List (List AV)),Ko a b=true->a=b:=by
 intro a b h
 cases a with
 |nil=>cases b with
  |nil=>rfl
  |cons y s=>simp[Ko] at h
 |cons x r=>cases b with
  |nil=>simp[Ko] at h
  |cons y s=>simp only[Ko,Al] at h;rw[nL _ _ h.1,Re _ _ h.2]
end
def Mc:Option fB->Option fB->Bool
 |none,none=>true
 |some (.cells a o),some (.cells b p)=>rH a b&&o==p
 |some .tok,some .tok=>true
 |some .dead,some .dead=>true
 |some (.map a),some (.map b)=>rH (a.map (·.1)) (b.map (·.1))&&rH (a.map (·.2)) (b.map (·.2))
 |_,_=>false
theorem kx {a b:List (AV×AV)} (h1:a.map (·.1)=b.map (·.1)) (h2:a.map (·.2)=b.map (·.2)):a=b:=by
 induction a generalizing b with
 |nil=>cases b with
  |nil=>rfl
  |cons y s=>simp at h1
 |cons x r ih=>cases b with
  |nil=>simp at h1
  |cons y s=>simp only[Cb,Ip] at h1 h2;rw[ih h1.2 h2.2,Prod.ext h1.1 h2.1]
theorem Ov {a b:Option fB} (h:Mc a b=true):a=b:=by
 unfold Mc at h
 split at h<;>first
  |rfl
  |(cases h;done)
  |skip
 . simp only[Al,Cf] at h;rw[nL _ _ h.1,h.2]
 simp only[Al] at h;rw[kx (nL _ _ h.1) (nL _ _ h.2)]
abbrev DC:=AV->List AV->aA->Option (Out×aA)
abbrev Res:=AEx×VT×List gN×aA
def LH (cf:DC) (g:bG) (n:Nat):List bK->VT->List gN->aA->Option Res
 |[],T,ds,H=>some (.normal,T,ds,H)
 |o::r,T,ds,H=>
  match Mj T o with
  |true=>match o.op with
   |.call f azs=>match cf (WL g T f) (azs.map (WL g T)) H with
    |some (.ret v,H')=>LH cf g n r (wT n T o.dst v) ds H'
    |some (.JL v,H')=>some (.panic v,T,ds,H')
    |none=>none
   |.panic x=>match WL g T x with
    |.iface t v=>some (.panic (.iface t v),T,ds,H)
    |_=>none
   |.lD f azs=>match mH (WL g T f) with
    |some p=>LH cf g n r (wT n T o.dst aD) (.call p.1 (p.2.1++azs.map (WL g T)++p.2.2)::ds) H
    |none=>none
   |op=>match dA (WL g T) H op with
    |some (v,H')=>LH cf g n r (wT n T o.dst v) ds H'
    |none=>none
  |false=>LH cf g n r (wT n T o.dst aD) ds H
def exQ (cf:DC) (g:bG) (T:VT) (H:aA):eE->Option (AV×aA)
 |.call f azs=>match mH (WL g T f) with
  |some _=>match cf (WL g T f) (azs.map (WL g T)) H with
   |some (.ret v,H')=>some (v,H')
   |_=>none
  |none=>none
 |.panic _|.lD _ _=>none
 |op=>dA (WL g T) H op
def Xm (pairs:List (Nat×Nat)) (i id:Nat) (ef:List (Nat×aA×aA)):Bool:=
 ef.all fun x=> !pairs.contains (i,x.1)||Mc (x.2.1.get id) (x.2.2.get id)
def SK (cf:DC) (g:bG) (n:Nat) (pairs:List (Nat×Nat)) (base:Nat):Nat->Nat->List bK->List (Nat×Nat)->List (Nat×aA×aA)->VT->aA->Option (VT×aA)
 |_,_,[],_,_,T,H=>some (T,H)
 |i,k,r::rs,rd,ef,T,H=>
  match Mj T r with
  |true=>match r.op.fresh with
   |true=>match xB (WL g T) r.op with
    |some (ob,val)=>match Xm pairs i (base+k) ef with
     |true=>SK cf g n pairs base (i+1) (k+1) rs ((i,base+k)::rd) ef (wT n T r.dst (val (base+k))) (H.set (base+k) ob)
     |false=>none
    |none=>none
   |false=>match r.op.pP with
    |true=>match exQ cf g T H r.op with
     |some (v,H')=>match Nat.ble H.next H'.next&&rd.all fun x=> !pairs.contains (x.1,i)||Mc (H.get x.2) (H'.get x.2) with
      |true=>SK cf g n pairs base (i+1) k rs rd ((i,H,H')::ef) (wT n T r.dst v) H'
      |false=>none
     |none=>none
    |false=>match exQ cf g T H r.op with
     |some (v,_)=>match r.op.dK (WL g T) with
      |some id=>match Xm pairs i id ef with
       |true=>SK cf g n pairs base (i+1) k rs ((i,id)::rd) ef (wT n T r.dst v) H
       |false=>none
      |none=>SK cf g n pairs base (i+1) k rs rd ef (wT n T r.dst v) H
     |none=>none
  |false=>SK cf g n pairs base (i+1) (match r.op.fresh with|true=>k+1|false=>k) rs rd ef (wT n T r.dst aD) H
def RI (f:VT->List gN->aA->Option Res):Nat->VT->List gN->aA->Option Res
 |0,_,_,_=>none
 |m+1,T,ds,H=>match f T ds H with
  |some (.normal,T',fQ,H')=>RI f m T' fQ H'
  |r=>r
def PN (cf:DC) (g:bG) (n fuel:Nat):cF->VT->List gN->aA->Option Res
 |.skip,T,ds,H=>some (.normal,T,ds,H)
 |.ops rl,T,ds,H=>LH cf g n rl T ds H
 |.draw rl pairs,T,ds,H=>match mR H (rl.countP (·.op.fresh)) with
  |true=>match SK cf g n pairs H.next 0 0 rl [] [] T {H with next:=H.next+rl.countP (·.op.fresh)} with
   |some (T',H')=>some (.normal,T',ds,H')
   |none=>none
  |false=>none
 |.seq a b,T,ds,H=>match PN cf g n fuel a T ds H with
  |some (.normal,T',fQ,H')=>PN cf g n fuel b T' fQ H'
  |r=>r
 |.cond c a b,T,ds,H=>match WL g T c with
  |.bool true=>PN cf g n fuel a T ds H
  |.bool false=>PN cf g n fuel b T ds H
  |_=>none
 |.block id a,T,ds,H=>match PN cf g n fuel a T ds H with
  |some (.exit i,T',fQ,H')=>match Nat.beq i id with
   |true=>some (.normal,T',fQ,H')
   |false=>some (.exit i,T',fQ,H')
  |r=>r
 |.loop a,T,ds,H=>RI (PN cf g n fuel a) fuel T ds H
 |.exit id,T,ds,H=>some (.exit id,T,ds,H)
 |.ret,T,ds,H=>some (.ret,T,ds,H)
 |.oG c ps PM body,T,ds,H=>match WL g T c with
  |.func (.func fid) fs cs=>match cf (.func (.func fid) fs cs) [.yield (H.next+1)] ((H.alloc .SH).alloc (.loop ⟨ps,PM,body⟩ (Kw n T) .ready)) with
   |some (.ret _,He)=>match He.get (H.next+1) with
    |some (.loop _ _ .ready)=>some (.normal,T,.mark H.next::ds,He.set (H.next+1) .dead)
    |some (.loop _ _ (.done .ret))=>some (.ret,T,.mark H.next::ds,He.set (H.next+1) .dead)
    |some (.loop _ _ (.done (.exit i)))=>some (.exit i,T,.mark H.next::ds,He.set (H.next+1) .dead)
    |_=>none
   |_=>none
  |_=>none
def IT (n:Nat) (T:VT):List (Nat×AV)->VT
 |[]=>T
 |(t,v)::r=>IT n (wT n T (some t) v) r
section
variable {P:Program} {g:bG} {n fuel:Nat} {cf:DC}
theorem QE.sound {fv:AV} {args:List AV} {H H':aA} {out:Out} {p:FuncId×List AV×List AV} (h:QE P g fv args H out H') (hp:mH fv=some p):Sound P g p.1 (p.2.1++args++p.2.2) H out H':=by
 rcases h with ⟨q,hq,h⟩|⟨id,rfl,_⟩
 . rw[hq] at hp;cases hp;exact h
 cases hp
def EB (P:Program) (g:bG) (cf:DC):Prop:=∀c args H out H',cf c args H=some (out,H')->QE P g c args H out H'
theorem qX (LO:EB P g cf):∀(rl:List bK) (T:VT) (ds:List gN) (H:aA) (ae:AEx) (T':VT) (fQ:List gN) (H':aA),Lo n T->LH cf g n rl T ds H=some (ae,T',fQ,H')->
 Lo n T'/\∀Q:AQ,Q ae (Kw n T') fQ H'->uF P g rl (Kw n T) ds H Q
 |[],T,ds,H,ae,T',fQ,H',hb,h=>by simp only[LH,Ae,Ak] at h;obtain⟨rfl,rfl,rfl,rfl⟩:=h;exact⟨hb,fun Q hq=>hq⟩
 |o::r,T,ds,H,ae,T',fQ,H',hb,h=>by
  unfold LH at h;rw[EO hb,PI hb] at h;unfold uF
  cases hw:bT (Kw n T) o with
  |false=>rw[hw] at h;dsimp only at h;have ih:=qX LO r _ ds H ae T' fQ H' (hb.put o.dst aD) h;rw[qV] at ih;exact⟨ih.1,fun Q hq=>by simpa using ih.2 Q hq⟩
  |true=>
   rw[hw] at h;dsimp only at h;simp only[if_true];split at h
   . rename_i f azs fK;split at h
     . rename_i v H1 hc;have ih:=qX LO r _ ds H1 ae T' fQ H' (hb.put o.dst v) h;rw[qV] at ih;exact⟨ih.1,fun Q hq=>by rw[fK];exact⟨.ret v,H1,LO _ _ _ _ _ hc,ih.2 Q hq⟩⟩
     . rename_i v H1 hc;simp only[Ae,Ak] at h;obtain⟨rfl,rfl,rfl,rfl⟩:=h;exact⟨hb,fun Q hq=>by rw[fK];exact⟨.JL v,H1,LO _ _ _ _ _ hc,hq⟩⟩
     cases h
   . rename_i x fK;split at h
     . rename_i t v hx;simp only[Ae,Ak] at h;obtain⟨rfl,rfl,rfl,rfl⟩:=h;exact⟨hb,fun Q hq=>by rw[fK];exact⟨t,v,hx,hq⟩⟩
     cases h
   . rename_i f azs fK;split at h
     . rename_i p hp;have ih:=qX LO r _ _ H ae T' fQ H' (hb.put o.dst aD) h;rw[qV] at ih;exact⟨ih.1,fun Q hq=>by rw[fK];exact⟨p,hp,ih.2 Q hq⟩⟩
     cases h
   rename_i n1 n2 n3;split at h
   . rename_i v H1 ha;have ih:=qX LO r _ ds H1 ae T' fQ H' (hb.put o.dst v) h;rw[qV] at ih;refine⟨ih.1,fun Q hq=>?_⟩;split
     . rename_i f azs fK;exact absurd fK (n1 f azs)
     . rename_i x fK;exact absurd fK (n2 x)
     . rename_i f azs fK;exact absurd fK (n3 f azs)
     . rename_i x fK;rw[fK] at ha;cases ha
     . rename_i x fK;rw[fK] at ha;cases ha
     . rename_i x fK;rw[fK] at ha;cases ha
     exact⟨v,H1,ha,ih.2 Q hq⟩
   cases h
theorem Qd (LO:EB P g cf) {T:VT} (hb:Lo n T) {H H':aA} {r:bK} {v:AV} (h:exQ cf g T H r.op=some (v,H')):GL P g r (Kw n T) H v H':=by
 unfold exQ at h;rw[EO hb] at h;unfold GL;split at h
 . rename_i f azs fK;rw[fK];split at h
   . rename_i p hp;split at h
     . rename_i v' H1 hc;simp only[Ae,Ak] at h;obtain⟨rfl,rfl⟩:=h;exact⟨p,hp,(LO _ _ _ _ _ hc).sound hp⟩
     cases h
   cases h
 . cases h
 . cases h
 rename_i n1 n2 n3;split
 . rename_i f azs fK;exact absurd fK (n1 f azs)
 . rename_i x fK;exact absurd fK (n2 x)
 . rename_i f azs fK;exact absurd fK (n3 f azs)
 exact h
theorem OD {pairs:List (Nat×Nat)} {i id:Nat} {ef:List (Nat×aA×aA)} (h:Xm pairs i id ef=true):∀x∈ef,(i,x.1)∈pairs->x.2.1.get id=x.2.2.get id:=by intro x hx hp;have :=Aw.1 h x hx;simp only[Dm,Cn,List.contains_eq_mem,Bh] at this;exact Ov (this.resolve_left fun hh=>hh hp)
theorem qB (LO:EB P g cf) {pairs:List (Nat×Nat)} {base:Nat}:∀(rl:List bK) (i k:Nat) (rd:List (Nat×Nat)) (ef:List (Nat×aA×aA)) (T:VT) (H:aA) (T':VT) (H':aA),Lo n T->
 SK cf g n pairs base i k rl rd ef T H=some (T',H')->Lo n T'/\∀Q:List AV->aA->Prop,Q (Kw n T') H'->Tn P g pairs base i k rl rd ef (Kw n T) H Q
 |[],i,k,rd,ef,T,H,T',H',hb,h=>by simp only[SK,Ae,Ak] at h;obtain⟨rfl,rfl⟩:=h;exact⟨hb,fun Q hq=>hq⟩
 |r::rs,i,k,rd,ef,T,H,T',H',hb,h=>by
  unfold SK at h;rw[PI hb] at h;unfold Tn
  cases hw:bT (Kw n T) r with
  |false=>
   rw[hw] at h;dsimp only at h;have ih:=qB LO rs _ _ _ _ _ _ T' H' (hb.put r.dst aD) h;rw[qV] at ih
   have hk:(match r.op.fresh with|true=>k+1|false=>k)=if r.op.fresh then k+1 else k:=(by cases r.op.fresh<;>rfl);rw[hk] at ih;exact⟨ih.1,fun Q hq=>by simpa using ih.2 Q hq⟩
  |true=>
   rw[hw] at h;dsimp only at h;simp only[if_true]
   cases hf:r.op.fresh with
   |true=>
    rw[hf] at h;dsimp only at h;simp only[if_true];rw[EO hb] at h;split at h
    . rename_i ob val ho;split at h
      . rename_i hk;have ih:=qB LO rs _ _ _ _ _ _ T' H' (hb.put r.dst (val (base+k))) h;rw[qV] at ih;exact⟨ih.1,fun Q hq=>⟨ob,val,ho,OD hk,ih.2 Q hq⟩⟩
      cases h
    cases h
   |false=>
    rw[hf] at h;dsimp only at h;simp only[Bb,Bp]
    cases he:r.op.pP with
    |true=>
     rw[he] at h;dsimp only at h;simp only[if_true];split at h
     . rename_i v H1 JK;split at h
       . rename_i hk;simp only[Al] at hk;have ih:=qB LO rs _ _ _ _ _ _ T' H' (hb.put r.dst v) h;rw[qV] at ih;refine⟨ih.1,fun Q hq=>⟨v,H1,Qd LO hb JK,by simpa using Ai hk.1,fun x hx hp=>?_,ih.2 Q hq⟩⟩;have :=Aw.1 hk.2 x hx;simp only[Dm,Cn,List.contains_eq_mem,Bh] at this;exact Ov (this.resolve_left fun hh=>hh hp)
       cases h
     cases h
    |false=>
     rw[he] at h;dsimp only at h;simp only[Bb,Bp];split at h
     . rename_i v H1 JK;have hqs:=Qd LO hb JK
       have hH:H1=H:=by
        unfold GL at hqs;split at hqs
        . rename_i fK;rw[fK] at he;cases he
        . exact hqs.elim
        . exact hqs.elim
        exact(JT (H1:=H) he hf hqs (fun id _=>rfl)).1
       rw[hH] at hqs;rw[EO hb] at h;split at h
       . rename_i id dC;split at h
         . rename_i hk;have ih:=qB LO rs _ _ _ _ _ _ T' H' (hb.put r.dst v) h;rw[qV] at ih;refine⟨ih.1,fun Q hq=>⟨v,hqs,fun kU EZ=>?_,?_⟩⟩
           . rw[dC] at EZ;cases EZ;exact OD hk
           rw[dC];exact ih.2 Q hq
         cases h
       rename_i dC;have ih:=qB LO rs _ _ _ _ _ _ T' H' (hb.put r.dst v) h;rw[qV] at ih;refine⟨ih.1,fun Q hq=>⟨v,hqs,fun kU EZ=>?_,?_⟩⟩
       . rw[dC] at EZ;cases EZ
       rw[dC];exact ih.2 Q hq
     cases h
theorem dp {rl:List bK}:∀{s:List AV} {ds:List gN} {H:aA} {Q Q':AQ},(∀e s ds H,Q e s ds H->Q' e s ds H)->uF P g rl s ds H Q->uF P g rl s ds H Q':=by
 induction rl with
 |nil=>exact fun hq h=>hq _ _ _ _ h
 |cons o r ih=>
  intro s ds H Q Q' hq h;unfold uF at h ⊢;split
  . rename_i hw;rw[if_pos hw] at h;split at h
    . obtain⟨out,H',h1,h3⟩:=h;refine⟨out,H',h1,?_⟩
      cases out with
      |ret v=>exact ih hq h3
      |JL v=>exact hq _ _ _ _ h3
    . obtain⟨t,v,h1,h2⟩:=h;exact⟨t,v,h1,hq _ _ _ _ h2⟩
    . obtain⟨p,h1,h2⟩:=h;exact⟨p,h1,ih hq h2⟩
    . obtain⟨m,es,h1,h2,h3⟩:=h;exact⟨m,es,h1,h2,fun bs c mb k1 k2=>ih hq (h3 bs c mb k1 k2)⟩
    . exact Zbs
    . obtain⟨it,m,mb,c,seen,es,bs,j,h1,h2,h3,h4,h5⟩:=h;exact⟨it,m,mb,c,seen,es,bs,j,h1,h2,h3,h4,ih hq h5⟩
    obtain⟨v,H',h1,h2⟩:=h;exact⟨v,H',h1,ih hq h2⟩
  rename_i hw;rw[if_neg hw] at h;exact ih hq h
theorem To {pairs:List (Nat×Nat)} {base:Nat} {rl:List bK}:∀{i k:Nat} {rd:List (Nat×Nat)} {ef:List (Nat×aA×aA)} {s:List AV} {H:aA} {Q Q':List AV->aA->Prop},(∀s H,Q s H->Q' s H)->
 Tn P g pairs base i k rl rd ef s H Q->Tn P g pairs base i k rl rd ef s H Q':=by
 induction rl with
 |nil=>exact fun hq h=>hq _ _ h
 |cons r rs ih=>
  intro i k rd ef s H Q Q' hq h;unfold Tn at h ⊢;exact Zam
theorem fY {c:cF}:∀{s:List AV} {ds:List gN} {H:aA} {Q Q':AQ},(∀e s ds H,Q e s ds H->Q' e s ds H)->AC P g c s ds H Q->AC P g c s ds H Q':=by
 induction c with
 |skip=>exact fun hq h=>hq _ _ _ _ h
 |ops rl=>exact fun hq h=>dp hq h
 |draw rl pairs=>exact fun hq h=>h.imp (fun h=>⟨h.1,To (fun s H=>hq _ _ _ _) h.2⟩) fun h=>h.mono fun _ _ _=>hq _ _ _ _
 |seq a b rT uP=>
  intro s ds H Q Q' hq h;refine rT (fun e s ds H h=>?_) h
  cases e with
  |normal=>exact uP hq h
  |_=>exact hq _ _ _ _ h
 |cond c a b rT uP=>
  intro s ds H Q Q' hq h;obtain⟨t,h1,h2⟩:=h;refine⟨t,h1,?_⟩
  cases t with
  |true=>exact rT hq h2
  |false=>exact uP hq h2
 |block id a ih=>
  intro s ds H Q Q' hq h;refine ih (fun e s ds H h=>?_) h
  cases e with
  |exit i=>
   simp only[pL] at h ⊢;split
   . rename_i hi;rw[if_pos hi] at h;exact hq _ _ _ _ h
   rename_i hi;rw[if_neg hi] at h;exact hq _ _ _ _ h
  |_=>exact hq _ _ _ _ h
 |loop a ih=>
  intro s ds H Q Q' hq h;obtain⟨I,m,h0,hI⟩:=h;refine⟨I,m,h0,fun m s ds H hi=>ih (fun e s ds H h=>?_) (hI m s ds H hi)⟩
  cases e with
  |normal=>exact h
  |_=>exact hq _ _ _ _ h
 |exit id=>exact fun hq h=>hq _ _ _ _ h
 |ret=>exact fun hq h=>hq _ _ _ _ h
 |oG c ps a b rT uP=>
  intro s ds H Q Q' hq h;obtain⟨fid,fs,cs,v,He,k',s',st,Hf,h1,h2,h3,h4,h5⟩:=h;refine⟨fid,fs,cs,v,He,k',s',st,Hf,h1,h2,h3,h4,?_⟩
  cases st with
  |ready=>exact hq _ _ _ _ h5
  |done e=>cases e<;>exact hq _ _ _ _ h5
  |busy=>exact h5.elim
  |over _=>exact h5.elim
theorem BO (LO:EB P g cf):∀(c:cF) (T:VT) (ds:List gN) (H:aA) (ae:AEx) (T':VT) (fQ:List gN) (H':aA),Lo n T->PN cf g n fuel c T ds H=some (ae,T',fQ,H')->
 Lo n T'/\∀Q:AQ,Q ae (Kw n T') fQ H'->AC P g c (Kw n T) ds H Q:=by
 intro c
 induction c with
 |skip=>intro T ds H ae T' fQ H' hb h;simp only[PN,Ae,Ak] at h;obtain⟨rfl,rfl,rfl,rfl⟩:=h;exact⟨hb,fun Q hq=>hq⟩
 |ops rl=>exact fun T ds H ae T' fQ H' hb h=>qX LO rl T ds H ae T' fQ H' hb h
 |draw rl pairs=>
  intro T ds H ae T' fQ H' hb h;simp only[PN] at h;split at h
  . rename_i ML;split at h
    . rename_i T1 H1 hd;simp only[Ae,Ak] at h;obtain⟨rfl,rfl,rfl,rfl⟩:=h;have :=qB LO rl 0 0 [] [] T _ T1 H1 hb hd;exact⟨this.1,fun Q hq=>.inl ⟨ML,this.2 _ hq⟩⟩
    cases h
  cases h
 |seq a b rT uP=>
  intro T ds H ae T' fQ H' hb h;simp only[PN] at h;split at h
  . rename_i T1 rL H1 ha;have h1:=rT T ds H _ T1 rL H1 hb ha;have h2:=uP T1 rL H1 ae T' fQ H' h1.1 h;exact⟨h2.1,fun Q hq=>h1.2 _ (h2.2 Q hq)⟩
  rename_i hn;have h1:=rT T ds H ae T' fQ H' hb h;refine⟨h1.1,fun Q hq=>h1.2 _ ?_⟩
  cases ae with
  |normal=>exact absurd h (hn _ _ _)
  |_=>exact hq
 |cond c a b rT uP=>
  intro T ds H ae T' fQ H' hb h;simp only[PN] at h;rw[EO hb] at h;split at h
  . rename_i hc;have h1:=rT T ds H ae T' fQ H' hb h;exact⟨h1.1,fun Q hq=>⟨true,hc,h1.2 Q hq⟩⟩
  . rename_i hc;have h1:=uP T ds H ae T' fQ H' hb h;exact⟨h1.1,fun Q hq=>⟨false,hc,h1.2 Q hq⟩⟩
  cases h
 |block id a ih=>
  intro T ds H ae T' fQ H' hb h;simp only[PN] at h;split at h
  . rename_i i T1 rL H1 ha;have h1:=ih T ds H _ T1 rL H1 hb ha;split at h
    . rename_i hi;have gQ:i=id:=Be hi;simp only[Ae,Ak] at h;obtain⟨rfl,rfl,rfl,rfl⟩:=h;refine⟨h1.1,fun Q hq=>h1.2 _ ?_⟩;simp only[pL];rw[if_pos gQ];exact hq
    rename_i hi;have gQ:i≠id:=Nat.ne_of_beq_eq_false hi;simp only[Ae,Ak] at h;obtain⟨rfl,rfl,rfl,rfl⟩:=h;refine⟨h1.1,fun Q hq=>h1.2 _ ?_⟩;simp only[pL];rw[if_neg gQ];exact hq
  rename_i hn;have h1:=ih T ds H ae T' fQ H' hb h;refine⟨h1.1,fun Q hq=>h1.2 _ ?_⟩
  cases ae with
  |exit i=>exact absurd h (hn _ _ _ _)
  |_=>exact hq
 |loop a ih=>
  intro T ds H ae T' fQ H' hb h;simp only[PN] at h
  have key:∀(m:Nat) (T:VT) (ds:List gN) (H:aA),Lo n T->RI (PN cf g n fuel a) m T ds H=some (ae,T',fQ,H')->Lo n T':=by
   intro m
   induction m with
   |zero=>intro T ds H _ h;cases h
   |succ m ihm=>
    intro T ds H hb h;simp only[RI] at h;split at h
    . rename_i T1 rL H1 h1;exact ihm T1 rL H1 (ih _ _ _ _ _ _ _ hb h1).1 h
    exact(ih _ _ _ _ _ _ _ hb h).1
  refine⟨key fuel T ds H hb h,fun Q hq=>⟨fun m s ds H=>∃T,s=Kw n T/\Lo n T/\RI (PN cf g n fuel a) m T ds H=some (ae,T',fQ,H'),fuel,⟨T,rfl,hb,h⟩,?_⟩⟩;rintro m s rL H1 ⟨T1,rfl,eQ,h1⟩
  cases m with
  |zero=>cases h1
  |succ m=>
   simp only[RI] at h1;split at h1
   . rename_i T2 Te H2 h2;have :=ih _ _ _ _ _ _ _ eQ h2;exact this.2 _ ⟨m,Ex m,T2,rfl,this.1,h1⟩
   rename_i hn;have :=ih _ _ _ _ _ _ _ eQ h1;refine this.2 _ ?_
   cases ae with
   |normal=>exact absurd h1 (hn _ _ _)
   |_=>exact hq
 |exit id=>intro T ds H ae T' fQ H' hb h;simp only[PN,Ae,Ak] at h;obtain⟨rfl,rfl,rfl,rfl⟩:=h;exact⟨hb,fun Q hq=>hq⟩
 |ret=>intro T ds H ae T' fQ H' hb h;simp only[PN,Ae,Ak] at h;obtain⟨rfl,rfl,rfl,rfl⟩:=h;exact⟨hb,fun Q hq=>hq⟩
 |oG c ps a b _ _=>
  intro T ds H ae T' fQ H' hb h;simp only[PN] at h;rw[EO hb] at h;split at h
  . rename_i fid fs cs hc;split at h
    . rename_i v He DM;have hS:=(LO _ _ _ _ _ DM).sound rfl;have hl:wL He (H.next+1) (He.set (H.next+1) .dead):=⟨rfl,fun m=>aA.aC _ _ _ _⟩;split at h
      . rename_i k' s' hg;simp only[Ae,Ak] at h;obtain⟨rfl,rfl,rfl,rfl⟩:=h;exact⟨hb,fun Q hq=>⟨fid,fs,cs,v,He,k',s',.ready,_,hc,hS,hg,hl,hq⟩⟩
      . rename_i k' s' hg;simp only[Ae,Ak] at h;obtain⟨rfl,rfl,rfl,rfl⟩:=h;exact⟨hb,fun Q hq=>⟨fid,fs,cs,v,He,k',s',.done .ret,_,hc,hS,hg,hl,hq⟩⟩
      . rename_i k' s' i hg;simp only[Ae,Ak] at h;obtain⟨rfl,rfl,rfl,rfl⟩:=h;exact⟨hb,fun Q hq=>⟨fid,fs,cs,v,He,k',s',.done (.exit i),_,hc,hS,hg,hl,hq⟩⟩
      cases h
    cases h
  cases h
end
end
def aUo (G:Gh) (w:World):Option AV->FrameMode->Prop
 |none,m=>m=.returning
 |some v,m=>∃x,m=.panicking [{v:=x,recovered:=false}]/\VR G w v x
def SB (P:Program) (g:bG) (f:FuncId) (args:List AV) (md:Option AV) (H H':aA):Prop:=
 Mp P f/\∀(G:Gh) (w:World) (vs:List Value) (u:FrameMode),WR g G H w->iO G w args vs->aUo G w md u->
  CallsDIn Fence.wide 0 P f vs.toArray u w fun e u' w'=>(∃x,e=.returned x)/\settle u'=.returning/\∃G',WR g G' H' w'/\Ext G H w G' H' w'
def Wa (P:Program) (g:bG):List gN->aA->(aA->Prop)->Prop
 |[],H,Q=>Q H
 |.call f azs::ds,H,Q=>∃H1,SB P g f azs none H H1/\Wa P g ds H1 Q
 |.mark id::ds,H,Q=>H.get id=some .SH/\Wa P g ds (H.set id .dfx) Q
def aKx (P:Program) (g:bG) (F:BM) (R:Out->aA->Prop):AQ
 |.normal,s,ds,H|.ret,s,ds,H=>Wa P g ds H fun H1=>∃vs,lY s H1 F.results=some vs/\R (.ret (nB vs)) H1
 |.panic v,s,ds,H=>match ds with
  |[]=>R (.JL v) H
  |.mark _::_=>False
  |.call f azs::ds=>∃H1,SB P g f azs (some v) H H1/\Wa P g ds H1 fun H2=>∃vs,lY s H2 F.results=some vs/\R (.ret (nB vs)) H2
 |.exit _,_,_,_=>False
theorem tT {P:Program} {g:bG} {fn:Func} {tmps:Array Value} {R:Ending->World->Prop} {Q:aA->Prop}:∀(ds:List gN) (l:List Deferred) (G:Gh) (H:aA) (w:World),
 Wa P g ds H Q->WR g G H w->Rt G w ds l->
 (∀G' H' w',Q H'->WR g G' H' w'->Ext G H w G' H' w'->∃v,(results fn tmps).run P w'=.ok v w'/\R (.returned v) w')->LeavesInM Fence.wide 0 P fn tmps R l .returning w
 |[],[],G,H,w,h,hw,hd,hR=>hR G H w h hw (Ext.refl G H w)
 |[],d::l,G,H,w,h,hw,hd,hR=>hd.elim
 |.call _ _::ds,[],G,H,w,h,hw,hd,hR=>hd.elim
 |.mark _::ds,[],G,H,w,h,hw,hd,hR=>hd.elim
 |.call f azs::ds,d::l,G,H,w,h,hw,hd,hR=>by obtain⟨H1,hS,hA⟩:=h;obtain⟨⟨cap,ht,hv⟩,rM⟩:=hd;refine⟨by simp,.inr ⟨AS,.func f,cap.toArray,f,d.args++cap.toArray,ht,by rw[ht];exact nX hS.1 _ _ _,fun _ _=>trivial,?_⟩⟩;have hc:=hS.2 G w _ .returning hw hv rfl;rw[show(d.args.toList++cap).toArray=d.args++cap.toArray by apply Fk;simp] at hc;refine hc.mono fun e u' w' he=>?_;obtain⟨⟨x,rfl⟩,hu,G',lM,xO⟩:=he;show LeavesInM Fence.wide 0 P fn tmps R l (settle u') w';rw[hu];exact tT ds l G' H1 w' hA lM (rM.ext xO) fun G2 H2 w2 hq BY XZ=>hR G2 H2 w2 hq BY (xO.trans XZ)
 |.mark id::ds,d::l,G,H,w,h,hw,hd,hR=>by obtain⟨hg,hA⟩:=h;obtain⟨⟨lc,hl,ht⟩,rM⟩:=hd;obtain⟨_,_,hb⟩:=hw.iV id lc _ hl hg rfl;have pT:=run_takeDeferred (P:=P) hb;obtain⟨q1,q2⟩:=hw.FU (o':=.dfx) (x:=.deferred none) (w':=w.putObj lc.dB (.deferred none)) hl hg rfl rfl rfl .now (fun _ hs=>hs);exact⟨by simp,.inl ⟨lc.dB,_,ht,pT,tT ds l G _ _ hA q1 (rM.ext q2) fun G2 H2 w2 hq BY XZ=>hR G2 H2 w2 hq BY (q2.trans XZ)⟩⟩
theorem pD {P:Program} {g:bG} {mu:Bool} (hm:Fit P g) {f:FuncId} {F:BM} (hF:kM P g mu f F) {args:List AV} {H H':aA} {out:Out}
 (h:AC P g F.body (iW F args) [] H (aKx P g F fun o h=>o=out/\h=H')):Sound P g f args H out H':=by
 refine⟨hF.ok,fun G w vs hw hv=>?_⟩;obtain⟨fn,c,h1,h2,_,h3,h4,h5⟩:=hF;refine callsIn_wide.1 (callsIn_of_wp_marks (n:=0) h1 h2 trivial (wpIn_mono (GB hm c none F.body h3 (.inl rfl) _ [] G H w _ _ h hw ?_ trivial) fun e a w' hq=>?_))
 . have hlen:=hv.1;show iO G w _ _;exact Za0
 obtain⟨ae,s',fQ,H1,G',q,lM,he,BX,rM,hx⟩:=hq
 have fin:∀(G2:Gh) (H2:aA) (w2:World),(∃vs,lY s' H2 F.results=some vs/\(Out.ret (nB vs)=out/\H2=H'))->WR g G2 H2 w2->Ext G' H1 w' G2 H2 w2->
  ∃v,(results fn a.tmps).run P w2=.ok v w2/\(fun(e:Ending) w'=>∃G',WR g G' H' w'/\Ext G H w G' H' w'/\Wj G' w' out e) (.returned v) w2:=by
  rintro G2 H2 w2 ⟨WZ,oU,rfl,rfl⟩ BY XZ;obtain⟨u,hu,Lw⟩:=Lj BY (BX.ext XZ) h5 oU;exact⟨u,hu,G2,BY,he.trans XZ,Lw⟩
 cases ae with
 |normal=>
  cases e with
  |normal=>exact tT fQ a.defers G' H1 w' q lM rM fin
  |_=>exact hx.elim
 |ret=>
  cases e with
  |ret=>exact tT fQ a.defers G' H1 w' q lM rM fin
  |_=>exact hx.elim
 |exit id=>exact q.elim
 |panic v=>
  cases e with
  |panic ch=>
   obtain⟨x,rfl,hvx⟩:=hx
   cases hds:fQ with
   |nil=>
    subst hds
    cases vm:a.defers with
    |nil=>obtain⟨rfl,rfl⟩:=q;show LeavesInM Fence.wide 0 P fn a.tmps _ a.defers _ w';rw[vm];exact⟨G',lM,he,x,rfl,hvx⟩
    |cons d r=>rw[vm] at rM;exact rM.elim
   |cons d ds=>
    subst hds
    cases d with
    |mark _=>exact q.elim
    |call f0 azs=>
    cases vm:a.defers with
    |nil=>rw[vm] at rM;exact rM.elim
    |cons d0 l=>rw[vm] at rM;obtain⟨⟨cap,ht,PQ⟩,hdr⟩:=rM;obtain⟨H2,hS,hA⟩:=q;show LeavesInM Fence.wide 0 P fn a.tmps _ a.defers _ w';rw[vm];refine⟨by simp,.inr ⟨AS,.func f0,cap.toArray,f0,d0.args++cap.toArray,ht,by rw[ht];exact nX hS.1 _ _ _,fun _ _=>trivial,?_⟩⟩;have hc:=hS.2 G' w' _ (.panicking [{v:=x,recovered:=false}]) lM PQ ⟨x,rfl,hvx⟩;rw[show(d0.args.toList++cap).toArray=d0.args++cap.toArray by apply Fk;simp] at hc;refine hc.mono fun e u' w2 XZ=>?_;obtain⟨⟨y,rfl⟩,hu,G2,BY,xO⟩:=XZ;show LeavesInM Fence.wide 0 P fn a.tmps _ l (settle u') w2;rw[hu];exact tT ds l G2 H2 w2 hA BY (hdr.ext xO) fun G3 H3 w3 hq MS jt=>fin G3 H3 w3 hq MS (xO.trans jt)
  |_=>exact hx.elim
section
def RX (T:VT) (H:aA):List GD->Option (List AV)
 |[]=>some []
 |x::r=>match (match x with
   |.tmp t=>some (T.get t)
   |.cell a agg n=>match dA (WL g0 T) H (.load agg n (.tmp a)) with
    |some (v,_)=>some v
    |none=>none),RX T H r with
  |some v,some vs=>some (v::vs)
  |_,_=>none
theorem Vi {n:Nat} {T:VT} (hb:Lo n T) (H:aA):∀l,RX T H l=lY (Kw n T) H l
 |[]=>rfl
 |x::r=>by
  have ih:=Vi hb H r
  cases x with
  |tmp t=>simp only[RX,lY,me,ih,PF hb];cases lY (Kw n T) H r<;>rfl
  |cell a agg m=>
   simp only[RX,lY,me,ih,EO hb]
   cases dA (Arg.eval g0 (Kw n T)) H (.load agg m (.tmp a)) with
   |none=>rfl
   |some p=>cases lY (Kw n T) H r<;>rfl
def XK (II:FuncId->Nat->Bool):List gN->aA->Option aA
 |[],H=>some H
 |.call f azs::ds,H=>match II f azs.length with
  |true=>XK II ds H
  |false=>none
 |.mark id::ds,H=>match H.get id with
  |some .SH=>XK II ds (H.set id .dfx)
  |_=>none
def aRr (cf:DC) (g:bG) (fuel:Nat) (II:FuncId->Nat->Bool) (F:BM) (args:List AV) (H:aA):Option (Out×aA):=
 match Nat.ble args.length F.ntmps with
 |true=>match PN cf g F.ntmps fuel F.body (yF F.ntmps args 0 .nil) [] H with
  |some (.normal,T,ds,H')|some (.ret,T,ds,H')=>match XK II ds H' with
   |some H1=>match RX T H1 F.results with
    |some vs=>some (.ret (nB vs),H1)
    |none=>none
   |none=>none
  |some (.panic v,_,[],H')=>some (.JL v,H')
  |_=>none
 |false=>none
theorem Lo.nil (n:Nat):Lo n .nil:=fun _ _=>rfl
theorem Lm (n:Nat):∀(vs:List AV) (i:Nat) (T:VT),Lo n T->i+vs.length<=n->
 Lo n (yF n vs i T)/\∀t,(yF n vs i T).get t=if i<=t/\t<i+vs.length then vs.getD (t -i) aD else T.get t
 |[],i,T,hb,h=>⟨hb,fun t=>by rw[if_neg (by simp only[Bm];omega)];rfl⟩
 |v::vs,i,T,hb,h=>by
  simp only[As] at h;have :=Lm n vs (i+1) (wT n T (some i) v) (hb.put _ _) (by omega);refine⟨this.1,fun t=>?_⟩;show(yF n vs (i+1) (wT n T (some i) v)).get t=_;rw[this.2 t];have Uq:Nat.blt i n=true:=by simpa [Gq] using(by omega:i<n)
  have oF:(wT n T (some i) v).get t=if t=i then v else T.get t:=by simp only[wT,Uq];exact VT.aC T i v t
  rw[oF];simp only[As];by_cases h1:i+1<=t/\t<i+1+vs.length
  . rw[if_pos h1,if_pos (by omega)];obtain⟨m,hm⟩:∃m,t -i=m+1:=⟨t -i -1,by omega⟩;rw[hm,Gg,show t -(i+1)=m by omega]
  rw[if_neg h1];by_cases h2:t=i
  . subst h2;rw[if_pos rfl,if_pos (by omega)];simp
  rw[if_neg h2,if_neg (by omega)]
theorem PC {n:Nat} {args:List AV} (h:args.length<=n):Lo n (yF n args 0 .nil)/\Kw n (yF n args 0 .nil)=args++List.replicate (n -args.length) aD:=by
 have :=Lm n args 0 .nil (Lo.nil n) (by omega);refine⟨this.1,Gd fun t=>?_⟩;unfold Kw;rw[Cv];by_cases ht:t<n
 . rw[Is ht,Bu,this.2 t];by_cases h1:t<args.length
   . rw[if_pos (by omega),Ev h1];simp[Ad h1,getD_eq]
   rw[if_neg (by omega),Fx (by omega),Gi,if_pos (by omega)];rfl
 rw[Bv Zah,Bv Zah];rfl
section
variable {P:Program} {g:bG} {fuel:Nat} {cf:DC}
def QJ (P:Program) (g:bG) (II:FuncId->Nat->Bool):Prop:=∀f k,II f k=true->∀(args:List AV) (H:aA),args.length=k->SB P g f args none H H
theorem Ro {II:FuncId->Nat->Bool} (hn:QJ P g II) {Q:aA->Prop}:∀(ds:List gN) (H H1:aA),XK II ds H=some H1->Q H1->Wa P g ds H Q
 |[],H,H1,he,h=>by cases he;exact h
 |.mark id::ds,H,H1,he,h=>by
  simp only[XK] at he;split at he
  . rename_i hg;exact⟨hg,Ro hn ds _ _ he h⟩
  cases he
 |.call f azs::ds,H,H1,he,h=>by
  simp only[XK] at he;split at he
  . rename_i hd;exact⟨H,hn f _ hd azs H rfl,Ro hn ds H _ he h⟩
  cases he
theorem XM (hm:Fit P g) (LO:EB P g cf) {II:FuncId->Nat->Bool} (hn:QJ P g II) {mu:Bool} {f:FuncId} {F:BM} (hF:kM P g mu f F) {args:List AV} {H H':aA} {out:Out}
 (h:aRr cf g fuel II F args H=some (out,H')):Sound P g f args H out H':=by
 unfold aRr at h;split at h
 . rename_i hle;have Xd:args.length<=F.ntmps:=Ai hle;obtain⟨hb,hs⟩:=PC Xd
   have fin:∀(ae:AEx) (T:VT) (ds:List gN) (H1:aA),(ae=.normal\/ae=.ret)->PN cf g F.ntmps fuel F.body (yF F.ntmps args 0 .nil) [] H=some (ae,T,ds,H1)->
    (match XK II ds H1 with
      |some H2=>match RX T H2 F.results with
       |some vs=>some (Out.ret (nB vs),H2)
       |none=>none
      |none=>none)=some (out,H')->Sound P g f args H out H':=by
    intro ae T ds H1 hae he h;obtain⟨hbT,hq⟩:=BO LO F.body _ _ _ _ _ _ _ hb he;split at h
    . rename_i H2 bU;split at h
      . rename_i vs oU;simp only[Ae,Ak] at h;obtain⟨rfl,rfl⟩:=h;refine pD hm hF ?_;unfold iW;rw[<-hs];refine hq _ ?_
        have :Wa P g ds H1 fun H1'=>∃WZ,lY (Kw F.ntmps T) H1' F.results=some WZ/\(Out.ret (nB WZ)=Out.ret (nB vs)/\H1'=H2):=by refine Ro hn ds H1 H2 bU ⟨vs,?_,rfl,rfl⟩;rw[<-Vi hbT];exact oU
        rcases hae with rfl|rfl<;>exact this
      cases h
    cases h
   split at h
   . rename_i T ds H1 he;exact fin .normal T ds H1 (.inl rfl) he h
   . rename_i T ds H1 he;exact fin .ret T ds H1 (.inr rfl) he h
   . rename_i v T H1 he;simp only[Ae,Ak] at h;obtain⟨rfl,rfl⟩:=h;obtain⟨hbT,hq⟩:=BO LO F.body _ _ _ _ _ _ _ hb he;refine pD hm hF ?_;unfold iW;rw[<-hs];exact hq _ ⟨rfl,rfl⟩
   cases h
 cases h
inductive FT where
 |leaf (k:Nat) (F:BM)
 |node (m:Nat) (l r:FT)
def FT.get:FT->FuncId->Option BM
 |.leaf k F,f=>match Nat.beq f k with
  |true=>some F
  |false=>none
 |.node m l r,f=>match Nat.blt f m with
  |true=>l.get f
  |false=>r.get f
def FT.o7 (p:FuncId->BM->Prop):FT->Prop
 |.leaf k F=>p k F
 |.node _ l r=>l.o7 p/\r.o7 p
theorem FT.o7.get {p:FuncId->BM->Prop}:∀{t:FT},t.o7 p->∀{f:FuncId} {F:BM},t.get f=some F->p f F
 |.leaf k F',h,f,F,hg=>by
  simp only[FT.get] at hg;split at hg
  . rename_i hb;obtain rfl:=Aa hg;rw[Be hb];exact h
  cases hg
 |.node m l r,h,f,F,hg=>by
  simp only[FT.get] at hg;split at hg
  . exact FT.o7.get h.1 hg
  exact FT.o7.get h.2 hg
def exY (cf:DC) (g:bG) (fuel:Nat) (id:Nat) (args:List AV) (H:aA):Option (Out×aA):=
 match H.get id with
 |some (.loop k s .ready)=>match Nat.beq args.length k.ps.length with
  |true=>match PN cf g s.length fuel k.PM (IT s.length (yF s.length s 0 .nil) (k.ps.zip args)) [] H with
   |some (.normal,T1,[],H1)=>match H1.get id with
    |some (.loop k1 s1 .ready)=>match PN cf g s.length fuel k.body T1 [] (H1.set id (.loop k1 s1 .busy)) with
     |some (e,_,[],H2)=>match H2.get id with
      |some (.loop k2 s2 .busy)=>match e with
       |.normal=>some (.ret (.bool true),H2.set id (.loop k2 s2 .ready))
       |.ret=>some (.ret (.bool false),H2.set id (.loop k2 s2 (.done .ret)))
       |.exit i=>some (.ret (.bool false),H2.set id (.loop k2 s2 (.done (.exit i))))
       |.panic _=>none
      |_=>none
     |_=>none
    |_=>none
   |_=>none
  |false=>none
 |_=>none
theorem Lc {n:Nat}:∀(l:List (Nat×AV)) (T:VT),Lo n T->Lo n (IT n T l)/\Kw n (IT n T l)=qI (Kw n T) l
 |[],T,h=>⟨h,rfl⟩
 |(t,v)::r,T,h=>by have ih:=Lc r (wT n T (some t) v) (h.put _ _);refine⟨ih.1,?_⟩;rw[IT,ih.2,qV];rfl
theorem jd (hm:Fit P g) (LO:EB P g cf) {id:Nat} {args:List AV} {H H':aA} {out:Out} (h:exY cf g fuel id args H=some (out,H')):EG P g id args H out H':=by
 unfold exY at h;split at h
 . rename_i k s hg;split at h
   . rename_i hlen;obtain⟨XY,hs0⟩:=PC (Ab s.length);rw[Nat.sub_self,List.replicate_zero,Ch] at hs0;obtain⟨eQ,hs1⟩:=Lc (k.ps.zip args) _ XY;rw[hs0] at hs1;refine QL hm hg (Be hlen) ?_;unfold Rp;split at h
     . rename_i T1 H1 ha;obtain⟨gJ,JK⟩:=BO LO k.PM _ _ _ _ _ _ _ eQ ha;rw[<-hs1];refine JK _ ?_;split at h
       . rename_i k1 s1 JI;split at h
         . rename_i e T2 H2 hbd;obtain⟨KH,Sb⟩:=BO LO k.body _ _ _ _ _ _ _ gJ hbd;refine⟨rfl,k1,s1,JI,Sb _ ?_⟩;split at h
           . rename_i k2 s2 SV;split at h
             . exact Zbr
             . exact Zbr
             . exact Zbr
             cases h
           cases h
         cases h
       cases h
     cases h
   cases h
 cases h
abbrev Lp:=FuncId->List AV->aA->Option (Out×aA)
def LA (P:Program) (g:bG) (WW:Lp):Prop:=∀f args H out H',WW f args H=some (out,H')->Sound P g f args H out H'
def exF (WW:Lp) (tab:FuncId->Option BM) (g:bG) (fuel:Nat) (II:FuncId->Nat->Bool):Nat->DC
 |0=>fun _ _ _=>none
 |d+1=>fun c args H=>match c with
  |.yield id=>exY (exF WW tab g fuel II d) g fuel id args H
  |.func (.func f) fs cs=>match WW f (fs++args++cs) H with
   |some r=>some r
   |none=>match tab f with
    |some F=>aRr (exF WW tab g fuel II d) g fuel II F (fs++args++cs) H
    |none=>none
  |_=>none
theorem JY (hm:Fit P g) {WW:Lp} (ho:LA P g WW) {tab:FuncId->Option BM} {II:FuncId->Nat->Bool} (hn:QJ P g II) (ht:∀f F,tab f=some F->∃mu,kM P g mu f F):∀d,EB P g (exF WW tab g fuel II d)
 |0=>fun f args H out H' h=>by cases h
 |d+1=>fun c args H out H' h=>by
  simp only[exF] at h;split at h
  . rename_i id;exact .inr ⟨id,rfl,jd hm (JY hm ho hn ht d) h⟩
  . rename_i f fs cs;refine .inl ⟨(f,fs,cs),rfl,?_⟩;split at h
    . rename_i r hr;cases h;exact ho _ _ _ _ _ hr
    split at h
    . rename_i F hF;obtain⟨mu,hmu⟩:=ht f F hF;exact XM hm (JY hm ho hn ht d) hn hmu h
    cases h
  cases h
end
end
section
mutual
def AV.free:AV->Bool
 |.pl cs=>bO cs
 |.bD tag _ bB=>Nat.blt tag 2&&dT bB
 |.func _ a b=>bO a&&bO b
 |.iface _ v=>v.free
 |.agg cs=>bO cs
 |.iA vs=>bO vs
 |.ref _ _|.sl _ _ _ _ _|.map _|.yield _=>false
 |_=>true
def bO:List AV->Bool
 |[]=>true
 |x::r=>x.free&&bO r
def dT:List (List AV)->Bool
 |[]=>true
 |x::r=>bO x&&dT r
end
theorem Qo:∀{l:List AV},bO l=true->∀x∈l,x.free=true
 |[],_,x,hx=>by cases hx
 |y::l,h,x,hx=>by
  simp only[bO,Al] at h
  rcases Am.1 hx with rfl|hx
  . exact h.1
  exact Qo h.2 x hx
theorem gD {a b:List AV}:bO (a++b)=(bO a&&bO b):=by
 induction a with
 |nil=>simp[bO]
 |cons x r ih=>simp[bO,ih,Bool.and_assoc]
theorem lV:∀{l:List (List AV)},dT l=true->bO l.flatten=true
 |[],_=>rfl
 |y::l,h=>by simp only[dT,Al] at h;rw[Bl,gD,h.1,lV h.2];rfl
theorem kP {l:List AV} (h:bO l=true) {j:Nat} (hj:j<l.length):(l.getD j aD).free=true:=by refine Qo h _ ?_;rw[getD_eq,Ad hj];exact Ac hj
theorem VR.qE {G G':Gh} {w w':World} {a:AV} {u:Value} (h:VR G w a u) (hf:a.free=true)
 (hi:∀b o,G.iB b o->G'.iB b o/\w'.cell? ⟨b,o,none⟩=w.cell? ⟨b,o,none⟩):VR G' w' a u:=by
 induction h with
 |bool b=>exact .bool b
 |int k n=>exact .int k n
 |str s=>exact .str s
 |KT=>exact .KT
 |ref id off l h=>cases hf
 |pl cells b o us h hv ih=>simp only[AV.free] at hf;exact .pl cells b o us (fun j hj=>⟨(hi _ _ (h j hj).1).1,by rw[(hi _ _ (h j hj).1).2];exact(h j hj).2.1,(h j hj).2.2⟩) (fun j hj=>ih j hj (kP hf hj))
 |aO=>exact .aO
 |vE tag sz b o s ht=>exact .vE tag sz b o s ht
 |bD tag sz bB b o cap us hu h hv ht ih=>
  simp only[AV.free,Al] at hf;have vD:=lV hf.2;refine .bD tag sz bB b o cap us hu (fun j hj=>⟨(hi _ _ (h j hj).1).1,by rw[(hi _ _ (h j hj).1).2];exact(h j hj).2.1,(h j hj).2.2⟩) (fun j hj=>ih j hj (kP vD hj)) ?_;refine⟨ht.1,?_⟩;have h2:=ht.2;have rS:tag<2:=by have :=hf.1;simpa [Gq] using this
  match tag,h2,rS with
  |0,_,_=>trivial
  |1,h2,_=>exact h2
  |k+2,_,hh=>omega
 |sl id sz off len cap kA l h hlen gT pQ=>cases hf
 |func fn fs cs azs bs ha hb hav hbv rT uP=>simp only[AV.free,Al] at hf;exact .func fn fs cs azs bs ha hb (fun j hj=>rT j hj (kP hf.1 hj)) (fun j hj=>uP j hj (kP hf.2 hj))
 |AP=>exact .AP
 |iface t a v h ih=>exact .iface t a v (ih hf)
 |wP=>exact .wP
 |agg cs vs pA h1 hv ih=>simp only[AV.free] at hf;exact .agg cs vs pA h1 (fun j hj=>ih j hj (kP hf hj))
 |iA cs vs pA hv ih=>simp only[AV.free] at hf;exact .iA cs vs pA (fun j hj=>ih j hj (kP hf hj))
 |map id l h=>cases hf
 |yield id l h=>cases hf
 |rV=>exact .rV
theorem iO.qE {G G':Gh} {w w':World} {xs:List AV} {vs:List Value} (h:iO G w xs vs) (hf:bO xs=true)
 (hi:∀b o,G.iB b o->G'.iB b o/\w'.cell? ⟨b,o,none⟩=w.cell? ⟨b,o,none⟩):iO G' w' xs vs:=
 ⟨h.1,fun j hj=>(h.2 j hj).qE (kP hf hj) hi⟩
def IZ (tk:Option Nat) (nw tag:Nat):Nat:=
 match tag with
 |0=>0
 |1=>1
 |k+2=>match tk with
  |some k'=>match Nat.beq k k' with
   |true=>nw+2
   |false=>0
  |none=>0
def fA (H:aA) (tk:Option Nat) (nw:Nat):AV->Option AV
 |.bD tag sz bB=>match dT bB with
  |true=>some (.bD (IZ tk nw tag) sz bB)
  |false=>none
 |.sl id sz off len cap=>match H.eS id with
  |some cs=>match Nat.ble (off+len*sz) cs.length&&bO (cs.drop off) with
   |true=>some (.bD 0 sz (fI sz len (cs.drop off)))
   |false=>none
  |none=>none
 |.ref id off=>match H.eS id with
  |some cs=>match bO (cs.drop off) with
   |true=>some (.pl (cs.drop off))
   |false=>none
  |none=>none
 |v=>match v.free with
  |true=>some v
  |false=>none
def CX (f:AV->Option AV):List AV->Option (List AV)
 |[]=>some []
 |x::r=>match f x,CX f r with
  |some y,some ys=>some (y::ys)
  |_,_=>none
def fG (H:aA) (tk:Option Nat) (nw:Nat):Nat->AV->Option AV
 |0,v=>fA H tk nw v
 |n+1,.agg cs=>(CX (fG H tk nw n) cs).map .agg
 |n+1,.iA vs=>(CX (fG H tk nw n) vs).map .iA
 |_,v=>fA H tk nw v
theorem KR {f:AV->Option AV}:∀{l r:List AV},CX f l=some r->r.length=l.length/\∀j,j<l.length->f (l.getD j aD)=some (r.getD j aD)
 |[],r,h=>by obtain rfl:=Aa h;exact⟨rfl,fun j hj=>absurd hj (Ap j)⟩
 |x::l,r,h=>by
  simp only[CX] at h;split at h
  . rename_i y ys hy MU;obtain rfl:=Aa h;obtain⟨h1,h2⟩:=KR MU;refine⟨by simp[h1],fun j hj=>?_⟩
    cases j with
    |zero=>simpa using hy
    |succ j=>simpa using h2 j ZaC
  cases h
def rO (tk:Option Nat) (H:aA):aA:=match tk with
 |none=>H
 |some _=>H.alloc .tok
def DF (g:bG):Prop:=∀n cs,g n=some cs->bO cs=true
def Out.av:Out->AV
 |.ret v=>v
 |.JL v=>v
def Out.with:Out->AV->Out
 |.ret _,v=>.ret v
 |.JL _,v=>.JL v
section
variable {P:Program} {g:bG}
def ER (G G2:Gh) (H:aA) (H2:aA) (tk:Option Nat):Gh where
 loc:=fun id=>if id=H.next then tk.bind G2.loc else G.loc id
 iB:=fun b o=>G2.iB b o\/∃id l cs eN,G2.loc id=some l/\H2.get id=some (.cells cs eN)/\l.dB=b/\l.base<=o/\o<l.base+l.Tl
 mo:=G.mo
theorem Ox {G G2:Gh} {H H2:aA} {w2:World} {tk:Option Nat} (hn:∀k,tk=some k->H2.get k=some .tok) (BY:WR g G2 H2 w2) {v v':AV} {u:Value} (h:VR G2 w2 v u) (hs:fA H2 tk H.next v=some v'):
 VR (ER G G2 H H2 tk) w2 v' u:=by
 have hi:∀b o,G2.iB b o->(ER G G2 H H2 tk).iB b o/\w2.cell? ⟨b,o,none⟩=w2.cell? ⟨b,o,none⟩:=fun b o hh=>⟨.inl hh,rfl⟩
 have frozen:∀{id:Nat} {l:Loc} {cs:List AV} {off:Nat},G2.loc id=some l->H2.eS id=some cs->bO (cs.drop off)=true->∀j,j<(cs.drop off).length->
  ∃x,(ER G G2 H H2 tk).iB l.dB (l.base+off+j)/\w2.cell? ⟨l.dB,l.base+off+j,none⟩=some x/\((cs.drop off).getD j aD).one=true/\VR (ER G G2 H H2 tk) w2 ((cs.drop off).getD j aD) x:=by
  intro id l cs off hl hc hf j hj;obtain⟨eN,hg⟩:=aA.pF hc;obtain⟨a1,a2,a3,a4,a5⟩:=BY.cells id l cs eN hl hg;simp only[Fq] at hj;obtain⟨x,hx,hvx⟩:=a5 (off+j) (by omega);have sL:(cs.drop off).getD j aD=cs.getD (off+j) aD:=by rw[getD_eq,getD_eq,Fv]
  refine⟨x,.inr ⟨id,l,cs,eN,hl,hg,rfl,by omega,by omega⟩,by rw[Br];exact hx,?_,?_⟩
  . rw[sL];refine a4 _ ?_;rw[getD_eq,Ad (by omega)];exact Ac _
  have ML:=kP hf (j:=j) ZaC;rw[sL] at ML ⊢;exact hvx.qE ML hi
 unfold fA at hs;split at hs
 . rename_i tag sz bB;split at hs
   . rename_i hf;obtain rfl:=Aa hs;have vD:=lV hf
     cases h with
     |vE _ _ b o s ht=>
      refine .vE _ _ _ _ _ ?_
      match tag,ht with
      |0,_=>exact Nat.zero_lt_two
      |1,_=>exact Nat.one_lt_two
     |bD _ _ _ b o cap us hu hh hv ht=>
      refine .bD _ sz bB b o cap us hu (fun j hj=>⟨(hi _ _ (hh j hj).1).1,(hh j hj).2⟩) (fun j hj=>(hv j hj).qE (kP vD hj) hi) ⟨ht.1,?_⟩;have h2:=ht.2
      match tag,h2 with
      |0,_=>trivial
      |1,h2=>exact h2
      |k+2,⟨l,h1,h2⟩=>
       cases tk with
       |none=>trivial
       |some k'=>
        simp only[IZ]
        cases hk:Nat.beq k k' with
        |false=>trivial
        |true=>obtain rfl:=Be hk;exact⟨l,by simp only[ER,if_true,Option.bind_some];exact h1,h2⟩
   cases hs
 . rename_i id sz off len cap;split at hs
   . rename_i cs hc;split at hs
     . rename_i eW;obtain rfl:=Aa hs;simp only[Al] at eW;have hle:off+len*sz<=cs.length:=Ai eW.1
       cases h with
       |sl _ _ _ _ _ kA l hl hlen gT pQ=>
        obtain⟨f1,f2,f3⟩:=iG sz len (cs.drop off) Zah;have Zj:=frozen hl hc eW.2;have hmul:len*sz<=cap*sz:=Cx sz hlen
        have FA:∀j,j<(fI sz len (cs.drop off)).flatten.length->j<(cs.drop off).length/\(fI sz len (cs.drop off)).flatten.getD j aD=(cs.drop off).getD j aD:=fun j hj=>by rw[f1] at hj ⊢;simp only[Cz,Fq] at hj;refine⟨by simp;omega,?_⟩;rw[getD_take _ _ _ _ (by omega)]
        have key:=VR.bD (G:=ER G G2 H H2 tk) (w:=w2) 0 sz (fI sz len (cs.drop off)) l.dB (l.base+off) kA (fun j=>(w2.cell? ⟨l.dB,l.base+off+j,none⟩).getD undef) f3
         (fun j hj=>by
           obtain⟨h1,h2⟩:=FA j hj;obtain⟨x,q1,q2,q3,q4⟩:=Zj j h1
           exact⟨q1,by rw[q2];rfl,by rw[h2];exact q3⟩)
         (fun j hj=>by
           obtain⟨h1,h2⟩:=FA j hj;obtain⟨x,q1,q2,q3,q4⟩:=Zj j h1
           rw[h2,q2];exact q4)
         ⟨by rw[f2];rcases pQ with rfl|⟨_,CT,_⟩<;>omega,trivial⟩
        rw[f2] at key;exact key
     cases hs
   cases hs
 . rename_i id off;split at hs
   . rename_i cs hc;split at hs
     . rename_i hf;obtain rfl:=Aa hs
       cases h with
       |ref _ _ l hl=>
        have Zj:=frozen hl hc hf
        exact .pl (cs.drop off) l.dB (l.base+off) (fun j=>(w2.cell? ⟨l.dB,l.base+off+j,none⟩).getD undef)
         (fun j hj=>by
           obtain⟨x,q1,q2,q3,q4⟩:=Zj j hj
           exact⟨q1,by rw[q2];rfl,q3⟩)
         (fun j hj=>by
           obtain⟨x,q1,q2,q3,q4⟩:=Zj j hj
           rw[q2];exact q4)
     cases hs
   cases hs
 split at hs
 . rename_i hf;obtain rfl:=Aa hs;exact h.qE hf hi
 cases hs
theorem aBt {G G2:Gh} {H H2:aA} {w2:World} {tk:Option Nat} {nw n:Nat} {v v':AV} (hs:fG H2 tk nw n v=some v') (h:v.one=true):v'.one=true:=by
 have h1:fA H2 tk nw v=some v'->v'.one=true:=fun hs=>by
  unfold fA at hs
  repeat' (split at hs)
  all_goals first
   |(cases hs;done)
   |(obtain rfl:=Aa hs;first|rfl|exact h)
 cases n with
 |zero=>exact h1 hs
 |succ n=>
  unfold fG at hs;split at hs
  . exact h1 hs
  . cases h
  . cases h
  exact h1 hs
theorem IX {G G2:Gh} {H H2:aA} {w2:World} {tk:Option Nat} (hn:∀k,tk=some k->H2.get k=some .tok) (BY:WR g G2 H2 w2):∀(n:Nat) {v v':AV} {u:Value},VR G2 w2 v u->fG H2 tk H.next n v=some v'->
 VR (ER G G2 H H2 tk) w2 v' u
 |0,v,v',u,h,hs=>Ox hn BY h hs
 |n+1,v,v',u,h,hs=>by
  unfold fG at hs;split at hs
  . exact Ox hn BY h hs
  . rename_i m cs hm;obtain rfl:m=n:=by omega
    simp only[Ah] at hs;obtain⟨r,hr,rfl⟩:=hs;obtain⟨r1,r2⟩:=KR hr
    cases h with
    |agg _ vs hl h1 hv=>refine .agg r vs (by omega) (fun c hc=>?_) (fun j hj=>IX hn BY m (hv j (by omega)) (r2 j (by omega)));obtain⟨j,hj,rfl⟩:=Hg.1 hc;have :=r2 j (by omega);rw[getD_eq,getD_eq,Ad hj,Ad (by omega)] at this;exact aBt (G:=G) (G2:=G2) (H:=H) (w2:=w2) this (h1 _ (Ac _))
  . rename_i m vs0 hm;obtain rfl:m=n:=by omega
    simp only[Ah] at hs;obtain⟨r,hr,rfl⟩:=hs;obtain⟨r1,r2⟩:=KR hr
    cases h with
    |iA _ vs hl hv=>exact .iA r vs (by omega) (fun j hj=>IX hn BY m (hv j (by omega)) (r2 j (by omega)))
  exact Ox hn BY h hs
theorem JR.frame (hg:DF g) {f:FuncId} {args:List AV} (hf:bO args=true) {R:Out->aA->Prop} (h:JR P g f args ⟨0,.nil⟩ R) (H:aA) {bDs:Out} {H':aA}
 (hR:∀out H2,R out H2->∃tk n v',(∀k,tk=some k->H2.get k=some .tok)/\fG H2 tk H.next n out.av=some v'/\out.with v'=bDs/\rO tk H=H'):Sound P g f args H bDs H':=by
 refine⟨h.1,fun G w vs hw hv=>?_⟩;let G0:Gh:=⟨fun _=>none,G.iB,G.mo⟩;have hG0:∀b o,G.iB b o->G0.iB b o/\w.cell? ⟨b,o,none⟩=w.cell? ⟨b,o,none⟩:=fun b o hh=>⟨hh,rfl⟩
 have hw0:WR g G0 ⟨0,.nil⟩ w:={
  cells:=fun id l cs eN h1=>by cases h1
  room:=fun id l h1=>by cases h1
  kT:=fun id kU l l' _ h1=>by cases h1
  kE:=fun id l h1=>by cases h1
  iV:=fun id l es h1=>by cases h1
  lt:=fun id l h1=>by cases h1
  jA:=hw.jA
  jG:=fun k cs hk=>(hw.jG k cs hk).qE (hg k cs hk) hG0
  BV:=hw.BV
  mo:=hw.mo}
 refine(h.2 G0 w vs hw0 (hv.qE hf hG0)).mono fun e w2 he=>?_;obtain⟨out,H2,G2,hr,BY,xO,qG⟩:=he;obtain⟨tk,n,v',pT,hs,rfl,rfl⟩:=hR _ _ hr
 have KL:∀id l,G2.loc id=some l->H2.live id->w.heap.size<=l.dB:=fun id l h1 h2=>by
  rcases xO.lP id l h1 h2 with hh|⟨eX,l0,hh,_⟩
  . exact hh
  cases hh
 have vz:∀b,b<w.heap.size->w2.heap[b]?=w.heap[b]?:=fun b hb=>xO.frame b hb fun id l hh=>by cases hh
 have aJh:∀b o,(ER G G2 H H2 tk).iB b o->G.iB b o\/w.heap.size<=b:=fun b o hi=>by
  rcases hi with hi|⟨id,l,cs,eN,h1,h2,rfl,_⟩
  . rcases xO.pK b o hi with hh|hh|⟨eX,l0,hh,_⟩
    . exact .inl hh
    . exact .inr hh
    cases hh
  exact .inr (KL id l h1 ⟨_,h2,rfl⟩)
 have sM:∀id l,G.loc id=some l->(ER G G2 H H2 tk).loc id=some l:=fun id l hl=>by have :=hw.lt id l hl;simp only[ER];rw[if_neg (by omega)];exact hl
 have pJ:∀b o,G.iB b o->(ER G G2 H H2 tk).iB b o/\w2.cell? ⟨b,o,none⟩=w.cell? ⟨b,o,none⟩:=fun b o hi=>⟨.inl (xO.iB b o hi).1,(xO.iB b o hi).2⟩;have xh:H.next<=(rO tk H).next:=by cases tk<;>simp[rO]
 have cY:∀id,id≠H.next->(rO tk H).get id=H.get id:=fun id cQ=>by
  cases tk with
  |none=>rfl
  |some k=>simp only[rO,aA.aG,if_neg cQ]
 have oS:∀id l,(ER G G2 H H2 tk).loc id=some l->(id≠H.next/\G.loc id=some l)\/(id=H.next/\∃k,tk=some k/\G2.loc k=some l/\(rO tk H).get id=some .tok):=fun id l hl=>by
  simp only[ER] at hl;by_cases dC:id=H.next
  . rw[if_pos dC] at hl
    cases tk with
    |none=>cases hl
    |some k=>exact .inr ⟨dC,k,rfl,hl,by simp only[rO,aA.aG,if_pos dC]⟩
  rw[if_neg dC] at hl;exact .inl ⟨dC,hl⟩
 have pR:∀id,id≠H.next->(rO tk H).live id->H.live id:=fun id cQ ⟨o,h1,h2⟩=>⟨o,by rw[<-cY id cQ];exact h1,h2⟩;have Sh:∀k l,tk=some k->G2.loc k=some l->w.heap.size<=l.dB:=fun k l h1 h2=>KL k l h2 ⟨_,pT k h1,rfl⟩
 have aSs:WR g (ER G G2 H H2 tk) (rO tk H) w2:={
  cells:=fun id l cs eN h1 h2=>by
   rcases oS id l h1 with ⟨cQ,hl⟩|⟨_,k,_,_,ht⟩
   . rw[cY id cQ] at h2;obtain⟨a1,a2,a3,a4,a5⟩:=hw.cells id l cs eN hl h2;have hb:=hw.mQ hl ⟨_,h2,rfl⟩;refine⟨a1,a2,a3,a4,fun j hj=>?_⟩;obtain⟨x,hx,hvx⟩:=a5 j hj;exact⟨x,by rw[gI (vz _ hb)];exact hx,hvx.mono sM pJ⟩
   rw[ht] at h2;cases h2
  room:=fun id l h1 h2=>by
   rcases oS id l h1 with ⟨cQ,hl⟩|⟨_,k,hk,Xc,ht⟩
   . rw[cY id cQ] at h2
     have hb:l.dB<w.heap.size:=hw.mQ hl (by
      rcases h2 with ⟨cs,eN,hh⟩|hh
      . exact⟨_,hh,rfl⟩
      exact⟨_,hh,rfl⟩)
     obtain⟨c,el,fz,b1,b2,b3⟩:=hw.room id l hl h2;exact⟨c,el,fz,by rw[vz _ hb];exact b1,b2,fun j hj=>by rw[kY (vz _ hb)];exact b3 j hj⟩
   exact BY.room k l Xc (.inr (pT k hk))
  kT:=fun id kU l l' cQ h1 h2 tR sY=>by
   rcases oS id l h1 with ⟨KK,yV⟩|⟨KK,k,hk,DP,_⟩<;>rcases oS kU l' h2 with ⟨SY,Xc⟩|⟨SY,k',rR,eP,_⟩
   . exact hw.kT id kU l l' cQ yV Xc (pR id KK tR) (pR kU SY sY)
   . have :=hw.mQ yV (pR id KK tR);have :=Sh k' l' rR eP;exact .inl (by omega)
   . have :=hw.mQ Xc (pR kU SY sY);have :=Sh k l hk DP;exact .inl (by omega)
   exact absurd (KK.trans SY.symm) cQ
  kE:=fun id l h1 tR j hj hi=>by
   rcases oS id l h1 with ⟨KK,yV⟩|⟨KK,k,hk,DP,_⟩
   . have hb:=hw.mQ yV (pR id KK tR)
     rcases aJh _ _ hi with hh|hh
     . exact hw.kE id l yV (pR id KK tR) j hj hh
     omega
   rcases hi with hi|⟨id2,l2,cs,eN,q1,q2,q3,q4,q5⟩
   . exact BY.kE k l DP ⟨_,pT k hk,rfl⟩ j hj hi
   have cQ:id2≠k:=fun hh=>by rw[hh,pT k hk] at q2;cases q2
   have hs:=(BY.cells id2 l2 cs eN q1 q2).2.1
   rcases BY.kT id2 k l2 l cQ q1 DP ⟨_,q2,rfl⟩ ⟨_,pT k hk,rfl⟩ with hd|hd|hd
   . exact hd q3
   . omega
   omega
  iV:=fun id l o h1 h2 hk=>by
   rcases oS id l h1 with ⟨cQ,hl⟩|⟨_,k,_,_,ht⟩
   . rw[cY id cQ] at h2;have hb:=hw.mQ hl ⟨_,h2,OH hk⟩;obtain⟨a1,a2,a3⟩:=hw.iV id l o hl h2 hk;exact⟨a1,a2,a3.mono (vz _ hb) fun _ _ h=>h.mono sM pJ⟩
   rw[ht] at h2;cases h2;cases hk
  lt:=fun id l h1=>by
   rcases oS id l h1 with ⟨cQ,hl⟩|⟨hn,k,hk,_,_⟩
   . have :=hw.lt id l hl;omega
   subst hk;simp[rO,hn]
  jA:=fun b o hi=>by
   rcases hi with hi|⟨id,l,cs,eN,q1,q2,rfl,q4,q5⟩
   . exact BY.jA b o hi
   obtain⟨a1,_,_,_,a5⟩:=BY.cells id l cs eN q1 q2;obtain⟨x,hx,_⟩:=a5 (o -l.base) (by omega);exact⟨x,by rw[show o=l.base+(o -l.base) by omega];exact hx⟩
  jG:=fun k cs hk=>(hw.jG k cs hk).mono sM pJ
  BV:=BY.BV
  mo:=hw.mo}
 have aVr:Ext G H w (ER G G2 H H2 tk) (rO tk H) w2:={
  loc:=sM
  iB:=pJ
  size:=xO.size
  frame:=fun b hb _=>vz b hb
  lP:=fun id l h1 tR=>by
   rcases oS id l h1 with ⟨cQ,hl⟩|⟨_,k,hk,DP,_⟩
   . exact .inr ⟨id,l,hl,pR id cQ tR,rfl⟩
   exact .inl (Sh k l hk DP)
  pK:=fun b o hi=>by
   rcases aJh b o hi with hh|hh
   . exact .inl hh
   exact .inr (.inl hh)
  next:=xh
  news:=fun id l h1 h2=>by
   rcases oS id l h1 with ⟨cQ,hl⟩|⟨hn,_⟩
   . rw[h2] at hl;cases hl
   omega
  dead:=fun id l h1 tR=>pR id (by have :=hw.lt id l h1;omega) tR
  mo:=rfl
  same:=xO.same}
 refine⟨_,aSs,aVr,?_⟩
 cases out with
 |ret v=>
  cases e with
  |returned u=>exact IX pT BY n qG hs
  |_=>exact qG.elim
 |JL v=>
  cases e with
  |panicked ch=>obtain⟨u,rfl,Lw⟩:=qG;exact⟨u,rfl,IX pT BY n Lw hs⟩
  |_=>exact qG.elim
theorem Sound.frame (hg:DF g) {f:FuncId} {args:List AV} (hf:bO args=true) {out:Out} {H2:aA} (h:Sound P g f args ⟨0,.nil⟩ out H2) {tk:Option Nat} (pT:∀k,tk=some k->H2.get k=some .tok) {n:Nat}
 (H:aA) {v':AV} (hs:fG H2 tk H.next n out.av=some v'):Sound P g f args H (out.with v') (rO tk H):=
 h.open.frame hg hf H fun o H3 hh=>by obtain⟨rfl,rfl⟩:=hh;exact⟨tk,n,v',pT,hs,rfl,rfl⟩
end
end
section
abbrev dE:=Nat->AV
abbrev FQ:=AEx->dE->List gN->aA->Prop
def nH (g:bG) (f:dE):Arg->AV
 |.tmp t=>f t
 |.const v=>v
 |.jG n=>match g n with
  |some cs=>.pl cs
  |none=>aD
def kH (f:dE) (d:Nat) (v:AV):dE:=fun t=>if t=d then v else f t
theorem rJ (f:dE) (d:Nat) (v:AV):kH f d v d=v:=by simp[kH]
theorem oM (f:dE) {d t:Nat} (v:AV) (h:t≠d):kH f d v t=f t:=by simp[kH,h]
def fM (n:Nat) (f:dE):Option Nat->AV->dE
 |none,_=>f
 |some d,v=>if d<n then kH f d v else f
def iE (f:dE) (o:bK):Bool:=
 match o.guard with
 |none=>true
 |some (d,b)=>match f d with
  |.bool c=>c==b
  |_=>false
def mA (r:Option (AV×aA)) (k:AV->aA->Prop):Prop:=
 match r with
 |some (v,H)=>k v H
 |none=>False
def bS (P:Program) (g:bG) (n:Nat):List bK->dE->List gN->aA->FQ->Prop
 |[],f,ds,H,Q=>Q .normal f ds H
 |o::r,f,ds,H,Q=>
  if iE f o then
   match o.op with
   |.call c azs=>∃out H',QE P g (nH g f c) (azs.map (nH g f)) H out H'/\
     match out with
     |.ret v=>bS P g n r (fM n f o.dst v) ds H' Q
     |.JL v=>Q (.panic v) f ds H'
   |.panic x=>∃t v,nH g f x=.iface t v/\Q (.panic (.iface t v)) f ds H
   |.lD c azs=>∃p,mH (nH g f c)=some p/\bS P g n r (fM n f o.dst aD) (.call p.1 (p.2.1++azs.map (nH g f)++p.2.2)::ds) H Q
   |.vG x=>∃m es,nH g f x=.map m/\H.get m=some (.map es)/\∀bs c mb,bs.length=es.length->bs.Nodup->
     bS P g n r (fM n f o.dst (.ref H.next 0)) ds ((H.set m (.sN es bs c mb)).alloc (.iter m mb c [])) Q
   |.DR x=>∃it m mb c seen es bs,nH g f x=.ref it 0/\H.get it=some (.iter m mb c seen)/\H.get m=some (.sN es bs c mb)/\
     ((∀b∈bs,b∈seen)->bS P g n r (fM n f o.dst (.iA [.bool false])) ds H Q)/\
     ∀j,j<bs.length->bs.getD j 0∉seen->bS P g n r (fM n f o.dst (.iA [.bool true,(es.getD j (aD,aD)).1,(es.getD j (aD,aD)).2])) ds (H.set it (.iter m mb c (seen++[bs.getD j 0]))) Q
   |.xV x=>∃it m mb c seen es bs j,nH g f x=.ref it 0/\H.get it=some (.iter m mb c (seen++[bs.getD j 0]))/\H.get m=some (.sN es bs c mb)/\j<bs.length/\
     bS P g n r (fM n f o.dst (.iA [(es.getD j (aD,aD)).1,(es.getD j (aD,aD)).2])) ds H Q
   |op=>mA (dA (nH g f) H op) fun v H'=>bS P g n r (fM n f o.dst v) ds H' Q
  else bS P g n r (fM n f o.dst aD) ds H Q
def ED (P:Program) (g:bG) (r:bK) (f:dE) (H:aA) (v:AV) (H':aA):Prop:=
 match r.op with
 |.call c azs=>∃p,mH (nH g f c)=some p/\Sound P g p.1 (p.2.1++azs.map (nH g f)++p.2.2) H (.ret v) H'
 |.panic _|.lD _ _=>False
 |op=>dA (nH g f) H op=some (v,H')
def Wf (P:Program) (g:bG) (n:Nat) (pairs:List (Nat×Nat)) (base:Nat):Nat->Nat->List bK->List (Nat×Nat)->List (Nat×aA×aA)->dE->aA->(dE->aA->Prop)->Prop
 |_,_,[],_,_,f,H,Q=>Q f H
 |i,k,r::rs,rd,ef,f,H,Q=>
  if iE f r then
   if r.op.fresh then
    ∃ob val,xB (nH g f) r.op=some (ob,val)/\(∀x∈ef,(i,x.1)∈pairs->x.2.1.get (base+k)=x.2.2.get (base+k))/\
     Wf P g n pairs base (i+1) (k+1) rs ((i,base+k)::rd) ef (fM n f r.dst (val (base+k))) (H.set (base+k) ob) Q
   else if r.op.pP then
    ∃v H',ED P g r f H v H'/\H.next<=H'.next/\(∀x∈rd,(x.1,i)∈pairs->H.get x.2=H'.get x.2)/\
     Wf P g n pairs base (i+1) k rs rd ((i,H,H')::ef) (fM n f r.dst v) H' Q
   else
    ∃v,ED P g r f H v H/\(∀id,r.op.dK (nH g f)=some id->∀x∈ef,(i,x.1)∈pairs->x.2.1.get id=x.2.2.get id)/\
     Wf P g n pairs base (i+1) k rs (match r.op.dK (nH g f) with|some id=>(i,id)::rd|none=>rd) ef (fM n f r.dst v) H Q
  else Wf P g n pairs base (i+1) (if r.op.fresh then k+1 else k) rs rd ef (fM n f r.dst aD) H Q
def iX (next:dE->List gN->aA->Prop) (Q:FQ):FQ
 |.normal,f,ds,H=>next f ds H
 |e,f,ds,H=>Q e f ds H
def dP (id:Nat) (Q:FQ):FQ
 |.exit i,f,ds,H=>if i=id then Q .normal f ds H else Q (.exit i) f ds H
 |e,f,ds,H=>Q e f ds H
def CG (n:Nat) (f:dE):List (Nat×AV)->dE
 |[]=>f
 |(t,v)::r=>CG n (fM n f (some t) v) r
def mq (id:Nat) (out:Out) (H3:aA):FQ
 |.normal,_,ds,H=>ds=[]/\out=.ret (.bool true)/\∃k sn,H.get id=some (.loop k sn .busy)/\H3=H.set id (.loop k sn .ready)
 |.ret,_,ds,H=>ds=[]/\out=.ret (.bool false)/\∃k sn,H.get id=some (.loop k sn .busy)/\H3=H.set id (.loop k sn (.done .ret))
 |.exit i,_,ds,H=>ds=[]/\out=.ret (.bool false)/\∃k sn,H.get id=some (.loop k sn .busy)/\H3=H.set id (.loop k sn (.done (.exit i)))
 |.panic _,_,_,_=>False
def OJ (st:LSt) (f:dE) (ds:List gN) (H:aA) (Q:FQ):Prop:=
 match st with
 |.ready=>Q .normal f ds H
 |.done .ret=>Q .ret f ds H
 |.done (.exit i)=>Q (.exit i) f ds H
 |_=>False
def LF (n:Nat) (f:dE):List AV:=(List.range n).map f
def pU (n:Nat) (f:dE):Prop:=∀t,n<=t->f t=aD
def FC (P:Program) (g:bG) (n:Nat):cF->dE->List gN->aA->FQ->Prop
 |.skip,f,ds,H,Q=>Q .normal f ds H
 |.ops rl,f,ds,H,Q=>bS P g n rl f ds H Q
 |.draw rl pairs,f,ds,H,Q=>(mR H (rl.countP (·.op.fresh))=true/\
   Wf P g n pairs H.next 0 0 rl [] [] f {H with next:=H.next+rl.countP (·.op.fresh)} fun f' H'=>Q .normal f' ds H')\/
   (pU n f->∃x f' H',Ml P g rl pairs (LF n f) H (fun x' s' h'=>x'=x/\s'=LF n f'/\h'=H')/\pU n f'/\(∀t,t∉rl.filterMap (·.dst)->f' t=f t)/\Q (.panic x) f' ds H')
 |.seq a b,f,ds,H,Q=>FC P g n a f ds H (iX (fun f ds H=>FC P g n b f ds H Q) Q)
 |.cond c a b,f,ds,H,Q=>∃t,nH g f c=.bool t/\if t then FC P g n a f ds H Q else FC P g n b f ds H Q
 |.block id a,f,ds,H,Q=>FC P g n a f ds H (dP id Q)
 |.loop a,f,ds,H,Q=>∃(I:Nat->dE->List gN->aA->Prop) (m:Nat),I m f ds H/\
   ∀m f ds H,I m f ds H->FC P g n a f ds H (iX (fun f ds H=>∃k,k<m/\I k f ds H) Q)
 |.exit id,f,ds,H,Q=>Q (.exit id) f ds H
 |.ret,f,ds,H,Q=>Q .ret f ds H
 |.oG c ps PM body,f,ds,H,Q=>∃fid fs cs v He k' s' st Hf,nH g f c=.func (.func fid) fs cs/\
   Sound P g fid (fs++[.yield (H.next+1)]++cs) ((H.alloc .SH).alloc (.loop ⟨ps,PM,body⟩ (LF n f) .ready)) (.ret v) He/\He.get (H.next+1)=some (.loop k' s' st)/\wL He (H.next+1) Hf/\
   OJ st f (.mark H.next::ds) Hf Q
def Ry (P:Program) (g:bG) (n:Nat) (k:Mq) (f:dE) (id:Nat) (args:List AV) (H2:aA) (out:Out) (H3:aA):Prop:=
 FC P g n k.PM (CG n f (k.ps.zip args)) [] H2 fun e f1 rL H1=>match e with
  |.normal=>rL=[]/\∃k1 sn1,H1.get id=some (.loop k1 sn1 .ready)/\FC P g n k.body f1 [] (H1.set id (.loop k1 sn1 .busy)) (mq id out H3)
  |_=>False
theorem pU.put {n:Nat} {f:dE} (h:pU n f) (dst:Option Nat) (v:AV):pU n (fM n f dst v):=by
 cases dst with
 |none=>exact h
 |some d=>
  simp only[fM];split
  . intro t ht;rw[oM f v (by omega)];exact h t ht
  exact h
theorem SA {n:Nat} {f:dE} (h:pU n f) (t:Nat):(LF n f).getD t aD=f t:=by
 unfold LF;rw[getD_eq,Cv];by_cases ht:t<n
 . simp[ht]
 rw[h t (by omega)];simp[ht]
theorem pW {n:Nat} {f:dE} (dst:Option Nat) (v:AV):LF n (fM n f dst v)=nA (LF n f) dst v:=by
 cases dst with
 |none=>rfl
 |some d=>
  simp only[fM,nA,LF];apply Gd;intro i;rw[Ha];simp only[Cv,Af,Bw];by_cases hd:d<n
  . rw[if_pos hd];by_cases hi:d=i
    . subst hi;simp[hd,rJ]
    rw[if_neg hi];by_cases gT:i<n
    . simp[gT,oM f v (Ne.symm hi)]
    simp[gT]
  rw[if_neg hd];by_cases hi:d=i
  . subst hi;simp[hd]
  rw[if_neg hi]
theorem AE {n:Nat} {f:dE} (h:pU n f) (g:bG):nH g f=Arg.eval g (LF n f):=by
 funext x
 cases x with
 |tmp t=>exact(SA h t).symm
 |const v=>rfl
 |jG n=>rfl
theorem PH {n:Nat} {f:dE} (h:pU n f) (o:bK):iE f o=bT (LF n f) o:=by
 unfold iE bT
 cases o.guard with
 |none=>rfl
 |some p=>simp only[SA h];cases f p.1<;>rfl
theorem QH {n:Nat}:∀(l:List (Nat×AV)) (f:dE),qI (LF n f) l=LF n (CG n f l)
 |[],f=>rfl
 |(t,v)::l,f=>by rw[qI,CG,<-QH l];congr 1;rw[pW];rfl
theorem pU.qI {n:Nat}:∀(l:List (Nat×AV)) {f:dE},pU n f->pU n (CG n f l)
 |[],_,h=>h
 |(t,v)::l,_,h=>pU.qI l (h.put (some t) v)
def aKt (n:Nat) (Q:FQ):AQ:=fun e s ds H=>∃f,s=LF n f/\pU n f/\Q e f ds H
section
variable {P:Program} {g:bG} {n:Nat}
theorem kL:∀(rl:List bK) (f:dE) (ds:List gN) (H:aA) (Q:FQ),pU n f->bS P g n rl f ds H Q->uF P g rl (LF n f) ds H (aKt n Q)
 |[],f,ds,H,Q,hb,h=>⟨f,rfl,hb,h⟩
 |o::r,f,ds,H,Q,hb,h=>by
  unfold bS at h;unfold uF;rw[PH hb,AE hb] at h;split at h
  . rename_i hw;rw[if_pos hw];split at h
    . rename_i c azs fK;obtain⟨out,H',h2,h3⟩:=h;rw[fK];refine⟨out,H',h2,?_⟩
      cases out with
      |ret v=>
       have :=kL r _ ds H' Q (hb.put o.dst v) h3
       rwa [pW] at this
      |JL v=>exact⟨f,rfl,hb,h3⟩
    . rename_i x fK;obtain⟨t,v,h1,h2⟩:=h;rw[fK];exact⟨t,v,h1,f,rfl,hb,h2⟩
    . rename_i c azs fK;obtain⟨p,h1,h2⟩:=h;rw[fK];refine⟨p,h1,?_⟩;have :=kL r _ _ H Q (hb.put o.dst aD) h2
      rwa [pW] at this
    . rename_i x fK;obtain⟨m,es,h1,h2,h3⟩:=h;rw[fK];refine⟨m,es,h1,h2,fun bs c mb k1 k2=>?_⟩;have :=kL r _ _ _ Q (hb.put o.dst _) (h3 bs c mb k1 k2)
      rwa [pW] at this
    . rename_i x fK;obtain⟨it,m,mb,c,seen,es,bs,h1,h2,h3,h4,h5⟩:=h;rw[fK];refine⟨it,m,mb,c,seen,es,bs,h1,h2,h3,fun k=>?_,fun j k1 k2=>?_⟩
      . have :=kL r _ _ _ Q (hb.put o.dst _) (h4 k)
        rwa [pW] at this
      have :=kL r _ _ _ Q (hb.put o.dst _) (h5 j k1 k2)
      rwa [pW] at this
    . rename_i x fK;obtain⟨it,m,mb,c,seen,es,bs,j,h1,h2,h3,h4,h5⟩:=h;rw[fK];refine⟨it,m,mb,c,seen,es,bs,j,h1,h2,h3,h4,?_⟩;have :=kL r _ _ _ Q (hb.put o.dst _) h5
      rwa [pW] at this
    rename_i n1 n2 n3 n4 n5 n6;unfold mA at h;split at h
    . rename_i v H' ha;have :=kL r _ ds H' Q (hb.put o.dst v) h;rw[pW] at this;split
      . rename_i c azs fK;exact absurd fK (n1 c azs)
      . rename_i x fK;exact absurd fK (n2 x)
      . rename_i c azs fK;exact absurd fK (n3 c azs)
      . rename_i x fK;exact absurd fK (n4 x)
      . rename_i x fK;exact absurd fK (n5 x)
      . rename_i x fK;exact absurd fK (n6 x)
      exact⟨v,H',ha,this⟩
    exact h.elim
  rename_i hw;rw[if_neg hw];have :=kL r _ ds H Q (hb.put o.dst aD) h
  rwa [pW] at this
theorem QG {f:dE} (hb:pU n f) {r:bK} {H H':aA} {v:AV} (h:ED P g r f H v H'):GL P g r (LF n f) H v H':=by
 unfold ED at h;unfold GL
 rwa [AE hb] at h
theorem vQ {pairs:List (Nat×Nat)} {base:Nat} {Q:dE->aA->Prop}:∀(rl:List bK) (i k:Nat) (rd:List (Nat×Nat)) (ef:List (Nat×aA×aA)) (f:dE) (H:aA),pU n f->
 Wf P g n pairs base i k rl rd ef f H Q->Tn P g pairs base i k rl rd ef (LF n f) H (fun s H=>∃f,s=LF n f/\pU n f/\Q f H)
 |[],i,k,rd,ef,f,H,hb,h=>⟨f,rfl,hb,h⟩
 |r::rs,i,k,rd,ef,f,H,hb,h=>by
  unfold Wf at h;unfold Tn;rw[PH hb] at h;split at h
  . rename_i hw;rw[if_pos hw];split at h
    . rename_i hf;rw[if_pos hf];obtain⟨ob,val,h1,h2,h3⟩:=h;rw[AE hb] at h1;refine⟨ob,val,h1,h2,?_⟩;have :=vQ rs _ _ _ _ _ _ (hb.put r.dst _) h3
      rwa [pW] at this
    rename_i hf;rw[if_neg hf];split at h
    . rename_i he;rw[if_pos he];obtain⟨v,H',h1,h2,h3,h4⟩:=h;refine⟨v,H',QG hb h1,h2,h3,?_⟩;have :=vQ rs _ _ _ _ _ _ (hb.put r.dst _) h4
      rwa [pW] at this
    rename_i he;rw[if_neg he];obtain⟨v,h1,h2,h3⟩:=h;refine⟨v,QG hb h1,by rw[<-AE hb];exact h2,?_⟩;have :=vQ rs _ _ _ _ _ _ (hb.put r.dst _) h3;rw[pW] at this;rw[<-AE hb];exact this
  rename_i hw;rw[if_neg hw];have :=vQ rs _ _ _ _ _ _ (hb.put r.dst _) h
  rwa [pW] at this
theorem GH:∀(c:cF) (f:dE) (ds:List gN) (H:aA) (Q:FQ),pU n f->FC P g n c f ds H Q->AC P g c (LF n f) ds H (aKt n Q):=by
 intro c
 induction c with
 |skip=>exact fun f ds H Q hb h=>⟨f,rfl,hb,h⟩
 |ops rl=>exact fun f ds H Q hb h=>kL rl f ds H Q hb h
 |draw rl pairs=>intro f ds H Q hb h;refine h.imp (fun h=>⟨h.1,vQ rl 0 0 [] [] f _ hb h.2⟩) fun h=>?_;obtain⟨x,f',H',h1,h2,_,h3⟩:=h hb;exact h1.mono fun x' s' h' ⟨e1,e2,e3⟩=>⟨f',e2,h2,by rw[e1,e3];exact h3⟩
 |seq a b rT uP=>
  intro f ds H Q hb h;show AC P g a (LF n f) ds H _;refine fY (fun e s ds H hq=>?_) (rT f ds H _ hb h);obtain⟨f',rfl,HM,hq⟩:=hq
  cases e with
  |normal=>exact uP f' ds H Q HM hq
  |_=>exact⟨f',rfl,HM,hq⟩
 |cond c a b rT uP=>
  intro f ds H Q hb h;obtain⟨t,h1,h2⟩:=h;rw[AE hb] at h1;refine⟨t,h1,?_⟩
  cases t with
  |true=>exact rT f ds H Q hb h2
  |false=>exact uP f ds H Q hb h2
 |block id a ih=>
  intro f ds H Q hb h;show AC P g a (LF n f) ds H _;refine fY (fun e s ds H hq=>?_) (ih f ds H _ hb h);obtain⟨f',rfl,HM,hq⟩:=hq
  cases e with
  |exit i=>
   simp only[dP] at hq;simp only[pL];split
   . rename_i hi;rw[if_pos hi] at hq;exact⟨f',rfl,HM,hq⟩
   rename_i hi;rw[if_neg hi] at hq;exact⟨f',rfl,HM,hq⟩
  |_=>exact⟨f',rfl,HM,hq⟩
 |loop a ih=>
  intro f ds H Q hb h;obtain⟨I,m,h0,hI⟩:=h;refine⟨fun m s ds H=>∃f,s=LF n f/\pU n f/\I m f ds H,m,⟨f,rfl,hb,h0⟩,?_⟩;rintro m s rL H1 ⟨f1,rfl,eQ,h1⟩;refine fY (fun e s ds H hq=>?_) (ih f1 rL H1 _ eQ (hI m f1 rL H1 h1));obtain⟨f',rfl,HM,hq⟩:=hq
  cases e with
  |normal=>obtain⟨k,hk,hq⟩:=hq;exact⟨k,hk,f',rfl,HM,hq⟩
  |_=>exact⟨f',rfl,HM,hq⟩
 |exit id=>exact fun f ds H Q hb h=>⟨f,rfl,hb,h⟩
 |ret=>exact fun f ds H Q hb h=>⟨f,rfl,hb,h⟩
 |oG c ps a b rT uP=>
  intro f ds H Q hb h;obtain⟨fid,fs,cs,v,He,k',s',st,Hf,h1,h2,h3,h4,h5⟩:=h;rw[AE hb] at h1;refine⟨fid,fs,cs,v,He,k',s',st,Hf,h1,h2,h3,h4,?_⟩
  cases st with
  |ready=>exact⟨f,rfl,hb,h5⟩
  |done e=>cases e<;>exact⟨f,rfl,hb,h5⟩
  |busy=>exact h5.elim
  |over _=>exact h5.elim
theorem ek {rl:List bK}:∀{f:dE} {ds:List gN} {H:aA} {Q Q':FQ},(∀e f ds H,Q e f ds H->Q' e f ds H)->bS P g n rl f ds H Q->bS P g n rl f ds H Q':=by
 induction rl with
 |nil=>exact fun hq h=>hq _ _ _ _ h
 |cons o r ih=>
  intro f ds H Q Q' hq h;unfold bS at h ⊢;split
  . rename_i hw;rw[if_pos hw] at h;split at h
    . obtain⟨out,H',h1,h3⟩:=h;refine⟨out,H',h1,?_⟩
      cases out with
      |ret v=>exact ih hq h3
      |JL v=>exact hq _ _ _ _ h3
    . obtain⟨t,v,h1,h2⟩:=h;exact⟨t,v,h1,hq _ _ _ _ h2⟩
    . obtain⟨p,h1,h2⟩:=h;exact⟨p,h1,ih hq h2⟩
    . obtain⟨m,es,h1,h2,h3⟩:=h;exact⟨m,es,h1,h2,fun bs c mb k1 k2=>ih hq (h3 bs c mb k1 k2)⟩
    . exact Zbs
    . obtain⟨it,m,mb,c,seen,es,bs,j,h1,h2,h3,h4,h5⟩:=h;exact⟨it,m,mb,c,seen,es,bs,j,h1,h2,h3,h4,ih hq h5⟩
    unfold mA at h ⊢;split at h
    . exact ih hq h
    exact h.elim
  rename_i hw;rw[if_neg hw] at h;exact ih hq h
theorem Tv {pairs:List (Nat×Nat)} {base:Nat} {rl:List bK}:∀{i k:Nat} {rd:List (Nat×Nat)} {ef:List (Nat×aA×aA)} {f:dE} {H:aA} {Q Q':dE->aA->Prop},(∀f H,Q f H->Q' f H)->
 Wf P g n pairs base i k rl rd ef f H Q->Wf P g n pairs base i k rl rd ef f H Q':=by
 induction rl with
 |nil=>exact fun hq h=>hq _ _ h
 |cons r rs ih=>
  intro i k rd ef f H Q Q' hq h;unfold Wf at h ⊢;exact Zam
theorem jS {c:cF}:∀{f:dE} {ds:List gN} {H:aA} {Q Q':FQ},(∀e f ds H,Q e f ds H->Q' e f ds H)->FC P g n c f ds H Q->FC P g n c f ds H Q':=by
 induction c with
 |skip=>exact fun hq h=>hq _ _ _ _ h
 |ops rl=>exact fun hq h=>ek hq h
 |draw rl pairs=>exact fun hq h=>h.imp (fun h=>⟨h.1,Tv (fun s H=>hq _ _ _ _) h.2⟩) fun h hb=>let⟨x,f',H',h1,h2,h3,h4⟩:=h hb;⟨x,f',H',h1,h2,h3,hq _ _ _ _ h4⟩
 |seq a b rT uP=>
  intro f ds H Q Q' hq h;refine rT (fun e f ds H h=>?_) h
  cases e with
  |normal=>exact uP hq h
  |_=>exact hq _ _ _ _ h
 |cond c a b rT uP=>
  intro f ds H Q Q' hq h;obtain⟨t,h1,h2⟩:=h;refine⟨t,h1,?_⟩
  cases t with
  |true=>exact rT hq h2
  |false=>exact uP hq h2
 |block id a ih=>
  intro f ds H Q Q' hq h;refine ih (fun e f ds H h=>?_) h
  cases e with
  |exit i=>
   simp only[dP] at h ⊢;split
   . rename_i hi;rw[if_pos hi] at h;exact hq _ _ _ _ h
   rename_i hi;rw[if_neg hi] at h;exact hq _ _ _ _ h
  |_=>exact hq _ _ _ _ h
 |loop a ih=>
  intro f ds H Q Q' hq h;obtain⟨I,m,h0,hI⟩:=h;refine⟨I,m,h0,fun m f ds H hi=>ih (fun e f ds H h=>?_) (hI m f ds H hi)⟩
  cases e with
  |normal=>exact h
  |_=>exact hq _ _ _ _ h
 |exit id=>exact fun hq h=>hq _ _ _ _ h
 |ret=>exact fun hq h=>hq _ _ _ _ h
 |oG c ps a b rT uP=>
  intro f ds H Q Q' hq h;obtain⟨fid,fs,cs,v,He,k',s',st,Hf,h1,h2,h3,h4,h5⟩:=h;refine⟨fid,fs,cs,v,He,k',s',st,Hf,h1,h2,h3,h4,?_⟩
  cases st with
  |ready=>exact hq _ _ _ _ h5
  |done e=>cases e<;>exact hq _ _ _ _ h5
  |busy=>exact h5.elim
  |over _=>exact h5.elim
def fN (args:List AV):dE:=fun t=>args.getD t aD
def aAu (f:dE) (H:aA):GD->Option AV
 |.tmp t=>some (f t)
 |.cell a agg n=>match dA (nH g0 f) H (.load agg n (.tmp a)) with
  |some (v,_)=>some v
  |none=>none
def BC (f:dE) (H:aA):List GD->Option (List AV)
 |[]=>some []
 |x::r=>match aAu f H x,BC f H r with
  |some v,some vs=>some (v::vs)
  |_,_=>none
theorem IU {f:dE} (hb:pU n f) (H:aA):∀l,BC f H l=lY (LF n f) H l
 |[]=>rfl
 |x::r=>by
  have ih:=IU hb H r
  cases x with
  |tmp t=>simp only[BC,lY,aAu,me,ih,SA hb];cases lY (LF n f) H r<;>rfl
  |cell a agg m=>
   simp only[BC,lY,aAu,me,ih,AE hb]
   cases dA (Arg.eval g0 (LF n f)) H (.load agg m (.tmp a)) with
   |none=>rfl
   |some p=>cases lY (LF n f) H r<;>rfl
theorem Ku {args:List AV} (h:args.length<=n):pU n (fN args)/\LF n (fN args)=args++List.replicate (n -args.length) aD:=by
 refine⟨fun t ht=>?_,Gd fun t=>?_⟩
 . simp only[fN,getD_eq];rw[Bv (by omega)];rfl
 unfold LF;rw[Cv];by_cases ht:t<n
 . rw[Is ht,Bu];by_cases h1:t<args.length
   . rw[Ev h1];simp[fN,getD_eq,Ad h1]
   rw[Fx (by omega),Gi,if_pos (by omega)];simp only[fN,getD_eq];rw[Bv (by omega)];rfl
 rw[Bv Zah,Bv Zah];rfl
def MA (rs:List GD) (R:Out->aA->Prop):FQ
 |.normal,f,ds,H|.ret,f,ds,H=>ds=[]/\∃vs,BC f H rs=some vs/\R (.ret (nB vs)) H
 |.panic v,_,ds,H=>ds=[]/\R (.JL v) H
 |.exit _,_,_,_=>False
theorem qh {F:BM} {args:List AV} (ha:args.length<=F.ntmps) {H:aA} {R:Out->aA->Prop} (h:FC P g F.ntmps F.body (fN args) [] H (MA F.results R)):
 AC P g F.body (iW F args) [] H (aHu F R):=by
 obtain⟨hb,hl⟩:=Ku ha;unfold iW;rw[<-hl];refine fY (fun e s ds H hq=>?_) (GH F.body _ [] H _ hb h);obtain⟨f,rfl,HM,hq⟩:=hq
 cases e with
 |normal=>obtain⟨h1,vs,h2,h3⟩:=hq;exact⟨h1,vs,by rw[<-IU HM];exact h2,h3⟩
 |ret=>obtain⟨h1,vs,h2,h3⟩:=hq;exact⟨h1,vs,by rw[<-IU HM];exact h2,h3⟩
 |panic v=>exact hq
 |exit id=>exact hq
def bK.dO (r:bK):Bool:=match r.op with|.vG _|.DR _=>false|_=>true
def cF.dO:cF->Bool
 |.ops rl=>rl.all bK.dO
 |.seq a b|.cond _ a b=>a.dO&&b.dO
 |.block _ a|.loop a=>a.dO
 |_=>true
theorem Wb {rl:List bK} (hd:rl.all bK.dO=true):∀{s:List AV} {ds:List gN} {H:aA} {Q:AQ},uF P g rl s ds H Q->
 ∃ae s' fQ H',Q ae s' fQ H'/\uF P g rl s ds H (fun e s d h=>e=ae/\s=s'/\d=fQ/\h=H'):=by
 induction rl with
 |nil=>exact fun {s ds H Q} h=>⟨.normal,s,ds,H,h,rfl,rfl,rfl,rfl⟩
 |cons o r ih=>
  intro s ds H Q h;simp only[Ik,Al] at hd;have ih:=fun {s ds H Q}=> @ih hd.2 s ds H Q;unfold uF at h ⊢;by_cases hw:bT s o=true
  . simp only[hw,if_true] at h ⊢;split at h
    . obtain⟨out,H',h1,h3⟩:=h
      cases out with
      |ret v=>obtain⟨ae,s',fQ,H1,q,hA⟩:=ih h3;exact⟨ae,s',fQ,H1,q,.ret v,H',h1,hA⟩
      |JL v=>exact⟨.panic v,s,ds,H',h3,.JL v,H',h1,rfl,rfl,rfl,rfl⟩
    . obtain⟨t,v,h1,h2⟩:=h;exact⟨_,s,ds,H,h2,t,v,h1,rfl,rfl,rfl,rfl⟩
    . obtain⟨p,h1,h2⟩:=h;obtain⟨ae,s',fQ,H1,q,hA⟩:=ih h2;exact⟨ae,s',fQ,H1,q,p,h1,hA⟩
    . rename_i x fK;simp[bK.dO,fK] at hd
    . rename_i x fK;simp[bK.dO,fK] at hd
    . obtain⟨it,m,mb,c,seen,es,bs,j,h1,h2,h3,h4,h5⟩:=h;obtain⟨ae,s',fQ,H1,q,hA⟩:=ih h5;exact⟨ae,s',fQ,H1,q,it,m,mb,c,seen,es,bs,j,h1,h2,h3,h4,hA⟩
    obtain⟨v,H',h1,h2⟩:=h;obtain⟨ae,s',fQ,H1,q,hA⟩:=ih h2;exact⟨ae,s',fQ,H1,q,v,H',h1,hA⟩
  simp only[hw] at h ⊢;exact ih h
theorem dm {pairs:List (Nat×Nat)} {base:Nat} {rl:List bK}:∀{i k:Nat} {rd:List (Nat×Nat)} {ef:List (Nat×aA×aA)} {s:List AV} {H:aA} {Q:List AV->aA->Prop},
 Tn P g pairs base i k rl rd ef s H Q->∃s' H',Q s' H'/\Tn P g pairs base i k rl rd ef s H (fun s h=>s=s'/\h=H'):=by
 induction rl with
 |nil=>exact fun {i k rd ef s H Q} h=>⟨s,H,h,rfl,rfl⟩
 |cons r rs ih=>
  intro i k rd ef s H Q h;unfold Tn at h ⊢;by_cases hw:bT s r=true
  . simp only[hw,if_true] at h ⊢;by_cases hf:r.op.fresh=true
    . simp only[hf,if_true] at h ⊢;obtain⟨ob,val,h1,h2,h3⟩:=h;obtain⟨s',H',q,hA⟩:=ih h3;exact⟨s',H',q,ob,val,h1,h2,hA⟩
    simp only[hf] at h ⊢;by_cases he:r.op.pP=true
    . simp only[he,if_true] at h ⊢;obtain⟨v,H1,h1,h2,h3,h4⟩:=h;obtain⟨s',H',q,hA⟩:=ih h4;exact⟨s',H',q,v,H1,h1,h2,h3,hA⟩
    simp only[he] at h ⊢;obtain⟨v,h1,h2,h3⟩:=h;obtain⟨s',H',q,hA⟩:=ih h3;exact⟨s',H',q,v,h1,h2,hA⟩
  simp only[hw] at h ⊢;exact ih h
theorem Tm {c:cF} (hd:c.dO=true):∀{s:List AV} {ds:List gN} {H:aA} {Q:AQ},AC P g c s ds H Q->
 ∃ae s' fQ H',Q ae s' fQ H'/\AC P g c s ds H (fun e s d h=>e=ae/\s=s'/\d=fQ/\h=H'):=by
 induction c with
 |skip=>exact fun {s ds H Q} h=>⟨.normal,s,ds,H,h,rfl,rfl,rfl,rfl⟩
 |ops rl=>exact fun h=>Wb hd h
 |draw rl pairs=>
  intro s ds H Q h
  rcases h with h|⟨j,Hs,ss,vs,h1,D,r,f,azs,p,x,H1,e1,e2,e3,e4,e5,q⟩
  . obtain⟨s',H',q,hA⟩:=dm h.2;exact⟨.normal,s',ds,H',q,.inl ⟨h.1,To (fun s H h=>⟨rfl,h.1,rfl,h.2⟩) hA⟩⟩
  exact⟨.panic x,ss j,ds,H1,q,.inr ⟨j,Hs,ss,vs,h1,D,r,f,azs,p,x,H1,e1,e2,e3,e4,e5,rfl,rfl,rfl,rfl⟩⟩
 |seq a b rT uP=>
  simp only[cF.dO,Al] at hd;have rT:=fun {s ds H Q}=> @rT hd.1 s ds H Q;have uP:=fun {s ds H Q}=> @uP hd.2 s ds H Q;intro s ds H Q h;obtain⟨ae,s1,rL,H1,q,hA⟩:=rT h
  cases ae with
  |normal=>obtain⟨ae2,s2,Te,H2,q2,hB⟩:=uP q;refine⟨ae2,s2,Te,H2,q2,?_⟩;show AC P g a s ds H _;refine fY (fun e s d h hh=>?_) hA;obtain⟨rfl,rfl,rfl,rfl⟩:=hh;exact hB
  |_=>refine⟨_,s1,rL,H1,q,?_⟩;show AC P g a s ds H _;refine fY (fun e s d h hh=>?_) hA;obtain⟨rfl,rfl,rfl,rfl⟩:=hh;exact⟨rfl,rfl,rfl,rfl⟩
 |cond c a b rT uP=>
  simp only[cF.dO,Al] at hd;have rT:=fun {s ds H Q}=> @rT hd.1 s ds H Q;have uP:=fun {s ds H Q}=> @uP hd.2 s ds H Q;intro s ds H Q h;obtain⟨t,h1,h2⟩:=h
  cases t with
  |true=>obtain⟨ae,s1,rL,H1,q,hA⟩:=rT h2;exact⟨ae,s1,rL,H1,q,true,h1,hA⟩
  |false=>obtain⟨ae,s1,rL,H1,q,hA⟩:=uP h2;exact⟨ae,s1,rL,H1,q,false,h1,hA⟩
 |block id a ih=>
  have ih:=fun {s ds H Q}=> @ih hd s ds H Q;intro s ds H Q h;obtain⟨ae,s1,rL,H1,q,hA⟩:=ih h
  have other:∀e,(∀i,e≠ .exit i)->Q e s1 rL H1->AC P g a s ds H (fun e' s d h=>e'=e/\s=s1/\d=rL/\h=H1)->
   ∃ae s' fQ H',Q ae s' fQ H'/\AC P g (.block id a) s ds H (fun e s d h=>e=ae/\s=s'/\d=fQ/\h=H'):=fun e cQ hq hA=>by
   refine⟨e,s1,rL,H1,hq,?_⟩;show AC P g a s ds H _;refine fY (fun e' s d h hh=>?_) hA;obtain⟨rfl,rfl,rfl,rfl⟩:=hh
   cases e' with
   |exit i=>exact absurd rfl (cQ i)
   |_=>exact⟨rfl,rfl,rfl,rfl⟩
  cases ae with
  |exit i=>
   simp only[pL] at q;by_cases hi:i=id
   . rw[if_pos hi] at q;refine⟨.normal,s1,rL,H1,q,?_⟩;show AC P g a s ds H _;refine fY (fun e s d h hh=>?_) hA;obtain⟨rfl,rfl,rfl,rfl⟩:=hh;simp only[pL];rw[if_pos hi]
     first|exact⟨rfl,rfl,rfl,rfl⟩|simp
   rw[if_neg hi] at q;refine⟨.exit i,s1,rL,H1,q,?_⟩;show AC P g a s ds H _;refine fY (fun e s d h hh=>?_) hA;obtain⟨rfl,rfl,rfl,rfl⟩:=hh;simp only[pL];rw[if_neg hi]
   first|exact⟨rfl,rfl,rfl,rfl⟩|simp
  |normal=>exact other _ (fun i hh=>by cases hh) q hA
  |ret=>exact other _ (fun i hh=>by cases hh) q hA
  |panic v=>exact other _ (fun i hh=>by cases hh) q hA
 |loop a ih=>
  have ih:=fun {s ds H Q}=> @ih hd s ds H Q;intro s ds H Q h;obtain⟨I,m,h0,hI⟩:=h
  have key:∀(m:Nat) (s:List AV) (ds:List gN) (H:aA),I m s ds H->
   ∃ae s' fQ H',Q ae s' fQ H'/\AC P g (.loop a) s ds H (fun e s d h=>e=ae/\s=s'/\d=fQ/\h=H'):=by
   intro m
   induction m using Nat.strongRecOn with
   |_ m ihm=>
    intro s ds H hi;obtain⟨ae,s1,rL,H1,q,hA⟩:=ih (hI m s ds H hi)
    have once:∀e,e≠ .normal->Q e s1 rL H1->AC P g a s ds H (fun e' s d h=>e'=e/\s=s1/\d=rL/\h=H1)->
     ∃ae s' fQ H',Q ae s' fQ H'/\AC P g (.loop a) s ds H (fun e s d h=>e=ae/\s=s'/\d=fQ/\h=H'):=fun e cQ hq hA=>by
     refine⟨e,s1,rL,H1,hq,fun k s' d' h'=>s'=s/\d'=ds/\h'=H,0,⟨rfl,rfl,rfl⟩,?_⟩;rintro k _ _ _ ⟨rfl,rfl,rfl⟩;refine fY (fun e' s d h hh=>?_) hA;obtain⟨rfl,rfl,rfl,rfl⟩:=hh
     cases e' with
     |normal=>exact absurd rfl cQ
     |_=>exact⟨rfl,rfl,rfl,rfl⟩
    cases ae with
    |normal=>
     obtain⟨k,hk,DO⟩:=q;obtain⟨ae2,s2,Te,H2,q2,J,j,hj,hJ⟩:=ihm k hk s1 rL H1 DO;refine⟨ae2,s2,Te,H2,q2,fun x s' d' h'=>J x s' d' h'\/(x=j+1/\s'=s/\d'=ds/\h'=H),j+1,.inr ⟨rfl,rfl,rfl,rfl⟩,?_⟩;rintro x s' d' h' (hx|⟨rfl,rfl,rfl,rfl⟩)
     . refine fY (fun e s d h hh=>?_) (hJ x s' d' h' hx)
       cases e with
       |normal=>obtain⟨y,hy,hyy⟩:=hh;exact⟨y,hy,.inl hyy⟩
       |_=>exact hh
     refine fY (fun e s d h hh=>?_) hA;obtain⟨rfl,rfl,rfl,rfl⟩:=hh;exact⟨j,Ex j,.inl hj⟩
    |exit i=>exact once _ (fun hh=>by cases hh) q hA
    |ret=>exact once _ (fun hh=>by cases hh) q hA
    |panic v=>exact once _ (fun hh=>by cases hh) q hA
  exact key m s ds H h0
 |exit id=>exact fun {s ds H Q} h=>⟨_,s,ds,H,h,rfl,rfl,rfl,rfl⟩
 |ret=>exact fun {s ds H Q} h=>⟨_,s,ds,H,h,rfl,rfl,rfl,rfl⟩
 |oG c ps a b rT uP=>
  intro s ds H Q h;obtain⟨fid,fs,cs,v,He,k',s',st,Hf,h1,h2,h3,h4,h5⟩:=h
  cases st with
  |ready=>exact⟨_,_,_,Hf,h5,fid,fs,cs,v,He,k',s',.ready,Hf,h1,h2,h3,h4,rfl,rfl,rfl,rfl⟩
  |done e=>cases e<;>exact⟨_,_,_,Hf,h5,fid,fs,cs,v,He,k',s',.done _,Hf,h1,h2,h3,h4,rfl,rfl,rfl,rfl⟩
  |busy=>exact h5.elim
  |over _=>exact h5.elim
theorem cZ {mu:Bool} (hm:Fit P g) {f:FuncId} {F:BM} (hF:kM P g mu f F) {args:List AV} (ha:args.length<=F.ntmps) {H:aA} {R:Out->aA->Prop}
 (h:FC P g F.ntmps F.body (fN args) [] H (MA F.results R)) (hdt:F.body.dO=true:=by first|rfl|decide):∃out H',R out H'/\Sound P g f args H out H':=by
 obtain⟨ae,s,ds,H',q,hA⟩:=Tm hdt (qh ha h);have fin:∀out,R out H'->AC P g F.body (iW F args) [] H (aHu F fun o h=>o=out/\h=H')->∃out H',R out H'/\Sound P g f args H out H':=fun out hR hA=>⟨out,H',hR,UB hm hF hA⟩
 cases ae with
 |exit id=>exact q.elim
 |panic v=>refine fin (.JL v) q.2 (fY (fun e s d h hh=>?_) hA);obtain⟨rfl,rfl,rfl,rfl⟩:=hh;exact⟨q.1,rfl,rfl⟩
 |normal=>obtain⟨h1,vs,h2,h3⟩:=q;refine fin _ h3 (fY (fun e s d h hh=>?_) hA);obtain⟨rfl,rfl,rfl,rfl⟩:=hh;exact⟨h1,vs,h2,rfl,rfl⟩
 |ret=>obtain⟨h1,vs,h2,h3⟩:=q;refine fin _ h3 (fY (fun e s d h hh=>?_) hA);obtain⟨rfl,rfl,rfl,rfl⟩:=hh;exact⟨h1,vs,h2,rfl,rfl⟩
end
end
section
theorem eD {a b:Prop} (h1:a->b) (h2:b->a):a=b:=propext ⟨h1,h2⟩
theorem aI {r r':Option (AV×aA)} (h:r=r') (k:AV->aA->Prop):mA r k=mA r' k:=by rw[h]
theorem cE (v:AV) (H:aA) (k:AV->aA->Prop):mA (some (v,H)) k=k v H:=eD id id
section
variable {P:Program} {g:bG} {n:Nat} {r:List bK} {f:dE} {ds:List gN} {H:aA} {Q:FQ}
theorem vR:bS P g n [] f ds H Q=Q .normal f ds H:=eD id id
theorem Rw (d:Nat) (op:eE) (hp:op.plain=true) (hd:d<n):
 bS P g n (⟨some d,op,none⟩::r) f ds H Q=mA (dA (nH g f) H op) fun v H'=>bS P g n r (kH f d v) ds H' Q:=by
 have :∀v,fM n f (some d) v=kH f d v:=fun v=>by simp[fM,hd]
 conv=>lhs;unfold bS
 simp only[iE,if_true,this]
 cases op<;>first|rfl|cases hp
theorem qu (op:eE) (hp:op.plain=true):
 bS P g n (⟨none,op,none⟩::r) f ds H Q=mA (dA (nH g f) H op) fun v H'=>bS P g n r f ds H' Q:=by
 conv=>lhs;unfold bS
 simp only[iE,if_true,fM]
 cases op<;>first|rfl|cases hp
theorem GI (d:Nat) (x:Arg) (hd:d<n):bS P g n (⟨some d,(.TC x),none⟩::r) f ds H Q=mA (dA (nH g f) H (.TC x)) fun v H'=>bS P g n r (kH f d v) ds H' Q:=Rw d _ rfl hd
theorem yY (d:Nat) (o:BinOp) (x y:Arg) (hd:d<n):bS P g n (⟨some d,(.bin o x y),none⟩::r) f ds H Q=mA (dA (nH g f) H (.bin o x y)) fun v H'=>bS P g n r (kH f d v) ds H' Q:=Rw d _ rfl hd
theorem eh {d:Nat} {fid:FuncId} {azs:List Arg} {args:List AV} {v:AV} {H':aA} (hd:d<n) (ha:azs.map (nH g f)=args) (hS:Sound P g fid args H (.ret v) H')
 (h:bS P g n r (kH f d v) ds H' Q):bS P g n (⟨some d,.call (.const (.func (.func fid) [] [])) azs,none⟩::r) f ds H Q:=by
 have :∀v,fM n f (some d) v=kH f d v:=fun v=>by simp[fM,hd]
 unfold bS;simp only[iE,if_true,this];exact⟨.ret v,H',.inl ⟨(fid,[],[]),rfl,by simpa [ha] using hS⟩,h⟩
theorem EC {d:Nat} {c:Arg} {fid:FuncId} {fs cs:List AV} {azs:List Arg} {args:List AV} {v:AV} {H':aA} (hd:d<n) (hc:nH g f c=.func (.func fid) fs cs) (ha:fs++azs.map (nH g f)++cs=args)
 (hS:Sound P g fid args H (.ret v) H') (h:bS P g n r (kH f d v) ds H' Q):bS P g n (⟨some d,.call c azs,none⟩::r) f ds H Q:=by
 have :∀v,fM n f (some d) v=kH f d v:=fun v=>by simp[fM,hd]
 unfold bS;simp only[iE,if_true,this];exact⟨.ret v,H',.inl ⟨(fid,fs,cs),by rw[hc];rfl,by rw[ha];exact hS⟩,h⟩
theorem dS (t:Nat):nH g f (.tmp t)=f t:=by cases h:f t<;>exact h
theorem vZ (v:AV):nH g f (.const v)=v:=by cases v<;>rfl
theorem JM (rl:List bK):FC P g n (.ops rl) f ds H Q=bS P g n rl f ds H Q:=eD id id
theorem MF:FC P g n .skip f ds H Q=Q .normal f ds H:=eD id id
theorem aLd:FC P g n .ret f ds H Q=Q .ret f ds H:=eD id id
theorem ME (id:Nat):FC P g n (.exit id) f ds H Q=Q (.exit id) f ds H:=eD (fun h=>h) (fun h=>h)
theorem aN {a b:cF} (h:∀K:dE->List gN->aA->Prop,(∀f ds H,FC P g n b f ds H Q->K f ds H)->FC P g n a f ds H (iX K Q)):FC P g n (.seq a b) f ds H Q:=h _ fun _ _ _ h=>h
theorem aJ {id:Nat} {a:cF} (h:FC P g n a f ds H (dP id Q)):FC P g n (.block id a) f ds H Q:=h
theorem Ru {c:Arg} {a b:cF} (t:Bool) (hc:nH g f c=.bool t) (h1:t=true->FC P g n a f ds H Q) (h2:t=false->FC P g n b f ds H Q):FC P g n (.cond c a b) f ds H Q:=by
 refine⟨t,hc,?_⟩
 cases t with
 |true=>exact h1 rfl
 |false=>exact h2 rfl
theorem Rv {a:cF} (I:Nat->dE->List gN->aA->Prop) (m:Nat) (h0:I m f ds H) (h:∀m f ds H,I m f ds H->FC P g n a f ds H (iX (fun f ds H=>∃k,k<m/\I k f ds H) Q)):FC P g n (.loop a) f ds H Q:=⟨I,m,h0,h⟩
theorem gE (K:dE->List gN->aA->Prop):iX K Q .normal f ds H=K f ds H:=eD id id
theorem oh (K:dE->List gN->aA->Prop):iX K Q .ret f ds H=Q .ret f ds H:=eD id id
theorem oJ (K:dE->List gN->aA->Prop) (i:Nat):iX K Q (.exit i) f ds H=Q (.exit i) f ds H:=eD id id
theorem Lx (i:Nat):dP i Q .normal f ds H=Q .normal f ds H:=eD id id
theorem Sr (i:Nat):dP i Q .ret f ds H=Q .ret f ds H:=eD id id
theorem qQ (i:Nat):dP i Q (.exit i) f ds H=Q .normal f ds H:=by simp[dP]
theorem Nx (i j:Nat) (h:j≠i):dP i Q (.exit j) f ds H=Q (.exit j) f ds H:=by simp[dP,h]
end
class Pl (op:eE):Prop where h:op.plain=true
instance (x:Arg):Pl (.TC x):=⟨rfl⟩
instance (c a b:Arg):Pl (.pick c a b):=⟨rfl⟩
instance (z:List AV):Pl (.alloc z):=⟨rfl⟩
instance (x:Arg):Pl (.box x):=⟨rfl⟩
instance (z:List AV) (ps:List (Nat×Nat×Arg)):Pl (.build z ps):=⟨rfl⟩
instance (sz:Nat) (xs:List Arg):Pl (.OR sz xs):=⟨rfl⟩
instance (agg:Bool) (m:Nat) (a:Arg):Pl (.load agg m a):=⟨rfl⟩
instance (m:Nat) (a x:Arg):Pl (.store m a x):=⟨rfl⟩
instance (x:Arg):Pl (.OS x):=⟨rfl⟩
instance (o:BinOp) (x y:Arg):Pl (.bin o x y):=⟨rfl⟩
instance (neg:Bool) (x y:Arg):Pl (.eqb neg x y):=⟨rfl⟩
instance (neg:Bool) (sh:List Sk) (x y:Arg):Pl (.eqf neg sh x y):=⟨rfl⟩
instance (neg:Bool) (k:Nk) (lit:Bool) (x y:Arg):Pl (.tz neg k lit x y):=⟨rfl⟩
instance (o:UnOp) (x:Arg):Pl (.un o x):=⟨rfl⟩
instance (k:IntKind) (x:Arg):Pl (.NQ k x):=⟨rfl⟩
instance (x:Arg):Pl (.BG x):=⟨rfl⟩
instance (x:Arg):Pl (.DH x):=⟨rfl⟩
instance (m:Nat) (x:Arg):Pl (.Yh m x):=⟨rfl⟩
instance (t:TypeId) (x:Arg):Pl (.Xu t x):=⟨rfl⟩
instance (fn:Fn) (a b:List Arg):Pl (.Xt fn a b):=⟨rfl⟩
instance:Pl (.yO):=⟨rfl⟩
instance (sz bytes:Nat) (z:List AV) (l c:Arg):Pl (.jJ sz bytes z l c):=⟨rfl⟩
instance (x:Arg) (lo hi:Option Arg):Pl (.Oz x lo hi):=⟨rfl⟩
instance (sz:Nat) (x:Arg) (lo hi mx:Option Arg):Pl (.Yk sz x lo hi mx):=⟨rfl⟩
instance (m sz:Nat) (x:Arg) (lo hi mx:Option Arg):Pl (.DY m sz x lo hi mx):=⟨rfl⟩
instance (off:Nat) (x:Arg):Pl (.XP off x):=⟨rfl⟩
instance (arr:Option Nat) (sz:Nat) (x i:Arg):Pl (.Sq arr sz x i):=⟨rfl⟩
instance (m sz:Nat) (agg:Bool) (x i:Arg):Pl (.idx m sz agg x i):=⟨rfl⟩
instance (x i:Arg):Pl (.idxs x i):=⟨rfl⟩
instance (t:TypeId) (ok:Bool) (z:AV) (x:Arg):Pl (.Ys t ok z x):=⟨rfl⟩
instance (x:Arg) (i:Nat):Pl (.XN x i):=⟨rfl⟩
instance (x:Arg):Pl (.lens x):=⟨rfl⟩
instance (x:Arg):Pl (.OF x):=⟨rfl⟩
instance (x y:Arg):Pl (.VI x y):=⟨rfl⟩
instance (x y:Arg):Pl (.VL x y):=⟨rfl⟩
instance (sz bytes:Nat) (mu:Bool) (x y:Arg):Pl (.append sz bytes mu x y):=⟨rfl⟩
instance (sz:Nat) (x y:Arg):Pl (.copy sz x y):=⟨rfl⟩
instance (k:Sk) (z:AV) (ok:Bool) (x i:Arg):Pl (.lookup k z ok x i):=⟨rfl⟩
instance (k:Sk) (m i v:Arg):Pl (.OO k m i v):=⟨rfl⟩
instance (sz:Nat) (z:List AV) (x:Arg):Pl (.clr sz z x):=⟨rfl⟩
theorem bEc (P:Program) (g:bG) (n:Nat):
 (∀(r:List bK) (f:dE) (ds:List gN) (H:aA) (Q:FQ) (d:Nat) (op:eE) [Pl op] (hd:d<n),bS P g n (⟨some d,op,none⟩::r) f ds H Q=mA (dA (nH g f) H op) fun v H'=>bS P g n r (kH f d v) ds H' Q)/\
 (∀(r:List bK) (f:dE) (ds:List gN) (H:aA) (Q:FQ) (op:eE) [Pl op],bS P g n (⟨none,op,none⟩::r) f ds H Q=mA (dA (nH g f) H op) fun v H'=>bS P g n r f ds H' Q)/\
 (∀(f:dE) (ds:List gN) (H:aA) (Q:FQ),bS P g n [] f ds H Q=Q .normal f ds H)/\
 (∀(f:dE) (ds:List gN) (H:aA) (Q:FQ) (rl:List bK),FC P g n (.ops rl) f ds H Q=bS P g n rl f ds H Q)/\
 (∀(f:dE) (ds:List gN) (H:aA) (Q:FQ),FC P g n .skip f ds H Q=Q .normal f ds H)/\
 (∀(f:dE) (ds:List gN) (H:aA) (Q:FQ),FC P g n .ret f ds H Q=Q .ret f ds H)/\
 (∀(f:dE) (ds:List gN) (H:aA) (Q:FQ) (id:Nat),FC P g n (.exit id) f ds H Q=Q (.exit id) f ds H):=
 ⟨fun _ _ _ _ _ d op i hd=>Rw d op i.h hd,fun _ _ _ _ _ op i=>qu op i.h,fun _ _ _ _=>vR,fun _ _ _ _ rl=>JM rl,fun _ _ _ _=>MF,fun _ _ _ _=>aLd,fun _ _ _ _ id=>ME id⟩
theorem aCb:
 (∀(v:AV) (H:aA) (k:AV->aA->Prop),mA (some (v,H)) k=k v H)/\
 (∀(g:bG) (f:dE) (t:Nat),nH g f (.tmp t)=f t)/\
 (∀(g:bG) (f:dE) (v:AV),nH g f (.const v)=v)/\
 (∀(f:dE) (d:Nat) (v:AV),kH f d v d=v)/\
 (∀(f:dE) (d t:Nat) (v:AV),t≠d->kH f d v t=f t)/\
 (∀(f:dE) (ds:List gN) (H:aA) (Q:FQ) (K:dE->List gN->aA->Prop),iX K Q .normal f ds H=K f ds H)/\
 (∀(f:dE) (ds:List gN) (H:aA) (Q:FQ) (K:dE->List gN->aA->Prop),iX K Q .ret f ds H=Q .ret f ds H)/\
 (∀(f:dE) (ds:List gN) (H:aA) (Q:FQ) (K:dE->List gN->aA->Prop) (i:Nat),iX K Q (.exit i) f ds H=Q (.exit i) f ds H)/\
 (∀(f:dE) (ds:List gN) (H:aA) (Q:FQ) (i:Nat),dP i Q .normal f ds H=Q .normal f ds H)/\
 (∀(f:dE) (ds:List gN) (H:aA) (Q:FQ) (i:Nat),dP i Q .ret f ds H=Q .ret f ds H)/\
 (∀(f:dE) (ds:List gN) (H:aA) (Q:FQ) (i:Nat),dP i Q (.exit i) f ds H=Q .normal f ds H)/\
 (∀(f:dE) (ds:List gN) (H:aA) (Q:FQ) (i j:Nat),j≠i->dP i Q (.exit j) f ds H=Q (.exit j) f ds H):=
 ⟨cE,
   (fun g f t=>dS t),
   (fun g f v=>vZ v),
   rJ,
   (fun f d t v h=>oM f v h),
   (fun f ds H Q K=>gE K),
   (fun f ds H Q K=>oh K),
   (fun f ds H Q K i=>oJ K i),
   (fun f ds H Q i=>Lx i),
   (fun f ds H Q i=>Sr i),
   (fun f ds H Q i=>qQ i),
   (fun f ds H Q i j h=>Nx i j h)⟩
end
def Own (H:aA) (sz:Nat) (v:AV) (bB:List (List AV)):Prop:=
 (v=.aO/\bB=[])\/∃k,v=.bD (k+2) sz bB/\k<H.next/\H.get k=some .tok
def sF:AV->Option Nat
 |.bD (k+2) _ _=>some k
 |_=>none
structure Wh (H H':aA) (v:AV):Prop where
 next:H.next<=H'.next
 get:∀id,sF v≠some id->id<H.next->H'.get id=H.get id
theorem Own.nil (H:aA) (sz:Nat):Own H sz .aO []:=.inl ⟨rfl,rfl⟩
theorem Own.bD {H:aA} {sz k:Nat} {bB:List (List AV)} (hk:k<H.next) (h:H.get k=some .tok):Own H sz (.bD (k+2) sz bB) bB:=.inr ⟨k,rfl,hk,h⟩
theorem Own.fresh (H:aA) (sz:Nat) (bB:List (List AV)):Own (H.alloc .tok) sz (.bD (H.next+2) sz bB) bB:=.bD (by simp) (by rw[aA.aG,if_pos rfl])
theorem Own.alloc {H:aA} {sz:Nat} {v:AV} {bB:List (List AV)} (h:Own H sz v bB) (o:fB):Own (H.alloc o) sz v bB:=by
 rcases h with h|⟨k,h1,h2,h3⟩
 . exact .inl h
 exact .inr ⟨k,h1,by simp;omega,by rw[aA.aG,if_neg (by omega)];exact h3⟩
theorem Own.set {H:aA} {sz:Nat} {v:AV} {bB:List (List AV)} (h:Own H sz v bB) (id:Nat) (o:fB) (dC:sF v≠some id):Own (H.set id o) sz v bB:=by
 rcases h with h|⟨k,rfl,h2,h3⟩
 . exact .inl h
 refine .inr ⟨k,rfl,h2,?_⟩;rw[aA.aC,if_neg]
 . exact h3
 intro hh;exact dC (by simp[sF,hh])
theorem Own.aCg {H:aA} {sz:Nat} {v:AV} {bB:List (List AV)} (h:Own H sz v bB) {id:Nat} (ht:sF v=some id):id<H.next:=by
 rcases h with ⟨rfl,_⟩|⟨k,rfl,h2,h3⟩
 . cases ht
 simp only[sF,Ae] at ht;omega
theorem Own.append {H:aA} {sz bytes:Nat} {v:AV} {bB ys:List (List AV)} (h:Own H sz v bB) (hb:(bB.length+ys.length)*bytes<=2^40):
 ∃v' H',dR H sz bytes false v ys=some (v',H')/\Own H' sz v' (bB++ys)/\Wh H H' v:=by
 by_cases hy:ys=[]
 . subst hy;refine⟨v,H,?_,by rw[Ch];exact h,Ab _,fun _ _ _=>rfl⟩
   rcases h with ⟨rfl,rfl⟩|⟨k,rfl,_,hk⟩<;>rfl
 have cQ:ys.isEmpty=false:=by cases ys with
  |nil=>exact absurd rfl hy
  |cons _ _=>rfl
 rcases h with ⟨rfl,rfl⟩|⟨k,rfl,xc,hk⟩
 . refine⟨.bD (H.next+2) sz ys,H.alloc .tok,?_,.inr ⟨H.next,by simp,by simp,by simp[aA.aG]⟩,by simp,fun id _ dC=>by rw[aA.aG,if_neg (by omega)]⟩;simp only[dR,cQ,kS];simp only[Bm,Cq] at hb;simp[hb]
 refine⟨.bD (H.next+2) sz (bB++ys),(H.set k .dead).alloc .tok,?_,.inr ⟨H.next,rfl,by simp,by simp[aA.aG]⟩,by simp,fun id h1 dC=>?_⟩
 . simp only[dR,cQ];simp[hb,hk]
 rw[aA.aG,if_neg Zah,aA.aC,if_neg];intro hh;exact h1 (by simp[sF,hh])
def dI (l:List Nat):List (List AV):=l.map fun(b:Nat)=>[AV.int .u8 b]
def iU (l:List Int):List (List AV):=l.map fun x=>[AV.int .i64 x]
theorem iF (a b:List Nat):dI (a++b)=dI a++dI b:=by simp[dI]
theorem fZ (a:List Nat):(dI a).length=a.length:=by simp[dI]
theorem HQ (a b:List Int):iU (a++b)=iU a++iU b:=by simp[iU]
theorem iD (a:List Int):(iU a).length=a.length:=by simp[iU]
theorem kX:∀l,dT (dI l)=true
 |[]=>rfl
 |x::l=>by simp only[dI,Cb,dT,bO,AV.free,Cp,Co];exact kX l
theorem HF:∀l,dT (iU l)=true
 |[]=>rfl
 |x::l=>by simp only[iU,Cb,dT,bO,AV.free,Cp,Co];exact HF l
theorem mG {P:Program} {g:bG} (hg:DF g) {f:FuncId} {args:List AV} (ha:bO args=true) {sz:Nat} {bB:List (List AV)} (cQ:bB≠[]) (hf:dT bB=true)
 (h:∃out H',(∃v,out=.ret v/\Own H' sz v bB)/\Sound P g f args ⟨0,.nil⟩ out H') (H:aA):Sound P g f args H (.ret (.bD (H.next+2) sz bB)) (H.alloc .tok):=by
 obtain⟨out,H',⟨v,rfl,aFk⟩,hS⟩:=h
 rcases aFk with ⟨_,he⟩|⟨k,rfl,_,hk⟩
 . exact absurd he cQ
 refine hS.frame hg ha (tk:=some k) (fun k' rR=>by cases rR;exact hk) (n:=0) H ?_;simp[Out.av,fG,fA,hf,IZ]
attribute [local congr] aI
theorem wrap_i64 {x:Int} (h0: -2^63<=x) (h1:x<2^63):IntKind.i64.wrap x=x:=by simp only[IntKind.wrap,IntKind.bits,IntKind.signed];simp;split<;>omega
def rangeLoop (id cmp ix ln nx:Nat) (B:cF):cF:=
 .block id (.loop (.seq (.ops [⟨some cmp,.bin .lss (.tmp ix) (.tmp ln),none⟩]) (.seq (.cond (.tmp cmp) .skip (.exit id)) (.seq B
  (.ops [⟨some nx,.bin .add (.tmp ix) (.const (.int .i64 1)),none⟩,⟨some ix,.TC (.tmp nx),none⟩])))))
theorem qp {P:Program} {g:bG} {n:Nat} {id cmp ix ln nx:Nat} {B:cF} {f:dE} {ds:List gN} {H:aA} {Q:FQ} (J:Nat->dE->aA->Prop) (N:Nat) (hN:(N:Int)<2^63)
 (hs:cmp<n/\ix<n/\nx<n/\cmp≠ix/\cmp≠ln/\nx≠ix/\nx≠ln/\ix≠ln)
 (h1:f ix=.int .i64 0) (h2:f ln=.int .i64 N) (h0:J 0 f H)
 (st:∀(i:Nat) (f:dE) (H:aA) (d:Nat) (v:AV),d=cmp\/d=nx\/d=ix->J i f H->J i (kH f d v) H)
 (body:∀(i:Nat) (f:dE) (H:aA),i<N->f ix=.int .i64 i->f ln=.int .i64 N->J i f H->
   FC P g n B f ds H (iX (fun f' fQ H'=>fQ=ds/\f' ix=.int .i64 i/\f' ln=.int .i64 N/\J (i+1) f' H') (dP id Q)))
 (done:∀(f:dE) (H:aA),f ln=.int .i64 N->J N f H->Q .normal f ds H):FC P g n (rangeLoop id cmp ix ln nx B) f ds H Q:=by
 obtain⟨s1,s2,s3,s4,s5,s6,s7,s8⟩:=hs;refine aJ (Rv (fun m f' fQ H'=>fQ=ds/\∃i:Nat,i<=N/\m=N -i/\f' ix=.int .i64 i/\f' ln=.int .i64 N/\J i f' H') N ⟨rfl,0,Az _,by omega,h1,h2,h0⟩ ?_);rintro m f1 rL H1 ⟨rfl,i,hi,rfl,e1,e2,e3⟩;refine aN fun K hK=>?_;rw[JM,yY _ _ _ _ s1];simp only[dA,dS,e1,e2,pY,if_true,Bu,cE,vR,gE];apply hK;clear hK K;have st1:=st i f1 H1 cmp (.bool (decide ((i:Int)<N))) (.inl rfl) e3;refine aN fun K hK=>Ru (decide ((i:Int)<N)) (by rw[dS,rJ]) (fun ht=>?_) (fun ht=>?_)
 . rw[MF,gE];apply hK;clear hK K;have fJ:i<N:=by have :=Cu ht;omega
   refine aN fun K hK=>?_;have hb:=body i _ H1 fJ (by rw[oM _ _ (Ne.symm s4)];exact e1) (by rw[oM _ _ (Ne.symm s5)];exact e2) st1;have mono:∀{c:cF} {f:dE} {ds:List gN} {H:aA} {Q Q':FQ},(∀e f ds H,Q e f ds H->Q' e f ds H)->FC P g n c f ds H Q->FC P g n c f ds H Q':=fun {c f ds H Q Q'} hq h=>jS hq h;refine mono (fun e f2 Te H2 h=>?_) hb
   cases e with
   |normal=>
    obtain⟨rfl,b1,b2,b3⟩:=h;show K f2 Te H2;apply hK;rw[JM,yY _ _ _ _ s3];have hw:IntKind.i64.wrap ((i:Int)+1)=((i+1:Nat):Int):=(by rw[wrap_i64 (by omega) (by omega)];rfl);simp only[dA,dS,vZ,b1,pY,if_true,Bu,cE];rw[GI _ _ s2];simp only[dA,dS,cE,vR,gE,rJ,hw];refine⟨N -(i+1),by omega,trivial,i+1,by omega,rfl,rfl,?_,?_⟩
    . rw[oM _ _ (Ne.symm s8),oM _ _ (Ne.symm s7)];exact b2
    exact st _ _ _ _ _ (.inr (.inr rfl)) (st _ _ _ _ _ (.inr (.inl rfl)) b3)
   |_=>exact h
 rw[ME,oJ,oJ,qQ];have LQ:i=N:=by have :=Dn ht;omega
 subst LQ;exact done _ _ (by rw[oM _ _ (Ne.symm s5)];exact e2) st1
theorem fm (ev:Arg->AV) (H:aA) (zero:List AV):dA ev H (.alloc zero)=some (.ref H.next 0,H.alloc (.cells zero false)):=rfl
def bIx:=And.intro fm <| And.intro @dA.eq_1 <| And.intro @dA.eq_2 <| And.intro @dA.eq_4 <| And.intro @dA.eq_5 <| And.intro @dA.eq_6 <| And.intro @dA.eq_7 <| And.intro @dA.eq_8 <| And.intro @dA.eq_9 <| And.intro @dA.eq_10 <| And.intro @dA.eq_11 <| And.intro @dA.eq_12 <| And.intro @dA.eq_13 <| And.intro @dA.eq_14 <| And.intro @dA.eq_15 <| And.intro @dA.eq_16 <| And.intro @dA.eq_17 <| And.intro @dA.eq_18 <| And.intro @dA.eq_19 <| And.intro @dA.eq_20 <| And.intro @dA.eq_21 <| And.intro @dA.eq_22 <| And.intro @dA.eq_23 <| And.intro @dA.eq_24 <| And.intro @dA.eq_25 <| And.intro @dA.eq_26 <| And.intro @dA.eq_27 <| And.intro @dA.eq_28 <| And.intro @dA.eq_29 <| And.intro @dA.eq_30 <| And.intro @dA.eq_31 <| And.intro @dA.eq_32 <| And.intro @dA.eq_33 <| And.intro @dA.eq_34 <| And.intro @dA.eq_35 <| And.intro @dA.eq_36 <| And.intro @dA.eq_37 <| And.intro @dA.eq_38 <| And.intro @dA.eq_39 @dA.eq_40
def bIy:=And.intro @pY.eq_1 <| And.intro @pY.eq_2 <| And.intro @pY.eq_3 <| And.intro @pY.eq_4 <| And.intro @pY.eq_5 <| And.intro @pY.eq_6 <| And.intro @pY.eq_7 <| And.intro @pY.eq_8 <| And.intro @pY.eq_9 <| And.intro @pY.eq_10 <| And.intro @pY.eq_11 <| And.intro @pY.eq_12 <| And.intro @pY.eq_13 <| And.intro @pY.eq_14 <| And.intro @pY.eq_15 <| And.intro @pY.eq_16 @pY.eq_17
section
def sD (v:AV) (A B:Prop):Prop:=
 match v with
 |.bool true=>A
 |.bool false=>B
 |_=>False
def jP (v:AV) (b:Bool) (A B:Prop):Prop:=
 match v with
 |.bool c=>if c=b then A else B
 |_=>B
section
variable {P:Program} {g:bG} {n:Nat} {r:List bK} {f:dE} {ds:List gN} {H:aA} {Q:FQ}
theorem Tt (c:Arg) (a b:cF):FC P g n (.cond c a b) f ds H Q=sD (nH g f c) (FC P g n a f ds H Q) (FC P g n b f ds H Q):=by
 refine eD (fun h=>?_) (fun h=>?_)
 . obtain⟨t,h1,h2⟩:=h;rw[h1]
   cases t with
   |true=>exact h2
   |false=>exact h2
 unfold sD at h;split at h
 . rename_i hv;exact⟨true,hv,h⟩
 . rename_i hv;exact⟨false,hv,h⟩
 exact h.elim
theorem EK (A B:Prop):sD (.bool true) A B=A:=eD id id
theorem zT (A B:Prop):sD (.bool false) A B=B:=eD id id
theorem gm (p:Prop) [Decidable p] (A B:Prop):sD (.bool (decide p)) A B=((p->A)/\(¬p->B)):=by
 by_cases hp:p
 . simp[hp,EK]
 simp[hp,zT]
theorem gq (b:Bool) (A B:Prop):sD (.bool (!b)) A B=sD (.bool b) B A:=by cases b<;>rfl
theorem aL {v v':AV} (h:v=v') (A B:Prop):sD v A B=sD v' A B:=by rw[h]
theorem aLe (d x:Nat) (b:Bool) (op:eE) (hd:d<n):
 bS P g n (⟨some d,op,some (x,b)⟩::r) f ds H Q=jP (f x) b (bS P g n (⟨some d,op,none⟩::r) f ds H Q) (bS P g n r (kH f d aD) ds H Q):=by
 have :∀v,fM n f (some d) v=kH f d v:=fun v=>by simp[fM,hd]
 conv=>lhs;unfold bS
 conv=>rhs;arg 3;unfold bS
 simp only[iE,this,if_true];unfold jP
 cases h:f x with
 |bool c=>by_cases hc:c=b<;>simp[hc]
 |_=>simp
theorem jo (A B:Prop):jP (.bool true) true A B=A:=eD id id
theorem jl (A B:Prop):jP (.bool false) false A B=A:=eD id id
theorem jn (A B:Prop):jP (.bool true) false A B=B:=eD id id
theorem jm (A B:Prop):jP (.bool false) true A B=B:=eD id id
theorem aH {v v':AV} (h:v=v') (b:Bool) (A B:Prop):jP v b A B=jP v' b A B:=by rw[h]
theorem ZD (a b:cF):FC P g n (.seq a b) f ds H Q=FC P g n a f ds H (iX (fun f ds H=>FC P g n b f ds H Q) Q):=eD id id
theorem aX {c:cF} {f':dE} (h:f=f'):FC P g n c f ds H Q=FC P g n c f' ds H Q:=by rw[h]
theorem aQ {f':dE} (h:f=f'):bS P g n r f ds H Q=bS P g n r f' ds H Q:=by rw[h]
theorem aM {K:dE->List gN->aA->Prop} {e:AEx} {f':dE} (h:f=f'):iX K Q e f ds H=iX K Q e f' ds H:=by rw[h]
theorem aF {id:Nat} {e:AEx} {f':dE} (h:f=f'):dP id Q e f ds H=dP id Q e f' ds H:=by rw[h]
end
theorem bEd:
 (∀(P:Program) (g:bG) (n:Nat) (f:dE) (ds:List gN) (H:aA) (Q:FQ) (c:Arg) (a b:cF),FC P g n (.cond c a b) f ds H Q=sD (nH g f c) (FC P g n a f ds H Q) (FC P g n b f ds H Q))/\
 (∀(A B:Prop),sD (.bool true) A B=A)/\
 (∀(A B:Prop),sD (.bool false) A B=B)/\
 (∀(P:Program) (g:bG) (n:Nat) (r:List bK) (f:dE) (ds:List gN) (H:aA) (Q:FQ) (d x:Nat) (b:Bool) (op:eE) (hd:d<n),
   bS P g n (⟨some d,op,some (x,b)⟩::r) f ds H Q=jP (f x) b (bS P g n (⟨some d,op,none⟩::r) f ds H Q) (bS P g n r (kH f d aD) ds H Q))/\
 (∀(A B:Prop),jP (.bool true) true A B=A)/\
 (∀(A B:Prop),jP (.bool false) false A B=A)/\
 (∀(A B:Prop),jP (.bool true) false A B=B)/\
 (∀(A B:Prop),jP (.bool false) true A B=B)/\
 (∀(P:Program) (g:bG) (n:Nat) (f:dE) (ds:List gN) (H:aA) (Q:FQ) (a b:cF),FC P g n (.seq a b) f ds H Q=FC P g n a f ds H (iX (fun f ds H=>FC P g n b f ds H Q) Q)):=
 ⟨fun _ _ _ _ _ _ _ c a b=>Tt c a b,EK,zT,fun _ _ _ _ _ _ _ _ d x b op hd=>aLe d x b op hd,jo,jl,jn,jm,fun _ _ _ _ _ _ _ a b=>ZD a b⟩
def aEz (id c:Nat) (ts:cF) (B:cF) (st:cF):cF:=
 .block id (.loop (.seq (.seq ts (.cond (.tmp c) .skip (.exit id))) (.seq B st)))
theorem aLc {P:Program} {g:bG} {n:Nat} {id c:Nat} {ts B st:cF} {f:dE} {ds:List gN} {H:aA} {Q:FQ} (J:Nat->dE->aA->Prop) (N:Nat)
 (h0:J 0 f H)
 (test:∀(i:Nat) (f:dE) (H:aA),i<=N->J i f H->∀(K:dE->Prop),(∀f',f' c=.bool (decide (i<N))->J i f' H->K f')->∀Q':FQ,FC P g n ts f ds H (iX (fun f' fQ H'=>fQ=ds/\H'=H/\K f') Q'))
 (body:∀(i:Nat) (f:dE) (H:aA),i<N->J i f H->
   FC P g n B f ds H (iX (fun f' fQ H'=>fQ=ds/\FC P g n st f' ds H' (iX (fun f' fQ H'=>fQ=ds/\J (i+1) f' H') (dP id Q))) (dP id Q)))
 (done:∀(f:dE) (H:aA),J N f H->Q .normal f ds H):FC P g n (aEz id c ts B st) f ds H Q:=by
 have mono:∀{c:cF} {f:dE} {ds:List gN} {H:aA} {Q Q':FQ},(∀e f ds H,Q e f ds H->Q' e f ds H)->FC P g n c f ds H Q->FC P g n c f ds H Q':=fun {c f ds H Q Q'} hq h=>jS hq h;refine aJ (Rv (fun m f' fQ H'=>fQ=ds/\∃i:Nat,i<=N/\m=N -i/\J i f' H') N ⟨rfl,0,Az _,by omega,h0⟩ ?_);rintro m f1 rL H1 ⟨rfl,i,hi,rfl,e3⟩;refine aN fun K hK=>?_;refine aN fun K2 bW=>?_;refine mono (fun e f2 Te H2 h=>?_) (test i f1 H1 hi e3 (fun f'=>K2 f' rL H1) (fun f' h1 h2=>?_) (iX K (dP id Q) |> fun Z=>Z))
 . cases e with
   |normal=>obtain⟨rfl,rfl,h⟩:=h;exact h
   |_=>exact h
 apply bW;rw[Tt,dS,h1];by_cases fJ:i<N
 . rw[Aj fJ,EK,MF,gE];apply hK;refine aN fun K3 Ls=>?_;refine mono (fun e f2 Te H2 h=>?_) (body i f' H1 fJ h2)
   cases e with
   |normal=>
    obtain⟨rfl,h⟩:=h;show K3 f2 Te H2;apply Ls;refine mono (fun e f3 ds3 H3 hh=>?_) h
    cases e with
    |normal=>obtain⟨h5,h6⟩:=hh;exact⟨N -(i+1),by omega,h5,i+1,by omega,rfl,h6⟩
    |_=>exact hh
   |_=>exact h
 rw[Ag fJ,zT,ME,oJ,oJ,qQ];obtain rfl:i=N:=by omega
 exact done f' H1 h2
theorem VR.DB {G:Gh} {w:World} {tag sz:Nat} {bB:List (List AV)} {u:Value} (h:VR G w (.bD tag sz bB) u):VR G w (.bD 0 sz bB) u:=by
 cases h with
 |bD _ _ _ b o cap us hu h hv ht=>exact .bD 0 sz bB b o cap us hu h hv ⟨ht.1,trivial⟩
 |vE _ _ b o s ht=>exact .vE _ _ b o s (by omega)
theorem Sound.DB {P:Program} {g:bG} {f:FuncId} {sz:Nat} {bB:List (List AV)} {rest:List AV} {H H':aA} {out:Out} (h:Sound P g f (.bD 0 sz bB::rest) H out H') (tag:Nat):
 Sound P g f (.bD tag sz bB::rest) H out H':=by
 refine⟨h.1,fun G w vs hw hv=>h.2 G w vs hw ⟨hv.1,fun j hj=>?_⟩⟩;have :=hv.2 j hj
 cases j with
 |zero=>exact VR.DB this
 |succ j=>exact this
def oZ (H:aA) (sz:Nat) (v:AV) (bB:List (List AV)):Prop:=Own H sz v bB/\(bB=[]->v=.aO)
theorem oZ.nil (H:aA) (sz:Nat):oZ H sz .aO []:=⟨.nil H sz,fun _=>rfl⟩
theorem oZ.alloc {H:aA} {sz:Nat} {v:AV} {bB:List (List AV)} (h:oZ H sz v bB) (o:fB):oZ (H.alloc o) sz v bB:=⟨h.1.alloc o,h.2⟩
theorem oZ.append {H:aA} {sz bytes:Nat} {v:AV} {bB:List (List AV)} {e:List AV} (h:oZ H sz v bB) (hb:(bB.length+1)*bytes<=2^40):
 ∃v' H',dR H sz bytes false v [e]=some (v',H')/\oZ H' sz v' (bB++[e])/\Wh H H' v:=by
 obtain⟨v',H',h1,h2,h3⟩:=h.1.append (bytes:=bytes) (ys:=[e]) (by simpa using hb);exact⟨v',H',h1,⟨h2,fun he=>by simp at he⟩,h3⟩
def bDu (H:aA) (sz:Nat) (bB:List (List AV)):AV:=if bB=[] then .aO else .bD (H.next+2) sz bB
def bDt (H:aA) (bB:List (List AV)):aA:=if bB=[] then H else H.alloc .tok
theorem oZ.out (H:aA) (sz:Nat) (bB:List (List AV)):oZ (bDt H bB) sz (bDu H sz bB) bB:=by
 unfold bDt bDu;by_cases h:bB=[]
 . subst h;exact oZ.nil _ _
 rw[if_neg h,if_neg h];exact⟨Own.fresh _ _ _,fun he=>absurd he h⟩
theorem bJa:
 (∀{α:Type} (a b:α),(a≠b)=¬(a=b))/\((¬False)=True)/\(∀{α:Type} {_:Decidable True} (a b:α),(if True then a else b)=a)/\((false=true)=False)/\
 (∀{α:Type} {_:Decidable False} (a b:α),(if False then a else b)=b)/\(∀{α β:Type} (f:α->β) (a:α),Option.map f (some a)=some (f a))/\(∀{α:Type} (a:α) (l:List α),(a::l).length=l.length+1)/\
 (∀{α:Type},([]:List α).length=0)/\(∀n:Nat,0+n=n)/\(∀{α:Type} (a d:α) (l:List α),(a::l).getD 0 d=a)/\(∀{α:Type} (a d:α) (l:List α) (n:Nat),(a::l).getD (n+1) d=l.getD n d)/\
 (∀p:Prop,(p/\p)=p)/\(∀n:Nat,(n<=n)=True)/\(∀(p:Prop) [Decidable p] (A B:Prop),sD (.bool (decide p)) A B=((p->A)/\(¬p->B))):=
 ⟨fun a b=>ne_eq a b,Hy,fun a b=>if_true a b,Bb,fun a b=>Bp a b,fun f a=>rfl,fun a l=>rfl,rfl,Cq,fun _ _ _=>rfl,fun _ _ _ _=>rfl,and_self,fun n=>eq_true (Ab n),fun p _ A B=>gm p A B⟩
def sy:=And.intro aCb (And.intro bEd (And.intro bIx (And.intro bIy bJa)))
theorem sn:(∀n:Nat,n*1=n)/\(∀n:Nat,1*n=n)/\(∀n:Nat,0*n=0)/\(∀n:Nat,n -0=n)/\(∀n:Nat,n+0=n)/\(∀n:Nat,0+n=n):=
 ⟨Ed,Hv,Iw,Ix,Cw,Cq⟩
theorem sh:(∀n m:Nat,aA.get ⟨n,.nil⟩ m=none)/\(∀(H:aA) (o:fB) (i:Nat),(H.alloc o).get i=if i=H.next then some o else H.get i)/\(∀(H:aA) (j:Nat) (o:fB) (i:Nat),(H.set j o).get i=if i=j then some o else H.get i)/\
 (∀(H:aA) (o:fB),(H.alloc o).next=H.next+1)/\(∀(H:aA) (j:Nat) (o:fB),(H.set j o).next=H.next)/\(∀n:Nat,0+n=n)/\
 (∀{α:Type} {_:Decidable True} (a b:α),(if True then a else b)=a)/\(∀{α:Type} {_:Decidable False} (a b:α),(if False then a else b)=b):=
 ⟨fun _ _=>rfl,fun _ _ _=>aA.aG ..,fun _ _ _ _=>aA.aC ..,fun _ _=>aA.aR ..,fun _ _ _=>aA.aW ..,Cq,fun a b=>if_true a b,fun a b=>Bp a b⟩
theorem sl:
 (∀{α:Type} (a:α) (l:List α) (n:Nat),(a::l).take (n+1)=a::l.take n)/\(∀{α:Type} (a:α) (l:List α) (n:Nat),(a::l).drop (n+1)=l.drop n)/\(∀{α:Type} (l:List α),l.take 0=[])/\(∀{α:Type} (l:List α),l.drop 0=l)/\
 (∀{α:Type} (n:Nat),([]:List α).take n=[])/\(∀{α:Type} (n:Nat),([]:List α).drop n=[])/\(∀{α:Type} (a:α) (l m:List α),a::l++m=a::(l++m))/\(∀{α:Type} (l:List α),[]++l=l)/\(∀{α:Type} (l:List α),l++[]=l)/\
 (∀{α β:Type} (f:α->β) (a:α) (l:List α),(a::l).map f=f a::l.map f)/\(∀{α β:Type} (f:α->β),[].map f=[])/\(∀{α:Type} (a d:α) (l:List α),(a::l).getD 0 d=a)/\
 (∀{α:Type} (a d:α) (l:List α) (n:Nat),(a::l).getD (n+1) d=l.getD n d)/\(∀{α:Type} (a b:α) (l:List α),(a::l).set 0 b=b::l)/\(∀{α:Type} (a b:α) (l:List α) (n:Nat),(a::l).set (n+1) b=a::l.set n b):=
 ⟨fun _ _ _=>rfl,fun _ _ _=>rfl,fun l=>Fc,fun _=>rfl,fun n=>List.take_nil,fun n=>Kk,fun _ _ _=>rfl,fun _=>rfl,fun l=>Ch l,fun _ _ _=>rfl,fun _=>rfl,fun _ _ _=>rfl,fun _ _ _ _=>rfl,fun _ _ _=>rfl,fun _ _ _ _=>rfl⟩
theorem sm:(∀{α β:Type} (f:α->β) (a:α) (l:List α),(a::l).map f=f a::l.map f)/\(∀{α β:Type} (f:α->β),[].map f=[])/\(∀{α:Type} (a b:α),(a≠b)=¬(a=b))/\((¬False)=True)/\
 (∀{α:Type} (a d:α) (l:List α),(a::l).getD 0 d=a)/\(∀{α:Type} (a d:α) (l:List α) (n:Nat),(a::l).getD (n+1) d=l.getD n d):=
 ⟨fun _ _ _=>rfl,fun _=>rfl,fun a b=>ne_eq a b,Hy,fun _ _ _=>rfl,fun _ _ _ _=>rfl⟩
end
section
def eF (P:Program) (g:bG) (n:Nat) (pairs:List (Nat×Nat)) (base:Nat):Nat->Nat->List bK->List (Nat×Nat)->List (Nat×aA×aA)->dE->aA->(dE->aA->Prop)->Prop
 |_,_,[],_,_,f,H,Q=>Q f H
 |i,k,r::rs,rd,ef,f,H,Q=>
  if iE f r=true then
  match r.op with
  |.call c azs=>∃v H',ED P g r f H v H'/\H.next<=H'.next/\(∀x∈rd,(x.1,i)∈pairs->H.get x.2=H'.get x.2)/\
    eF P g n pairs base (i+1) k rs rd ((i,H,H')::ef) (fM n f r.dst v) H' Q
  |.panic _|.lD _ _=>False
  |op=>
   if op.fresh then
    match xB (nH g f) op with
    |some (ob,val)=>(∀x∈ef,(i,x.1)∈pairs->x.2.1.get (base+k)=x.2.2.get (base+k))/\
     eF P g n pairs base (i+1) (k+1) rs ((i,base+k)::rd) ef (fM n f r.dst (val (base+k))) (H.set (base+k) ob) Q
    |none=>False
   else if op.pP then
    mA (dA (nH g f) H op) fun v H'=>H.next<=H'.next/\(∀x∈rd,(x.1,i)∈pairs->H.get x.2=H'.get x.2)/\
     eF P g n pairs base (i+1) k rs rd ((i,H,H')::ef) (fM n f r.dst v) H' Q
   else
    mA (dA (nH g f) H op) fun v H'=>H'=H/\(∀id,op.dK (nH g f)=some id->∀x∈ef,(i,x.1)∈pairs->x.2.1.get id=x.2.2.get id)/\
     eF P g n pairs base (i+1) k rs (match op.dK (nH g f) with|some id=>(i,id)::rd|none=>rd) ef (fM n f r.dst v) H Q
  else eF P g n pairs base (i+1) (if r.op.fresh then k+1 else k) rs rd ef (fM n f r.dst aD) H Q
section
variable {P:Program} {g:bG} {n:Nat} {pairs:List (Nat×Nat)} {base:Nat}
theorem pV:∀(rl:List bK) (i k:Nat) (rd:List (Nat×Nat)) (ef:List (Nat×aA×aA)) (f:dE) (H:aA) (Q:dE->aA->Prop),eF P g n pairs base i k rl rd ef f H Q->Wf P g n pairs base i k rl rd ef f H Q
 |[],i,k,rd,ef,f,H,Q,h=>h
 |r::rs,i,k,rd,ef,f,H,Q,h=>by
  unfold eF at h;unfold Wf;split at h
  . rename_i hw;rw[if_pos hw];split at h
    . rename_i c azs fK;obtain⟨v,H',h1,h2,h3,h4⟩:=h;rw[if_neg (by simp[fK,eE.fresh]),if_pos (by simp[fK,eE.pP])];exact⟨v,H',h1,h2,h3,pV rs _ _ _ _ _ _ _ h4⟩
    . exact h.elim
    . exact h.elim
    rename_i n1 n2 n3
    have hq:∀v H',dA (nH g f) H r.op=some (v,H')->ED P g r f H v H':=by
     intro v H' ha;unfold ED;split
     . rename_i c azs fK;exact absurd fK (n1 c azs)
     . rename_i x fK;exact absurd fK (n2 x)
     . rename_i c azs fK;exact absurd fK (n3 c azs)
     exact ha
    split at h
    . rename_i hf;rw[if_pos hf];split at h
      . rename_i ob val ho;exact⟨ob,val,ho,h.1,pV rs _ _ _ _ _ _ _ h.2⟩
      exact h.elim
    rename_i hf;rw[if_neg hf];unfold mA at h;split at h
    . rename_i he;rw[if_pos he];split at h
      . rename_i v H' ha;exact⟨v,H',hq v H' ha,h.1,h.2.1,pV rs _ _ _ _ _ _ _ h.2.2⟩
      exact h.elim
    rename_i he;rw[if_neg he];split at h
    . rename_i v H' ha;obtain⟨rfl,h2,h3⟩:=h;exact⟨v,hq v _ ha,h2,pV rs _ _ _ _ _ _ _ h3⟩
    exact h.elim
  rename_i hw;rw[if_neg hw];exact pV rs _ _ _ _ _ _ _ h
variable {ds:List gN} {Q:FQ} {f:dE} {H:aA}
theorem Tu {rl:List bK} (h0:rl.countP (·.op.fresh)=0) (h:eF P g n pairs H.next 0 0 rl [] [] f H fun f' H'=>Q .normal f' ds H'):FC P g n (.draw rl pairs) f ds H Q:=by refine .inl ⟨by rw[h0];rfl,?_⟩;rw[h0];exact pV _ _ _ _ _ _ _ _ h
theorem aCq {rl:List bK} (c:Nat) (h0:rl.countP (·.op.fresh)=c) (hf:mR H c=true) (h:eF P g n pairs H.next 0 0 rl [] [] f {H with next:=H.next+c} fun f' H'=>Q .normal f' ds H'):FC P g n (.draw rl pairs) f ds H Q:=by refine .inl ⟨by rw[h0];exact hf,?_⟩;rw[h0];exact pV _ _ _ _ _ _ _ _ h
theorem jV {rl:List bK} (c:Nat) (h0:rl.countP (·.op.fresh)=c) (hf:mR H c=true)
 (h:∀H1:aA,H1.next=H.next+c->(∀id,H1.get id=H.get id)->eF P g n pairs H.next 0 0 rl [] [] f H1 fun f' H'=>Q .normal f' ds H'):FC P g n (.draw rl pairs) f ds H Q:=
 aCq c h0 hf (h _ rfl fun _=>rfl)
variable {i k:Nat} {rs:List bK} {rd:List (Nat×Nat)} {ef:List (Nat×aA×aA)} {R:dE->aA->Prop}
theorem ZE:eF P g n pairs base i k [] rd ef f H R=R f H:=eD id id
theorem ee (d:Nat) (op:eE) (hp:op.plain=true) (hf:op.fresh=false) (he:op.pP=false) (hd:d<n):
 eF P g n pairs base i k (⟨some d,op,none⟩::rs) rd ef f H R=mA (dA (nH g f) H op) fun v H'=>H'=H/\(∀id,op.dK (nH g f)=some id->∀x∈ef,(i,x.1)∈pairs->x.2.1.get id=x.2.2.get id)/\
       eF P g n pairs base (i+1) k rs (match op.dK (nH g f) with|some id=>(i,id)::rd|none=>rd) ef (kH f d v) H R:=by
 have :∀v,fM n f (some d) v=kH f d v:=fun v=>by simp[fM,hd]
 conv=>lhs;unfold eF
 rw[if_pos (by rfl)];simp only[hf,he,this]
 cases op<;>first|rfl|(simp[eE.fresh] at hf;done)|(simp[eE.pP] at he;done)|(simp[eE.plain] at hp;done)
theorem eg (m:Nat) (a x:Arg):
 eF P g n pairs base i k (⟨none,.store m a x,none⟩::rs) rd ef f H R=mA (dA (nH g f) H (.store m a x)) fun v H'=>H.next<=H'.next/\(∀x∈rd,(x.1,i)∈pairs->H.get x.2=H'.get x.2)/\
       eF P g n pairs base (i+1) k rs rd ((i,H,H')::ef) f H' R:=by
 conv=>lhs;unfold eF
 rw[if_pos (by rfl)];simp only[eE.fresh,eE.pP,Bb,Bp,if_true,fM]
theorem dv (d:Nat) (z:List AV) (hd:d<n):
 eF P g n pairs base i k (⟨some d,.alloc z,none⟩::rs) rd ef f H R=((∀x∈ef,(i,x.1)∈pairs->x.2.1.get (base+k)=x.2.2.get (base+k))/\
       eF P g n pairs base (i+1) (k+1) rs ((i,base+k)::rd) ef (kH f d (.ref (base+k) 0)) (H.set (base+k) (.cells z false)) R):=by
 have :∀v,fM n f (some d) v=kH f d v:=fun v=>by simp[fM,hd]
 conv=>lhs;unfold eF
 rw[if_pos (by rfl)];simp only[eE.fresh,if_true,xB,this]
theorem We (d:Nat) (sz bytes:Nat) (mu:Bool) (x y:Arg) (hd:d<n):
 eF P g n pairs base i k (⟨some d,.append sz bytes mu x y,none⟩::rs) rd ef f H R=mA (dA (nH g f) H (.append sz bytes mu x y)) fun v H'=>H.next<=H'.next/\(∀x∈rd,(x.1,i)∈pairs->H.get x.2=H'.get x.2)/\
       eF P g n pairs base (i+1) k rs rd ((i,H,H')::ef) (kH f d v) H' R:=by
 have :∀v,fM n f (some d) v=kH f d v:=fun v=>by simp[fM,hd]
 conv=>lhs;unfold eF
 rw[if_pos (by rfl)];simp only[eE.fresh,eE.pP,Bb,Bp,if_true,this]
theorem iQ {d:Nat} {fid:FuncId} {azs:List Arg} {args:List AV} {v:AV} {H':aA} (hd:d<n) (ha:azs.map (nH g f)=args) (hS:Sound P g fid args H (.ret v) H') (hn:H.next<=H'.next)
 (hr:∀x∈rd,(x.1,i)∈pairs->H.get x.2=H'.get x.2)
 (h:eF P g n pairs base (i+1) k rs rd ((i,H,H')::ef) (kH f d v) H' R):eF P g n pairs base i k (⟨some d,.call (.const (.func (.func fid) [] [])) azs,none⟩::rs) rd ef f H R:=by
 have :∀v,fM n f (some d) v=kH f d v:=fun v=>by simp[fM,hd]
 unfold eF;rw[if_pos (by rfl)];simp only[this];refine⟨v,H',?_,hn,hr,h⟩;exact⟨(fid,[],[]),rfl,by simpa [ha] using hS⟩
theorem Pg (d:Option Nat) (x:Nat) (b:Bool) (op:eE) (A B:Prop):jP (f x) b A B=if iE f ⟨d,op,some (x,b)⟩=true then A else B:=by
 by_cases hw:iE f ⟨d,op,some (x,b)⟩=true
 . rw[if_pos hw];unfold iE at hw;dsimp only at hw;split at hw
   . rename_i c hc;rw[hc];unfold jP;dsimp only;rw[if_pos (by simpa using hw)]
   cases hw
 rw[if_neg hw];unfold iE at hw;dsimp only at hw;unfold jP;split
 . rename_i c hc;rw[hc] at hw;rw[if_neg (by simpa using hw)]
 rfl
theorem aUm (d x:Nat) (b:Bool) (op:eE) (hd:d<n):
 eF P g n pairs base i k (⟨some d,op,some (x,b)⟩::rs) rd ef f H R=jP (f x) b (eF P g n pairs base i k (⟨some d,op,none⟩::rs) rd ef f H R) (eF P g n pairs base (i+1) (if op.fresh then k+1 else k) rs rd ef (kH f d aD) H R):=by
 have :∀v,fM n f (some d) v=kH f d v:=fun v=>by simp[fM,hd]
 rw[Pg (some d) x b op];by_cases hw:iE f ⟨some d,op,some (x,b)⟩=true
 . rw[if_pos hw]
   conv=>lhs;unfold eF
   conv=>rhs;unfold eF
   rw[if_pos hw,if_pos (by rfl)];rfl
 rw[if_neg hw]
 conv=>lhs;unfold eF
 rw[if_neg hw,this]
theorem aT {f':dE} {rl:List bK} (h:f=f'):eF P g n pairs base i k rl rd ef f H R=eF P g n pairs base i k rl rd ef f' H R:=by rw[h]
end
theorem bIz (P:Program) (g:bG) (n:Nat):
 (∀(pairs:List (Nat×Nat)) (base i k:Nat) (rs:List bK) (rd:List (Nat×Nat)) (ef:List (Nat×aA×aA)) (f:dE) (H:aA) (R:dE->aA->Prop),eF P g n pairs base i k [] rd ef f H R=R f H)/\
 (∀(pairs:List (Nat×Nat)) (base i k:Nat) (rs:List bK) (rd:List (Nat×Nat)) (ef:List (Nat×aA×aA)) (f:dE) (H:aA) (R:dE->aA->Prop) (m:Nat) (a x:Arg),
   eF P g n pairs base i k (⟨none,.store m a x,none⟩::rs) rd ef f H R=mA (dA (nH g f) H (.store m a x)) fun v H'=>H.next<=H'.next/\(∀x∈rd,(x.1,i)∈pairs->H.get x.2=H'.get x.2)/\
       eF P g n pairs base (i+1) k rs rd ((i,H,H')::ef) f H' R)/\
 (∀(pairs:List (Nat×Nat)) (base i k:Nat) (rs:List bK) (rd:List (Nat×Nat)) (ef:List (Nat×aA×aA)) (f:dE) (H:aA) (R:dE->aA->Prop) (d:Nat) (z:List AV) (hd:d<n),
   eF P g n pairs base i k (⟨some d,.alloc z,none⟩::rs) rd ef f H R=((∀x∈ef,(i,x.1)∈pairs->x.2.1.get (base+k)=x.2.2.get (base+k))/\
       eF P g n pairs base (i+1) (k+1) rs ((i,base+k)::rd) ef (kH f d (.ref (base+k) 0)) (H.set (base+k) (.cells z false)) R))/\
 (∀(pairs:List (Nat×Nat)) (base i k:Nat) (rs:List bK) (rd:List (Nat×Nat)) (ef:List (Nat×aA×aA)) (f:dE) (H:aA) (R:dE->aA->Prop) (d sz bytes:Nat) (mu:Bool) (x y:Arg) (hd:d<n),
   eF P g n pairs base i k (⟨some d,.append sz bytes mu x y,none⟩::rs) rd ef f H R=mA (dA (nH g f) H (.append sz bytes mu x y)) fun v H'=>H.next<=H'.next/\(∀x∈rd,(x.1,i)∈pairs->H.get x.2=H'.get x.2)/\
       eF P g n pairs base (i+1) k rs rd ((i,H,H')::ef) (kH f d v) H' R)/\
 (∀(pairs:List (Nat×Nat)) (base i k:Nat) (rs:List bK) (rd:List (Nat×Nat)) (ef:List (Nat×aA×aA)) (f:dE) (H:aA) (R:dE->aA->Prop) (d x:Nat) (b:Bool) (op:eE) (hd:d<n),
   eF P g n pairs base i k (⟨some d,op,some (x,b)⟩::rs) rd ef f H R=jP (f x) b (eF P g n pairs base i k (⟨some d,op,none⟩::rs) rd ef f H R) (eF P g n pairs base (i+1) (if op.fresh then k+1 else k) rs rd ef (kH f d aD) H R)):=
 ⟨fun _ _ _ _ _ _ _ _ _ _=>ZE,fun _ _ _ _ _ _ _ _ _ _ m a x=>eg m a x,
  fun _ _ _ _ _ _ _ _ _ _ d z hd=>dv d z hd,fun _ _ _ _ _ _ _ _ _ _ d sz bytes mu x y hd=>We d sz bytes mu x y hd,
  fun _ _ _ _ _ _ _ _ _ _ d x b op hd=>aUm d x b op hd⟩
def YT (id cmp ix nx:Nat) (N:Int) (B:cF):cF:=
 .block id (.loop (.seq (.ops [⟨some cmp,.bin .lss (.tmp ix) (.const (.int .i64 N)),none⟩]) (.seq (.cond (.tmp cmp) .skip (.exit id)) (.seq B
  (.ops [⟨some nx,.bin .add (.tmp ix) (.const (.int .i64 1)),none⟩,⟨some ix,.TC (.tmp nx),none⟩])))))
theorem dt {P:Program} {g:bG} {n:Nat} {id cmp ix nx:Nat} {B:cF} {f:dE} {ds:List gN} {H:aA} {Q:FQ} (J:Nat->dE->aA->Prop) (N:Nat) {N':Int} (hN:(N:Int)<2^63)
 (hNN:N'=(N:Int))
 (hs:cmp<n/\ix<n/\nx<n/\cmp≠ix/\nx≠ix)
 (h1:f ix=.int .i64 0) (h0:J 0 f H)
 (st:∀(i:Nat) (f:dE) (H:aA) (d:Nat) (v:AV),d=cmp\/d=nx\/d=ix->J i f H->J i (kH f d v) H)
 (body:∀(i:Nat) (f:dE) (H:aA),i<N->f ix=.int .i64 i->J i f H->
   FC P g n B f ds H (iX (fun f' fQ H'=>fQ=ds/\f' ix=.int .i64 i/\J (i+1) f' H') (dP id Q)))
 (done:∀(f:dE) (H:aA),J N f H->Q .normal f ds H):FC P g n (YT id cmp ix nx N' B) f ds H Q:=by
 subst hNN;obtain⟨s1,s2,s3,s4,s7⟩:=hs;refine aJ (Rv (fun m f' fQ H'=>fQ=ds/\∃i:Nat,i<=N/\m=N -i/\f' ix=.int .i64 i/\J i f' H') N ⟨rfl,0,Az _,by omega,h1,h0⟩ ?_);rintro m f1 rL H1 ⟨rfl,i,hi,rfl,e1,e3⟩;refine aN fun K hK=>?_;rw[JM,yY _ _ _ _ s1];simp only[dA,dS,vZ,e1,pY,if_true,Bu,cE,vR,gE];apply hK;clear hK K;have st1:=st i f1 H1 cmp (.bool (decide ((i:Int)<N))) (.inl rfl) e3;refine aN fun K hK=>Ru (decide ((i:Int)<N)) (by rw[dS,rJ]) (fun ht=>?_) (fun ht=>?_)
 . rw[MF,gE];apply hK;clear hK K;have fJ:i<N:=by have :=Cu ht;omega
   refine aN fun K hK=>?_;have hb:=body i _ H1 fJ (by rw[oM _ _ (Ne.symm s4)];exact e1) st1;have mono:∀{c:cF} {f:dE} {ds:List gN} {H:aA} {Q Q':FQ},(∀e f ds H,Q e f ds H->Q' e f ds H)->FC P g n c f ds H Q->FC P g n c f ds H Q':=fun {c f ds H Q Q'} hq h=>jS hq h;refine mono (fun e f2 Te H2 h=>?_) hb
   cases e with
   |normal=>obtain⟨rfl,b1,b3⟩:=h;show K f2 Te H2;apply hK;rw[JM,yY _ _ _ _ s3];have hw:IntKind.i64.wrap ((i:Int)+1)=((i+1:Nat):Int):=(by rw[wrap_i64 (by omega) (by omega)];rfl);simp only[dA,dS,vZ,b1,pY,if_true,Bu,cE];rw[GI _ _ s2];simp only[dA,dS,cE,vR,gE,rJ,hw];exact⟨N -(i+1),by omega,trivial,i+1,by omega,rfl,rfl,st _ _ _ _ _ (.inr (.inr rfl)) (st _ _ _ _ _ (.inr (.inl rfl)) b3)⟩
   |_=>exact h
 rw[ME,oJ,oJ,qQ];have LQ:i=N:=by have :=Dn ht;omega
 subst LQ;exact done _ _ st1
class Pp (op:eE):Prop where
 h:op.plain=true
 f:op.fresh=false
 e:op.pP=false
instance (x:Arg):Pp (.TC x):=⟨rfl,rfl,rfl⟩
instance (c a b:Arg):Pp (.pick c a b):=⟨rfl,rfl,rfl⟩
instance (z:List AV) (ps:List (Nat×Nat×Arg)):Pp (.build z ps):=⟨rfl,rfl,rfl⟩
instance (sz:Nat) (xs:List Arg):Pp (.OR sz xs):=⟨rfl,rfl,rfl⟩
instance (agg:Bool) (m:Nat) (a:Arg):Pp (.load agg m a):=⟨rfl,rfl,rfl⟩
instance (x:Arg):Pp (.OS x):=⟨rfl,rfl,rfl⟩
instance (o:BinOp) (x y:Arg):Pp (.bin o x y):=⟨rfl,rfl,rfl⟩
instance (neg:Bool) (x y:Arg):Pp (.eqb neg x y):=⟨rfl,rfl,rfl⟩
instance (neg:Bool) (sh:List Sk) (x y:Arg):Pp (.eqf neg sh x y):=⟨rfl,rfl,rfl⟩
instance (neg:Bool) (k:Nk) (lit:Bool) (x y:Arg):Pp (.tz neg k lit x y):=⟨rfl,rfl,rfl⟩
instance (o:UnOp) (x:Arg):Pp (.un o x):=⟨rfl,rfl,rfl⟩
instance (k:IntKind) (x:Arg):Pp (.NQ k x):=⟨rfl,rfl,rfl⟩
instance (x:Arg):Pp (.DH x):=⟨rfl,rfl,rfl⟩
instance (m:Nat) (x:Arg):Pp (.Yh m x):=⟨rfl,rfl,rfl⟩
instance (t:TypeId) (x:Arg):Pp (.Xu t x):=⟨rfl,rfl,rfl⟩
instance (fn:Fn) (a b:List Arg):Pp (.Xt fn a b):=⟨rfl,rfl,rfl⟩
instance (x:Arg) (lo hi:Option Arg):Pp (.Oz x lo hi):=⟨rfl,rfl,rfl⟩
instance (sz:Nat) (x:Arg) (lo hi mx:Option Arg):Pp (.Yk sz x lo hi mx):=⟨rfl,rfl,rfl⟩
instance (m sz:Nat) (x:Arg) (lo hi mx:Option Arg):Pp (.DY m sz x lo hi mx):=⟨rfl,rfl,rfl⟩
instance (off:Nat) (x:Arg):Pp (.XP off x):=⟨rfl,rfl,rfl⟩
instance (arr:Option Nat) (sz:Nat) (x i:Arg):Pp (.Sq arr sz x i):=⟨rfl,rfl,rfl⟩
instance (m sz:Nat) (agg:Bool) (x i:Arg):Pp (.idx m sz agg x i):=⟨rfl,rfl,rfl⟩
instance (x i:Arg):Pp (.idxs x i):=⟨rfl,rfl,rfl⟩
instance (t:TypeId) (ok:Bool) (z:AV) (x:Arg):Pp (.Ys t ok z x):=⟨rfl,rfl,rfl⟩
instance (x:Arg) (i:Nat):Pp (.XN x i):=⟨rfl,rfl,rfl⟩
instance (x:Arg):Pp (.lens x):=⟨rfl,rfl,rfl⟩
instance (x:Arg):Pp (.OF x):=⟨rfl,rfl,rfl⟩
instance (x y:Arg):Pp (.VI x y):=⟨rfl,rfl,rfl⟩
instance (x y:Arg):Pp (.VL x y):=⟨rfl,rfl,rfl⟩
instance (k:Sk) (z:AV) (ok:Bool) (x i:Arg):Pp (.lookup k z ok x i):=⟨rfl,rfl,rfl⟩
theorem bEe (P:Program) (g:bG) (n:Nat) (pairs:List (Nat×Nat)) (base i0 k0:Nat) (rs:List bK) (rd:List (Nat×Nat)) (ef:List (Nat×aA×aA)) (f:dE) (H:aA) (R:dE->aA->Prop) (d:Nat) (op:eE) [Pp op] (hd:d<n):
 eF P g n pairs base i0 k0 (⟨some d,op,none⟩::rs) rd ef f H R=mA (dA (nH g f) H op) fun v H'=>H'=H/\(∀id,op.dK (nH g f)=some id->∀x∈ef,(i0,x.1)∈pairs->x.2.1.get id=x.2.2.get id)/\
     eF P g n pairs base (i0+1) k0 rs (match op.dK (nH g f) with|some id=>(i0,id)::rd|none=>rd) ef (kH f d v) H R:=
 ee d op Pp.h Pp.f Pp.e hd
end
end Go.Av
