/-
  Part of the proof of statement 11
-/
import Derived.Test.YtgggiembljfnhaaGreatDoorA04
import Derived.Recover
set_option linter.unusedVariables false
set_option linter.unusedSimpArgs false
set_option linter.unusedSectionVars false
set_option linter.defProp false
namespace Go.Av
open Go
section
inductive VT where
 |nil
 |node (v:AV) (l r:VT)
def VT.get:VT->Nat->AV
 |.nil,_=>aC
 |.node v l r,n=>match n with
  |0=>v
  |m+1=>match Nat.beq (Nat.mod m 2) 0 with
   |true=>l.get (Nat.div m 2)
   |false=>r.get (Nat.div m 2)
def VT.root:VT->AV
 |.nil=>aC
 |.node v _ _=>v
def VT.left:VT->VT
 |.nil=>.nil
 |.node _ l _=>l
def VT.right:VT->VT
 |.nil=>.nil
 |.node _ _ r=>r
def VT.BI:Nat->VT->Nat->AV->VT
 |0,t,_,v=>.node v t.left t.right
 |f+1,t,n,v=>match n with
  |0=>.node v t.left t.right
  |m+1=>match Nat.beq (Nat.mod m 2) 0 with
   |true=>.node t.root (VT.BI f t.left (Nat.div m 2) v) t.right
   |false=>.node t.root t.left (VT.BI f t.right (Nat.div m 2) v)
theorem VT.HO (t:VT):t.get 0=t.root:=by cases t<;>rfl
theorem VT.wK (t:VT) (m:Nat):t.get (m+1)=if Nat.beq (Nat.mod m 2) 0=true then t.left.get (Nat.div m 2) else t.right.get (Nat.div m 2):=by
 cases t with
 |nil=>simp[VT.get,VT.left,VT.right]
 |node v l r=>simp only[VT.get,VT.left,VT.right];cases Nat.beq (Nat.mod m 2) 0<;>rfl
theorem Ug {m k:Nat} (h1:Nat.beq (Nat.mod m 2) 0=Nat.beq (Nat.mod k 2) 0) (h2:Nat.div m 2=Nat.div k 2):m=k:=by
 have a1:m%2=Nat.mod m 2:=rfl;have a2:k%2=Nat.mod k 2:=rfl;have a3:m / 2=Nat.div m 2:=rfl;have a4:k / 2=Nat.div k 2:=rfl
 have h4:m%2=0↔k%2=0:=by
  constructor
  . intro h;refine Be (?_:Nat.beq (Nat.mod k 2) 0=true);rw[<-h1];show Nat.beq (m%2) 0=true;rw[h];rfl
  intro h;refine Be (?_:Nat.beq (Nat.mod m 2) 0=true);rw[h1];show Nat.beq (k%2) 0=true;rw[h];rfl
 omega
theorem VT.HN:∀(f:Nat) (t:VT) (n:Nat) (v:AV) (m:Nat),n<=f->(VT.BI f t n v).get m=if m=n then v else t.get m:=by
 intro f
 induction f with
 |zero=>
  intro t n v m hn;obtain rfl:n=0:=by omega
  cases m with
  |zero=>simp[VT.BI,VT.HO,VT.root]
  |succ m=>simp[VT.BI,VT.wK,VT.left,VT.right]
 |succ f ih=>
  intro t n v m hn
  cases n with
  |zero=>
   cases m with
   |zero=>simp[VT.BI,VT.HO,VT.root]
   |succ m=>simp[VT.BI,VT.wK,VT.left,VT.right]
  |succ n=>
   have hd:Nat.div n 2<=f:=Ce (Jr n 2) (by omega)
   cases hb:Nat.beq (Nat.mod n 2) 0 with
   |true=>
    simp only[VT.BI,hb]
    cases m with
    |zero=>simp[VT.HO,VT.root]
    |succ m=>
     rw[VT.wK,VT.wK];simp only[VT.left,VT.right]
     cases uz:Nat.beq (Nat.mod m 2) 0 with
     |true=>
      simp only[if_true];rw[ih _ _ _ _ hd];by_cases he:Nat.div m 2=Nat.div n 2
      . rw[if_pos he,if_pos];rw[Ug (by rw[hb,uz]) he]
      rw[if_neg he,if_neg];intro hh;apply he;rw[Nat.succ.inj hh]
     |false=>simp only[Bb,Bq];rw[if_neg];intro hh;rw[Nat.succ.inj hh,hb] at uz;cases uz
   |false=>
    simp only[VT.BI,hb]
    cases m with
    |zero=>simp[VT.HO,VT.root]
    |succ m=>
     rw[VT.wK,VT.wK];simp only[VT.left,VT.right]
     cases uz:Nat.beq (Nat.mod m 2) 0 with
     |false=>
      simp only[Bb,Bq];rw[ih _ _ _ _ hd];by_cases he:Nat.div m 2=Nat.div n 2
      . rw[if_pos he,if_pos];rw[Ug (by rw[hb,uz]) he]
      rw[if_neg he,if_neg];intro hh;apply he;rw[Nat.succ.inj hh]
     |true=>simp only[if_true];rw[if_neg];intro hh;rw[Nat.succ.inj hh,hb] at uz;cases uz
def VT.set (t:VT) (n:Nat) (v:AV):VT:=VT.BI n t n v
theorem VT.aD (t:VT) (n:Nat) (v:AV) (m:Nat):(t.set n v).get m=if m=n then v else t.get m:=VT.HN n t n v m (Ab _)
def Ku (n:Nat) (T:VT):List AV:=(List.range n).map T.get
def Ll (n:Nat) (T:VT):Prop:=∀t,n<=t->T.get t=aC
def wZ (n:Nat) (T:VT) (dst:Option Nat) (v:AV):VT:=
 match dst with
 |none=>T
 |some d=>match Nat.blt d n with
  |true=>T.set d v
  |false=>T
theorem Ll.put {n:Nat} {T:VT} (h:Ll n T) (dst:Option Nat) (v:AV):Ll n (wZ n T dst v):=by
 unfold wZ;split
 . exact h
 rename_i d
 cases hb:Nat.blt d n with
 |true=>
  intro t ht;rw[VT.aD,if_neg]
  . exact h t ht
  intro hh;have :d<n:=by simpa [Gq] using hb
  omega
 |false=>exact h
theorem PC {n:Nat} {T:VT} (h:Ll n T) (t:Nat):(Ku n T).getD t aC=T.get t:=by
 unfold Ku;rw[getD_eq,Cw];by_cases ht:t<n
 . simp[ht]
 rw[h t (by omega)];simp[ht]
theorem qS {n:Nat} {T:VT} (dst:Option Nat) (v:AV):Ku n (wZ n T dst v)=mZ (Ku n T) dst v:=by
 unfold wZ mZ
 cases dst with
 |none=>rfl
 |some d=>
  simp only;unfold Ku;apply Gd;intro i;rw[Gz]
  cases hb:Nat.blt d n with
  |true=>
   have hd:d<n:=(by simpa [Gq] using hb);simp only[Cw,Af,Bv,hd,if_true];by_cases hi:d=i
   . subst hi;simp[hd,VT.aD]
   rw[if_neg hi];by_cases gR:i<n
   . simp[gR,VT.aD,Ne.symm hi]
   simp[gR]
  |false=>
   have hd:¬d<n:=by intro hh;have :Nat.blt d n=true:=(by simpa [Gq] using hh);rw[hb] at this;cases this
   simp only[Cw,Af,Bv,hd,Bq];by_cases hi:d=i
   . subst hi;simp[hd]
   rw[if_neg hi]
def yH (n:Nat):List AV->Nat->VT->VT
 |[],_,T=>T
 |v::vs,i,T=>yH n vs (i+1) (wZ n T (some i) v)
def WG (g:bG) (T:VT):Arg->AV
 |.tmp t=>T.get t
 |.const v=>v
 |.jD n=>match g n with
  |some cs=>.pl cs
  |none=>aC
theorem ES {n:Nat} {T:VT} (h:Ll n T) (g:bG):WG g T=Arg.eval g (Ku n T):=by
 funext x
 cases x with
 |tmp t=>exact(PC h t).symm
 |const v=>rfl
 |jD n=>rfl
def Mh (T:VT) (o:bK):Bool:=
 match o.guard with
 |none=>true
 |some (d,b)=>match T.get d with
  |.bool c=>c==b
  |_=>false
theorem PF {n:Nat} {T:VT} (h:Ll n T) (o:bK):Mh T o=bU (Ku n T) o:=by
 unfold Mh bU
 cases o.guard with
 |none=>rfl
 |some p=>simp only[PC h];cases T.get p.1<;>rfl
mutual
def AV.same:AV->AV->Bool
 |.bool a,.bool b=>a==b
 |.int j a,.int k b=>decide (j=k)&&decide (a=b)
 |.str a,.str b=>a==b
 |.KV,.KV=>true
 |.ref i o,.ref j p=>i==j&&o==p
 |.pl a,.pl b=>rE a b
 |.aR,.aR=>true
 |.bB t s e,.bB t' s' e'=>t==t'&&s==s'&&Kn e e'
 |.sl a b c d e,.sl a' b' c' d' e'=>a==a'&&b==b'&&c==c'&&d==d'&&e==e'
 |.func f a b,.func f' a' b'=>decide (f=f')&&rE a a'&&rE b b'
 |.AU,.AU=>true
 |.iface t v,.iface t' v'=>decide (t=t')&&v.same v'
 |.wV,.wV=>true
 |.agg a,.agg b=>rE a b
 |.iA a,.iA b=>rE a b
 |.map i,.map j=>i==j
 |.rT,.rT=>true
 |_,_=>false
def rE:List AV->List AV->Bool
 |[],[]=>true
 |x::r,y::s=>x.same y&&rE r s
 |_,_=>false
def Kn:List (List AV)->List (List AV)->Bool
 |[],[]=>true
 |x::r,y::s=>rE x y&&Kn r s
 |_,_=>false
end
mutual
theorem AV.TL:∀(a b:AV),a.same b=true->a=b:=by
 intro a b h
 cases a<;>cases b<;>simp only[AV.same,Al,Ca,Bd] at h<;>first
  |rfl
  |(cases h;done)
  |(subst h;rfl)
  |(obtain⟨h1,h2⟩:=h;subst h1;subst h2;rfl)
  |(obtain⟨⟨⟨⟨h1,h2⟩,h3⟩,h4⟩,h5⟩:=h;subst h1;subst h2;subst h3;subst h4;subst h5;rfl)
  |(rw[nF _ _ h];done)
  |(obtain⟨h1,h2⟩:=h;subst h1;rw[AV.TL _ _ h2];done)
  |(obtain⟨⟨h1,h2⟩,h3⟩:=h;subst h1;subst h2;rw[RY _ _ h3];done)
  |(obtain⟨⟨h1,h2⟩,h3⟩:=h;subst h1;rw[nF _ _ h2,nF _ _ h3];done)
theorem nF:∀(a b:List AV),rE a b=true->a=b:=by
 intro a b h
 cases a with
 |nil=>cases b with
  |nil=>rfl
  |cons y s=>simp[rE] at h
 |cons x r=>cases b with
  |nil=>simp[rE] at h
  |cons y s=>simp only[rE,Al] at h;rw[AV.TL _ _ h.1,nF _ _ h.2]
theorem RY:∀(a b:List (List AV)),Kn a b=true->a=b:=by
 intro a b h
 cases a with
 |nil=>cases b with
  |nil=>rfl
  |cons y s=>simp[Kn] at h
 |cons x r=>cases b with
  |nil=>simp[Kn] at h
  |cons y s=>simp only[Kn,Al] at h;rw[nF _ _ h.1,RY _ _ h.2]
end
def Ma:Option fC->Option fC->Bool
 |none,none=>true
 |some (.cells a o),some (.cells b p)=>rE a b&&o==p
 |some .tok,some .tok=>true
 |some .dead,some .dead=>true
 |some (.map a),some (.map b)=>rE (a.map (·.1)) (b.map (·.1))&&rE (a.map (·.2)) (b.map (·.2))
 |_,_=>false
theorem kq {a b:List (AV×AV)} (h1:a.map (·.1)=b.map (·.1)) (h2:a.map (·.2)=b.map (·.2)):a=b:=by
 induction a generalizing b with
 |nil=>cases b with
  |nil=>rfl
  |cons y s=>simp at h1
 |cons x r ih=>cases b with
  |nil=>simp at h1
  |cons y s=>simp only[Cd,Ip] at h1 h2;rw[ih h1.2 h2.2,Prod.ext h1.1 h2.1]
theorem Oq {a b:Option fC} (h:Ma a b=true):a=b:=by
 unfold Ma at h
 split at h<;>first
  |rfl
  |(cases h;done)
  |skip
 . simp only[Al,Ca] at h;rw[nF _ _ h.1,h.2]
 simp only[Al] at h;rw[kq (nF _ _ h.1) (nF _ _ h.2)]
abbrev DF:=AV->List AV->aA->Option (Out×aA)
abbrev Res:=AEx×VT×List gM×aA
def LB (cf:DF) (g:bG) (n:Nat):List bK->VT->List gM->aA->Option Res
 |[],T,ds,H=>some (.normal,T,ds,H)
 |o::r,T,ds,H=>
  match Mh T o with
  |true=>match o.op with
   |.call f azs=>match cf (WG g T f) (azs.map (WG g T)) H with
    |some (.ret v,H')=>LB cf g n r (wZ n T o.dst v) ds H'
    |some (.JP v,H')=>some (.panic v,T,ds,H')
    |none=>none
   |.panic x=>match WG g T x with
    |.iface t v=>some (.panic (.iface t v),T,ds,H)
    |_=>none
   |.kY f azs=>match mE (WG g T f) with
    |some p=>LB cf g n r (wZ n T o.dst aC) (.call p.1 (p.2.1++azs.map (WG g T)++p.2.2)::ds) H
    |none=>none
   |op=>match dA (WG g T) H op with
    |some (v,H')=>LB cf g n r (wZ n T o.dst v) ds H'
    |none=>none
  |false=>LB cf g n r (wZ n T o.dst aC) ds H
def exQ (cf:DF) (g:bG) (T:VT) (H:aA):eE->Option (AV×aA)
 |.call f azs=>match mE (WG g T f) with
  |some _=>match cf (WG g T f) (azs.map (WG g T)) H with
   |some (.ret v,H')=>some (v,H')
   |_=>none
  |none=>none
 |.panic _|.kY _ _=>none
 |op=>dA (WG g T) H op
def Xi (pairs:List (Nat×Nat)) (i id:Nat) (ef:List (Nat×aA×aA)):Bool:=
 ef.all fun x=> !pairs.contains (i,x.1)||Ma (x.2.1.get id) (x.2.2.get id)
def SG (cf:DF) (g:bG) (n:Nat) (pairs:List (Nat×Nat)) (base:Nat):Nat->Nat->List bK->List (Nat×Nat)->List (Nat×aA×aA)->VT->aA->Option (VT×aA)
 |_,_,[],_,_,T,H=>some (T,H)
 |i,k,r::rs,rd,ef,T,H=>
  match Mh T r with
  |true=>match r.op.fresh with
   |true=>match xQ (WG g T) r.op with
    |some (ob,val)=>match Xi pairs i (base+k) ef with
     |true=>SG cf g n pairs base (i+1) (k+1) rs ((i,base+k)::rd) ef (wZ n T r.dst (val (base+k))) (H.set (base+k) ob)
     |false=>none
    |none=>none
   |false=>match r.op.pK with
    |true=>match exQ cf g T H r.op with
     |some (v,H')=>match Nat.ble H.next H'.next&&rd.all fun x=> !pairs.contains (x.1,i)||Ma (H.get x.2) (H'.get x.2) with
      |true=>SG cf g n pairs base (i+1) k rs rd ((i,H,H')::ef) (wZ n T r.dst v) H'
      |false=>none
     |none=>none
    |false=>match exQ cf g T H r.op with
     |some (v,_)=>match r.op.dJ (WG g T) with
      |some id=>match Xi pairs i id ef with
       |true=>SG cf g n pairs base (i+1) k rs ((i,id)::rd) ef (wZ n T r.dst v) H
       |false=>none
      |none=>SG cf g n pairs base (i+1) k rs rd ef (wZ n T r.dst v) H
     |none=>none
  |false=>SG cf g n pairs base (i+1) (match r.op.fresh with|true=>k+1|false=>k) rs rd ef (wZ n T r.dst aC) H
def RE (f:VT->List gM->aA->Option Res):Nat->VT->List gM->aA->Option Res
 |0,_,_,_=>none
 |m+1,T,ds,H=>match f T ds H with
  |some (.normal,T',fN,H')=>RE f m T' fN H'
  |r=>r
def PK (cf:DF) (g:bG) (n fuel:Nat):cG->VT->List gM->aA->Option Res
 |.skip,T,ds,H=>some (.normal,T,ds,H)
 |.ops rl,T,ds,H=>LB cf g n rl T ds H
 |.draw rl pairs,T,ds,H=>match pB H (rl.countP (·.op.fresh)) with
  |true=>match SG cf g n pairs H.next 0 0 rl [] [] T {H with next:=H.next+rl.countP (·.op.fresh)} with
   |some (T',H')=>some (.normal,T',ds,H')
   |none=>none
  |false=>none
 |.seq a b,T,ds,H=>match PK cf g n fuel a T ds H with
  |some (.normal,T',fN,H')=>PK cf g n fuel b T' fN H'
  |r=>r
 |.cond c a b,T,ds,H=>match WG g T c with
  |.bool true=>PK cf g n fuel a T ds H
  |.bool false=>PK cf g n fuel b T ds H
  |_=>none
 |.block id a,T,ds,H=>match PK cf g n fuel a T ds H with
  |some (.exit i,T',fN,H')=>match Nat.beq i id with
   |true=>some (.normal,T',fN,H')
   |false=>some (.exit i,T',fN,H')
  |r=>r
 |.loop a,T,ds,H=>RE (PK cf g n fuel a) fuel T ds H
 |.exit id,T,ds,H=>some (.exit id,T,ds,H)
 |.ret,T,ds,H=>some (.ret,T,ds,H)
 |.nY c ps PJ body,T,ds,H=>match WG g T c with
  |.func (.func fid) fs cs=>match cf (.func (.func fid) fs cs) [.yield (H.next+1)] ((H.alloc .SD).alloc (.loop ⟨ps,PJ,body⟩ (Ku n T) .ready)) with
   |some (.ret _,He)=>match He.get (H.next+1) with
    |some (.loop _ _ .ready)=>some (.normal,T,.mark H.next::ds,He.set (H.next+1) .dead)
    |some (.loop _ _ (.done .ret))=>some (.ret,T,.mark H.next::ds,He.set (H.next+1) .dead)
    |some (.loop _ _ (.done (.exit i)))=>some (.exit i,T,.mark H.next::ds,He.set (H.next+1) .dead)
    |_=>none
   |_=>none
  |_=>none
def IW (n:Nat) (T:VT):List (Nat×AV)->VT
 |[]=>T
 |(t,v)::r=>IW n (wZ n T (some t) v) r
section
variable {P:Program} {g:bG} {n fuel:Nat} {cf:DF}
theorem QB.sound {fv:AV} {args:List AV} {H H':aA} {out:Out} {p:FuncId×List AV×List AV} (h:QB P g fv args H out H') (hp:mE fv=some p):Sound P g p.1 (p.2.1++args++p.2.2) H out H':=by
 rcases h with ⟨q,hq,h⟩|⟨id,rfl,_⟩
 . rw[hq] at hp;cases hp;exact h
 cases hp
def ED (P:Program) (g:bG) (cf:DF):Prop:=∀c args H out H',cf c args H=some (out,H')->QB P g c args H out H'
theorem qU (LL:ED P g cf):∀(rl:List bK) (T:VT) (ds:List gM) (H:aA) (ae:AEx) (T':VT) (fN:List gM) (H':aA),Ll n T->LB cf g n rl T ds H=some (ae,T',fN,H')->
 Ll n T'/\∀Q:AQ,Q ae (Ku n T') fN H'->uH P g rl (Ku n T) ds H Q
 |[],T,ds,H,ae,T',fN,H',hb,h=>by simp only[LB,Ae,Ai] at h;obtain⟨rfl,rfl,rfl,rfl⟩:=h;exact⟨hb,fun Q hq=>hq⟩
 |o::r,T,ds,H,ae,T',fN,H',hb,h=>by
  unfold LB at h;rw[ES hb,PF hb] at h;unfold uH
  cases hw:bU (Ku n T) o with
  |false=>rw[hw] at h;dsimp only at h;have ih:=qU LL r _ ds H ae T' fN H' (hb.put o.dst aC) h;rw[qS] at ih;exact⟨ih.1,fun Q hq=>by simpa using ih.2 Q hq⟩
  |true=>
   rw[hw] at h;dsimp only at h;simp only[if_true];split at h
   . rename_i f azs fL;split at h
     . rename_i v H1 hc;have ih:=qU LL r _ ds H1 ae T' fN H' (hb.put o.dst v) h;rw[qS] at ih;exact⟨ih.1,fun Q hq=>by rw[fL];exact⟨.ret v,H1,LL _ _ _ _ _ hc,ih.2 Q hq⟩⟩
     . rename_i v H1 hc;simp only[Ae,Ai] at h;obtain⟨rfl,rfl,rfl,rfl⟩:=h;exact⟨hb,fun Q hq=>by rw[fL];exact⟨.JP v,H1,LL _ _ _ _ _ hc,hq⟩⟩
     cases h
   . rename_i x fL;split at h
     . rename_i t v hx;simp only[Ae,Ai] at h;obtain⟨rfl,rfl,rfl,rfl⟩:=h;exact⟨hb,fun Q hq=>by rw[fL];exact⟨t,v,hx,hq⟩⟩
     cases h
   . rename_i f azs fL;split at h
     . rename_i p hp;have ih:=qU LL r _ _ H ae T' fN H' (hb.put o.dst aC) h;rw[qS] at ih;exact⟨ih.1,fun Q hq=>by rw[fL];exact⟨p,hp,ih.2 Q hq⟩⟩
     cases h
   rename_i n1 n2 n3;split at h
   . rename_i v H1 ha;have ih:=qU LL r _ ds H1 ae T' fN H' (hb.put o.dst v) h;rw[qS] at ih;refine⟨ih.1,fun Q hq=>?_⟩;split
     . rename_i f azs fL;exact absurd fL (n1 f azs)
     . rename_i x fL;exact absurd fL (n2 x)
     . rename_i f azs fL;exact absurd fL (n3 f azs)
     . rename_i x fL;rw[fL] at ha;cases ha
     . rename_i x fL;rw[fL] at ha;cases ha
     . rename_i x fL;rw[fL] at ha;cases ha
     exact⟨v,H1,ha,ih.2 Q hq⟩
   cases h
theorem Qa (LL:ED P g cf) {T:VT} (hb:Ll n T) {H H':aA} {r:bK} {v:AV} (h:exQ cf g T H r.op=some (v,H')):GQ P g r (Ku n T) H v H':=by
 unfold exQ at h;rw[ES hb] at h;unfold GQ;split at h
 . rename_i f azs fL;rw[fL];split at h
   . rename_i p hp;split at h
     . rename_i v' H1 hc;simp only[Ae,Ai] at h;obtain⟨rfl,rfl⟩:=h;exact⟨p,hp,(LL _ _ _ _ _ hc).sound hp⟩
     cases h
   cases h
 . cases h
 . cases h
 rename_i n1 n2 n3;split
 . rename_i f azs fL;exact absurd fL (n1 f azs)
 . rename_i x fL;exact absurd fL (n2 x)
 . rename_i f azs fL;exact absurd fL (n3 f azs)
 exact h
theorem OB {pairs:List (Nat×Nat)} {i id:Nat} {ef:List (Nat×aA×aA)} (h:Xi pairs i id ef=true):∀x∈ef,(i,x.1)∈pairs->x.2.1.get id=x.2.2.get id:=by intro x hx hp;have :=Ax.1 h x hx;simp only[Dm,Cn,List.contains_eq_mem,Bh] at this;exact Oq (this.resolve_left fun hh=>hh hp)
theorem pX (LL:ED P g cf) {pairs:List (Nat×Nat)} {base:Nat}:∀(rl:List bK) (i k:Nat) (rd:List (Nat×Nat)) (ef:List (Nat×aA×aA)) (T:VT) (H:aA) (T':VT) (H':aA),Ll n T->
 SG cf g n pairs base i k rl rd ef T H=some (T',H')->Ll n T'/\∀Q:List AV->aA->Prop,Q (Ku n T') H'->Ti P g pairs base i k rl rd ef (Ku n T) H Q
 |[],i,k,rd,ef,T,H,T',H',hb,h=>by simp only[SG,Ae,Ai] at h;obtain⟨rfl,rfl⟩:=h;exact⟨hb,fun Q hq=>hq⟩
 |r::rs,i,k,rd,ef,T,H,T',H',hb,h=>by
  unfold SG at h;rw[PF hb] at h;unfold Ti
  cases hw:bU (Ku n T) r with
  |false=>
   rw[hw] at h;dsimp only at h;have ih:=pX LL rs _ _ _ _ _ _ T' H' (hb.put r.dst aC) h;rw[qS] at ih
   have hk:(match r.op.fresh with|true=>k+1|false=>k)=if r.op.fresh then k+1 else k:=(by cases r.op.fresh<;>rfl);rw[hk] at ih;exact⟨ih.1,fun Q hq=>by simpa using ih.2 Q hq⟩
  |true=>
   rw[hw] at h;dsimp only at h;simp only[if_true]
   cases hf:r.op.fresh with
   |true=>
    rw[hf] at h;dsimp only at h;simp only[if_true];rw[ES hb] at h;split at h
    . rename_i ob val ho;split at h
      . rename_i hk;have ih:=pX LL rs _ _ _ _ _ _ T' H' (hb.put r.dst (val (base+k))) h;rw[qS] at ih;exact⟨ih.1,fun Q hq=>⟨ob,val,ho,OB hk,ih.2 Q hq⟩⟩
      cases h
    cases h
   |false=>
    rw[hf] at h;dsimp only at h;simp only[Bb,Bq]
    cases he:r.op.pK with
    |true=>
     rw[he] at h;dsimp only at h;simp only[if_true];split at h
     . rename_i v H1 JO;split at h
       . rename_i hk;simp only[Al] at hk;have ih:=pX LL rs _ _ _ _ _ _ T' H' (hb.put r.dst v) h;rw[qS] at ih;refine⟨ih.1,fun Q hq=>⟨v,H1,Qa LL hb JO,by simpa using Ak hk.1,fun x hx hp=>?_,ih.2 Q hq⟩⟩;have :=Ax.1 hk.2 x hx;simp only[Dm,Cn,List.contains_eq_mem,Bh] at this;exact Oq (this.resolve_left fun hh=>hh hp)
       cases h
     cases h
    |false=>
     rw[he] at h;dsimp only at h;simp only[Bb,Bq];split at h
     . rename_i v H1 JO;have hqs:=Qa LL hb JO
       have hH:H1=H:=by
        unfold GQ at hqs;split at hqs
        . rename_i fL;rw[fL] at he;cases he
        . exact hqs.elim
        . exact hqs.elim
        exact(JX (H1:=H) he hf hqs (fun id _=>rfl)).1
       rw[hH] at hqs;rw[ES hb] at h;split at h
       . rename_i id dB;split at h
         . rename_i hk;have ih:=pX LL rs _ _ _ _ _ _ T' H' (hb.put r.dst v) h;rw[qS] at ih;refine⟨ih.1,fun Q hq=>⟨v,hqs,fun kP FD=>?_,?_⟩⟩
           . rw[dB] at FD;cases FD;exact OB hk
           rw[dB];exact ih.2 Q hq
         cases h
       rename_i dB;have ih:=pX LL rs _ _ _ _ _ _ T' H' (hb.put r.dst v) h;rw[qS] at ih;refine⟨ih.1,fun Q hq=>⟨v,hqs,fun kP FD=>?_,?_⟩⟩
       . rw[dB] at FD;cases FD
       rw[dB];exact ih.2 Q hq
     cases h
theorem dj {rl:List bK}:∀{s:List AV} {ds:List gM} {H:aA} {Q Q':AQ},(∀e s ds H,Q e s ds H->Q' e s ds H)->uH P g rl s ds H Q->uH P g rl s ds H Q':=by
 induction rl with
 |nil=>exact fun hq h=>hq _ _ _ _ h
 |cons o r ih=>
  intro s ds H Q Q' hq h;unfold uH at h ⊢;split
  . rename_i hw;rw[if_pos hw] at h;split at h
    . obtain⟨out,H',h1,h3⟩:=h;refine⟨out,H',h1,?_⟩
      cases out with
      |ret v=>exact ih hq h3
      |JP v=>exact hq _ _ _ _ h3
    . obtain⟨t,v,h1,h2⟩:=h;exact⟨t,v,h1,hq _ _ _ _ h2⟩
    . obtain⟨p,h1,h2⟩:=h;exact⟨p,h1,ih hq h2⟩
    . obtain⟨m,es,h1,h2,h3⟩:=h;exact⟨m,es,h1,h2,fun bs c mb k1 k2=>ih hq (h3 bs c mb k1 k2)⟩
    . obtain⟨it,m,mb,c,seen,es,bs,h1,h2,h3,h4,h5⟩:=h;exact⟨it,m,mb,c,seen,es,bs,h1,h2,h3,fun k=>ih hq (h4 k),fun j k1 k2=>ih hq (h5 j k1 k2)⟩
    . obtain⟨it,m,mb,c,seen,es,bs,j,h1,h2,h3,h4,h5⟩:=h;exact⟨it,m,mb,c,seen,es,bs,j,h1,h2,h3,h4,ih hq h5⟩
    obtain⟨v,H',h1,h2⟩:=h;exact⟨v,H',h1,ih hq h2⟩
  rename_i hw;rw[if_neg hw] at h;exact ih hq h
theorem Tj {pairs:List (Nat×Nat)} {base:Nat} {rl:List bK}:∀{i k:Nat} {rd:List (Nat×Nat)} {ef:List (Nat×aA×aA)} {s:List AV} {H:aA} {Q Q':List AV->aA->Prop},(∀s H,Q s H->Q' s H)->
 Ti P g pairs base i k rl rd ef s H Q->Ti P g pairs base i k rl rd ef s H Q':=by
 induction rl with
 |nil=>exact fun hq h=>hq _ _ h
 |cons r rs ih=>
  intro i k rd ef s H Q Q' hq h;unfold Ti at h ⊢;exact Zan
theorem fY {c:cG}:∀{s:List AV} {ds:List gM} {H:aA} {Q Q':AQ},(∀e s ds H,Q e s ds H->Q' e s ds H)->AC P g c s ds H Q->AC P g c s ds H Q':=by
 induction c with
 |skip=>exact fun hq h=>hq _ _ _ _ h
 |ops rl=>exact fun hq h=>dj hq h
 |draw rl pairs=>exact fun hq h=>h.imp (fun h=>⟨h.1,Tj (fun s H=>hq _ _ _ _) h.2⟩) fun h=>h.mono fun _ _ _=>hq _ _ _ _
 |seq a b rR uT=>
  intro s ds H Q Q' hq h;refine rR (fun e s ds H h=>?_) h
  cases e with
  |normal=>exact uT hq h
  |_=>exact hq _ _ _ _ h
 |cond c a b rR uT=>
  intro s ds H Q Q' hq h;obtain⟨t,h1,h2⟩:=h;refine⟨t,h1,?_⟩
  cases t with
  |true=>exact rR hq h2
  |false=>exact uT hq h2
 |block id a ih=>
  intro s ds H Q Q' hq h;refine ih (fun e s ds H h=>?_) h
  cases e with
  |exit i=>
   simp only[pH] at h ⊢;split
   . rename_i hi;rw[if_pos hi] at h;exact hq _ _ _ _ h
   rename_i hi;rw[if_neg hi] at h;exact hq _ _ _ _ h
  |_=>exact hq _ _ _ _ h
 |loop a ih=>
  intro s ds H Q Q' hq h;obtain⟨I,m,h0,hI⟩:=h;refine⟨I,m,h0,fun m s ds H hi=>ih (fun e s ds H h=>?_) (hI m s ds H hi)⟩
  cases e with
  |normal=>exact h
  |_=>exact hq _ _ _ _ h
 |exit id=>exact fun hq h=>hq _ _ _ _ h
 |ret=>exact fun hq h=>hq _ _ _ _ h
 |nY c ps a b rR uT=>
  intro s ds H Q Q' hq h;obtain⟨fid,fs,cs,v,He,k',s',st,Hf,h1,h2,h3,h4,h5⟩:=h;refine⟨fid,fs,cs,v,He,k',s',st,Hf,h1,h2,h3,h4,?_⟩
  cases st with
  |ready=>exact hq _ _ _ _ h5
  |done e=>cases e<;>exact hq _ _ _ _ h5
  |busy=>exact h5.elim
  |over _=>exact h5.elim
theorem BT (LL:ED P g cf):∀(c:cG) (T:VT) (ds:List gM) (H:aA) (ae:AEx) (T':VT) (fN:List gM) (H':aA),Ll n T->PK cf g n fuel c T ds H=some (ae,T',fN,H')->
 Ll n T'/\∀Q:AQ,Q ae (Ku n T') fN H'->AC P g c (Ku n T) ds H Q:=by
 intro c
 induction c with
 |skip=>intro T ds H ae T' fN H' hb h;simp only[PK,Ae,Ai] at h;obtain⟨rfl,rfl,rfl,rfl⟩:=h;exact⟨hb,fun Q hq=>hq⟩
 |ops rl=>exact fun T ds H ae T' fN H' hb h=>qU LL rl T ds H ae T' fN H' hb h
 |draw rl pairs=>
  intro T ds H ae T' fN H' hb h;simp only[PK] at h;split at h
  . rename_i MK;split at h
    . rename_i T1 H1 hd;simp only[Ae,Ai] at h;obtain⟨rfl,rfl,rfl,rfl⟩:=h;have :=pX LL rl 0 0 [] [] T _ T1 H1 hb hd;exact⟨this.1,fun Q hq=>.inl ⟨MK,this.2 _ hq⟩⟩
    cases h
  cases h
 |seq a b rR uT=>
  intro T ds H ae T' fN H' hb h;simp only[PK] at h;split at h
  . rename_i T1 rI H1 ha;have h1:=rR T ds H _ T1 rI H1 hb ha;have h2:=uT T1 rI H1 ae T' fN H' h1.1 h;exact⟨h2.1,fun Q hq=>h1.2 _ (h2.2 Q hq)⟩
  rename_i hn;have h1:=rR T ds H ae T' fN H' hb h;refine⟨h1.1,fun Q hq=>h1.2 _ ?_⟩
  cases ae with
  |normal=>exact absurd h (hn _ _ _)
  |_=>exact hq
 |cond c a b rR uT=>
  intro T ds H ae T' fN H' hb h;simp only[PK] at h;rw[ES hb] at h;split at h
  . rename_i hc;have h1:=rR T ds H ae T' fN H' hb h;exact⟨h1.1,fun Q hq=>⟨true,hc,h1.2 Q hq⟩⟩
  . rename_i hc;have h1:=uT T ds H ae T' fN H' hb h;exact⟨h1.1,fun Q hq=>⟨false,hc,h1.2 Q hq⟩⟩
  cases h
 |block id a ih=>
  intro T ds H ae T' fN H' hb h;simp only[PK] at h;split at h
  . rename_i i T1 rI H1 ha;have h1:=ih T ds H _ T1 rI H1 hb ha;split at h
    . rename_i hi;have gO:i=id:=Be hi;simp only[Ae,Ai] at h;obtain⟨rfl,rfl,rfl,rfl⟩:=h;refine⟨h1.1,fun Q hq=>h1.2 _ ?_⟩;simp only[pH];rw[if_pos gO];exact hq
    rename_i hi;have gO:i≠id:=Nat.ne_of_beq_eq_false hi;simp only[Ae,Ai] at h;obtain⟨rfl,rfl,rfl,rfl⟩:=h;refine⟨h1.1,fun Q hq=>h1.2 _ ?_⟩;simp only[pH];rw[if_neg gO];exact hq
  rename_i hn;have h1:=ih T ds H ae T' fN H' hb h;refine⟨h1.1,fun Q hq=>h1.2 _ ?_⟩
  cases ae with
  |exit i=>exact absurd h (hn _ _ _ _)
  |_=>exact hq
 |loop a ih=>
  intro T ds H ae T' fN H' hb h;simp only[PK] at h
  have key:∀(m:Nat) (T:VT) (ds:List gM) (H:aA),Ll n T->RE (PK cf g n fuel a) m T ds H=some (ae,T',fN,H')->Ll n T':=by
   intro m
   induction m with
   |zero=>intro T ds H _ h;cases h
   |succ m ihm=>
    intro T ds H hb h;simp only[RE] at h;split at h
    . rename_i T1 rI H1 h1;exact ihm T1 rI H1 (ih _ _ _ _ _ _ _ hb h1).1 h
    exact(ih _ _ _ _ _ _ _ hb h).1
  refine⟨key fuel T ds H hb h,fun Q hq=>⟨fun m s ds H=>∃T,s=Ku n T/\Ll n T/\RE (PK cf g n fuel a) m T ds H=some (ae,T',fN,H'),fuel,⟨T,rfl,hb,h⟩,?_⟩⟩;rintro m s rI H1 ⟨T1,rfl,eC,h1⟩
  cases m with
  |zero=>cases h1
  |succ m=>
   simp only[RE] at h1;split at h1
   . rename_i T2 TX H2 h2;have :=ih _ _ _ _ _ _ _ eC h2;exact this.2 _ ⟨m,Ew m,T2,rfl,this.1,h1⟩
   rename_i hn;have :=ih _ _ _ _ _ _ _ eC h1;refine this.2 _ ?_
   cases ae with
   |normal=>exact absurd h1 (hn _ _ _)
   |_=>exact hq
 |exit id=>intro T ds H ae T' fN H' hb h;simp only[PK,Ae,Ai] at h;obtain⟨rfl,rfl,rfl,rfl⟩:=h;exact⟨hb,fun Q hq=>hq⟩
 |ret=>intro T ds H ae T' fN H' hb h;simp only[PK,Ae,Ai] at h;obtain⟨rfl,rfl,rfl,rfl⟩:=h;exact⟨hb,fun Q hq=>hq⟩
 |nY c ps a b _ _=>
  intro T ds H ae T' fN H' hb h;simp only[PK] at h;rw[ES hb] at h;split at h
  . rename_i fid fs cs hc;split at h
    . rename_i v He DO;have hS:=(LL _ _ _ _ _ DO).sound rfl;have hl:wR He (H.next+1) (He.set (H.next+1) .dead):=⟨rfl,fun m=>aA.aD _ _ _ _⟩;split at h
      . rename_i k' s' hg;simp only[Ae,Ai] at h;obtain⟨rfl,rfl,rfl,rfl⟩:=h;exact⟨hb,fun Q hq=>⟨fid,fs,cs,v,He,k',s',.ready,_,hc,hS,hg,hl,hq⟩⟩
      . rename_i k' s' hg;simp only[Ae,Ai] at h;obtain⟨rfl,rfl,rfl,rfl⟩:=h;exact⟨hb,fun Q hq=>⟨fid,fs,cs,v,He,k',s',.done .ret,_,hc,hS,hg,hl,hq⟩⟩
      . rename_i k' s' i hg;simp only[Ae,Ai] at h;obtain⟨rfl,rfl,rfl,rfl⟩:=h;exact⟨hb,fun Q hq=>⟨fid,fs,cs,v,He,k',s',.done (.exit i),_,hc,hS,hg,hl,hq⟩⟩
      cases h
    cases h
  cases h
end
end
def aTz (G:Gh) (w:World):Option AV->FrameMode->Prop
 |none,m=>m=.returning
 |some v,m=>∃x,m=.panicking [{v:=x,recovered:=false}]/\VR G w v x
def Rv (P:Program) (g:bG) (f:FuncId) (args:List AV) (md:Option AV) (H H':aA):Prop:=
 Mn P f/\∀(G:Gh) (w:World) (vs:List Value) (u:FrameMode),WR g G H w->iK G w args vs->aTz G w md u->
  CallsDIn Fence.wide 0 P f vs.toArray u w fun e u' w'=>(∃x,e=.returned x)/\settle u'=.returning/\∃G',WR g G' H' w'/\Ext G H w G' H' w'
def WW (P:Program) (g:bG):List gM->aA->(aA->Prop)->Prop
 |[],H,Q=>Q H
 |.call f azs::ds,H,Q=>∃H1,Rv P g f azs none H H1/\WW P g ds H1 Q
 |.mark id::ds,H,Q=>H.get id=some .SD/\WW P g ds (H.set id .dfx) Q
def aKi (P:Program) (g:bG) (F:BR) (R:Out->aA->Prop):AQ
 |.normal,s,ds,H|.ret,s,ds,H=>WW P g ds H fun H1=>∃vs,lT s H1 F.results=some vs/\R (.ret (nZ vs)) H1
 |.panic v,s,ds,H=>match ds with
  |[]=>R (.JP v) H
  |.mark _::_=>False
  |.call f azs::ds=>∃H1,Rv P g f azs (some v) H H1/\WW P g ds H1 fun H2=>∃vs,lT s H2 F.results=some vs/\R (.ret (nZ vs)) H2
 |.exit _,_,_,_=>False
theorem tT {P:Program} {g:bG} {fn:Func} {tmps:Array Value} {R:Ending->World->Prop} {Q:aA->Prop}:∀(ds:List gM) (l:List Deferred) (G:Gh) (H:aA) (w:World),
 WW P g ds H Q->WR g G H w->Ro G w ds l->
 (∀G' H' w',Q H'->WR g G' H' w'->Ext G H w G' H' w'->∃v,(results fn tmps).run P w'=.ok v w'/\R (.returned v) w')->LeavesInM Fence.wide 0 P fn tmps R l .returning w
 |[],[],G,H,w,h,hw,hd,hR=>hR G H w h hw (Ext.refl G H w)
 |[],d::l,G,H,w,h,hw,hd,hR=>hd.elim
 |.call _ _::ds,[],G,H,w,h,hw,hd,hR=>hd.elim
 |.mark _::ds,[],G,H,w,h,hw,hd,hR=>hd.elim
 |.call f azs::ds,d::l,G,H,w,h,hw,hd,hR=>by obtain⟨H1,hS,hA⟩:=h;obtain⟨⟨cap,ht,hv⟩,sF⟩:=hd;refine⟨by simp,.inr ⟨AX,.func f,cap.toArray,f,d.args++cap.toArray,ht,by rw[ht];exact nL hS.1 _ _ _,fun _ _=>trivial,?_⟩⟩;have hc:=hS.2 G w _ .returning hw hv rfl;rw[show(d.args.toList++cap).toArray=d.args++cap.toArray by apply Fj;simp] at hc;refine hc.mono fun e u' w' he=>?_;obtain⟨⟨x,rfl⟩,hu,G',lI,xT⟩:=he;show LeavesInM Fence.wide 0 P fn tmps R l (settle u') w';rw[hu];exact tT ds l G' H1 w' hA lI (sF.ext xT) fun G2 H2 w2 hq CD XU=>hR G2 H2 w2 hq CD (xT.trans XU)
 |.mark id::ds,d::l,G,H,w,h,hw,hd,hR=>by obtain⟨hg,hA⟩:=h;obtain⟨⟨lc,hl,ht⟩,sF⟩:=hd;obtain⟨_,_,hb⟩:=hw.iS id lc _ hl hg rfl;have rQ:=run_takeDeferred (P:=P) hb;obtain⟨q1,q2⟩:=hw.FZ (o':=.dfx) (x:=.deferred none) (w':=w.putObj lc.cZ (.deferred none)) hl hg rfl rfl rfl .now (fun _ hs=>hs);exact⟨by simp,.inl ⟨lc.cZ,_,ht,rQ,tT ds l G _ _ hA q1 (sF.ext q2) fun G2 H2 w2 hq CD XU=>hR G2 H2 w2 hq CD (q2.trans XU)⟩⟩
theorem oX {P:Program} {g:bG} {mu:Bool} (hm:Fit P g) {f:FuncId} {F:BR} (hF:kH P g mu f F) {args:List AV} {H H':aA} {out:Out}
 (h:AC P g F.body (qI F args) [] H (aKi P g F fun o h=>o=out/\h=H')):Sound P g f args H out H':=by
 refine⟨hF.ok,fun G w vs hw hv=>?_⟩;obtain⟨fn,c,h1,h2,_,h3,h4,h5⟩:=hF;refine callsIn_wide.1 (callsIn_of_wp_marks (n:=0) h1 h2 trivial (wpIn_mono (GH hm c none F.body h3 (.inl rfl) _ [] G H w _ _ h hw ?_ trivial) fun e a w' hq=>?_))
 . have hlen:=hv.1;show iK G w _ _;simp only[qI,Array.toList_append,Array.toList_replicate,Gy,hlen,h4];refine hv.append ⟨by simp,fun j hj=>?_⟩;simp only[List.length_replicate] at hj;simp only[Bf,Gi,hj,if_true,Bi];exact VR.oG G w
 obtain⟨ae,s',fN,H1,G',q,lI,he,CC,sF,hx⟩:=hq
 have fin:∀(G2:Gh) (H2:aA) (w2:World),(∃vs,lT s' H2 F.results=some vs/\(Out.ret (nZ vs)=out/\H2=H'))->WR g G2 H2 w2->Ext G' H1 w' G2 H2 w2->
  ∃v,(results fn a.tmps).run P w2=.ok v w2/\(fun(e:Ending) w'=>∃G',WR g G' H' w'/\Ext G H w G' H' w'/\We G' w' out e) (.returned v) w2:=by
  rintro G2 H2 w2 ⟨WV,oP,rfl,rfl⟩ CD XU;obtain⟨u,hu,Lv⟩:=Lg CD (CC.ext XU) h5 oP;exact⟨u,hu,G2,CD,he.trans XU,Lv⟩
 cases ae with
 |normal=>
  cases e with
  |normal=>exact tT fN a.defers G' H1 w' q lI sF fin
  |_=>exact hx.elim
 |ret=>
  cases e with
  |ret=>exact tT fN a.defers G' H1 w' q lI sF fin
  |_=>exact hx.elim
 |exit id=>exact q.elim
 |panic v=>
  cases e with
  |panic ch=>
   obtain⟨x,rfl,hvx⟩:=hx
   cases hds:fN with
   |nil=>
    subst hds
    cases vd:a.defers with
    |nil=>obtain⟨rfl,rfl⟩:=q;show LeavesInM Fence.wide 0 P fn a.tmps _ a.defers _ w';rw[vd];exact⟨G',lI,he,x,rfl,hvx⟩
    |cons d r=>rw[vd] at sF;exact sF.elim
   |cons d ds=>
    subst hds
    cases d with
    |mark _=>exact q.elim
    |call f0 azs=>
    cases vd:a.defers with
    |nil=>rw[vd] at sF;exact sF.elim
    |cons d0 l=>rw[vd] at sF;obtain⟨⟨cap,ht,PN⟩,hdr⟩:=sF;obtain⟨H2,hS,hA⟩:=q;show LeavesInM Fence.wide 0 P fn a.tmps _ a.defers _ w';rw[vd];refine⟨by simp,.inr ⟨AX,.func f0,cap.toArray,f0,d0.args++cap.toArray,ht,by rw[ht];exact nL hS.1 _ _ _,fun _ _=>trivial,?_⟩⟩;have hc:=hS.2 G' w' _ (.panicking [{v:=x,recovered:=false}]) lI PN ⟨x,rfl,hvx⟩;rw[show(d0.args.toList++cap).toArray=d0.args++cap.toArray by apply Fj;simp] at hc;refine hc.mono fun e u' w2 XU=>?_;obtain⟨⟨y,rfl⟩,hu,G2,CD,xT⟩:=XU;show LeavesInM Fence.wide 0 P fn a.tmps _ l (settle u') w2;rw[hu];exact tT ds l G2 H2 w2 hA CD (hdr.ext xT) fun G3 H3 w3 hq MP jo=>fin G3 H3 w3 hq MP (xT.trans jo)
  |_=>exact hx.elim
section
def RT (T:VT) (H:aA):List GJ->Option (List AV)
 |[]=>some []
 |x::r=>match (match x with
   |.tmp t=>some (T.get t)
   |.cell a agg n=>match dA (WG g0 T) H (.load agg n (.tmp a)) with
    |some (v,_)=>some v
    |none=>none),RT T H r with
  |some v,some vs=>some (v::vs)
  |_,_=>none
theorem Vd {n:Nat} {T:VT} (hb:Ll n T) (H:aA):∀l,RT T H l=lT (Ku n T) H l
 |[]=>rfl
 |x::r=>by
  have ih:=Vd hb H r
  cases x with
  |tmp t=>simp only[RT,lT,l8,ih,PC hb];cases lT (Ku n T) H r<;>rfl
  |cell a agg m=>
   simp only[RT,lT,l8,ih,ES hb]
   cases dA (Arg.eval g0 (Ku n T)) H (.load agg m (.tmp a)) with
   |none=>rfl
   |some p=>cases lT (Ku n T) H r<;>rfl
def XE (IL:FuncId->Nat->Bool):List gM->aA->Option aA
 |[],H=>some H
 |.call f azs::ds,H=>match IL f azs.length with
  |true=>XE IL ds H
  |false=>none
 |.mark id::ds,H=>match H.get id with
  |some .SD=>XE IL ds (H.set id .dfx)
  |_=>none
def aRc (cf:DF) (g:bG) (fuel:Nat) (IL:FuncId->Nat->Bool) (F:BR) (args:List AV) (H:aA):Option (Out×aA):=
 match Nat.ble args.length F.ntmps with
 |true=>match PK cf g F.ntmps fuel F.body (yH F.ntmps args 0 .nil) [] H with
  |some (.normal,T,ds,H')|some (.ret,T,ds,H')=>match XE IL ds H' with
   |some H1=>match RT T H1 F.results with
    |some vs=>some (.ret (nZ vs),H1)
    |none=>none
   |none=>none
  |some (.panic v,_,[],H')=>some (.JP v,H')
  |_=>none
 |false=>none
theorem Ll.nil (n:Nat):Ll n .nil:=fun _ _=>rfl
theorem Lj (n:Nat):∀(vs:List AV) (i:Nat) (T:VT),Ll n T->i+vs.length<=n->
 Ll n (yH n vs i T)/\∀t,(yH n vs i T).get t=if i<=t/\t<i+vs.length then vs.getD (t -i) aC else T.get t
 |[],i,T,hb,h=>⟨hb,fun t=>by rw[if_neg (by simp only[Bm];omega)];rfl⟩
 |v::vs,i,T,hb,h=>by
  simp only[Aq] at h;have :=Lj n vs (i+1) (wZ n T (some i) v) (hb.put _ _) (by omega);refine⟨this.1,fun t=>?_⟩;show(yH n vs (i+1) (wZ n T (some i) v)).get t=_;rw[this.2 t];have Uk:Nat.blt i n=true:=by simpa [Gq] using(by omega:i<n)
  have nX:(wZ n T (some i) v).get t=if t=i then v else T.get t:=by simp only[wZ,Uk];exact VT.aD T i v t
  rw[nX];simp only[Aq];by_cases h1:i+1<=t/\t<i+1+vs.length
  . rw[if_pos h1,if_pos (by omega)];obtain⟨m,hm⟩:∃m,t -i=m+1:=⟨t -i -1,by omega⟩;rw[hm,Gg,show t -(i+1)=m by omega]
  rw[if_neg h1];by_cases h2:t=i
  . subst h2;rw[if_pos rfl,if_pos (by omega)];simp
  rw[if_neg h2,if_neg (by omega)]
theorem Oz {n:Nat} {args:List AV} (h:args.length<=n):Ll n (yH n args 0 .nil)/\Ku n (yH n args 0 .nil)=args++List.replicate (n -args.length) aC:=by
 have :=Lj n args 0 .nil (Ll.nil n) (by omega);refine⟨this.1,Gd fun t=>?_⟩;unfold Ku;rw[Cw];by_cases ht:t<n
 . rw[Is ht,Bx,this.2 t];by_cases h1:t<args.length
   . rw[if_pos (by omega),Eu h1];simp[Ad h1,getD_eq]
   rw[if_neg (by omega),Fx (by omega),Gi,if_pos (by omega)];rfl
 rw[Bu Zai,Bu Zai];rfl
section
variable {P:Program} {g:bG} {fuel:Nat} {cf:DF}
def QG (P:Program) (g:bG) (IL:FuncId->Nat->Bool):Prop:=∀f k,IL f k=true->∀(args:List AV) (H:aA),args.length=k->Rv P g f args none H H
theorem Rj {IL:FuncId->Nat->Bool} (hn:QG P g IL) {Q:aA->Prop}:∀(ds:List gM) (H H1:aA),XE IL ds H=some H1->Q H1->WW P g ds H Q
 |[],H,H1,he,h=>by cases he;exact h
 |.mark id::ds,H,H1,he,h=>by
  simp only[XE] at he;split at he
  . rename_i hg;exact⟨hg,Rj hn ds _ _ he h⟩
  cases he
 |.call f azs::ds,H,H1,he,h=>by
  simp only[XE] at he;split at he
  . rename_i hd;exact⟨H,hn f _ hd azs H rfl,Rj hn ds H _ he h⟩
  cases he
theorem XG (hm:Fit P g) (LL:ED P g cf) {IL:FuncId->Nat->Bool} (hn:QG P g IL) {mu:Bool} {f:FuncId} {F:BR} (hF:kH P g mu f F) {args:List AV} {H H':aA} {out:Out}
 (h:aRc cf g fuel IL F args H=some (out,H')):Sound P g f args H out H':=by
 unfold aRc at h;split at h
 . rename_i hle;have Xa:args.length<=F.ntmps:=Ak hle;obtain⟨hb,hs⟩:=Oz Xa
   have fin:∀(ae:AEx) (T:VT) (ds:List gM) (H1:aA),(ae=.normal\/ae=.ret)->PK cf g F.ntmps fuel F.body (yH F.ntmps args 0 .nil) [] H=some (ae,T,ds,H1)->
    (match XE IL ds H1 with
      |some H2=>match RT T H2 F.results with
       |some vs=>some (Out.ret (nZ vs),H2)
       |none=>none
      |none=>none)=some (out,H')->Sound P g f args H out H':=by
    intro ae T ds H1 hae he h;obtain⟨hbT,hq⟩:=BT LL F.body _ _ _ _ _ _ _ hb he;split at h
    . rename_i H2 bV;split at h
      . rename_i vs oP;simp only[Ae,Ai] at h;obtain⟨rfl,rfl⟩:=h;refine oX hm hF ?_;unfold qI;rw[<-hs];refine hq _ ?_
        have :WW P g ds H1 fun H1'=>∃WV,lT (Ku F.ntmps T) H1' F.results=some WV/\(Out.ret (nZ WV)=Out.ret (nZ vs)/\H1'=H2):=by refine Rj hn ds H1 H2 bV ⟨vs,?_,rfl,rfl⟩;rw[<-Vd hbT];exact oP
        rcases hae with rfl|rfl<;>exact this
      cases h
    cases h
   split at h
   . rename_i T ds H1 he;exact fin .normal T ds H1 (.inl rfl) he h
   . rename_i T ds H1 he;exact fin .ret T ds H1 (.inr rfl) he h
   . rename_i v T H1 he;simp only[Ae,Ai] at h;obtain⟨rfl,rfl⟩:=h;obtain⟨hbT,hq⟩:=BT LL F.body _ _ _ _ _ _ _ hb he;refine oX hm hF ?_;unfold qI;rw[<-hs];exact hq _ ⟨rfl,rfl⟩
   cases h
 cases h
inductive FT where
 |leaf (k:Nat) (F:BR)
 |node (m:Nat) (l r:FT)
def FT.get:FT->FuncId->Option BR
 |.leaf k F,f=>match Nat.beq f k with
  |true=>some F
  |false=>none
 |.node m l r,f=>match Nat.blt f m with
  |true=>l.get f
  |false=>r.get f
def FT.om (p:FuncId->BR->Prop):FT->Prop
 |.leaf k F=>p k F
 |.node _ l r=>l.om p/\r.om p
theorem FT.om.get {p:FuncId->BR->Prop}:∀{t:FT},t.om p->∀{f:FuncId} {F:BR},t.get f=some F->p f F
 |.leaf k F',h,f,F,hg=>by
  simp only[FT.get] at hg;split at hg
  . rename_i hb;obtain rfl:=Aa hg;rw[Be hb];exact h
  cases hg
 |.node m l r,h,f,F,hg=>by
  simp only[FT.get] at hg;split at hg
  . exact FT.om.get h.1 hg
  exact FT.om.get h.2 hg
def exY (cf:DF) (g:bG) (fuel:Nat) (id:Nat) (args:List AV) (H:aA):Option (Out×aA):=
 match H.get id with
 |some (.loop k s .ready)=>match Nat.beq args.length k.ps.length with
  |true=>match PK cf g s.length fuel k.PJ (IW s.length (yH s.length s 0 .nil) (k.ps.zip args)) [] H with
   |some (.normal,T1,[],H1)=>match H1.get id with
    |some (.loop k1 s1 .ready)=>match PK cf g s.length fuel k.body T1 [] (H1.set id (.loop k1 s1 .busy)) with
     |some (e,_,[],H2)=>match H2.get id with
      |some (.loop k2 s2 .busy)=>match e with
       |.normal=>some (.ret (.bool true),H2.set id (.loop k2 s2 .ready))
       |.ret=>some (.ret (.bool false),H2.set id (.loop k2 s2 (.done .ret)))
       |.exit i=>some (.ret (.bool false),H2.set id (.loop k2 s2 (.done (.exit i))))
       |.panic _=>none
      |_=>none
     |_=>none
    |_=>none
   |_=>none
  |false=>none
 |_=>none
theorem LZ {n:Nat}:∀(l:List (Nat×AV)) (T:VT),Ll n T->Ll n (IW n T l)/\Ku n (IW n T l)=qE (Ku n T) l
 |[],T,h=>⟨h,rfl⟩
 |(t,v)::r,T,h=>by have ih:=LZ r (wZ n T (some t) v) (h.put _ _);refine⟨ih.1,?_⟩;rw[IW,ih.2,qS];rfl
theorem ja (hm:Fit P g) (LL:ED P g cf) {id:Nat} {args:List AV} {H H':aA} {out:Out} (h:exY cf g fuel id args H=some (out,H')):EI P g id args H out H':=by
 unfold exY at h;split at h
 . rename_i k s hg;split at h
   . rename_i hlen;obtain⟨XS,hs0⟩:=Oz (Ab s.length);rw[Nat.sub_self,List.replicate_zero,Ch] at hs0;obtain⟨eC,hs1⟩:=LZ (k.ps.zip args) _ XS;rw[hs0] at hs1;refine QI hm hg (Be hlen) ?_;unfold Rk;split at h
     . rename_i T1 H1 ha;obtain⟨fV,JO⟩:=BT LL k.PJ _ _ _ _ _ _ _ eC ha;rw[<-hs1];refine JO _ ?_;split at h
       . rename_i k1 s1 CZ;split at h
         . rename_i e T2 H2 hbd;obtain⟨CA,SV⟩:=BT LL k.body _ _ _ _ _ _ _ fV hbd;refine⟨rfl,k1,s1,CZ,SV _ ?_⟩;split at h
           . rename_i k2 s2 Np;split at h
             . simp only[Ae,Ai] at h;obtain⟨rfl,rfl⟩:=h;exact⟨rfl,rfl,k2,s2,Np,rfl⟩
             . simp only[Ae,Ai] at h;obtain⟨rfl,rfl⟩:=h;exact⟨rfl,rfl,k2,s2,Np,rfl⟩
             . simp only[Ae,Ai] at h;obtain⟨rfl,rfl⟩:=h;exact⟨rfl,rfl,k2,s2,Np,rfl⟩
             cases h
           cases h
         cases h
       cases h
     cases h
   cases h
 cases h
abbrev Lm:=FuncId->List AV->aA->Option (Out×aA)
def Ky (P:Program) (g:bG) (WS:Lm):Prop:=∀f args H out H',WS f args H=some (out,H')->Sound P g f args H out H'
def exF (WS:Lm) (tab:FuncId->Option BR) (g:bG) (fuel:Nat) (IL:FuncId->Nat->Bool):Nat->DF
 |0=>fun _ _ _=>none
 |d+1=>fun c args H=>match c with
  |.yield id=>exY (exF WS tab g fuel IL d) g fuel id args H
  |.func (.func f) fs cs=>match WS f (fs++args++cs) H with
   |some r=>some r
   |none=>match tab f with
    |some F=>aRc (exF WS tab g fuel IL d) g fuel IL F (fs++args++cs) H
    |none=>none
  |_=>none
theorem KC (hm:Fit P g) {WS:Lm} (ho:Ky P g WS) {tab:FuncId->Option BR} {IL:FuncId->Nat->Bool} (hn:QG P g IL) (ht:∀f F,tab f=some F->∃mu,kH P g mu f F):∀d,ED P g (exF WS tab g fuel IL d)
 |0=>fun f args H out H' h=>by cases h
 |d+1=>fun c args H out H' h=>by
  simp only[exF] at h;split at h
  . rename_i id;exact .inr ⟨id,rfl,ja hm (KC hm ho hn ht d) h⟩
  . rename_i f fs cs;refine .inl ⟨(f,fs,cs),rfl,?_⟩;split at h
    . rename_i r hr;cases h;exact ho _ _ _ _ _ hr
    split at h
    . rename_i F hF;obtain⟨mu,hmu⟩:=ht f F hF;exact XG hm (KC hm ho hn ht d) hn hmu h
    cases h
  cases h
end
end
section
mutual
def AV.free:AV->Bool
 |.pl cs=>bO cs
 |.bB tag _ aY=>Nat.blt tag 2&&dR aY
 |.func _ a b=>bO a&&bO b
 |.iface _ v=>v.free
 |.agg cs=>bO cs
 |.iA vs=>bO vs
 |.ref _ _|.sl _ _ _ _ _|.map _|.yield _=>false
 |_=>true
def bO:List AV->Bool
 |[]=>true
 |x::r=>x.free&&bO r
def dR:List (List AV)->Bool
 |[]=>true
 |x::r=>bO x&&dR r
end
theorem Ql:∀{l:List AV},bO l=true->∀x∈l,x.free=true
 |[],_,x,hx=>by cases hx
 |y::l,h,x,hx=>by
  simp only[bO,Al] at h
  rcases Am.1 hx with rfl|hx
  . exact h.1
  exact Ql h.2 x hx
theorem gY {a b:List AV}:bO (a++b)=(bO a&&bO b):=by
 induction a with
 |nil=>simp[bO]
 |cons x r ih=>simp[bO,ih,Bool.and_assoc]
theorem lQ:∀{l:List (List AV)},dR l=true->bO l.flatten=true
 |[],_=>rfl
 |y::l,h=>by simp only[dR,Al] at h;rw[Bp,gY,h.1,lQ h.2];rfl
theorem kI {l:List AV} (h:bO l=true) {j:Nat} (hj:j<l.length):(l.getD j aC).free=true:=by refine Ql h _ ?_;rw[getD_eq,Ad hj];exact Ac hj
theorem VR.qA {G G':Gh} {w w':World} {a:AV} {u:Value} (h:VR G w a u) (hf:a.free=true)
 (hi:∀b o,G.gZ b o->G'.gZ b o/\w'.cell? ⟨b,o,none⟩=w.cell? ⟨b,o,none⟩):VR G' w' a u:=by
 induction h with
 |bool b=>exact .bool b
 |int k n=>exact .int k n
 |str s=>exact .str s
 |KV=>exact .KV
 |ref id off l h=>cases hf
 |pl cells b o us h hv ih=>simp only[AV.free] at hf;exact .pl cells b o us (fun j hj=>⟨(hi _ _ (h j hj).1).1,by rw[(hi _ _ (h j hj).1).2];exact(h j hj).2.1,(h j hj).2.2⟩) (fun j hj=>ih j hj (kI hf hj))
 |aR=>exact .aR
 |vK tag sz b o s ht=>exact .vK tag sz b o s ht
 |bB tag sz aY b o cap us hu h hv ht ih=>
  simp only[AV.free,Al] at hf;have vI:=lQ hf.2;refine .bB tag sz aY b o cap us hu (fun j hj=>⟨(hi _ _ (h j hj).1).1,by rw[(hi _ _ (h j hj).1).2];exact(h j hj).2.1,(h j hj).2.2⟩) (fun j hj=>ih j hj (kI vI hj)) ?_;refine⟨ht.1,?_⟩;have h2:=ht.2;have rP:tag<2:=by have :=hf.1;simpa [Gq] using this
  match tag,h2,rP with
  |0,_,_=>trivial
  |1,h2,_=>exact h2
  |k+2,_,hh=>omega
 |sl id sz off len cap jV l h hlen gR pL=>cases hf
 |func fn fs cs azs bs ha hb hav hbv rR uT=>simp only[AV.free,Al] at hf;exact .func fn fs cs azs bs ha hb (fun j hj=>rR j hj (kI hf.1 hj)) (fun j hj=>uT j hj (kI hf.2 hj))
 |AU=>exact .AU
 |iface t a v h ih=>exact .iface t a v (ih hf)
 |wV=>exact .wV
 |agg cs vs oU h1 hv ih=>simp only[AV.free] at hf;exact .agg cs vs oU h1 (fun j hj=>ih j hj (kI hf hj))
 |iA cs vs oU hv ih=>simp only[AV.free] at hf;exact .iA cs vs oU (fun j hj=>ih j hj (kI hf hj))
 |map id l h=>cases hf
 |yield id l h=>cases hf
 |rT=>exact .rT
theorem iK.qA {G G':Gh} {w w':World} {xs:List AV} {vs:List Value} (h:iK G w xs vs) (hf:bO xs=true)
 (hi:∀b o,G.gZ b o->G'.gZ b o/\w'.cell? ⟨b,o,none⟩=w.cell? ⟨b,o,none⟩):iK G' w' xs vs:=
 ⟨h.1,fun j hj=>(h.2 j hj).qA (kI hf hj) hi⟩
def JD (tk:Option Nat) (nw tag:Nat):Nat:=
 match tag with
 |0=>0
 |1=>1
 |k+2=>match tk with
  |some k'=>match Nat.beq k k' with
   |true=>nw+2
   |false=>0
  |none=>0
def jH (H:aA) (tk:Option Nat) (nw:Nat):AV->Option AV
 |.bB tag sz aY=>match dR aY with
  |true=>some (.bB (JD tk nw tag) sz aY)
  |false=>none
 |.sl id sz off len cap=>match H.eY id with
  |some cs=>match Nat.ble (off+len*sz) cs.length&&bO (cs.drop off) with
   |true=>some (.bB 0 sz (fM sz len (cs.drop off)))
   |false=>none
  |none=>none
 |.ref id off=>match H.eY id with
  |some cs=>match bO (cs.drop off) with
   |true=>some (.pl (cs.drop off))
   |false=>none
  |none=>none
 |v=>match v.free with
  |true=>some v
  |false=>none
def IG (f:AV->Option AV):List AV->Option (List AV)
 |[]=>some []
 |x::r=>match f x,IG f r with
  |some y,some ys=>some (y::ys)
  |_,_=>none
def fT (H:aA) (tk:Option Nat) (nw:Nat):Nat->AV->Option AV
 |0,v=>jH H tk nw v
 |n+1,.agg cs=>(IG (fT H tk nw n) cs).map .agg
 |n+1,.iA vs=>(IG (fT H tk nw n) vs).map .iA
 |_,v=>jH H tk nw v
theorem KT {f:AV->Option AV}:∀{l r:List AV},IG f l=some r->r.length=l.length/\∀j,j<l.length->f (l.getD j aC)=some (r.getD j aC)
 |[],r,h=>by obtain rfl:=Aa h;exact⟨rfl,fun j hj=>absurd hj (An j)⟩
 |x::l,r,h=>by
  simp only[IG] at h;split at h
  . rename_i y ys hy MR;obtain rfl:=Aa h;obtain⟨h1,h2⟩:=KT MR;refine⟨by simp[h1],fun j hj=>?_⟩
    cases j with
    |zero=>simpa using hy
    |succ j=>simpa using h2 j ZaC
  cases h
def rK (tk:Option Nat) (H:aA):aA:=match tk with
 |none=>H
 |some _=>H.alloc .tok
def DH (g:bG):Prop:=∀n cs,g n=some cs->bO cs=true
def Out.av:Out->AV
 |.ret v=>v
 |.JP v=>v
def Out.with:Out->AV->Out
 |.ret _,v=>.ret v
 |.JP _,v=>.JP v
section
variable {P:Program} {g:bG}
def EU (G G2:Gh) (H:aA) (H2:aA) (tk:Option Nat):Gh where
 loc:=fun id=>if id=H.next then tk.bind G2.loc else G.loc id
 gZ:=fun b o=>G2.gZ b o\/∃id l cs eM,G2.loc id=some l/\H2.get id=some (.cells cs eM)/\l.cZ=b/\l.base<=o/\o<l.base+l.Tf
 mo:=G.mo
theorem Ou {G G2:Gh} {H H2:aA} {w2:World} {tk:Option Nat} (hn:∀k,tk=some k->H2.get k=some .tok) (CD:WR g G2 H2 w2) {v v':AV} {u:Value} (h:VR G2 w2 v u) (hs:jH H2 tk H.next v=some v'):
 VR (EU G G2 H H2 tk) w2 v' u:=by
 have hi:∀b o,G2.gZ b o->(EU G G2 H H2 tk).gZ b o/\w2.cell? ⟨b,o,none⟩=w2.cell? ⟨b,o,none⟩:=fun b o hh=>⟨.inl hh,rfl⟩
 have frozen:∀{id:Nat} {l:Loc} {cs:List AV} {off:Nat},G2.loc id=some l->H2.eY id=some cs->bO (cs.drop off)=true->∀j,j<(cs.drop off).length->
  ∃x,(EU G G2 H H2 tk).gZ l.cZ (l.base+off+j)/\w2.cell? ⟨l.cZ,l.base+off+j,none⟩=some x/\((cs.drop off).getD j aC).one=true/\VR (EU G G2 H H2 tk) w2 ((cs.drop off).getD j aC) x:=by
  intro id l cs off hl hc hf j hj;obtain⟨eM,hg⟩:=aA.oZ hc;obtain⟨a1,a2,a3,a4,a5⟩:=CD.cells id l cs eM hl hg;simp only[Ex] at hj;obtain⟨x,hx,hvx⟩:=a5 (off+j) (by omega);have sH:(cs.drop off).getD j aC=cs.getD (off+j) aC:=by rw[getD_eq,getD_eq,Fv]
  refine⟨x,.inr ⟨id,l,cs,eM,hl,hg,rfl,by omega,by omega⟩,by rw[Br];exact hx,?_,?_⟩
  . rw[sH];refine a4 _ ?_;rw[getD_eq,Ad (by omega)];exact Ac _
  have MK:=kI hf (j:=j) ZaC;rw[sH] at MK ⊢;exact hvx.qA MK hi
 unfold jH at hs;split at hs
 . rename_i tag sz aY;split at hs
   . rename_i hf;obtain rfl:=Aa hs;have vI:=lQ hf
     cases h with
     |vK _ _ b o s ht=>
      refine .vK _ _ _ _ _ ?_
      match tag,ht with
      |0,_=>exact Nat.zero_lt_two
      |1,_=>exact Nat.one_lt_two
     |bB _ _ _ b o cap us hu hh hv ht=>
      refine .bB _ sz aY b o cap us hu (fun j hj=>⟨(hi _ _ (hh j hj).1).1,(hh j hj).2⟩) (fun j hj=>(hv j hj).qA (kI vI hj) hi) ⟨ht.1,?_⟩;have h2:=ht.2
      match tag,h2 with
      |0,_=>trivial
      |1,h2=>exact h2
      |k+2,⟨l,h1,h2⟩=>
       cases tk with
       |none=>trivial
       |some k'=>
        simp only[JD]
        cases hk:Nat.beq k k' with
        |false=>trivial
        |true=>obtain rfl:=Be hk;exact⟨l,by simp only[EU,if_true,Option.bind_some];exact h1,h2⟩
   cases hs
 . rename_i id sz off len cap;split at hs
   . rename_i cs hc;split at hs
     . rename_i eU;obtain rfl:=Aa hs;simp only[Al] at eU;have hle:off+len*sz<=cs.length:=Ak eU.1
       cases h with
       |sl _ _ _ _ _ jV l hl hlen gR pL=>
        obtain⟨f1,f2,f3⟩:=iE sz len (cs.drop off) Zai;have Zg:=frozen hl hc eU.2;have hmul:len*sz<=cap*sz:=Cz sz hlen
        have FE:∀j,j<(fM sz len (cs.drop off)).flatten.length->j<(cs.drop off).length/\(fM sz len (cs.drop off)).flatten.getD j aC=(cs.drop off).getD j aC:=fun j hj=>by rw[f1] at hj ⊢;simp only[Db,Ex] at hj;refine⟨by simp;omega,?_⟩;rw[getD_take _ _ _ _ (by omega)]
        have key:=VR.bB (G:=EU G G2 H H2 tk) (w:=w2) 0 sz (fM sz len (cs.drop off)) l.cZ (l.base+off) jV (fun j=>(w2.cell? ⟨l.cZ,l.base+off+j,none⟩).getD undef) f3
         (fun j hj=>by
           obtain⟨h1,h2⟩:=FE j hj;obtain⟨x,q1,q2,q3,q4⟩:=Zg j h1
           exact⟨q1,by rw[q2];rfl,by rw[h2];exact q3⟩)
         (fun j hj=>by
           obtain⟨h1,h2⟩:=FE j hj;obtain⟨x,q1,q2,q3,q4⟩:=Zg j h1
           rw[h2,q2];exact q4)
         ⟨by rw[f2];rcases pL with rfl|⟨_,AM,_⟩<;>omega,trivial⟩
        rw[f2] at key;exact key
     cases hs
   cases hs
 . rename_i id off;split at hs
   . rename_i cs hc;split at hs
     . rename_i hf;obtain rfl:=Aa hs
       cases h with
       |ref _ _ l hl=>
        have Zg:=frozen hl hc hf
        exact .pl (cs.drop off) l.cZ (l.base+off) (fun j=>(w2.cell? ⟨l.cZ,l.base+off+j,none⟩).getD undef)
         (fun j hj=>by
           obtain⟨x,q1,q2,q3,q4⟩:=Zg j hj
           exact⟨q1,by rw[q2];rfl,q3⟩)
         (fun j hj=>by
           obtain⟨x,q1,q2,q3,q4⟩:=Zg j hj
           rw[q2];exact q4)
     cases hs
   cases hs
 split at hs
 . rename_i hf;obtain rfl:=Aa hs;exact h.qA hf hi
 cases hs
theorem aBf {G G2:Gh} {H H2:aA} {w2:World} {tk:Option Nat} {nw n:Nat} {v v':AV} (hs:fT H2 tk nw n v=some v') (h:v.one=true):v'.one=true:=by
 have h1:jH H2 tk nw v=some v'->v'.one=true:=fun hs=>by
  unfold jH at hs
  repeat' (split at hs)
  all_goals first
   |(cases hs;done)
   |(obtain rfl:=Aa hs;first|rfl|exact h)
 cases n with
 |zero=>exact h1 hs
 |succ n=>
  unfold fT at hs;split at hs
  . exact h1 hs
  . cases h
  . cases h
  exact h1 hs
theorem JB {G G2:Gh} {H H2:aA} {w2:World} {tk:Option Nat} (hn:∀k,tk=some k->H2.get k=some .tok) (CD:WR g G2 H2 w2):∀(n:Nat) {v v':AV} {u:Value},VR G2 w2 v u->fT H2 tk H.next n v=some v'->
 VR (EU G G2 H H2 tk) w2 v' u
 |0,v,v',u,h,hs=>Ou hn CD h hs
 |n+1,v,v',u,h,hs=>by
  unfold fT at hs;split at hs
  . exact Ou hn CD h hs
  . rename_i m cs hm;obtain rfl:m=n:=by omega
    simp only[Ah] at hs;obtain⟨r,hr,rfl⟩:=hs;obtain⟨r1,r2⟩:=KT hr
    cases h with
    |agg _ vs hl h1 hv=>refine .agg r vs (by omega) (fun c hc=>?_) (fun j hj=>JB hn CD m (hv j (by omega)) (r2 j (by omega)));obtain⟨j,hj,rfl⟩:=Hd.1 hc;have :=r2 j (by omega);rw[getD_eq,getD_eq,Ad hj,Ad (by omega)] at this;exact aBf (G:=G) (G2:=G2) (H:=H) (w2:=w2) this (h1 _ (Ac _))
  . rename_i m vs0 hm;obtain rfl:m=n:=by omega
    simp only[Ah] at hs;obtain⟨r,hr,rfl⟩:=hs;obtain⟨r1,r2⟩:=KT hr
    cases h with
    |iA _ vs hl hv=>exact .iA r vs (by omega) (fun j hj=>JB hn CD m (hv j (by omega)) (r2 j (by omega)))
  exact Ou hn CD h hs
theorem JV.frame (hg:DH g) {f:FuncId} {args:List AV} (hf:bO args=true) {R:Out->aA->Prop} (h:JV P g f args ⟨0,.nil⟩ R) (H:aA) {bCy:Out} {H':aA}
 (hR:∀out H2,R out H2->∃tk n v',(∀k,tk=some k->H2.get k=some .tok)/\fT H2 tk H.next n out.av=some v'/\out.with v'=bCy/\rK tk H=H'):Sound P g f args H bCy H':=by
 refine⟨h.1,fun G w vs hw hv=>?_⟩;let G0:Gh:=⟨fun _=>none,G.gZ,G.mo⟩;have hG0:∀b o,G.gZ b o->G0.gZ b o/\w.cell? ⟨b,o,none⟩=w.cell? ⟨b,o,none⟩:=fun b o hh=>⟨hh,rfl⟩
 have hw0:WR g G0 ⟨0,.nil⟩ w:={
  cells:=fun id l cs eM h1=>by cases h1
  room:=fun id l h1=>by cases h1
  kM:=fun id kP l l' _ h1=>by cases h1
  jZ:=fun id l h1=>by cases h1
  iS:=fun id l es h1=>by cases h1
  lt:=fun id l h1=>by cases h1
  iX:=hw.iX
  jD:=fun k cs hk=>(hw.jD k cs hk).qA (hg k cs hk) hG0
  BZ:=hw.BZ
  mo:=hw.mo}
 refine(h.2 G0 w vs hw0 (hv.qA hf hG0)).mono fun e w2 he=>?_;obtain⟨out,H2,G2,hr,CD,xT,qC⟩:=he;obtain⟨tk,n,v',rQ,hs,rfl,rfl⟩:=hR _ _ hr
 have KO:∀id l,G2.loc id=some l->H2.live id->w.heap.size<=l.cZ:=fun id l h1 h2=>by
  rcases xT.lL id l h1 h2 with hh|⟨eV,l0,hh,_⟩
  . exact hh
  cases hh
 have vj:∀b,b<w.heap.size->w2.heap[b]?=w.heap[b]?:=fun b hb=>xT.frame b hb fun id l hh=>by cases hh
 have aIs:∀b o,(EU G G2 H H2 tk).gZ b o->G.gZ b o\/w.heap.size<=b:=fun b o hi=>by
  rcases hi with hi|⟨id,l,cs,eM,h1,h2,rfl,_⟩
  . rcases xT.pG b o hi with hh|hh|⟨eV,l0,hh,_⟩
    . exact .inl hh
    . exact .inr hh
    cases hh
  exact .inr (KO id l h1 ⟨_,h2,rfl⟩)
 have sI:∀id l,G.loc id=some l->(EU G G2 H H2 tk).loc id=some l:=fun id l hl=>by have :=hw.lt id l hl;simp only[EU];rw[if_neg (by omega)];exact hl
 have pF:∀b o,G.gZ b o->(EU G G2 H H2 tk).gZ b o/\w2.cell? ⟨b,o,none⟩=w.cell? ⟨b,o,none⟩:=fun b o hi=>⟨.inl (xT.gZ b o hi).1,(xT.gZ b o hi).2⟩;have wh:H.next<=(rK tk H).next:=by cases tk<;>simp[rK]
 have cW:∀id,id≠H.next->(rK tk H).get id=H.get id:=fun id cP=>by
  cases tk with
  |none=>rfl
  |some k=>simp only[rK,aA.aG,if_neg cP]
 have oN:∀id l,(EU G G2 H H2 tk).loc id=some l->(id≠H.next/\G.loc id=some l)\/(id=H.next/\∃k,tk=some k/\G2.loc k=some l/\(rK tk H).get id=some .tok):=fun id l hl=>by
  simp only[EU] at hl;by_cases dB:id=H.next
  . rw[if_pos dB] at hl
    cases tk with
    |none=>cases hl
    |some k=>exact .inr ⟨dB,k,rfl,hl,by simp only[rK,aA.aG,if_pos dB]⟩
  rw[if_neg dB] at hl;exact .inl ⟨dB,hl⟩
 have pO:∀id,id≠H.next->(rK tk H).live id->H.live id:=fun id cP ⟨o,h1,h2⟩=>⟨o,by rw[<-cW id cP];exact h1,h2⟩;have SZ:∀k l,tk=some k->G2.loc k=some l->w.heap.size<=l.cZ:=fun k l h1 h2=>KO k l h2 ⟨_,rQ k h1,rfl⟩
 have aSd:WR g (EU G G2 H H2 tk) (rK tk H) w2:={
  cells:=fun id l cs eM h1 h2=>by
   rcases oN id l h1 with ⟨cP,hl⟩|⟨_,k,_,_,ht⟩
   . rw[cW id cP] at h2;obtain⟨a1,a2,a3,a4,a5⟩:=hw.cells id l cs eM hl h2;have hb:=hw.mP hl ⟨_,h2,rfl⟩;refine⟨a1,a2,a3,a4,fun j hj=>?_⟩;obtain⟨x,hx,hvx⟩:=a5 j hj;exact⟨x,by rw[gI (vj _ hb)];exact hx,hvx.mono sI pF⟩
   rw[ht] at h2;cases h2
  room:=fun id l h1 h2=>by
   rcases oN id l h1 with ⟨cP,hl⟩|⟨_,k,hk,XZ,ht⟩
   . rw[cW id cP] at h2
     have hb:l.cZ<w.heap.size:=hw.mP hl (by
      rcases h2 with ⟨cs,eM,hh⟩|hh
      . exact⟨_,hh,rfl⟩
      exact⟨_,hh,rfl⟩)
     obtain⟨c,el,fz,b1,b2,b3⟩:=hw.room id l hl h2;exact⟨c,el,fz,by rw[vj _ hb];exact b1,b2,fun j hj=>by rw[kT (vj _ hb)];exact b3 j hj⟩
   exact CD.room k l XZ (.inr (rQ k hk))
  kM:=fun id kP l l' cP h1 h2 tR sU=>by
   rcases oN id l h1 with ⟨KN,yY⟩|⟨KN,k,hk,DQ,_⟩<;>rcases oN kP l' h2 with ⟨SQ,XZ⟩|⟨SQ,k',rN,eO,_⟩
   . exact hw.kM id kP l l' cP yY XZ (pO id KN tR) (pO kP SQ sU)
   . have :=hw.mP yY (pO id KN tR);have :=SZ k' l' rN eO;exact .inl (by omega)
   . have :=hw.mP XZ (pO kP SQ sU);have :=SZ k l hk DQ;exact .inl (by omega)
   exact absurd (KN.trans SQ.symm) cP
  jZ:=fun id l h1 tR j hj hi=>by
   rcases oN id l h1 with ⟨KN,yY⟩|⟨KN,k,hk,DQ,_⟩
   . have hb:=hw.mP yY (pO id KN tR)
     rcases aIs _ _ hi with hh|hh
     . exact hw.jZ id l yY (pO id KN tR) j hj hh
     omega
   rcases hi with hi|⟨id2,l2,cs,eM,q1,q2,q3,q4,q5⟩
   . exact CD.jZ k l DQ ⟨_,rQ k hk,rfl⟩ j hj hi
   have cP:id2≠k:=fun hh=>by rw[hh,rQ k hk] at q2;cases q2
   have hs:=(CD.cells id2 l2 cs eM q1 q2).2.1
   rcases CD.kM id2 k l2 l cP q1 DQ ⟨_,q2,rfl⟩ ⟨_,rQ k hk,rfl⟩ with hd|hd|hd
   . exact hd q3
   . omega
   omega
  iS:=fun id l o h1 h2 hk=>by
   rcases oN id l h1 with ⟨cP,hl⟩|⟨_,k,_,_,ht⟩
   . rw[cW id cP] at h2;have hb:=hw.mP hl ⟨_,h2,OF hk⟩;obtain⟨a1,a2,a3⟩:=hw.iS id l o hl h2 hk;exact⟨a1,a2,a3.mono (vj _ hb) fun _ _ h=>h.mono sI pF⟩
   rw[ht] at h2;cases h2;cases hk
  lt:=fun id l h1=>by
   rcases oN id l h1 with ⟨cP,hl⟩|⟨hn,k,hk,_,_⟩
   . have :=hw.lt id l hl;omega
   subst hk;simp[rK,hn]
  iX:=fun b o hi=>by
   rcases hi with hi|⟨id,l,cs,eM,q1,q2,rfl,q4,q5⟩
   . exact CD.iX b o hi
   obtain⟨a1,_,_,_,a5⟩:=CD.cells id l cs eM q1 q2;obtain⟨x,hx,_⟩:=a5 (o -l.base) (by omega);exact⟨x,by rw[show o=l.base+(o -l.base) by omega];exact hx⟩
  jD:=fun k cs hk=>(hw.jD k cs hk).mono sI pF
  BZ:=CD.BZ
  mo:=hw.mo}
 have aVa:Ext G H w (EU G G2 H H2 tk) (rK tk H) w2:={
  loc:=sI
  gZ:=pF
  size:=xT.size
  frame:=fun b hb _=>vj b hb
  lL:=fun id l h1 tR=>by
   rcases oN id l h1 with ⟨cP,hl⟩|⟨_,k,hk,DQ,_⟩
   . exact .inr ⟨id,l,hl,pO id cP tR,rfl⟩
   exact .inl (SZ k l hk DQ)
  pG:=fun b o hi=>by
   rcases aIs b o hi with hh|hh
   . exact .inl hh
   exact .inr (.inl hh)
  next:=wh
  news:=fun id l h1 h2=>by
   rcases oN id l h1 with ⟨cP,hl⟩|⟨hn,_⟩
   . rw[h2] at hl;cases hl
   omega
  dead:=fun id l h1 tR=>pO id (by have :=hw.lt id l h1;omega) tR
  mo:=rfl
  same:=xT.same}
 refine⟨_,aSd,aVa,?_⟩
 cases out with
 |ret v=>
  cases e with
  |returned u=>exact JB rQ CD n qC hs
  |_=>exact qC.elim
 |JP v=>
  cases e with
  |panicked ch=>obtain⟨u,rfl,Lv⟩:=qC;exact⟨u,rfl,JB rQ CD n Lv hs⟩
  |_=>exact qC.elim
theorem Sound.frame (hg:DH g) {f:FuncId} {args:List AV} (hf:bO args=true) {out:Out} {H2:aA} (h:Sound P g f args ⟨0,.nil⟩ out H2) {tk:Option Nat} (rQ:∀k,tk=some k->H2.get k=some .tok) {n:Nat}
 (H:aA) {v':AV} (hs:fT H2 tk H.next n out.av=some v'):Sound P g f args H (out.with v') (rK tk H):=
 h.open.frame hg hf H fun o H3 hh=>by obtain⟨rfl,rfl⟩:=hh;exact⟨tk,n,v',rQ,hs,rfl,rfl⟩
end
end
section
abbrev dE:=Nat->AV
abbrev FQ:=AEx->dE->List gM->aA->Prop
def nQ (g:bG) (f:dE):Arg->AV
 |.tmp t=>f t
 |.const v=>v
 |.jD n=>match g n with
  |some cs=>.pl cs
  |none=>aC
def kD (f:dE) (d:Nat) (v:AV):dE:=fun t=>if t=d then v else f t
theorem rG (f:dE) (d:Nat) (v:AV):kD f d v d=v:=by simp[kD]
theorem oH (f:dE) {d t:Nat} (v:AV) (h:t≠d):kD f d v t=f t:=by simp[kD,h]
def fP (n:Nat) (f:dE):Option Nat->AV->dE
 |none,_=>f
 |some d,v=>if d<n then kD f d v else f
def iB (f:dE) (o:bK):Bool:=
 match o.guard with
 |none=>true
 |some (d,b)=>match f d with
  |.bool c=>c==b
  |_=>false
def lY (r:Option (AV×aA)) (k:AV->aA->Prop):Prop:=
 match r with
 |some (v,H)=>k v H
 |none=>False
def bS (P:Program) (g:bG) (n:Nat):List bK->dE->List gM->aA->FQ->Prop
 |[],f,ds,H,Q=>Q .normal f ds H
 |o::r,f,ds,H,Q=>
  if iB f o then
   match o.op with
   |.call c azs=>∃out H',QB P g (nQ g f c) (azs.map (nQ g f)) H out H'/\
     match out with
     |.ret v=>bS P g n r (fP n f o.dst v) ds H' Q
     |.JP v=>Q (.panic v) f ds H'
   |.panic x=>∃t v,nQ g f x=.iface t v/\Q (.panic (.iface t v)) f ds H
   |.kY c azs=>∃p,mE (nQ g f c)=some p/\bS P g n r (fP n f o.dst aC) (.call p.1 (p.2.1++azs.map (nQ g f)++p.2.2)::ds) H Q
   |.vM x=>∃m es,nQ g f x=.map m/\H.get m=some (.map es)/\∀bs c mb,bs.length=es.length->bs.Nodup->
     bS P g n r (fP n f o.dst (.ref H.next 0)) ds ((H.set m (.sK es bs c mb)).alloc (.iter m mb c [])) Q
   |.DT x=>∃it m mb c seen es bs,nQ g f x=.ref it 0/\H.get it=some (.iter m mb c seen)/\H.get m=some (.sK es bs c mb)/\
     ((∀b∈bs,b∈seen)->bS P g n r (fP n f o.dst (.iA [.bool false])) ds H Q)/\
     ∀j,j<bs.length->bs.getD j 0∉seen->bS P g n r (fP n f o.dst (.iA [.bool true,(es.getD j (aC,aC)).1,(es.getD j (aC,aC)).2])) ds (H.set it (.iter m mb c (seen++[bs.getD j 0]))) Q
   |.xZ x=>∃it m mb c seen es bs j,nQ g f x=.ref it 0/\H.get it=some (.iter m mb c (seen++[bs.getD j 0]))/\H.get m=some (.sK es bs c mb)/\j<bs.length/\
     bS P g n r (fP n f o.dst (.iA [(es.getD j (aC,aC)).1,(es.getD j (aC,aC)).2])) ds H Q
   |op=>lY (dA (nQ g f) H op) fun v H'=>bS P g n r (fP n f o.dst v) ds H' Q
  else bS P g n r (fP n f o.dst aC) ds H Q
def EF (P:Program) (g:bG) (r:bK) (f:dE) (H:aA) (v:AV) (H':aA):Prop:=
 match r.op with
 |.call c azs=>∃p,mE (nQ g f c)=some p/\Sound P g p.1 (p.2.1++azs.map (nQ g f)++p.2.2) H (.ret v) H'
 |.panic _|.kY _ _=>False
 |op=>dA (nQ g f) H op=some (v,H')
def Wb (P:Program) (g:bG) (n:Nat) (pairs:List (Nat×Nat)) (base:Nat):Nat->Nat->List bK->List (Nat×Nat)->List (Nat×aA×aA)->dE->aA->(dE->aA->Prop)->Prop
 |_,_,[],_,_,f,H,Q=>Q f H
 |i,k,r::rs,rd,ef,f,H,Q=>
  if iB f r then
   if r.op.fresh then
    ∃ob val,xQ (nQ g f) r.op=some (ob,val)/\(∀x∈ef,(i,x.1)∈pairs->x.2.1.get (base+k)=x.2.2.get (base+k))/\
     Wb P g n pairs base (i+1) (k+1) rs ((i,base+k)::rd) ef (fP n f r.dst (val (base+k))) (H.set (base+k) ob) Q
   else if r.op.pK then
    ∃v H',EF P g r f H v H'/\H.next<=H'.next/\(∀x∈rd,(x.1,i)∈pairs->H.get x.2=H'.get x.2)/\
     Wb P g n pairs base (i+1) k rs rd ((i,H,H')::ef) (fP n f r.dst v) H' Q
   else
    ∃v,EF P g r f H v H/\(∀id,r.op.dJ (nQ g f)=some id->∀x∈ef,(i,x.1)∈pairs->x.2.1.get id=x.2.2.get id)/\
     Wb P g n pairs base (i+1) k rs (match r.op.dJ (nQ g f) with|some id=>(i,id)::rd|none=>rd) ef (fP n f r.dst v) H Q
  else Wb P g n pairs base (i+1) (if r.op.fresh then k+1 else k) rs rd ef (fP n f r.dst aC) H Q
def iT (next:dE->List gM->aA->Prop) (Q:FQ):FQ
 |.normal,f,ds,H=>next f ds H
 |e,f,ds,H=>Q e f ds H
def dP (id:Nat) (Q:FQ):FQ
 |.exit i,f,ds,H=>if i=id then Q .normal f ds H else Q (.exit i) f ds H
 |e,f,ds,H=>Q e f ds H
def CK (n:Nat) (f:dE):List (Nat×AV)->dE
 |[]=>f
 |(t,v)::r=>CK n (fP n f (some t) v) r
def mg (id:Nat) (out:Out) (H3:aA):FQ
 |.normal,_,ds,H=>ds=[]/\out=.ret (.bool true)/\∃k sn,H.get id=some (.loop k sn .busy)/\H3=H.set id (.loop k sn .ready)
 |.ret,_,ds,H=>ds=[]/\out=.ret (.bool false)/\∃k sn,H.get id=some (.loop k sn .busy)/\H3=H.set id (.loop k sn (.done .ret))
 |.exit i,_,ds,H=>ds=[]/\out=.ret (.bool false)/\∃k sn,H.get id=some (.loop k sn .busy)/\H3=H.set id (.loop k sn (.done (.exit i)))
 |.panic _,_,_,_=>False
def OH (st:LSt) (f:dE) (ds:List gM) (H:aA) (Q:FQ):Prop:=
 match st with
 |.ready=>Q .normal f ds H
 |.done .ret=>Q .ret f ds H
 |.done (.exit i)=>Q (.exit i) f ds H
 |_=>False
def LF (n:Nat) (f:dE):List AV:=(List.range n).map f
def pQ (n:Nat) (f:dE):Prop:=∀t,n<=t->f t=aC
def FC (P:Program) (g:bG) (n:Nat):cG->dE->List gM->aA->FQ->Prop
 |.skip,f,ds,H,Q=>Q .normal f ds H
 |.ops rl,f,ds,H,Q=>bS P g n rl f ds H Q
 |.draw rl pairs,f,ds,H,Q=>(pB H (rl.countP (·.op.fresh))=true/\
   Wb P g n pairs H.next 0 0 rl [] [] f {H with next:=H.next+rl.countP (·.op.fresh)} fun f' H'=>Q .normal f' ds H')\/
   (pQ n f->∃x f' H',Mj P g rl pairs (LF n f) H (fun x' s' h'=>x'=x/\s'=LF n f'/\h'=H')/\pQ n f'/\(∀t,t∉rl.filterMap (·.dst)->f' t=f t)/\Q (.panic x) f' ds H')
 |.seq a b,f,ds,H,Q=>FC P g n a f ds H (iT (fun f ds H=>FC P g n b f ds H Q) Q)
 |.cond c a b,f,ds,H,Q=>∃t,nQ g f c=.bool t/\if t then FC P g n a f ds H Q else FC P g n b f ds H Q
 |.block id a,f,ds,H,Q=>FC P g n a f ds H (dP id Q)
 |.loop a,f,ds,H,Q=>∃(I:Nat->dE->List gM->aA->Prop) (m:Nat),I m f ds H/\
   ∀m f ds H,I m f ds H->FC P g n a f ds H (iT (fun f ds H=>∃k,k<m/\I k f ds H) Q)
 |.exit id,f,ds,H,Q=>Q (.exit id) f ds H
 |.ret,f,ds,H,Q=>Q .ret f ds H
 |.nY c ps PJ body,f,ds,H,Q=>∃fid fs cs v He k' s' st Hf,nQ g f c=.func (.func fid) fs cs/\
   Sound P g fid (fs++[.yield (H.next+1)]++cs) ((H.alloc .SD).alloc (.loop ⟨ps,PJ,body⟩ (LF n f) .ready)) (.ret v) He/\He.get (H.next+1)=some (.loop k' s' st)/\wR He (H.next+1) Hf/\
   OH st f (.mark H.next::ds) Hf Q
def Rs (P:Program) (g:bG) (n:Nat) (k:Mo) (f:dE) (id:Nat) (args:List AV) (H2:aA) (out:Out) (H3:aA):Prop:=
 FC P g n k.PJ (CK n f (k.ps.zip args)) [] H2 fun e f1 rI H1=>match e with
  |.normal=>rI=[]/\∃k1 sn1,H1.get id=some (.loop k1 sn1 .ready)/\FC P g n k.body f1 [] (H1.set id (.loop k1 sn1 .busy)) (mg id out H3)
  |_=>False
theorem pQ.put {n:Nat} {f:dE} (h:pQ n f) (dst:Option Nat) (v:AV):pQ n (fP n f dst v):=by
 cases dst with
 |none=>exact h
 |some d=>
  simp only[fP];split
  . intro t ht;rw[oH f v (by omega)];exact h t ht
  exact h
theorem Ru {n:Nat} {f:dE} (h:pQ n f) (t:Nat):(LF n f).getD t aC=f t:=by
 unfold LF;rw[getD_eq,Cw];by_cases ht:t<n
 . simp[ht]
 rw[h t (by omega)];simp[ht]
theorem pS {n:Nat} {f:dE} (dst:Option Nat) (v:AV):LF n (fP n f dst v)=mZ (LF n f) dst v:=by
 cases dst with
 |none=>rfl
 |some d=>
  simp only[fP,mZ,LF];apply Gd;intro i;rw[Gz];simp only[Cw,Af,Bv];by_cases hd:d<n
  . rw[if_pos hd];by_cases hi:d=i
    . subst hi;simp[hd,rG]
    rw[if_neg hi];by_cases gR:i<n
    . simp[gR,oH f v (Ne.symm hi)]
    simp[gR]
  rw[if_neg hd];by_cases hi:d=i
  . subst hi;simp[hd]
  rw[if_neg hi]
theorem AH {n:Nat} {f:dE} (h:pQ n f) (g:bG):nQ g f=Arg.eval g (LF n f):=by
 funext x
 cases x with
 |tmp t=>exact(Ru h t).symm
 |const v=>rfl
 |jD n=>rfl
theorem PE {n:Nat} {f:dE} (h:pQ n f) (o:bK):iB f o=bU (LF n f) o:=by
 unfold iB bU
 cases o.guard with
 |none=>rfl
 |some p=>simp only[Ru h];cases f p.1<;>rfl
theorem QE {n:Nat}:∀(l:List (Nat×AV)) (f:dE),qE (LF n f) l=LF n (CK n f l)
 |[],f=>rfl
 |(t,v)::l,f=>by rw[qE,CK,<-QE l];congr 1;rw[pS];rfl
theorem pQ.qE {n:Nat}:∀(l:List (Nat×AV)) {f:dE},pQ n f->pQ n (CK n f l)
 |[],_,h=>h
 |(t,v)::l,_,h=>pQ.qE l (h.put (some t) v)
def aKe (n:Nat) (Q:FQ):AQ:=fun e s ds H=>∃f,s=LF n f/\pQ n f/\Q e f ds H
section
variable {P:Program} {g:bG} {n:Nat}
theorem kG:∀(rl:List bK) (f:dE) (ds:List gM) (H:aA) (Q:FQ),pQ n f->bS P g n rl f ds H Q->uH P g rl (LF n f) ds H (aKe n Q)
 |[],f,ds,H,Q,hb,h=>⟨f,rfl,hb,h⟩
 |o::r,f,ds,H,Q,hb,h=>by
  unfold bS at h;unfold uH;rw[PE hb,AH hb] at h;split at h
  . rename_i hw;rw[if_pos hw];split at h
    . rename_i c azs fL;obtain⟨out,H',h2,h3⟩:=h;rw[fL];refine⟨out,H',h2,?_⟩
      cases out with
      |ret v=>
       have :=kG r _ ds H' Q (hb.put o.dst v) h3
       rwa [pS] at this
      |JP v=>exact⟨f,rfl,hb,h3⟩
    . rename_i x fL;obtain⟨t,v,h1,h2⟩:=h;rw[fL];exact⟨t,v,h1,f,rfl,hb,h2⟩
    . rename_i c azs fL;obtain⟨p,h1,h2⟩:=h;rw[fL];refine⟨p,h1,?_⟩;have :=kG r _ _ H Q (hb.put o.dst aC) h2
      rwa [pS] at this
    . rename_i x fL;obtain⟨m,es,h1,h2,h3⟩:=h;rw[fL];refine⟨m,es,h1,h2,fun bs c mb k1 k2=>?_⟩;have :=kG r _ _ _ Q (hb.put o.dst _) (h3 bs c mb k1 k2)
      rwa [pS] at this
    . rename_i x fL;obtain⟨it,m,mb,c,seen,es,bs,h1,h2,h3,h4,h5⟩:=h;rw[fL];refine⟨it,m,mb,c,seen,es,bs,h1,h2,h3,fun k=>?_,fun j k1 k2=>?_⟩
      . have :=kG r _ _ _ Q (hb.put o.dst _) (h4 k)
        rwa [pS] at this
      have :=kG r _ _ _ Q (hb.put o.dst _) (h5 j k1 k2)
      rwa [pS] at this
    . rename_i x fL;obtain⟨it,m,mb,c,seen,es,bs,j,h1,h2,h3,h4,h5⟩:=h;rw[fL];refine⟨it,m,mb,c,seen,es,bs,j,h1,h2,h3,h4,?_⟩;have :=kG r _ _ _ Q (hb.put o.dst _) h5
      rwa [pS] at this
    rename_i n1 n2 n3 n4 n5 n6;unfold lY at h;split at h
    . rename_i v H' ha;have :=kG r _ ds H' Q (hb.put o.dst v) h;rw[pS] at this;split
      . rename_i c azs fL;exact absurd fL (n1 c azs)
      . rename_i x fL;exact absurd fL (n2 x)
      . rename_i c azs fL;exact absurd fL (n3 c azs)
      . rename_i x fL;exact absurd fL (n4 x)
      . rename_i x fL;exact absurd fL (n5 x)
      . rename_i x fL;exact absurd fL (n6 x)
      exact⟨v,H',ha,this⟩
    exact h.elim
  rename_i hw;rw[if_neg hw];have :=kG r _ ds H Q (hb.put o.dst aC) h
  rwa [pS] at this
theorem QD {f:dE} (hb:pQ n f) {r:bK} {H H':aA} {v:AV} (h:EF P g r f H v H'):GQ P g r (LF n f) H v H':=by
 unfold EF at h;unfold GQ
 rwa [AH hb] at h
theorem vW {pairs:List (Nat×Nat)} {base:Nat} {Q:dE->aA->Prop}:∀(rl:List bK) (i k:Nat) (rd:List (Nat×Nat)) (ef:List (Nat×aA×aA)) (f:dE) (H:aA),pQ n f->
 Wb P g n pairs base i k rl rd ef f H Q->Ti P g pairs base i k rl rd ef (LF n f) H (fun s H=>∃f,s=LF n f/\pQ n f/\Q f H)
 |[],i,k,rd,ef,f,H,hb,h=>⟨f,rfl,hb,h⟩
 |r::rs,i,k,rd,ef,f,H,hb,h=>by
  unfold Wb at h;unfold Ti;rw[PE hb] at h;split at h
  . rename_i hw;rw[if_pos hw];split at h
    . rename_i hf;rw[if_pos hf];obtain⟨ob,val,h1,h2,h3⟩:=h;rw[AH hb] at h1;refine⟨ob,val,h1,h2,?_⟩;have :=vW rs _ _ _ _ _ _ (hb.put r.dst _) h3
      rwa [pS] at this
    rename_i hf;rw[if_neg hf];split at h
    . rename_i he;rw[if_pos he];obtain⟨v,H',h1,h2,h3,h4⟩:=h;refine⟨v,H',QD hb h1,h2,h3,?_⟩;have :=vW rs _ _ _ _ _ _ (hb.put r.dst _) h4
      rwa [pS] at this
    rename_i he;rw[if_neg he];obtain⟨v,h1,h2,h3⟩:=h;refine⟨v,QD hb h1,by rw[<-AH hb];exact h2,?_⟩;have :=vW rs _ _ _ _ _ _ (hb.put r.dst _) h3;rw[pS] at this;rw[<-AH hb];exact this
  rename_i hw;rw[if_neg hw];have :=vW rs _ _ _ _ _ _ (hb.put r.dst _) h
  rwa [pS] at this
theorem GM:∀(c:cG) (f:dE) (ds:List gM) (H:aA) (Q:FQ),pQ n f->FC P g n c f ds H Q->AC P g c (LF n f) ds H (aKe n Q):=by
 intro c
 induction c with
 |skip=>exact fun f ds H Q hb h=>⟨f,rfl,hb,h⟩
 |ops rl=>exact fun f ds H Q hb h=>kG rl f ds H Q hb h
 |draw rl pairs=>intro f ds H Q hb h;refine h.imp (fun h=>⟨h.1,vW rl 0 0 [] [] f _ hb h.2⟩) fun h=>?_;obtain⟨x,f',H',h1,h2,_,h3⟩:=h hb;exact h1.mono fun x' s' h' ⟨e1,e2,e3⟩=>⟨f',e2,h2,by rw[e1,e3];exact h3⟩
 |seq a b rR uT=>
  intro f ds H Q hb h;show AC P g a (LF n f) ds H _;refine fY (fun e s ds H hq=>?_) (rR f ds H _ hb h);obtain⟨f',rfl,CV,hq⟩:=hq
  cases e with
  |normal=>exact uT f' ds H Q CV hq
  |_=>exact⟨f',rfl,CV,hq⟩
 |cond c a b rR uT=>
  intro f ds H Q hb h;obtain⟨t,h1,h2⟩:=h;rw[AH hb] at h1;refine⟨t,h1,?_⟩
  cases t with
  |true=>exact rR f ds H Q hb h2
  |false=>exact uT f ds H Q hb h2
 |block id a ih=>
  intro f ds H Q hb h;show AC P g a (LF n f) ds H _;refine fY (fun e s ds H hq=>?_) (ih f ds H _ hb h);obtain⟨f',rfl,CV,hq⟩:=hq
  cases e with
  |exit i=>
   simp only[dP] at hq;simp only[pH];split
   . rename_i hi;rw[if_pos hi] at hq;exact⟨f',rfl,CV,hq⟩
   rename_i hi;rw[if_neg hi] at hq;exact⟨f',rfl,CV,hq⟩
  |_=>exact⟨f',rfl,CV,hq⟩
 |loop a ih=>
  intro f ds H Q hb h;obtain⟨I,m,h0,hI⟩:=h;refine⟨fun m s ds H=>∃f,s=LF n f/\pQ n f/\I m f ds H,m,⟨f,rfl,hb,h0⟩,?_⟩;rintro m s rI H1 ⟨f1,rfl,eC,h1⟩;refine fY (fun e s ds H hq=>?_) (ih f1 rI H1 _ eC (hI m f1 rI H1 h1));obtain⟨f',rfl,CV,hq⟩:=hq
  cases e with
  |normal=>obtain⟨k,hk,hq⟩:=hq;exact⟨k,hk,f',rfl,CV,hq⟩
  |_=>exact⟨f',rfl,CV,hq⟩
 |exit id=>exact fun f ds H Q hb h=>⟨f,rfl,hb,h⟩
 |ret=>exact fun f ds H Q hb h=>⟨f,rfl,hb,h⟩
 |nY c ps a b rR uT=>
  intro f ds H Q hb h;obtain⟨fid,fs,cs,v,He,k',s',st,Hf,h1,h2,h3,h4,h5⟩:=h;rw[AH hb] at h1;refine⟨fid,fs,cs,v,He,k',s',st,Hf,h1,h2,h3,h4,?_⟩
  cases st with
  |ready=>exact⟨f,rfl,hb,h5⟩
  |done e=>cases e<;>exact⟨f,rfl,hb,h5⟩
  |busy=>exact h5.elim
  |over _=>exact h5.elim
theorem eh {rl:List bK}:∀{f:dE} {ds:List gM} {H:aA} {Q Q':FQ},(∀e f ds H,Q e f ds H->Q' e f ds H)->bS P g n rl f ds H Q->bS P g n rl f ds H Q':=by
 induction rl with
 |nil=>exact fun hq h=>hq _ _ _ _ h
 |cons o r ih=>
  intro f ds H Q Q' hq h;unfold bS at h ⊢;split
  . rename_i hw;rw[if_pos hw] at h;split at h
    . obtain⟨out,H',h1,h3⟩:=h;refine⟨out,H',h1,?_⟩
      cases out with
      |ret v=>exact ih hq h3
      |JP v=>exact hq _ _ _ _ h3
    . obtain⟨t,v,h1,h2⟩:=h;exact⟨t,v,h1,hq _ _ _ _ h2⟩
    . obtain⟨p,h1,h2⟩:=h;exact⟨p,h1,ih hq h2⟩
    . obtain⟨m,es,h1,h2,h3⟩:=h;exact⟨m,es,h1,h2,fun bs c mb k1 k2=>ih hq (h3 bs c mb k1 k2)⟩
    . obtain⟨it,m,mb,c,seen,es,bs,h1,h2,h3,h4,h5⟩:=h;exact⟨it,m,mb,c,seen,es,bs,h1,h2,h3,fun k=>ih hq (h4 k),fun j k1 k2=>ih hq (h5 j k1 k2)⟩
    . obtain⟨it,m,mb,c,seen,es,bs,j,h1,h2,h3,h4,h5⟩:=h;exact⟨it,m,mb,c,seen,es,bs,j,h1,h2,h3,h4,ih hq h5⟩
    unfold lY at h ⊢;split at h
    . exact ih hq h
    exact h.elim
  rename_i hw;rw[if_neg hw] at h;exact ih hq h
theorem Tp {pairs:List (Nat×Nat)} {base:Nat} {rl:List bK}:∀{i k:Nat} {rd:List (Nat×Nat)} {ef:List (Nat×aA×aA)} {f:dE} {H:aA} {Q Q':dE->aA->Prop},(∀f H,Q f H->Q' f H)->
 Wb P g n pairs base i k rl rd ef f H Q->Wb P g n pairs base i k rl rd ef f H Q':=by
 induction rl with
 |nil=>exact fun hq h=>hq _ _ h
 |cons r rs ih=>
  intro i k rd ef f H Q Q' hq h;unfold Wb at h ⊢;exact Zan
theorem jM {c:cG}:∀{f:dE} {ds:List gM} {H:aA} {Q Q':FQ},(∀e f ds H,Q e f ds H->Q' e f ds H)->FC P g n c f ds H Q->FC P g n c f ds H Q':=by
 induction c with
 |skip=>exact fun hq h=>hq _ _ _ _ h
 |ops rl=>exact fun hq h=>eh hq h
 |draw rl pairs=>exact fun hq h=>h.imp (fun h=>⟨h.1,Tp (fun s H=>hq _ _ _ _) h.2⟩) fun h hb=>let⟨x,f',H',h1,h2,h3,h4⟩:=h hb;⟨x,f',H',h1,h2,h3,hq _ _ _ _ h4⟩
 |seq a b rR uT=>
  intro f ds H Q Q' hq h;refine rR (fun e f ds H h=>?_) h
  cases e with
  |normal=>exact uT hq h
  |_=>exact hq _ _ _ _ h
 |cond c a b rR uT=>
  intro f ds H Q Q' hq h;obtain⟨t,h1,h2⟩:=h;refine⟨t,h1,?_⟩
  cases t with
  |true=>exact rR hq h2
  |false=>exact uT hq h2
 |block id a ih=>
  intro f ds H Q Q' hq h;refine ih (fun e f ds H h=>?_) h
  cases e with
  |exit i=>
   simp only[dP] at h ⊢;split
   . rename_i hi;rw[if_pos hi] at h;exact hq _ _ _ _ h
   rename_i hi;rw[if_neg hi] at h;exact hq _ _ _ _ h
  |_=>exact hq _ _ _ _ h
 |loop a ih=>
  intro f ds H Q Q' hq h;obtain⟨I,m,h0,hI⟩:=h;refine⟨I,m,h0,fun m f ds H hi=>ih (fun e f ds H h=>?_) (hI m f ds H hi)⟩
  cases e with
  |normal=>exact h
  |_=>exact hq _ _ _ _ h
 |exit id=>exact fun hq h=>hq _ _ _ _ h
 |ret=>exact fun hq h=>hq _ _ _ _ h
 |nY c ps a b rR uT=>
  intro f ds H Q Q' hq h;obtain⟨fid,fs,cs,v,He,k',s',st,Hf,h1,h2,h3,h4,h5⟩:=h;refine⟨fid,fs,cs,v,He,k',s',st,Hf,h1,h2,h3,h4,?_⟩
  cases st with
  |ready=>exact hq _ _ _ _ h5
  |done e=>cases e<;>exact hq _ _ _ _ h5
  |busy=>exact h5.elim
  |over _=>exact h5.elim
def fK (args:List AV):dE:=fun t=>args.getD t aC
def aAf (f:dE) (H:aA):GJ->Option AV
 |.tmp t=>some (f t)
 |.cell a agg n=>match dA (nQ g0 f) H (.load agg n (.tmp a)) with
  |some (v,_)=>some v
  |none=>none
def BG (f:dE) (H:aA):List GJ->Option (List AV)
 |[]=>some []
 |x::r=>match aAf f H x,BG f H r with
  |some v,some vs=>some (v::vs)
  |_,_=>none
theorem IX {f:dE} (hb:pQ n f) (H:aA):∀l,BG f H l=lT (LF n f) H l
 |[]=>rfl
 |x::r=>by
  have ih:=IX hb H r
  cases x with
  |tmp t=>simp only[BG,lT,aAf,l8,ih,Ru hb];cases lT (LF n f) H r<;>rfl
  |cell a agg m=>
   simp only[BG,lT,aAf,l8,ih,AH hb]
   cases dA (Arg.eval g0 (LF n f)) H (.load agg m (.tmp a)) with
   |none=>rfl
   |some p=>cases lT (LF n f) H r<;>rfl
theorem Kr {args:List AV} (h:args.length<=n):pQ n (fK args)/\LF n (fK args)=args++List.replicate (n -args.length) aC:=by
 refine⟨fun t ht=>?_,Gd fun t=>?_⟩
 . simp only[fK,getD_eq];rw[Bu (by omega)];rfl
 unfold LF;rw[Cw];by_cases ht:t<n
 . rw[Is ht,Bx];by_cases h1:t<args.length
   . rw[Eu h1];simp[fK,getD_eq,Ad h1]
   rw[Fx (by omega),Gi,if_pos (by omega)];simp only[fK,getD_eq];rw[Bu (by omega)];rfl
 rw[Bu Zai,Bu Zai];rfl
def Lz (rs:List GJ) (R:Out->aA->Prop):FQ
 |.normal,f,ds,H|.ret,f,ds,H=>ds=[]/\∃vs,BG f H rs=some vs/\R (.ret (nZ vs)) H
 |.panic v,_,ds,H=>ds=[]/\R (.JP v) H
 |.exit _,_,_,_=>False
theorem pz {F:BR} {args:List AV} (ha:args.length<=F.ntmps) {H:aA} {R:Out->aA->Prop} (h:FC P g F.ntmps F.body (fK args) [] H (Lz F.results R)):
 AC P g F.body (qI F args) [] H (aHf F R):=by
 obtain⟨hb,hl⟩:=Kr ha;unfold qI;rw[<-hl];refine fY (fun e s ds H hq=>?_) (GM F.body _ [] H _ hb h);obtain⟨f,rfl,CV,hq⟩:=hq
 cases e with
 |normal=>obtain⟨h1,vs,h2,h3⟩:=hq;exact⟨h1,vs,by rw[<-IX CV];exact h2,h3⟩
 |ret=>obtain⟨h1,vs,h2,h3⟩:=hq;exact⟨h1,vs,by rw[<-IX CV];exact h2,h3⟩
 |panic v=>exact hq
 |exit id=>exact hq
def bK.dO (r:bK):Bool:=match r.op with|.vM _|.DT _=>false|_=>true
def cG.dO:cG->Bool
 |.ops rl=>rl.all bK.dO
 |.seq a b|.cond _ a b=>a.dO&&b.dO
 |.block _ a|.loop a=>a.dO
 |_=>true
theorem WX {rl:List bK} (hd:rl.all bK.dO=true):∀{s:List AV} {ds:List gM} {H:aA} {Q:AQ},uH P g rl s ds H Q->
 ∃ae s' fN H',Q ae s' fN H'/\uH P g rl s ds H (fun e s d h=>e=ae/\s=s'/\d=fN/\h=H'):=by
 induction rl with
 |nil=>exact fun {s ds H Q} h=>⟨.normal,s,ds,H,h,rfl,rfl,rfl,rfl⟩
 |cons o r ih=>
  intro s ds H Q h;simp only[Ik,Al] at hd;have ih:=fun {s ds H Q}=> @ih hd.2 s ds H Q;unfold uH at h ⊢;by_cases hw:bU s o=true
  . simp only[hw,if_true] at h ⊢;split at h
    . obtain⟨out,H',h1,h3⟩:=h
      cases out with
      |ret v=>obtain⟨ae,s',fN,H1,q,hA⟩:=ih h3;exact⟨ae,s',fN,H1,q,.ret v,H',h1,hA⟩
      |JP v=>exact⟨.panic v,s,ds,H',h3,.JP v,H',h1,rfl,rfl,rfl,rfl⟩
    . obtain⟨t,v,h1,h2⟩:=h;exact⟨_,s,ds,H,h2,t,v,h1,rfl,rfl,rfl,rfl⟩
    . obtain⟨p,h1,h2⟩:=h;obtain⟨ae,s',fN,H1,q,hA⟩:=ih h2;exact⟨ae,s',fN,H1,q,p,h1,hA⟩
    . rename_i x fL;simp[bK.dO,fL] at hd
    . rename_i x fL;simp[bK.dO,fL] at hd
    . obtain⟨it,m,mb,c,seen,es,bs,j,h1,h2,h3,h4,h5⟩:=h;obtain⟨ae,s',fN,H1,q,hA⟩:=ih h5;exact⟨ae,s',fN,H1,q,it,m,mb,c,seen,es,bs,j,h1,h2,h3,h4,hA⟩
    obtain⟨v,H',h1,h2⟩:=h;obtain⟨ae,s',fN,H1,q,hA⟩:=ih h2;exact⟨ae,s',fN,H1,q,v,H',h1,hA⟩
  simp only[hw] at h ⊢;exact ih h
theorem di {pairs:List (Nat×Nat)} {base:Nat} {rl:List bK}:∀{i k:Nat} {rd:List (Nat×Nat)} {ef:List (Nat×aA×aA)} {s:List AV} {H:aA} {Q:List AV->aA->Prop},
 Ti P g pairs base i k rl rd ef s H Q->∃s' H',Q s' H'/\Ti P g pairs base i k rl rd ef s H (fun s h=>s=s'/\h=H'):=by
 induction rl with
 |nil=>exact fun {i k rd ef s H Q} h=>⟨s,H,h,rfl,rfl⟩
 |cons r rs ih=>
  intro i k rd ef s H Q h;unfold Ti at h ⊢;by_cases hw:bU s r=true
  . simp only[hw,if_true] at h ⊢;by_cases hf:r.op.fresh=true
    . simp only[hf,if_true] at h ⊢;obtain⟨ob,val,h1,h2,h3⟩:=h;obtain⟨s',H',q,hA⟩:=ih h3;exact⟨s',H',q,ob,val,h1,h2,hA⟩
    simp only[hf] at h ⊢;by_cases he:r.op.pK=true
    . simp only[he,if_true] at h ⊢;obtain⟨v,H1,h1,h2,h3,h4⟩:=h;obtain⟨s',H',q,hA⟩:=ih h4;exact⟨s',H',q,v,H1,h1,h2,h3,hA⟩
    simp only[he] at h ⊢;obtain⟨v,h1,h2,h3⟩:=h;obtain⟨s',H',q,hA⟩:=ih h3;exact⟨s',H',q,v,h1,h2,hA⟩
  simp only[hw] at h ⊢;exact ih h
theorem Tg {c:cG} (hd:c.dO=true):∀{s:List AV} {ds:List gM} {H:aA} {Q:AQ},AC P g c s ds H Q->
 ∃ae s' fN H',Q ae s' fN H'/\AC P g c s ds H (fun e s d h=>e=ae/\s=s'/\d=fN/\h=H'):=by
 induction c with
 |skip=>exact fun {s ds H Q} h=>⟨.normal,s,ds,H,h,rfl,rfl,rfl,rfl⟩
 |ops rl=>exact fun h=>WX hd h
 |draw rl pairs=>
  intro s ds H Q h
  rcases h with h|⟨j,Hs,ss,vs,h1,D,r,f,azs,p,x,H1,e1,e2,e3,e4,e5,q⟩
  . obtain⟨s',H',q,hA⟩:=di h.2;exact⟨.normal,s',ds,H',q,.inl ⟨h.1,Tj (fun s H h=>⟨rfl,h.1,rfl,h.2⟩) hA⟩⟩
  exact⟨.panic x,ss j,ds,H1,q,.inr ⟨j,Hs,ss,vs,h1,D,r,f,azs,p,x,H1,e1,e2,e3,e4,e5,rfl,rfl,rfl,rfl⟩⟩
 |seq a b rR uT=>
  simp only[cG.dO,Al] at hd;have rR:=fun {s ds H Q}=> @rR hd.1 s ds H Q;have uT:=fun {s ds H Q}=> @uT hd.2 s ds H Q;intro s ds H Q h;obtain⟨ae,s1,rI,H1,q,hA⟩:=rR h
  cases ae with
  |normal=>obtain⟨ae2,s2,TX,H2,q2,hB⟩:=uT q;refine⟨ae2,s2,TX,H2,q2,?_⟩;show AC P g a s ds H _;refine fY (fun e s d h hh=>?_) hA;obtain⟨rfl,rfl,rfl,rfl⟩:=hh;exact hB
  |_=>refine⟨_,s1,rI,H1,q,?_⟩;show AC P g a s ds H _;refine fY (fun e s d h hh=>?_) hA;obtain⟨rfl,rfl,rfl,rfl⟩:=hh;exact⟨rfl,rfl,rfl,rfl⟩
 |cond c a b rR uT=>
  simp only[cG.dO,Al] at hd;have rR:=fun {s ds H Q}=> @rR hd.1 s ds H Q;have uT:=fun {s ds H Q}=> @uT hd.2 s ds H Q;intro s ds H Q h;obtain⟨t,h1,h2⟩:=h
  cases t with
  |true=>obtain⟨ae,s1,rI,H1,q,hA⟩:=rR h2;exact⟨ae,s1,rI,H1,q,true,h1,hA⟩
  |false=>obtain⟨ae,s1,rI,H1,q,hA⟩:=uT h2;exact⟨ae,s1,rI,H1,q,false,h1,hA⟩
 |block id a ih=>
  have ih:=fun {s ds H Q}=> @ih hd s ds H Q;intro s ds H Q h;obtain⟨ae,s1,rI,H1,q,hA⟩:=ih h
  have other:∀e,(∀i,e≠ .exit i)->Q e s1 rI H1->AC P g a s ds H (fun e' s d h=>e'=e/\s=s1/\d=rI/\h=H1)->
   ∃ae s' fN H',Q ae s' fN H'/\AC P g (.block id a) s ds H (fun e s d h=>e=ae/\s=s'/\d=fN/\h=H'):=fun e cP hq hA=>by
   refine⟨e,s1,rI,H1,hq,?_⟩;show AC P g a s ds H _;refine fY (fun e' s d h hh=>?_) hA;obtain⟨rfl,rfl,rfl,rfl⟩:=hh
   cases e' with
   |exit i=>exact absurd rfl (cP i)
   |_=>exact⟨rfl,rfl,rfl,rfl⟩
  cases ae with
  |exit i=>
   simp only[pH] at q;by_cases hi:i=id
   . rw[if_pos hi] at q;refine⟨.normal,s1,rI,H1,q,?_⟩;show AC P g a s ds H _;refine fY (fun e s d h hh=>?_) hA;obtain⟨rfl,rfl,rfl,rfl⟩:=hh;simp only[pH];rw[if_pos hi]
     first|exact⟨rfl,rfl,rfl,rfl⟩|simp
   rw[if_neg hi] at q;refine⟨.exit i,s1,rI,H1,q,?_⟩;show AC P g a s ds H _;refine fY (fun e s d h hh=>?_) hA;obtain⟨rfl,rfl,rfl,rfl⟩:=hh;simp only[pH];rw[if_neg hi]
   first|exact⟨rfl,rfl,rfl,rfl⟩|simp
  |normal=>exact other _ (fun i hh=>by cases hh) q hA
  |ret=>exact other _ (fun i hh=>by cases hh) q hA
  |panic v=>exact other _ (fun i hh=>by cases hh) q hA
 |loop a ih=>
  have ih:=fun {s ds H Q}=> @ih hd s ds H Q;intro s ds H Q h;obtain⟨I,m,h0,hI⟩:=h
  have key:∀(m:Nat) (s:List AV) (ds:List gM) (H:aA),I m s ds H->
   ∃ae s' fN H',Q ae s' fN H'/\AC P g (.loop a) s ds H (fun e s d h=>e=ae/\s=s'/\d=fN/\h=H'):=by
   intro m
   induction m using Nat.strongRecOn with
   |_ m ihm=>
    intro s ds H hi;obtain⟨ae,s1,rI,H1,q,hA⟩:=ih (hI m s ds H hi)
    have once:∀e,e≠ .normal->Q e s1 rI H1->AC P g a s ds H (fun e' s d h=>e'=e/\s=s1/\d=rI/\h=H1)->
     ∃ae s' fN H',Q ae s' fN H'/\AC P g (.loop a) s ds H (fun e s d h=>e=ae/\s=s'/\d=fN/\h=H'):=fun e cP hq hA=>by
     refine⟨e,s1,rI,H1,hq,fun k s' d' h'=>s'=s/\d'=ds/\h'=H,0,⟨rfl,rfl,rfl⟩,?_⟩;rintro k _ _ _ ⟨rfl,rfl,rfl⟩;refine fY (fun e' s d h hh=>?_) hA;obtain⟨rfl,rfl,rfl,rfl⟩:=hh
     cases e' with
     |normal=>exact absurd rfl cP
     |_=>exact⟨rfl,rfl,rfl,rfl⟩
    cases ae with
    |normal=>
     obtain⟨k,hk,xG⟩:=q;obtain⟨ae2,s2,TX,H2,q2,J,j,hj,hJ⟩:=ihm k hk s1 rI H1 xG;refine⟨ae2,s2,TX,H2,q2,fun x s' d' h'=>J x s' d' h'\/(x=j+1/\s'=s/\d'=ds/\h'=H),j+1,.inr ⟨rfl,rfl,rfl,rfl⟩,?_⟩;rintro x s' d' h' (hx|⟨rfl,rfl,rfl,rfl⟩)
     . refine fY (fun e s d h hh=>?_) (hJ x s' d' h' hx)
       cases e with
       |normal=>obtain⟨y,hy,hyy⟩:=hh;exact⟨y,hy,.inl hyy⟩
       |_=>exact hh
     refine fY (fun e s d h hh=>?_) hA;obtain⟨rfl,rfl,rfl,rfl⟩:=hh;exact⟨j,Ew j,.inl hj⟩
    |exit i=>exact once _ (fun hh=>by cases hh) q hA
    |ret=>exact once _ (fun hh=>by cases hh) q hA
    |panic v=>exact once _ (fun hh=>by cases hh) q hA
  exact key m s ds H h0
 |exit id=>exact fun {s ds H Q} h=>⟨_,s,ds,H,h,rfl,rfl,rfl,rfl⟩
 |ret=>exact fun {s ds H Q} h=>⟨_,s,ds,H,h,rfl,rfl,rfl,rfl⟩
 |nY c ps a b rR uT=>
  intro s ds H Q h;obtain⟨fid,fs,cs,v,He,k',s',st,Hf,h1,h2,h3,h4,h5⟩:=h
  cases st with
  |ready=>exact⟨_,_,_,Hf,h5,fid,fs,cs,v,He,k',s',.ready,Hf,h1,h2,h3,h4,rfl,rfl,rfl,rfl⟩
  |done e=>cases e<;>exact⟨_,_,_,Hf,h5,fid,fs,cs,v,He,k',s',.done _,Hf,h1,h2,h3,h4,rfl,rfl,rfl,rfl⟩
  |busy=>exact h5.elim
  |over _=>exact h5.elim
theorem cY {mu:Bool} (hm:Fit P g) {f:FuncId} {F:BR} (hF:kH P g mu f F) {args:List AV} (ha:args.length<=F.ntmps) {H:aA} {R:Out->aA->Prop}
 (h:FC P g F.ntmps F.body (fK args) [] H (Lz F.results R)) (hdt:F.body.dO=true:=by first|rfl|decide):∃out H',R out H'/\Sound P g f args H out H':=by
 obtain⟨ae,s,ds,H',q,hA⟩:=Tg hdt (pz ha h);have fin:∀out,R out H'->AC P g F.body (qI F args) [] H (aHf F fun o h=>o=out/\h=H')->∃out H',R out H'/\Sound P g f args H out H':=fun out hR hA=>⟨out,H',hR,Tt hm hF hA⟩
 cases ae with
 |exit id=>exact q.elim
 |panic v=>refine fin (.JP v) q.2 (fY (fun e s d h hh=>?_) hA);obtain⟨rfl,rfl,rfl,rfl⟩:=hh;exact⟨q.1,rfl,rfl⟩
 |normal=>obtain⟨h1,vs,h2,h3⟩:=q;refine fin _ h3 (fY (fun e s d h hh=>?_) hA);obtain⟨rfl,rfl,rfl,rfl⟩:=hh;exact⟨h1,vs,h2,rfl,rfl⟩
 |ret=>obtain⟨h1,vs,h2,h3⟩:=q;refine fin _ h3 (fY (fun e s d h hh=>?_) hA);obtain⟨rfl,rfl,rfl,rfl⟩:=hh;exact⟨h1,vs,h2,rfl,rfl⟩
end
end
section
theorem eD {a b:Prop} (h1:a->b) (h2:b->a):a=b:=propext ⟨h1,h2⟩
theorem aI {r r':Option (AV×aA)} (h:r=r') (k:AV->aA->Prop):lY r k=lY r' k:=by rw[h]
theorem cF (v:AV) (H:aA) (k:AV->aA->Prop):lY (some (v,H)) k=k v H:=eD id id
section
variable {P:Program} {g:bG} {n:Nat} {r:List bK} {f:dE} {ds:List gM} {H:aA} {Q:FQ}
theorem vX:bS P g n [] f ds H Q=Q .normal f ds H:=eD id id
theorem Rr (d:Nat) (op:eE) (hp:op.plain=true) (hd:d<n):
 bS P g n (⟨some d,op,none⟩::r) f ds H Q=lY (dA (nQ g f) H op) fun v H'=>bS P g n r (kD f d v) ds H' Q:=by
 have :∀v,fP n f (some d) v=kD f d v:=fun v=>by simp[fP,hd]
 conv=>lhs;unfold bS
 simp only[iB,if_true,this]
 cases op<;>first|rfl|cases hp
theorem qk (op:eE) (hp:op.plain=true):
 bS P g n (⟨none,op,none⟩::r) f ds H Q=lY (dA (nQ g f) H op) fun v H'=>bS P g n r f ds H' Q:=by
 conv=>lhs;unfold bS
 simp only[iB,if_true,fP]
 cases op<;>first|rfl|cases hp
theorem GN (d:Nat) (x:Arg) (hd:d<n):bS P g n (⟨some d,(.Sv x),none⟩::r) f ds H Q=lY (dA (nQ g f) H (.Sv x)) fun v H'=>bS P g n r (kD f d v) ds H' Q:=Rr d _ rfl hd
theorem zC (d:Nat) (o:BinOp) (x y:Arg) (hd:d<n):bS P g n (⟨some d,(.bin o x y),none⟩::r) f ds H Q=lY (dA (nQ g f) H (.bin o x y)) fun v H'=>bS P g n r (kD f d v) ds H' Q:=Rr d _ rfl hd
theorem ee {d:Nat} {fid:FuncId} {azs:List Arg} {args:List AV} {v:AV} {H':aA} (hd:d<n) (ha:azs.map (nQ g f)=args) (hS:Sound P g fid args H (.ret v) H')
 (h:bS P g n r (kD f d v) ds H' Q):bS P g n (⟨some d,.call (.const (.func (.func fid) [] [])) azs,none⟩::r) f ds H Q:=by
 have :∀v,fP n f (some d) v=kD f d v:=fun v=>by simp[fP,hd]
 unfold bS;simp only[iB,if_true,this];exact⟨.ret v,H',.inl ⟨(fid,[],[]),rfl,by simpa [ha] using hS⟩,h⟩
theorem EE {d:Nat} {c:Arg} {fid:FuncId} {fs cs:List AV} {azs:List Arg} {args:List AV} {v:AV} {H':aA} (hd:d<n) (hc:nQ g f c=.func (.func fid) fs cs) (ha:fs++azs.map (nQ g f)++cs=args)
 (hS:Sound P g fid args H (.ret v) H') (h:bS P g n r (kD f d v) ds H' Q):bS P g n (⟨some d,.call c azs,none⟩::r) f ds H Q:=by
 have :∀v,fP n f (some d) v=kD f d v:=fun v=>by simp[fP,hd]
 unfold bS;simp only[iB,if_true,this];exact⟨.ret v,H',.inl ⟨(fid,fs,cs),by rw[hc];rfl,by rw[ha];exact hS⟩,h⟩
theorem iV (t:Nat):nQ g f (.tmp t)=f t:=by cases h:f t<;>exact h
theorem wG (v:AV):nQ g f (.const v)=v:=by cases v<;>rfl
theorem JQ (rl:List bK):FC P g n (.ops rl) f ds H Q=bS P g n rl f ds H Q:=eD id id
theorem ME:FC P g n .skip f ds H Q=Q .normal f ds H:=eD id id
theorem aKo:FC P g n .ret f ds H Q=Q .ret f ds H:=eD id id
theorem MD (id:Nat):FC P g n (.exit id) f ds H Q=Q (.exit id) f ds H:=eD (fun h=>h) (fun h=>h)
theorem aJ {a b:cG} (h:∀K:dE->List gM->aA->Prop,(∀f ds H,FC P g n b f ds H Q->K f ds H)->FC P g n a f ds H (iT K Q)):FC P g n (.seq a b) f ds H Q:=h _ fun _ _ _ h=>h
theorem aL {id:Nat} {a:cG} (h:FC P g n a f ds H (dP id Q)):FC P g n (.block id a) f ds H Q:=h
theorem Rp {c:Arg} {a b:cG} (t:Bool) (hc:nQ g f c=.bool t) (h1:t=true->FC P g n a f ds H Q) (h2:t=false->FC P g n b f ds H Q):FC P g n (.cond c a b) f ds H Q:=by
 refine⟨t,hc,?_⟩
 cases t with
 |true=>exact h1 rfl
 |false=>exact h2 rfl
theorem Rq {a:cG} (I:Nat->dE->List gM->aA->Prop) (m:Nat) (h0:I m f ds H) (h:∀m f ds H,I m f ds H->FC P g n a f ds H (iT (fun f ds H=>∃k,k<m/\I k f ds H) Q)):FC P g n (.loop a) f ds H Q:=⟨I,m,h0,h⟩
theorem gE (K:dE->List gM->aA->Prop):iT K Q .normal f ds H=K f ds H:=eD id id
theorem nr (K:dE->List gM->aA->Prop):iT K Q .ret f ds H=Q .ret f ds H:=eD id id
theorem oF (K:dE->List gM->aA->Prop) (i:Nat):iT K Q (.exit i) f ds H=Q (.exit i) f ds H:=eD id id
theorem Lw (i:Nat):dP i Q .normal f ds H=Q .normal f ds H:=eD id id
theorem Si (i:Nat):dP i Q .ret f ds H=Q .ret f ds H:=eD id id
theorem qN (i:Nat):dP i Q (.exit i) f ds H=Q .normal f ds H:=by simp[dP]
theorem Nv (i j:Nat) (h:j≠i):dP i Q (.exit j) f ds H=Q (.exit j) f ds H:=by simp[dP,h]
end
class Pl (op:eE):Prop where h:op.plain=true
instance (x:Arg):Pl (.Sv x):=⟨rfl⟩
instance (c a b:Arg):Pl (.pick c a b):=⟨rfl⟩
instance (z:List AV):Pl (.alloc z):=⟨rfl⟩
instance (x:Arg):Pl (.box x):=⟨rfl⟩
instance (z:List AV) (ps:List (Nat×Nat×Arg)):Pl (.build z ps):=⟨rfl⟩
instance (sz:Nat) (xs:List Arg):Pl (.OP sz xs):=⟨rfl⟩
instance (agg:Bool) (m:Nat) (a:Arg):Pl (.load agg m a):=⟨rfl⟩
instance (m:Nat) (a x:Arg):Pl (.store m a x):=⟨rfl⟩
instance (x:Arg):Pl (.OQ x):=⟨rfl⟩
instance (o:BinOp) (x y:Arg):Pl (.bin o x y):=⟨rfl⟩
instance (neg:Bool) (x y:Arg):Pl (.eqb neg x y):=⟨rfl⟩
instance (neg:Bool) (sh:List Sk) (x y:Arg):Pl (.eqf neg sh x y):=⟨rfl⟩
instance (neg:Bool) (k:Nk) (lit:Bool) (x y:Arg):Pl (.tt neg k lit x y):=⟨rfl⟩
instance (o:UnOp) (x:Arg):Pl (.un o x):=⟨rfl⟩
instance (k:IntKind) (x:Arg):Pl (.NN k x):=⟨rfl⟩
instance (x:Arg):Pl (.BK x):=⟨rfl⟩
instance (x:Arg):Pl (.DJ x):=⟨rfl⟩
instance (m:Nat) (x:Arg):Pl (.Yf m x):=⟨rfl⟩
instance (t:TypeId) (x:Arg):Pl (.Xq t x):=⟨rfl⟩
instance (fn:Fn) (a b:List Arg):Pl (.Xp fn a b):=⟨rfl⟩
instance:Pl (.yQ):=⟨rfl⟩
instance (sz bytes:Nat) (z:List AV) (l c:Arg):Pl (.jQ sz bytes z l c):=⟨rfl⟩
instance (x:Arg) (lo hi:Option Arg):Pl (.Ow x lo hi):=⟨rfl⟩
instance (sz:Nat) (x:Arg) (lo hi mx:Option Arg):Pl (.Yi sz x lo hi mx):=⟨rfl⟩
instance (m sz:Nat) (x:Arg) (lo hi mx:Option Arg):Pl (.EA m sz x lo hi mx):=⟨rfl⟩
instance (off:Nat) (x:Arg):Pl (.XJ off x):=⟨rfl⟩
instance (arr:Option Nat) (sz:Nat) (x i:Arg):Pl (.Sh arr sz x i):=⟨rfl⟩
instance (m sz:Nat) (agg:Bool) (x i:Arg):Pl (.idx m sz agg x i):=⟨rfl⟩
instance (x i:Arg):Pl (.idxs x i):=⟨rfl⟩
instance (t:TypeId) (ok:Bool) (z:AV) (x:Arg):Pl (.Yp t ok z x):=⟨rfl⟩
instance (x:Arg) (i:Nat):Pl (.XH x i):=⟨rfl⟩
instance (x:Arg):Pl (.lens x):=⟨rfl⟩
instance (x:Arg):Pl (.OD x):=⟨rfl⟩
instance (x y:Arg):Pl (.VE x y):=⟨rfl⟩
instance (x y:Arg):Pl (.VH x y):=⟨rfl⟩
instance (sz bytes:Nat) (mu:Bool) (x y:Arg):Pl (.append sz bytes mu x y):=⟨rfl⟩
instance (sz:Nat) (x y:Arg):Pl (.copy sz x y):=⟨rfl⟩
instance (k:Sk) (z:AV) (ok:Bool) (x i:Arg):Pl (.lookup k z ok x i):=⟨rfl⟩
instance (k:Sk) (m i v:Arg):Pl (.OM k m i v):=⟨rfl⟩
instance (sz:Nat) (z:List AV) (x:Arg):Pl (.clr sz z x):=⟨rfl⟩
theorem bDi (P:Program) (g:bG) (n:Nat):
 (∀(r:List bK) (f:dE) (ds:List gM) (H:aA) (Q:FQ) (d:Nat) (op:eE) [Pl op] (hd:d<n),bS P g n (⟨some d,op,none⟩::r) f ds H Q=lY (dA (nQ g f) H op) fun v H'=>bS P g n r (kD f d v) ds H' Q)/\
 (∀(r:List bK) (f:dE) (ds:List gM) (H:aA) (Q:FQ) (op:eE) [Pl op],bS P g n (⟨none,op,none⟩::r) f ds H Q=lY (dA (nQ g f) H op) fun v H'=>bS P g n r f ds H' Q)/\
 (∀(f:dE) (ds:List gM) (H:aA) (Q:FQ),bS P g n [] f ds H Q=Q .normal f ds H)/\
 (∀(f:dE) (ds:List gM) (H:aA) (Q:FQ) (rl:List bK),FC P g n (.ops rl) f ds H Q=bS P g n rl f ds H Q)/\
 (∀(f:dE) (ds:List gM) (H:aA) (Q:FQ),FC P g n .skip f ds H Q=Q .normal f ds H)/\
 (∀(f:dE) (ds:List gM) (H:aA) (Q:FQ),FC P g n .ret f ds H Q=Q .ret f ds H)/\
 (∀(f:dE) (ds:List gM) (H:aA) (Q:FQ) (id:Nat),FC P g n (.exit id) f ds H Q=Q (.exit id) f ds H):=
 ⟨fun _ _ _ _ _ d op i hd=>Rr d op i.h hd,fun _ _ _ _ _ op i=>qk op i.h,fun _ _ _ _=>vX,fun _ _ _ _ rl=>JQ rl,fun _ _ _ _=>ME,fun _ _ _ _=>aKo,fun _ _ _ _ id=>MD id⟩
theorem aBn:
 (∀(v:AV) (H:aA) (k:AV->aA->Prop),lY (some (v,H)) k=k v H)/\
 (∀(g:bG) (f:dE) (t:Nat),nQ g f (.tmp t)=f t)/\
 (∀(g:bG) (f:dE) (v:AV),nQ g f (.const v)=v)/\
 (∀(f:dE) (d:Nat) (v:AV),kD f d v d=v)/\
 (∀(f:dE) (d t:Nat) (v:AV),t≠d->kD f d v t=f t)/\
 (∀(f:dE) (ds:List gM) (H:aA) (Q:FQ) (K:dE->List gM->aA->Prop),iT K Q .normal f ds H=K f ds H)/\
 (∀(f:dE) (ds:List gM) (H:aA) (Q:FQ) (K:dE->List gM->aA->Prop),iT K Q .ret f ds H=Q .ret f ds H)/\
 (∀(f:dE) (ds:List gM) (H:aA) (Q:FQ) (K:dE->List gM->aA->Prop) (i:Nat),iT K Q (.exit i) f ds H=Q (.exit i) f ds H)/\
 (∀(f:dE) (ds:List gM) (H:aA) (Q:FQ) (i:Nat),dP i Q .normal f ds H=Q .normal f ds H)/\
 (∀(f:dE) (ds:List gM) (H:aA) (Q:FQ) (i:Nat),dP i Q .ret f ds H=Q .ret f ds H)/\
 (∀(f:dE) (ds:List gM) (H:aA) (Q:FQ) (i:Nat),dP i Q (.exit i) f ds H=Q .normal f ds H)/\
 (∀(f:dE) (ds:List gM) (H:aA) (Q:FQ) (i j:Nat),j≠i->dP i Q (.exit j) f ds H=Q (.exit j) f ds H):=
 ⟨cF,
   (fun g f t=>iV t),
   (fun g f v=>wG v),
   rG,
   (fun f d t v h=>oH f v h),
   (fun f ds H Q K=>gE K),
   (fun f ds H Q K=>nr K),
   (fun f ds H Q K i=>oF K i),
   (fun f ds H Q i=>Lw i),
   (fun f ds H Q i=>Si i),
   (fun f ds H Q i=>qN i),
   (fun f ds H Q i j h=>Nv i j h)⟩
end
def Own (H:aA) (sz:Nat) (v:AV) (aY:List (List AV)):Prop:=
 (v=.aR/\aY=[])\/∃k,v=.bB (k+2) sz aY/\k<H.next/\H.get k=some .tok
def uD:AV->Option Nat
 |.bB (k+2) _ _=>some k
 |_=>none
structure qm (H H':aA) (v:AV):Prop where
 next:H.next<=H'.next
 get:∀id,uD v≠some id->id<H.next->H'.get id=H.get id
theorem Own.nil (H:aA) (sz:Nat):Own H sz .aR []:=.inl ⟨rfl,rfl⟩
theorem Own.bB {H:aA} {sz k:Nat} {aY:List (List AV)} (hk:k<H.next) (h:H.get k=some .tok):Own H sz (.bB (k+2) sz aY) aY:=.inr ⟨k,rfl,hk,h⟩
theorem Own.fresh (H:aA) (sz:Nat) (aY:List (List AV)):Own (H.alloc .tok) sz (.bB (H.next+2) sz aY) aY:=.bB (by simp) (by rw[aA.aG,if_pos rfl])
theorem Own.alloc {H:aA} {sz:Nat} {v:AV} {aY:List (List AV)} (h:Own H sz v aY) (o:fC):Own (H.alloc o) sz v aY:=by
 rcases h with h|⟨k,h1,h2,h3⟩
 . exact .inl h
 exact .inr ⟨k,h1,by simp;omega,by rw[aA.aG,if_neg (by omega)];exact h3⟩
theorem Own.set {H:aA} {sz:Nat} {v:AV} {aY:List (List AV)} (h:Own H sz v aY) (id:Nat) (o:fC) (dB:uD v≠some id):Own (H.set id o) sz v aY:=by
 rcases h with h|⟨k,rfl,h2,h3⟩
 . exact .inl h
 refine .inr ⟨k,rfl,h2,?_⟩;rw[aA.aD,if_neg]
 . exact h3
 intro hh;exact dB (by simp[uD,hh])
theorem Own.aBs {H:aA} {sz:Nat} {v:AV} {aY:List (List AV)} (h:Own H sz v aY) {id:Nat} (ht:uD v=some id):id<H.next:=by
 rcases h with ⟨rfl,_⟩|⟨k,rfl,h2,h3⟩
 . cases ht
 simp only[uD,Ae] at ht;omega
theorem Own.append {H:aA} {sz bytes:Nat} {v:AV} {aY ys:List (List AV)} (h:Own H sz v aY) (hb:(aY.length+ys.length)*bytes<=2^40):
 ∃v' H',eB H sz bytes false v ys=some (v',H')/\Own H' sz v' (aY++ys)/\qm H H' v:=by
 by_cases hy:ys=[]
 . subst hy;refine⟨v,H,?_,by rw[Ch];exact h,Ab _,fun _ _ _=>rfl⟩
   rcases h with ⟨rfl,rfl⟩|⟨k,rfl,_,hk⟩<;>rfl
 have cP:ys.isEmpty=false:=by cases ys with
  |nil=>exact absurd rfl hy
  |cons _ _=>rfl
 rcases h with ⟨rfl,rfl⟩|⟨k,rfl,vz,hk⟩
 . refine⟨.bB (H.next+2) sz ys,H.alloc .tok,?_,.inr ⟨H.next,by simp,by simp,by simp[aA.aG]⟩,by simp,fun id _ dB=>by rw[aA.aG,if_neg (by omega)]⟩;simp only[eB,cP,kL];simp only[Bm,Cs] at hb;simp[hb]
 refine⟨.bB (H.next+2) sz (aY++ys),(H.set k .dead).alloc .tok,?_,.inr ⟨H.next,rfl,by simp,by simp[aA.aG]⟩,by simp,fun id h1 dB=>?_⟩
 . simp only[eB,cP];simp[hb,hk]
 rw[aA.aG,if_neg Zai,aA.aD,if_neg];intro hh;exact h1 (by simp[uD,hh])
def dI (l:List Nat):List (List AV):=l.map fun(b:Nat)=>[AV.int .u8 b]
def iR (l:List Int):List (List AV):=l.map fun x=>[AV.int .i64 x]
theorem iD (a b:List Nat):dI (a++b)=dI a++dI b:=by simp[dI]
theorem fZ (a:List Nat):(dI a).length=a.length:=by simp[dI]
theorem HT (a b:List Int):iR (a++b)=iR a++iR b:=by simp[iR]
theorem hU (a:List Int):(iR a).length=a.length:=by simp[iR]
theorem kS:∀l,dR (dI l)=true
 |[]=>rfl
 |x::l=>by simp only[dI,Cd,dR,bO,AV.free,Cv,Co];exact kS l
theorem HI:∀l,dR (iR l)=true
 |[]=>rfl
 |x::l=>by simp only[iR,Cd,dR,bO,AV.free,Cv,Co];exact HI l
theorem mD {P:Program} {g:bG} (hg:DH g) {f:FuncId} {args:List AV} (ha:bO args=true) {sz:Nat} {aY:List (List AV)} (cP:aY≠[]) (hf:dR aY=true)
 (h:∃out H',(∃v,out=.ret v/\Own H' sz v aY)/\Sound P g f args ⟨0,.nil⟩ out H') (H:aA):Sound P g f args H (.ret (.bB (H.next+2) sz aY)) (H.alloc .tok):=by
 obtain⟨out,H',⟨v,rfl,aEv⟩,hS⟩:=h
 rcases aEv with ⟨_,he⟩|⟨k,rfl,_,hk⟩
 . exact absurd he cP
 refine hS.frame hg ha (tk:=some k) (fun k' rN=>by cases rN;exact hk) (n:=0) H ?_;simp[Out.av,fT,jH,hf,JD]
attribute [local congr] aI
theorem wrap_i64 {x:Int} (h0: -2^63<=x) (h1:x<2^63):IntKind.i64.wrap x=x:=by simp only[IntKind.wrap,IntKind.bits,IntKind.signed];simp;split<;>omega
def rangeLoop (id cmp ix ln nx:Nat) (B:cG):cG:=
 .block id (.loop (.seq (.ops [⟨some cmp,.bin .lss (.tmp ix) (.tmp ln),none⟩]) (.seq (.cond (.tmp cmp) .skip (.exit id)) (.seq B
  (.ops [⟨some nx,.bin .add (.tmp ix) (.const (.int .i64 1)),none⟩,⟨some ix,.Sv (.tmp nx),none⟩])))))
theorem qi {P:Program} {g:bG} {n:Nat} {id cmp ix ln nx:Nat} {B:cG} {f:dE} {ds:List gM} {H:aA} {Q:FQ} (J:Nat->dE->aA->Prop) (N:Nat) (hN:(N:Int)<2^63)
 (hs:cmp<n/\ix<n/\nx<n/\cmp≠ix/\cmp≠ln/\nx≠ix/\nx≠ln/\ix≠ln)
 (h1:f ix=.int .i64 0) (h2:f ln=.int .i64 N) (h0:J 0 f H)
 (st:∀(i:Nat) (f:dE) (H:aA) (d:Nat) (v:AV),d=cmp\/d=nx\/d=ix->J i f H->J i (kD f d v) H)
 (body:∀(i:Nat) (f:dE) (H:aA),i<N->f ix=.int .i64 i->f ln=.int .i64 N->J i f H->
   FC P g n B f ds H (iT (fun f' fN H'=>fN=ds/\f' ix=.int .i64 i/\f' ln=.int .i64 N/\J (i+1) f' H') (dP id Q)))
 (done:∀(f:dE) (H:aA),f ln=.int .i64 N->J N f H->Q .normal f ds H):FC P g n (rangeLoop id cmp ix ln nx B) f ds H Q:=by
 obtain⟨s1,s2,s3,s4,s5,s6,s7,s8⟩:=hs;refine aL (Rq (fun m f' fN H'=>fN=ds/\∃i:Nat,i<=N/\m=N -i/\f' ix=.int .i64 i/\f' ln=.int .i64 N/\J i f' H') N ⟨rfl,0,Az _,by omega,h1,h2,h0⟩ ?_);rintro m f1 rI H1 ⟨rfl,i,hi,rfl,e1,e2,e3⟩;refine aJ fun K hK=>?_;rw[JQ,zC _ _ _ _ s1];simp only[dA,iV,e1,e2,pU,if_true,Bx,cF,vX,gE];apply hK;clear hK K;have st1:=st i f1 H1 cmp (.bool (decide ((i:Int)<N))) (.inl rfl) e3;refine aJ fun K hK=>Rp (decide ((i:Int)<N)) (by rw[iV,rG]) (fun ht=>?_) (fun ht=>?_)
 . rw[ME,gE];apply hK;clear hK K;have fF:i<N:=by have :=Cp ht;omega
   refine aJ fun K hK=>?_;have hb:=body i _ H1 fF (by rw[oH _ _ (Ne.symm s4)];exact e1) (by rw[oH _ _ (Ne.symm s5)];exact e2) st1;have mono:∀{c:cG} {f:dE} {ds:List gM} {H:aA} {Q Q':FQ},(∀e f ds H,Q e f ds H->Q' e f ds H)->FC P g n c f ds H Q->FC P g n c f ds H Q':=fun {c f ds H Q Q'} hq h=>jM hq h;refine mono (fun e f2 TX H2 h=>?_) hb
   cases e with
   |normal=>
    obtain⟨rfl,b1,b2,b3⟩:=h;show K f2 TX H2;apply hK;rw[JQ,zC _ _ _ _ s3];have hw:IntKind.i64.wrap ((i:Int)+1)=((i+1:Nat):Int):=(by rw[wrap_i64 (by omega) (by omega)];rfl);simp only[dA,iV,wG,b1,pU,if_true,Bx,cF];rw[GN _ _ s2];simp only[dA,iV,cF,vX,gE,rG,hw];refine⟨N -(i+1),by omega,trivial,i+1,by omega,rfl,rfl,?_,?_⟩
    . rw[oH _ _ (Ne.symm s8),oH _ _ (Ne.symm s7)];exact b2
    exact st _ _ _ _ _ (.inr (.inr rfl)) (st _ _ _ _ _ (.inr (.inl rfl)) b3)
   |_=>exact h
 rw[MD,oF,oF,qN];have LN:i=N:=by have :=Dn ht;omega
 subst LN;exact done _ _ (by rw[oH _ _ (Ne.symm s5)];exact e2) st1
theorem fg (ev:Arg->AV) (H:aA) (zero:List AV):dA ev H (.alloc zero)=some (.ref H.next 0,H.alloc (.cells zero false)):=rfl
def bIf:=And.intro fg <| And.intro @dA.eq_1 <| And.intro @dA.eq_2 <| And.intro @dA.eq_4 <| And.intro @dA.eq_5 <| And.intro @dA.eq_6 <| And.intro @dA.eq_7 <| And.intro @dA.eq_8 <| And.intro @dA.eq_9 <| And.intro @dA.eq_10 <| And.intro @dA.eq_11 <| And.intro @dA.eq_12 <| And.intro @dA.eq_13 <| And.intro @dA.eq_14 <| And.intro @dA.eq_15 <| And.intro @dA.eq_16 <| And.intro @dA.eq_17 <| And.intro @dA.eq_18 <| And.intro @dA.eq_19 <| And.intro @dA.eq_20 <| And.intro @dA.eq_21 <| And.intro @dA.eq_22 <| And.intro @dA.eq_23 <| And.intro @dA.eq_24 <| And.intro @dA.eq_25 <| And.intro @dA.eq_26 <| And.intro @dA.eq_27 <| And.intro @dA.eq_28 <| And.intro @dA.eq_29 <| And.intro @dA.eq_30 <| And.intro @dA.eq_31 <| And.intro @dA.eq_32 <| And.intro @dA.eq_33 <| And.intro @dA.eq_34 <| And.intro @dA.eq_35 <| And.intro @dA.eq_36 <| And.intro @dA.eq_37 <| And.intro @dA.eq_38 <| And.intro @dA.eq_39 @dA.eq_40
def bIg:=And.intro @pU.eq_1 <| And.intro @pU.eq_2 <| And.intro @pU.eq_3 <| And.intro @pU.eq_4 <| And.intro @pU.eq_5 <| And.intro @pU.eq_6 <| And.intro @pU.eq_7 <| And.intro @pU.eq_8 <| And.intro @pU.eq_9 <| And.intro @pU.eq_10 <| And.intro @pU.eq_11 <| And.intro @pU.eq_12 <| And.intro @pU.eq_13 <| And.intro @pU.eq_14 <| And.intro @pU.eq_15 <| And.intro @pU.eq_16 @pU.eq_17
section
def rY (v:AV) (A B:Prop):Prop:=
 match v with
 |.bool true=>A
 |.bool false=>B
 |_=>False
def jK (v:AV) (b:Bool) (A B:Prop):Prop:=
 match v with
 |.bool c=>if c=b then A else B
 |_=>B
section
variable {P:Program} {g:bG} {n:Nat} {r:List bK} {f:dE} {ds:List gM} {H:aA} {Q:FQ}
theorem Tn (c:Arg) (a b:cG):FC P g n (.cond c a b) f ds H Q=rY (nQ g f c) (FC P g n a f ds H Q) (FC P g n b f ds H Q):=by
 refine eD (fun h=>?_) (fun h=>?_)
 . obtain⟨t,h1,h2⟩:=h;rw[h1]
   cases t with
   |true=>exact h2
   |false=>exact h2
 unfold rY at h;split at h
 . rename_i hv;exact⟨true,hv,h⟩
 . rename_i hv;exact⟨false,hv,h⟩
 exact h.elim
theorem EM (A B:Prop):rY (.bool true) A B=A:=eD id id
theorem zZ (A B:Prop):rY (.bool false) A B=B:=eD id id
theorem gg (p:Prop) [Decidable p] (A B:Prop):rY (.bool (decide p)) A B=((p->A)/\(¬p->B)):=by
 by_cases hp:p
 . simp[hp,EM]
 simp[hp,zZ]
theorem gh (b:Bool) (A B:Prop):rY (.bool (!b)) A B=rY (.bool b) B A:=by cases b<;>rfl
theorem aM {v v':AV} (h:v=v') (A B:Prop):rY v A B=rY v' A B:=by rw[h]
theorem aKp (d x:Nat) (b:Bool) (op:eE) (hd:d<n):
 bS P g n (⟨some d,op,some (x,b)⟩::r) f ds H Q=jK (f x) b (bS P g n (⟨some d,op,none⟩::r) f ds H Q) (bS P g n r (kD f d aC) ds H Q):=by
 have :∀v,fP n f (some d) v=kD f d v:=fun v=>by simp[fP,hd]
 conv=>lhs;unfold bS
 conv=>rhs;arg 3;unfold bS
 simp only[iB,this,if_true];unfold jK
 cases h:f x with
 |bool c=>by_cases hc:c=b<;>simp[hc]
 |_=>simp
theorem jl (A B:Prop):jK (.bool true) true A B=A:=eD id id
theorem ji (A B:Prop):jK (.bool false) false A B=A:=eD id id
theorem jk (A B:Prop):jK (.bool true) false A B=B:=eD id id
theorem jj (A B:Prop):jK (.bool false) true A B=B:=eD id id
theorem aH {v v':AV} (h:v=v') (b:Bool) (A B:Prop):jK v b A B=jK v' b A B:=by rw[h]
theorem ZB (a b:cG):FC P g n (.seq a b) f ds H Q=FC P g n a f ds H (iT (fun f ds H=>FC P g n b f ds H Q) Q):=eD id id
theorem aW {c:cG} {f':dE} (h:f=f'):FC P g n c f ds H Q=FC P g n c f' ds H Q:=by rw[h]
theorem aQ {f':dE} (h:f=f'):bS P g n r f ds H Q=bS P g n r f' ds H Q:=by rw[h]
theorem aN {K:dE->List gM->aA->Prop} {e:AEx} {f':dE} (h:f=f'):iT K Q e f ds H=iT K Q e f' ds H:=by rw[h]
theorem aF {id:Nat} {e:AEx} {f':dE} (h:f=f'):dP id Q e f ds H=dP id Q e f' ds H:=by rw[h]
end
theorem bDj:
 (∀(P:Program) (g:bG) (n:Nat) (f:dE) (ds:List gM) (H:aA) (Q:FQ) (c:Arg) (a b:cG),FC P g n (.cond c a b) f ds H Q=rY (nQ g f c) (FC P g n a f ds H Q) (FC P g n b f ds H Q))/\
 (∀(A B:Prop),rY (.bool true) A B=A)/\
 (∀(A B:Prop),rY (.bool false) A B=B)/\
 (∀(P:Program) (g:bG) (n:Nat) (r:List bK) (f:dE) (ds:List gM) (H:aA) (Q:FQ) (d x:Nat) (b:Bool) (op:eE) (hd:d<n),
   bS P g n (⟨some d,op,some (x,b)⟩::r) f ds H Q=jK (f x) b (bS P g n (⟨some d,op,none⟩::r) f ds H Q) (bS P g n r (kD f d aC) ds H Q))/\
 (∀(A B:Prop),jK (.bool true) true A B=A)/\
 (∀(A B:Prop),jK (.bool false) false A B=A)/\
 (∀(A B:Prop),jK (.bool true) false A B=B)/\
 (∀(A B:Prop),jK (.bool false) true A B=B)/\
 (∀(P:Program) (g:bG) (n:Nat) (f:dE) (ds:List gM) (H:aA) (Q:FQ) (a b:cG),FC P g n (.seq a b) f ds H Q=FC P g n a f ds H (iT (fun f ds H=>FC P g n b f ds H Q) Q)):=
 ⟨fun _ _ _ _ _ _ _ c a b=>Tn c a b,EM,zZ,fun _ _ _ _ _ _ _ _ d x b op hd=>aKp d x b op hd,jl,ji,jk,jj,fun _ _ _ _ _ _ _ a b=>ZB a b⟩
def aEk (id c:Nat) (ts:cG) (B:cG) (st:cG):cG:=
 .block id (.loop (.seq (.seq ts (.cond (.tmp c) .skip (.exit id))) (.seq B st)))
theorem aKn {P:Program} {g:bG} {n:Nat} {id c:Nat} {ts B st:cG} {f:dE} {ds:List gM} {H:aA} {Q:FQ} (J:Nat->dE->aA->Prop) (N:Nat)
 (h0:J 0 f H)
 (test:∀(i:Nat) (f:dE) (H:aA),i<=N->J i f H->∀(K:dE->Prop),(∀f',f' c=.bool (decide (i<N))->J i f' H->K f')->∀Q':FQ,FC P g n ts f ds H (iT (fun f' fN H'=>fN=ds/\H'=H/\K f') Q'))
 (body:∀(i:Nat) (f:dE) (H:aA),i<N->J i f H->
   FC P g n B f ds H (iT (fun f' fN H'=>fN=ds/\FC P g n st f' ds H' (iT (fun f' fN H'=>fN=ds/\J (i+1) f' H') (dP id Q))) (dP id Q)))
 (done:∀(f:dE) (H:aA),J N f H->Q .normal f ds H):FC P g n (aEk id c ts B st) f ds H Q:=by
 have mono:∀{c:cG} {f:dE} {ds:List gM} {H:aA} {Q Q':FQ},(∀e f ds H,Q e f ds H->Q' e f ds H)->FC P g n c f ds H Q->FC P g n c f ds H Q':=fun {c f ds H Q Q'} hq h=>jM hq h;refine aL (Rq (fun m f' fN H'=>fN=ds/\∃i:Nat,i<=N/\m=N -i/\J i f' H') N ⟨rfl,0,Az _,by omega,h0⟩ ?_);rintro m f1 rI H1 ⟨rfl,i,hi,rfl,e3⟩;refine aJ fun K hK=>?_;refine aJ fun K2 bW=>?_;refine mono (fun e f2 TX H2 h=>?_) (test i f1 H1 hi e3 (fun f'=>K2 f' rI H1) (fun f' h1 h2=>?_) (iT K (dP id Q) |> fun Z=>Z))
 . cases e with
   |normal=>obtain⟨rfl,rfl,h⟩:=h;exact h
   |_=>exact h
 apply bW;rw[Tn,iV,h1];by_cases fF:i<N
 . rw[Aj fF,EM,ME,gE];apply hK;refine aJ fun K3 Lp=>?_;refine mono (fun e f2 TX H2 h=>?_) (body i f' H1 fF h2)
   cases e with
   |normal=>
    obtain⟨rfl,h⟩:=h;show K3 f2 TX H2;apply Lp;refine mono (fun e f3 ds3 H3 hh=>?_) h
    cases e with
    |normal=>obtain⟨h5,h6⟩:=hh;exact⟨N -(i+1),by omega,h5,i+1,by omega,rfl,h6⟩
    |_=>exact hh
   |_=>exact h
 rw[Ag fF,zZ,MD,oF,oF,qN];obtain rfl:i=N:=by omega
 exact done f' H1 h2
theorem VR.DE {G:Gh} {w:World} {tag sz:Nat} {aY:List (List AV)} {u:Value} (h:VR G w (.bB tag sz aY) u):VR G w (.bB 0 sz aY) u:=by
 cases h with
 |bB _ _ _ b o cap us hu h hv ht=>exact .bB 0 sz aY b o cap us hu h hv ⟨ht.1,trivial⟩
 |vK _ _ b o s ht=>exact .vK _ _ b o s (by omega)
theorem Sound.DE {P:Program} {g:bG} {f:FuncId} {sz:Nat} {aY:List (List AV)} {rest:List AV} {H H':aA} {out:Out} (h:Sound P g f (.bB 0 sz aY::rest) H out H') (tag:Nat):
 Sound P g f (.bB tag sz aY::rest) H out H':=by
 refine⟨h.1,fun G w vs hw hv=>h.2 G w vs hw ⟨hv.1,fun j hj=>?_⟩⟩;have :=hv.2 j hj
 cases j with
 |zero=>exact VR.DE this
 |succ j=>exact this
def tA (H:aA) (sz:Nat) (v:AV) (aY:List (List AV)):Prop:=Own H sz v aY/\(aY=[]->v=.aR)
theorem tA.nil (H:aA) (sz:Nat):tA H sz .aR []:=⟨.nil H sz,fun _=>rfl⟩
theorem tA.alloc {H:aA} {sz:Nat} {v:AV} {aY:List (List AV)} (h:tA H sz v aY) (o:fC):tA (H.alloc o) sz v aY:=⟨h.1.alloc o,h.2⟩
theorem tA.append {H:aA} {sz bytes:Nat} {v:AV} {aY:List (List AV)} {e:List AV} (h:tA H sz v aY) (hb:(aY.length+1)*bytes<=2^40):
 ∃v' H',eB H sz bytes false v [e]=some (v',H')/\tA H' sz v' (aY++[e])/\qm H H' v:=by
 obtain⟨v',H',h1,h2,h3⟩:=h.1.append (bytes:=bytes) (ys:=[e]) (by simpa using hb);exact⟨v',H',h1,⟨h2,fun he=>by simp at he⟩,h3⟩
def bDa (H:aA) (sz:Nat) (aY:List (List AV)):AV:=if aY=[] then .aR else .bB (H.next+2) sz aY
def bCz (H:aA) (aY:List (List AV)):aA:=if aY=[] then H else H.alloc .tok
theorem tA.out (H:aA) (sz:Nat) (aY:List (List AV)):tA (bCz H aY) sz (bDa H sz aY) aY:=by
 unfold bCz bDa;by_cases h:aY=[]
 . subst h;exact tA.nil _ _
 rw[if_neg h,if_neg h];exact⟨Own.fresh _ _ _,fun he=>absurd he h⟩
theorem bIi:
 (∀{α:Type} (a b:α),(a≠b)=¬(a=b))/\((¬False)=True)/\(∀{α:Type} {_:Decidable True} (a b:α),(if True then a else b)=a)/\((false=true)=False)/\
 (∀{α:Type} {_:Decidable False} (a b:α),(if False then a else b)=b)/\(∀{α β:Type} (f:α->β) (a:α),Option.map f (some a)=some (f a))/\(∀{α:Type} (a:α) (l:List α),(a::l).length=l.length+1)/\
 (∀{α:Type},([]:List α).length=0)/\(∀n:Nat,0+n=n)/\(∀{α:Type} (a d:α) (l:List α),(a::l).getD 0 d=a)/\(∀{α:Type} (a d:α) (l:List α) (n:Nat),(a::l).getD (n+1) d=l.getD n d)/\
 (∀p:Prop,(p/\p)=p)/\(∀n:Nat,(n<=n)=True)/\(∀(p:Prop) [Decidable p] (A B:Prop),rY (.bool (decide p)) A B=((p->A)/\(¬p->B))):=
 ⟨fun a b=>ne_eq a b,Hw,fun a b=>if_true a b,Bb,fun a b=>Bq a b,fun f a=>rfl,fun a l=>rfl,rfl,Cs,fun _ _ _=>rfl,fun _ _ _ _=>rfl,and_self,fun n=>eq_true (Ab n),fun p _ A B=>gg p A B⟩
def sy:=And.intro aBn (And.intro bDj (And.intro bIf (And.intro bIg bIi)))
theorem sn:(∀n:Nat,n*1=n)/\(∀n:Nat,1*n=n)/\(∀n:Nat,0*n=0)/\(∀n:Nat,n -0=n)/\(∀n:Nat,n+0=n)/\(∀n:Nat,0+n=n):=
 ⟨Ed,Ht,Iw,Ix,Cy,Cs⟩
theorem sh:(∀n m:Nat,aA.get ⟨n,.nil⟩ m=none)/\(∀(H:aA) (o:fC) (i:Nat),(H.alloc o).get i=if i=H.next then some o else H.get i)/\(∀(H:aA) (j:Nat) (o:fC) (i:Nat),(H.set j o).get i=if i=j then some o else H.get i)/\
 (∀(H:aA) (o:fC),(H.alloc o).next=H.next+1)/\(∀(H:aA) (j:Nat) (o:fC),(H.set j o).next=H.next)/\(∀n:Nat,0+n=n)/\
 (∀{α:Type} {_:Decidable True} (a b:α),(if True then a else b)=a)/\(∀{α:Type} {_:Decidable False} (a b:α),(if False then a else b)=b):=
 ⟨fun _ _=>rfl,fun _ _ _=>aA.aG ..,fun _ _ _ _=>aA.aD ..,fun _ _=>aA.aS ..,fun _ _ _=>aA.bC ..,Cs,fun a b=>if_true a b,fun a b=>Bq a b⟩
theorem sl:
 (∀{α:Type} (a:α) (l:List α) (n:Nat),(a::l).take (n+1)=a::l.take n)/\(∀{α:Type} (a:α) (l:List α) (n:Nat),(a::l).drop (n+1)=l.drop n)/\(∀{α:Type} (l:List α),l.take 0=[])/\(∀{α:Type} (l:List α),l.drop 0=l)/\
 (∀{α:Type} (n:Nat),([]:List α).take n=[])/\(∀{α:Type} (n:Nat),([]:List α).drop n=[])/\(∀{α:Type} (a:α) (l m:List α),a::l++m=a::(l++m))/\(∀{α:Type} (l:List α),[]++l=l)/\(∀{α:Type} (l:List α),l++[]=l)/\
 (∀{α β:Type} (f:α->β) (a:α) (l:List α),(a::l).map f=f a::l.map f)/\(∀{α β:Type} (f:α->β),[].map f=[])/\(∀{α:Type} (a d:α) (l:List α),(a::l).getD 0 d=a)/\
 (∀{α:Type} (a d:α) (l:List α) (n:Nat),(a::l).getD (n+1) d=l.getD n d)/\(∀{α:Type} (a b:α) (l:List α),(a::l).set 0 b=b::l)/\(∀{α:Type} (a b:α) (l:List α) (n:Nat),(a::l).set (n+1) b=a::l.set n b):=
 ⟨fun _ _ _=>rfl,fun _ _ _=>rfl,fun l=>Fb,fun _=>rfl,fun n=>List.take_nil,fun n=>Kh,fun _ _ _=>rfl,fun _=>rfl,fun l=>Ch l,fun _ _ _=>rfl,fun _=>rfl,fun _ _ _=>rfl,fun _ _ _ _=>rfl,fun _ _ _=>rfl,fun _ _ _ _=>rfl⟩
theorem sm:(∀{α β:Type} (f:α->β) (a:α) (l:List α),(a::l).map f=f a::l.map f)/\(∀{α β:Type} (f:α->β),[].map f=[])/\(∀{α:Type} (a b:α),(a≠b)=¬(a=b))/\((¬False)=True)/\
 (∀{α:Type} (a d:α) (l:List α),(a::l).getD 0 d=a)/\(∀{α:Type} (a d:α) (l:List α) (n:Nat),(a::l).getD (n+1) d=l.getD n d):=
 ⟨fun _ _ _=>rfl,fun _=>rfl,fun a b=>ne_eq a b,Hw,fun _ _ _=>rfl,fun _ _ _ _=>rfl⟩
end
section
def eG (P:Program) (g:bG) (n:Nat) (pairs:List (Nat×Nat)) (base:Nat):Nat->Nat->List bK->List (Nat×Nat)->List (Nat×aA×aA)->dE->aA->(dE->aA->Prop)->Prop
 |_,_,[],_,_,f,H,Q=>Q f H
 |i,k,r::rs,rd,ef,f,H,Q=>
  if iB f r=true then
  match r.op with
  |.call c azs=>∃v H',EF P g r f H v H'/\H.next<=H'.next/\(∀x∈rd,(x.1,i)∈pairs->H.get x.2=H'.get x.2)/\
    eG P g n pairs base (i+1) k rs rd ((i,H,H')::ef) (fP n f r.dst v) H' Q
  |.panic _|.kY _ _=>False
  |op=>
   if op.fresh then
    match xQ (nQ g f) op with
    |some (ob,val)=>(∀x∈ef,(i,x.1)∈pairs->x.2.1.get (base+k)=x.2.2.get (base+k))/\
     eG P g n pairs base (i+1) (k+1) rs ((i,base+k)::rd) ef (fP n f r.dst (val (base+k))) (H.set (base+k) ob) Q
    |none=>False
   else if op.pK then
    lY (dA (nQ g f) H op) fun v H'=>H.next<=H'.next/\(∀x∈rd,(x.1,i)∈pairs->H.get x.2=H'.get x.2)/\
     eG P g n pairs base (i+1) k rs rd ((i,H,H')::ef) (fP n f r.dst v) H' Q
   else
    lY (dA (nQ g f) H op) fun v H'=>H'=H/\(∀id,op.dJ (nQ g f)=some id->∀x∈ef,(i,x.1)∈pairs->x.2.1.get id=x.2.2.get id)/\
     eG P g n pairs base (i+1) k rs (match op.dJ (nQ g f) with|some id=>(i,id)::rd|none=>rd) ef (fP n f r.dst v) H Q
  else eG P g n pairs base (i+1) (if r.op.fresh then k+1 else k) rs rd ef (fP n f r.dst aC) H Q
section
variable {P:Program} {g:bG} {n:Nat} {pairs:List (Nat×Nat)} {base:Nat}
theorem pR:∀(rl:List bK) (i k:Nat) (rd:List (Nat×Nat)) (ef:List (Nat×aA×aA)) (f:dE) (H:aA) (Q:dE->aA->Prop),eG P g n pairs base i k rl rd ef f H Q->Wb P g n pairs base i k rl rd ef f H Q
 |[],i,k,rd,ef,f,H,Q,h=>h
 |r::rs,i,k,rd,ef,f,H,Q,h=>by
  unfold eG at h;unfold Wb;split at h
  . rename_i hw;rw[if_pos hw];split at h
    . rename_i c azs fL;obtain⟨v,H',h1,h2,h3,h4⟩:=h;rw[if_neg (by simp[fL,eE.fresh]),if_pos (by simp[fL,eE.pK])];exact⟨v,H',h1,h2,h3,pR rs _ _ _ _ _ _ _ h4⟩
    . exact h.elim
    . exact h.elim
    rename_i n1 n2 n3
    have hq:∀v H',dA (nQ g f) H r.op=some (v,H')->EF P g r f H v H':=by
     intro v H' ha;unfold EF;split
     . rename_i c azs fL;exact absurd fL (n1 c azs)
     . rename_i x fL;exact absurd fL (n2 x)
     . rename_i c azs fL;exact absurd fL (n3 c azs)
     exact ha
    split at h
    . rename_i hf;rw[if_pos hf];split at h
      . rename_i ob val ho;exact⟨ob,val,ho,h.1,pR rs _ _ _ _ _ _ _ h.2⟩
      exact h.elim
    rename_i hf;rw[if_neg hf];unfold lY at h;split at h
    . rename_i he;rw[if_pos he];split at h
      . rename_i v H' ha;exact⟨v,H',hq v H' ha,h.1,h.2.1,pR rs _ _ _ _ _ _ _ h.2.2⟩
      exact h.elim
    rename_i he;rw[if_neg he];split at h
    . rename_i v H' ha;obtain⟨rfl,h2,h3⟩:=h;exact⟨v,hq v _ ha,h2,pR rs _ _ _ _ _ _ _ h3⟩
    exact h.elim
  rename_i hw;rw[if_neg hw];exact pR rs _ _ _ _ _ _ _ h
variable {ds:List gM} {Q:FQ} {f:dE} {H:aA}
theorem To {rl:List bK} (h0:rl.countP (·.op.fresh)=0) (h:eG P g n pairs H.next 0 0 rl [] [] f H fun f' H'=>Q .normal f' ds H'):FC P g n (.draw rl pairs) f ds H Q:=by refine .inl ⟨by rw[h0];rfl,?_⟩;rw[h0];exact pR _ _ _ _ _ _ _ _ h
theorem aCc {rl:List bK} (c:Nat) (h0:rl.countP (·.op.fresh)=c) (hf:pB H c=true) (h:eG P g n pairs H.next 0 0 rl [] [] f {H with next:=H.next+c} fun f' H'=>Q .normal f' ds H'):FC P g n (.draw rl pairs) f ds H Q:=by refine .inl ⟨by rw[h0];exact hf,?_⟩;rw[h0];exact pR _ _ _ _ _ _ _ _ h
theorem oV {rl:List bK} (c:Nat) (h0:rl.countP (·.op.fresh)=c) (hf:pB H c=true)
 (h:∀H1:aA,H1.next=H.next+c->(∀id,H1.get id=H.get id)->eG P g n pairs H.next 0 0 rl [] [] f H1 fun f' H'=>Q .normal f' ds H'):FC P g n (.draw rl pairs) f ds H Q:=
 aCc c h0 hf (h _ rfl fun _=>rfl)
variable {i k:Nat} {rs:List bK} {rd:List (Nat×Nat)} {ef:List (Nat×aA×aA)} {R:dE->aA->Prop}
theorem ZC:eG P g n pairs base i k [] rd ef f H R=R f H:=eD id id
theorem dv (d:Nat) (op:eE) (hp:op.plain=true) (hf:op.fresh=false) (he:op.pK=false) (hd:d<n):
 eG P g n pairs base i k (⟨some d,op,none⟩::rs) rd ef f H R=lY (dA (nQ g f) H op) fun v H'=>H'=H/\(∀id,op.dJ (nQ g f)=some id->∀x∈ef,(i,x.1)∈pairs->x.2.1.get id=x.2.2.get id)/\
       eG P g n pairs base (i+1) k rs (match op.dJ (nQ g f) with|some id=>(i,id)::rd|none=>rd) ef (kD f d v) H R:=by
 have :∀v,fP n f (some d) v=kD f d v:=fun v=>by simp[fP,hd]
 conv=>lhs;unfold eG
 rw[if_pos (by rfl)];simp only[hf,he,this]
 cases op<;>first|rfl|(simp[eE.fresh] at hf;done)|(simp[eE.pK] at he;done)|(simp[eE.plain] at hp;done)
theorem dw (m:Nat) (a x:Arg):
 eG P g n pairs base i k (⟨none,.store m a x,none⟩::rs) rd ef f H R=lY (dA (nQ g f) H (.store m a x)) fun v H'=>H.next<=H'.next/\(∀x∈rd,(x.1,i)∈pairs->H.get x.2=H'.get x.2)/\
       eG P g n pairs base (i+1) k rs rd ((i,H,H')::ef) f H' R:=by
 conv=>lhs;unfold eG
 rw[if_pos (by rfl)];simp only[eE.fresh,eE.pK,Bb,Bq,if_true,fP]
theorem dt (d:Nat) (z:List AV) (hd:d<n):
 eG P g n pairs base i k (⟨some d,.alloc z,none⟩::rs) rd ef f H R=((∀x∈ef,(i,x.1)∈pairs->x.2.1.get (base+k)=x.2.2.get (base+k))/\
       eG P g n pairs base (i+1) (k+1) rs ((i,base+k)::rd) ef (kD f d (.ref (base+k) 0)) (H.set (base+k) (.cells z false)) R):=by
 have :∀v,fP n f (some d) v=kD f d v:=fun v=>by simp[fP,hd]
 conv=>lhs;unfold eG
 rw[if_pos (by rfl)];simp only[eE.fresh,if_true,xQ,this]
theorem Wa (d:Nat) (sz bytes:Nat) (mu:Bool) (x y:Arg) (hd:d<n):
 eG P g n pairs base i k (⟨some d,.append sz bytes mu x y,none⟩::rs) rd ef f H R=lY (dA (nQ g f) H (.append sz bytes mu x y)) fun v H'=>H.next<=H'.next/\(∀x∈rd,(x.1,i)∈pairs->H.get x.2=H'.get x.2)/\
       eG P g n pairs base (i+1) k rs rd ((i,H,H')::ef) (kD f d v) H' R:=by
 have :∀v,fP n f (some d) v=kD f d v:=fun v=>by simp[fP,hd]
 conv=>lhs;unfold eG
 rw[if_pos (by rfl)];simp only[eE.fresh,eE.pK,Bb,Bq,if_true,this]
theorem iO {d:Nat} {fid:FuncId} {azs:List Arg} {args:List AV} {v:AV} {H':aA} (hd:d<n) (ha:azs.map (nQ g f)=args) (hS:Sound P g fid args H (.ret v) H') (hn:H.next<=H'.next)
 (hr:∀x∈rd,(x.1,i)∈pairs->H.get x.2=H'.get x.2)
 (h:eG P g n pairs base (i+1) k rs rd ((i,H,H')::ef) (kD f d v) H' R):eG P g n pairs base i k (⟨some d,.call (.const (.func (.func fid) [] [])) azs,none⟩::rs) rd ef f H R:=by
 have :∀v,fP n f (some d) v=kD f d v:=fun v=>by simp[fP,hd]
 unfold eG;rw[if_pos (by rfl)];simp only[this];refine⟨v,H',?_,hn,hr,h⟩;exact⟨(fid,[],[]),rfl,by simpa [ha] using hS⟩
theorem Pd (d:Option Nat) (x:Nat) (b:Bool) (op:eE) (A B:Prop):jK (f x) b A B=if iB f ⟨d,op,some (x,b)⟩=true then A else B:=by
 by_cases hw:iB f ⟨d,op,some (x,b)⟩=true
 . rw[if_pos hw];unfold iB at hw;dsimp only at hw;split at hw
   . rename_i c hc;rw[hc];unfold jK;dsimp only;rw[if_pos (by simpa using hw)]
   cases hw
 rw[if_neg hw];unfold iB at hw;dsimp only at hw;unfold jK;split
 . rename_i c hc;rw[hc] at hw;rw[if_neg (by simpa using hw)]
 rfl
theorem aTx (d x:Nat) (b:Bool) (op:eE) (hd:d<n):
 eG P g n pairs base i k (⟨some d,op,some (x,b)⟩::rs) rd ef f H R=jK (f x) b (eG P g n pairs base i k (⟨some d,op,none⟩::rs) rd ef f H R) (eG P g n pairs base (i+1) (if op.fresh then k+1 else k) rs rd ef (kD f d aC) H R):=by
 have :∀v,fP n f (some d) v=kD f d v:=fun v=>by simp[fP,hd]
 rw[Pd (some d) x b op];by_cases hw:iB f ⟨some d,op,some (x,b)⟩=true
 . rw[if_pos hw]
   conv=>lhs;unfold eG
   conv=>rhs;unfold eG
   rw[if_pos hw,if_pos (by rfl)];rfl
 rw[if_neg hw]
 conv=>lhs;unfold eG
 rw[if_neg hw,this]
theorem aT {f':dE} {rl:List bK} (h:f=f'):eG P g n pairs base i k rl rd ef f H R=eG P g n pairs base i k rl rd ef f' H R:=by rw[h]
end
theorem bIh (P:Program) (g:bG) (n:Nat):
 (∀(pairs:List (Nat×Nat)) (base i k:Nat) (rs:List bK) (rd:List (Nat×Nat)) (ef:List (Nat×aA×aA)) (f:dE) (H:aA) (R:dE->aA->Prop),eG P g n pairs base i k [] rd ef f H R=R f H)/\
 (∀(pairs:List (Nat×Nat)) (base i k:Nat) (rs:List bK) (rd:List (Nat×Nat)) (ef:List (Nat×aA×aA)) (f:dE) (H:aA) (R:dE->aA->Prop) (m:Nat) (a x:Arg),
   eG P g n pairs base i k (⟨none,.store m a x,none⟩::rs) rd ef f H R=lY (dA (nQ g f) H (.store m a x)) fun v H'=>H.next<=H'.next/\(∀x∈rd,(x.1,i)∈pairs->H.get x.2=H'.get x.2)/\
       eG P g n pairs base (i+1) k rs rd ((i,H,H')::ef) f H' R)/\
 (∀(pairs:List (Nat×Nat)) (base i k:Nat) (rs:List bK) (rd:List (Nat×Nat)) (ef:List (Nat×aA×aA)) (f:dE) (H:aA) (R:dE->aA->Prop) (d:Nat) (z:List AV) (hd:d<n),
   eG P g n pairs base i k (⟨some d,.alloc z,none⟩::rs) rd ef f H R=((∀x∈ef,(i,x.1)∈pairs->x.2.1.get (base+k)=x.2.2.get (base+k))/\
       eG P g n pairs base (i+1) (k+1) rs ((i,base+k)::rd) ef (kD f d (.ref (base+k) 0)) (H.set (base+k) (.cells z false)) R))/\
 (∀(pairs:List (Nat×Nat)) (base i k:Nat) (rs:List bK) (rd:List (Nat×Nat)) (ef:List (Nat×aA×aA)) (f:dE) (H:aA) (R:dE->aA->Prop) (d sz bytes:Nat) (mu:Bool) (x y:Arg) (hd:d<n),
   eG P g n pairs base i k (⟨some d,.append sz bytes mu x y,none⟩::rs) rd ef f H R=lY (dA (nQ g f) H (.append sz bytes mu x y)) fun v H'=>H.next<=H'.next/\(∀x∈rd,(x.1,i)∈pairs->H.get x.2=H'.get x.2)/\
       eG P g n pairs base (i+1) k rs rd ((i,H,H')::ef) (kD f d v) H' R)/\
 (∀(pairs:List (Nat×Nat)) (base i k:Nat) (rs:List bK) (rd:List (Nat×Nat)) (ef:List (Nat×aA×aA)) (f:dE) (H:aA) (R:dE->aA->Prop) (d x:Nat) (b:Bool) (op:eE) (hd:d<n),
   eG P g n pairs base i k (⟨some d,op,some (x,b)⟩::rs) rd ef f H R=jK (f x) b (eG P g n pairs base i k (⟨some d,op,none⟩::rs) rd ef f H R) (eG P g n pairs base (i+1) (if op.fresh then k+1 else k) rs rd ef (kD f d aC) H R)):=
 ⟨fun _ _ _ _ _ _ _ _ _ _=>ZC,fun _ _ _ _ _ _ _ _ _ _ m a x=>dw m a x,
  fun _ _ _ _ _ _ _ _ _ _ d z hd=>dt d z hd,fun _ _ _ _ _ _ _ _ _ _ d sz bytes mu x y hd=>Wa d sz bytes mu x y hd,
  fun _ _ _ _ _ _ _ _ _ _ d x b op hd=>aTx d x b op hd⟩
def YO (id cmp ix nx:Nat) (N:Int) (B:cG):cG:=
 .block id (.loop (.seq (.ops [⟨some cmp,.bin .lss (.tmp ix) (.const (.int .i64 N)),none⟩]) (.seq (.cond (.tmp cmp) .skip (.exit id)) (.seq B
  (.ops [⟨some nx,.bin .add (.tmp ix) (.const (.int .i64 1)),none⟩,⟨some ix,.Sv (.tmp nx),none⟩])))))
theorem dq {P:Program} {g:bG} {n:Nat} {id cmp ix nx:Nat} {B:cG} {f:dE} {ds:List gM} {H:aA} {Q:FQ} (J:Nat->dE->aA->Prop) (N:Nat) {N':Int} (hN:(N:Int)<2^63)
 (hNN:N'=(N:Int))
 (hs:cmp<n/\ix<n/\nx<n/\cmp≠ix/\nx≠ix)
 (h1:f ix=.int .i64 0) (h0:J 0 f H)
 (st:∀(i:Nat) (f:dE) (H:aA) (d:Nat) (v:AV),d=cmp\/d=nx\/d=ix->J i f H->J i (kD f d v) H)
 (body:∀(i:Nat) (f:dE) (H:aA),i<N->f ix=.int .i64 i->J i f H->
   FC P g n B f ds H (iT (fun f' fN H'=>fN=ds/\f' ix=.int .i64 i/\J (i+1) f' H') (dP id Q)))
 (done:∀(f:dE) (H:aA),J N f H->Q .normal f ds H):FC P g n (YO id cmp ix nx N' B) f ds H Q:=by
 subst hNN;obtain⟨s1,s2,s3,s4,s7⟩:=hs;refine aL (Rq (fun m f' fN H'=>fN=ds/\∃i:Nat,i<=N/\m=N -i/\f' ix=.int .i64 i/\J i f' H') N ⟨rfl,0,Az _,by omega,h1,h0⟩ ?_);rintro m f1 rI H1 ⟨rfl,i,hi,rfl,e1,e3⟩;refine aJ fun K hK=>?_;rw[JQ,zC _ _ _ _ s1];simp only[dA,iV,wG,e1,pU,if_true,Bx,cF,vX,gE];apply hK;clear hK K;have st1:=st i f1 H1 cmp (.bool (decide ((i:Int)<N))) (.inl rfl) e3;refine aJ fun K hK=>Rp (decide ((i:Int)<N)) (by rw[iV,rG]) (fun ht=>?_) (fun ht=>?_)
 . rw[ME,gE];apply hK;clear hK K;have fF:i<N:=by have :=Cp ht;omega
   refine aJ fun K hK=>?_;have hb:=body i _ H1 fF (by rw[oH _ _ (Ne.symm s4)];exact e1) st1;have mono:∀{c:cG} {f:dE} {ds:List gM} {H:aA} {Q Q':FQ},(∀e f ds H,Q e f ds H->Q' e f ds H)->FC P g n c f ds H Q->FC P g n c f ds H Q':=fun {c f ds H Q Q'} hq h=>jM hq h;refine mono (fun e f2 TX H2 h=>?_) hb
   cases e with
   |normal=>obtain⟨rfl,b1,b3⟩:=h;show K f2 TX H2;apply hK;rw[JQ,zC _ _ _ _ s3];have hw:IntKind.i64.wrap ((i:Int)+1)=((i+1:Nat):Int):=(by rw[wrap_i64 (by omega) (by omega)];rfl);simp only[dA,iV,wG,b1,pU,if_true,Bx,cF];rw[GN _ _ s2];simp only[dA,iV,cF,vX,gE,rG,hw];exact⟨N -(i+1),by omega,trivial,i+1,by omega,rfl,rfl,st _ _ _ _ _ (.inr (.inr rfl)) (st _ _ _ _ _ (.inr (.inl rfl)) b3)⟩
   |_=>exact h
 rw[MD,oF,oF,qN];have LN:i=N:=by have :=Dn ht;omega
 subst LN;exact done _ _ st1
class Pp (op:eE):Prop where
 h:op.plain=true
 f:op.fresh=false
 e:op.pK=false
instance (x:Arg):Pp (.Sv x):=⟨rfl,rfl,rfl⟩
instance (c a b:Arg):Pp (.pick c a b):=⟨rfl,rfl,rfl⟩
instance (z:List AV) (ps:List (Nat×Nat×Arg)):Pp (.build z ps):=⟨rfl,rfl,rfl⟩
instance (sz:Nat) (xs:List Arg):Pp (.OP sz xs):=⟨rfl,rfl,rfl⟩
instance (agg:Bool) (m:Nat) (a:Arg):Pp (.load agg m a):=⟨rfl,rfl,rfl⟩
instance (x:Arg):Pp (.OQ x):=⟨rfl,rfl,rfl⟩
instance (o:BinOp) (x y:Arg):Pp (.bin o x y):=⟨rfl,rfl,rfl⟩
instance (neg:Bool) (x y:Arg):Pp (.eqb neg x y):=⟨rfl,rfl,rfl⟩
instance (neg:Bool) (sh:List Sk) (x y:Arg):Pp (.eqf neg sh x y):=⟨rfl,rfl,rfl⟩
instance (neg:Bool) (k:Nk) (lit:Bool) (x y:Arg):Pp (.tt neg k lit x y):=⟨rfl,rfl,rfl⟩
instance (o:UnOp) (x:Arg):Pp (.un o x):=⟨rfl,rfl,rfl⟩
instance (k:IntKind) (x:Arg):Pp (.NN k x):=⟨rfl,rfl,rfl⟩
instance (x:Arg):Pp (.DJ x):=⟨rfl,rfl,rfl⟩
instance (m:Nat) (x:Arg):Pp (.Yf m x):=⟨rfl,rfl,rfl⟩
instance (t:TypeId) (x:Arg):Pp (.Xq t x):=⟨rfl,rfl,rfl⟩
instance (fn:Fn) (a b:List Arg):Pp (.Xp fn a b):=⟨rfl,rfl,rfl⟩
instance (x:Arg) (lo hi:Option Arg):Pp (.Ow x lo hi):=⟨rfl,rfl,rfl⟩
instance (sz:Nat) (x:Arg) (lo hi mx:Option Arg):Pp (.Yi sz x lo hi mx):=⟨rfl,rfl,rfl⟩
instance (m sz:Nat) (x:Arg) (lo hi mx:Option Arg):Pp (.EA m sz x lo hi mx):=⟨rfl,rfl,rfl⟩
instance (off:Nat) (x:Arg):Pp (.XJ off x):=⟨rfl,rfl,rfl⟩
instance (arr:Option Nat) (sz:Nat) (x i:Arg):Pp (.Sh arr sz x i):=⟨rfl,rfl,rfl⟩
instance (m sz:Nat) (agg:Bool) (x i:Arg):Pp (.idx m sz agg x i):=⟨rfl,rfl,rfl⟩
instance (x i:Arg):Pp (.idxs x i):=⟨rfl,rfl,rfl⟩
instance (t:TypeId) (ok:Bool) (z:AV) (x:Arg):Pp (.Yp t ok z x):=⟨rfl,rfl,rfl⟩
instance (x:Arg) (i:Nat):Pp (.XH x i):=⟨rfl,rfl,rfl⟩
instance (x:Arg):Pp (.lens x):=⟨rfl,rfl,rfl⟩
instance (x:Arg):Pp (.OD x):=⟨rfl,rfl,rfl⟩
instance (x y:Arg):Pp (.VE x y):=⟨rfl,rfl,rfl⟩
instance (x y:Arg):Pp (.VH x y):=⟨rfl,rfl,rfl⟩
instance (k:Sk) (z:AV) (ok:Bool) (x i:Arg):Pp (.lookup k z ok x i):=⟨rfl,rfl,rfl⟩
theorem bDk (P:Program) (g:bG) (n:Nat) (pairs:List (Nat×Nat)) (base i0 k0:Nat) (rs:List bK) (rd:List (Nat×Nat)) (ef:List (Nat×aA×aA)) (f:dE) (H:aA) (R:dE->aA->Prop) (d:Nat) (op:eE) [Pp op] (hd:d<n):
 eG P g n pairs base i0 k0 (⟨some d,op,none⟩::rs) rd ef f H R=lY (dA (nQ g f) H op) fun v H'=>H'=H/\(∀id,op.dJ (nQ g f)=some id->∀x∈ef,(i0,x.1)∈pairs->x.2.1.get id=x.2.2.get id)/\
     eG P g n pairs base (i0+1) k0 rs (match op.dJ (nQ g f) with|some id=>(i0,id)::rd|none=>rd) ef (kD f d v) H R:=
 dv d op Pp.h Pp.f Pp.e hd
end
end Go.Av
