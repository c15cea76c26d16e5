/-
  Part of the proof of statement 14
-/
import Derived.Test.YtgggiembljfnhaaGreatDoorC04
import Derived.Recover
set_option linter.unusedVariables false
set_option linter.unusedSimpArgs false
set_option linter.unusedSimpArgs false
set_option linter.unusedSectionVars false
set_option linter.defProp false
namespace Go.Av
open Go
section
inductive VT where
 |nil
 |node (v:AV) (l r:VT)
def VT.get:VT->Nat->AV
 |.nil,_=>aC
 |.node v l r,n=>match n with
  |0=>v
  |m+1=>match Nat.beq (Nat.mod m 2) 0 with
   |true=>l.get (Nat.div m 2)
   |false=>r.get (Nat.div m 2)
def VT.root:VT->AV
 |.nil=>aC
 |.node v _ _=>v
def VT.left:VT->VT
 |.nil=>.nil
 |.node _ l _=>l
def VT.right:VT->VT
 |.nil=>.nil
 |.node _ _ r=>r
def VT.wK:Nat->VT->Nat->AV->VT
 |0,t,_,v=>.node v t.left t.right
 |f+1,t,n,v=>match n with
  |0=>.node v t.left t.right
  |m+1=>match Nat.beq (Nat.mod m 2) 0 with
   |true=>.node t.root (VT.wK f t.left (Nat.div m 2) v) t.right
   |false=>.node t.root t.left (VT.wK f t.right (Nat.div m 2) v)
theorem VT.BM (t:VT):t.get 0=t.root:=by cases t<;>rfl
theorem VT.sE (t:VT) (m:Nat):t.get (m+1)=if Nat.beq (Nat.mod m 2) 0=true then t.left.get (Nat.div m 2) else t.right.get (Nat.div m 2):=by
 cases t with
 |nil=>simp[VT.get,VT.left,VT.right]
 |node v l r=>simp only[VT.get,VT.left,VT.right];cases Nat.beq (Nat.mod m 2) 0<;>rfl
theorem Pa {m k:Nat} (h1:Nat.beq (Nat.mod m 2) 0=Nat.beq (Nat.mod k 2) 0) (h2:Nat.div m 2=Nat.div k 2):m=k:=by
 have a1:m%2=Nat.mod m 2:=rfl;have a2:k%2=Nat.mod k 2:=rfl;have a3:m / 2=Nat.div m 2:=rfl;have a4:k / 2=Nat.div k 2:=rfl
 have h4:m%2=0↔k%2=0:=by
  constructor
  . intro h;refine Au (?_:Nat.beq (Nat.mod k 2) 0=true);rw[<-h1];show Nat.beq (m%2) 0=true;rw[h];rfl
  intro h;refine Au (?_:Nat.beq (Nat.mod m 2) 0=true);rw[h1];show Nat.beq (k%2) 0=true;rw[h];rfl
 omega
theorem VT.BK:∀(f:Nat) (t:VT) (n:Nat) (v:AV) (m:Nat),n<=f->(VT.wK f t n v).get m=if m=n then v else t.get m:=by
 intro f
 induction f with
 |zero=>
  intro t n v m hn;obtain rfl:n=0:=by omega
  cases m with
  |zero=>simp[VT.wK,VT.BM,VT.root]
  |succ m=>simp[VT.wK,VT.sE,VT.left,VT.right]
 |succ f ih=>
  intro t n v m hn
  cases n with
  |zero=>
   cases m with
   |zero=>simp[VT.wK,VT.BM,VT.root]
   |succ m=>simp[VT.wK,VT.sE,VT.left,VT.right]
  |succ n=>
   have hd:Nat.div n 2<=f:=By (Ir n 2) (by omega)
   cases hb:Nat.beq (Nat.mod n 2) 0 with
   |true=>
    simp only[VT.wK,hb]
    cases m with
    |zero=>simp[VT.BM,VT.root]
    |succ m=>
     rw[VT.sE,VT.sE];simp only[VT.left,VT.right]
     cases YH:Nat.beq (Nat.mod m 2) 0 with
     |true=>
      simp only[if_true];rw[ih _ _ _ _ hd];by_cases he:Nat.div m 2=Nat.div n 2
      . rw[if_pos he,if_pos];rw[Pa (by rw[hb,YH]) he]
      rw[if_neg he,if_neg];intro hh;apply he;rw[Nat.succ.inj hh]
     |false=>simp only[Ay,Bu];rw[if_neg];intro hh;rw[Nat.succ.inj hh,hb] at YH;cases YH
   |false=>
    simp only[VT.wK,hb]
    cases m with
    |zero=>simp[VT.BM,VT.root]
    |succ m=>
     rw[VT.sE,VT.sE];simp only[VT.left,VT.right]
     cases YH:Nat.beq (Nat.mod m 2) 0 with
     |false=>
      simp only[Ay,Bu];rw[ih _ _ _ _ hd];by_cases he:Nat.div m 2=Nat.div n 2
      . rw[if_pos he,if_pos];rw[Pa (by rw[hb,YH]) he]
      rw[if_neg he,if_neg];intro hh;apply he;rw[Nat.succ.inj hh]
     |true=>simp only[if_true];rw[if_neg];intro hh;rw[Nat.succ.inj hh,hb] at YH;cases YH
def VT.set (t:VT) (n:Nat) (v:AV):VT:=VT.wK n t n v
theorem VT.aI (t:VT) (n:Nat) (v:AV) (m:Nat):(t.set n v).get m=if m=n then v else t.get m:=VT.BK n t n v m (Ai _)
def EZ (n:Nat) (T:VT):List AV:=(List.range n).map T.get
def GM (n:Nat) (T:VT):Prop:=∀t,n<=t->T.get t=aC
def sV (n:Nat) (T:VT) (dst:Option Nat) (v:AV):VT:=
 match dst with
 |none=>T
 |some d=>match Nat.blt d n with
  |true=>T.set d v
  |false=>T
theorem GM.put {n:Nat} {T:VT} (h:GM n T) (dst:Option Nat) (v:AV):GM n (sV n T dst v):=by
 unfold sV;split
 . exact h
 rename_i d
 cases hb:Nat.blt d n with
 |true=>
  intro t ht;rw[VT.aI,if_neg]
  . exact h t ht
  intro hh;have :d<n:=by simpa [Eb] using hb
  omega
 |false=>exact h
theorem Kr {n:Nat} {T:VT} (h:GM n T) (t:Nat):(EZ n T).getD t aC=T.get t:=by
 unfold EZ;rw[getD_eq,Cj];by_cases ht:t<n
 . simp[ht]
 rw[h t (by omega)];simp[ht]
theorem oF {n:Nat} {T:VT} (dst:Option Nat) (v:AV):EZ n (sV n T dst v)=jF (EZ n T) dst v:=by
 unfold sV jF
 cases dst with
 |none=>rfl
 |some d=>
  simp only;unfold EZ;apply Ej;intro i;rw[Eh]
  cases hb:Nat.blt d n with
  |true=>
   have hd:d<n:=(by simpa [Eb] using hb);simp only[Cj,Ax,Cl,hd,if_true];by_cases hi:d=i
   . subst hi;simp[hd,VT.aI]
   rw[if_neg hi];by_cases gU:i<n
   . simp[gU,VT.aI,Ne.symm hi]
   simp[gU]
  |false=>
   have hd:¬d<n:=by intro hh;have :Nat.blt d n=true:=(by simpa [Eb] using hh);rw[hb] at this;cases this
   simp only[Cj,Ax,Cl,hd,Bu];by_cases hi:d=i
   . subst hi;simp[hd]
   rw[if_neg hi]
def uE (n:Nat):List AV->Nat->VT->VT
 |[],_,T=>T
 |v::vs,i,T=>uE n vs (i+1) (sV n T (some i) v)
def Qw (g:aT) (T:VT):Arg->AV
 |.tmp t=>T.get t
 |.const v=>v
 |.fY n=>match g n with
  |some cs=>.pl cs
  |none=>aC
theorem yY {n:Nat} {T:VT} (h:GM n T) (g:aT):Qw g T=Arg.eval g (EZ n T):=by
 funext x
 cases x with
 |tmp t=>exact(Kr h t).symm
 |const v=>rfl
 |fY n=>rfl
def ID (T:VT) (o:aN):Bool:=
 match o.guard with
 |none=>true
 |some (d,b)=>match T.get d with
  |.bool c=>c==b
  |_=>false
theorem Kv {n:Nat} {T:VT} (h:GM n T) (o:aN):ID T o=bF (EZ n T) o:=by
 unfold ID bF
 cases o.guard with
 |none=>rfl
 |some p=>simp only[Kr h];cases T.get p.1<;>rfl
mutual
def AV.same:AV->AV->Bool
 |.bool a,.bool b=>a==b
 |.int j a,.int k b=>decide (j=k)&&decide (a=b)
 |.str a,.str b=>a==b
 |.zX,.zX=>true
 |.ref i o,.ref j p=>i==j&&o==p
 |.pl a,.pl b=>oO a b
 |.aF,.aF=>true
 |.bH t s e,.bH t' s' e'=>t==t'&&s==s'&&EW e e'
 |.sl a b c d e,.sl a' b' c' d' e'=>a==a'&&b==b'&&c==c'&&d==d'&&e==e'
 |.func f a b,.func f' a' b'=>decide (f=f')&&oO a a'&&oO b b'
 |.vZ,.vZ=>true
 |.iface t v,.iface t' v'=>decide (t=t')&&v.same v'
 |.lZ,.lZ=>true
 |.agg a,.agg b=>oO a b
 |.eZ a,.eZ b=>oO a b
 |.map i,.map j=>i==j
 |.oZ,.oZ=>true
 |_,_=>false
def oO:List AV->List AV->Bool
 |[],[]=>true
 |x::r,y::s=>x.same y&&oO r s
 |_,_=>false
def EW:List (List AV)->List (List AV)->Bool
 |[],[]=>true
 |x::r,y::s=>oO x y&&EW r s
 |_,_=>false
end
mutual
theorem AV.OF:∀(a b:AV),a.same b=true->a=b:=by
 intro a b h
 cases a<;>cases b<;>simp only[AV.same,Aj,Dr,Bj] at h<;>first
  |rfl
  |(cases h;done)
  |(subst h;rfl)
  |(obtain⟨h1,h2⟩:=h;subst h1;subst h2;rfl)
  |(obtain⟨⟨⟨⟨h1,h2⟩,h3⟩,h4⟩,h5⟩:=h;subst h1;subst h2;subst h3;subst h4;subst h5;rfl)
  |(rw[kY _ _ h];done)
  |(obtain⟨h1,h2⟩:=h;subst h1;rw[AV.OF _ _ h2];done)
  |(obtain⟨⟨h1,h2⟩,h3⟩:=h;subst h1;subst h2;rw[Mi _ _ h3];done)
  |(obtain⟨⟨h1,h2⟩,h3⟩:=h;subst h1;rw[kY _ _ h2,kY _ _ h3];done)
theorem kY:∀(a b:List AV),oO a b=true->a=b:=by
 intro a b h
 cases a with
 |nil=>cases b with
  |nil=>rfl
  |cons y s=>simp[oO] at h
 |cons x r=>cases b with
  |nil=>simp[oO] at h
  |cons y s=>simp only[oO,Aj] at h;rw[AV.OF _ _ h.1,kY _ _ h.2]
theorem Mi:∀(a b:List (List AV)),EW a b=true->a=b:=by
 intro a b h
 cases a with
 |nil=>cases b with
  |nil=>rfl
  |cons y s=>simp[EW] at h
 |cons x r=>cases b with
  |nil=>simp[EW] at h
  |cons y s=>simp only[EW,Aj] at h;rw[kY _ _ h.1,Mi _ _ h.2]
end
def HY:Option dU->Option dU->Bool
 |none,none=>true
 |some (.cells a o),some (.cells b p)=>oO a b&&o==p
 |some .tok,some .tok=>true
 |some .dead,some .dead=>true
 |some (.map a),some (.map b)=>oO (a.map (·.1)) (b.map (·.1))&&oO (a.map (·.2)) (b.map (·.2))
 |_,_=>false
theorem WB {a b:List (AV×AV)} (h1:a.map (·.1)=b.map (·.1)) (h2:a.map (·.2)=b.map (·.2)):a=b:=by
 induction a generalizing b with
 |nil=>cases b with
  |nil=>rfl
  |cons y s=>simp at h1
 |cons x r ih=>cases b with
  |nil=>simp at h1
  |cons y s=>simp only[Be,Am] at h1 h2;rw[ih h1.2 h2.2,Prod.ext h1.1 h2.1]
theorem Ki {a b:Option dU} (h:HY a b=true):a=b:=by
 unfold HY at h
 split at h<;>first
  |rfl
  |(cases h;done)
  |skip
 . simp only[Aj,Dr] at h;rw[kY _ _ h.1,h.2]
 simp only[Aj] at h;rw[WB (kY _ _ h.1) (kY _ _ h.2)]
abbrev xX:=AV->List AV->aA->Option (Out×aA)
abbrev Res:=Uf×VT×List eX×aA
def FL (cf:xX) (g:aT) (n:Nat):List aN->VT->List eX->aA->Option Res
 |[],T,ds,H=>some (.normal,T,ds,H)
 |o::r,T,ds,H=>
  match ID T o with
  |true=>match o.op with
   |.call f azs=>match cf (Qw g T f) (azs.map (Qw g T)) H with
    |some (.ret v,H')=>FL cf g n r (sV n T o.dst v) ds H'
    |some (.pA v,H')=>some (.panic v,T,ds,H')
    |none=>none
   |.panic x=>match Qw g T x with
    |.iface t v=>some (.panic (.iface t v),T,ds,H)
    |_=>none
   |.iH f azs=>match iG (Qw g T f) with
    |some p=>FL cf g n r (sV n T o.dst aC) (.call p.1 (p.2.1++azs.map (Qw g T)++p.2.2)::ds) H
    |none=>none
   |op=>match cD (Qw g T) H op with
    |some (v,H')=>FL cf g n r (sV n T o.dst v) ds H'
    |none=>none
  |false=>FL cf g n r (sV n T o.dst aC) ds H
def exQ (cf:xX) (g:aT) (T:VT) (H:aA):cZ->Option (AV×aA)
 |.call f azs=>match iG (Qw g T f) with
  |some _=>match cf (Qw g T f) (azs.map (Qw g T)) H with
   |some (.ret v,H')=>some (v,H')
   |_=>none
  |none=>none
 |.panic _|.iH _ _=>none
 |op=>cD (Qw g T) H op
def SL (pairs:List (Nat×Nat)) (i id:Nat) (ef:List (Nat×aA×aA)):Bool:=
 ef.all fun x=> !pairs.contains (i,x.1)||HY (x.2.1.get id) (x.2.2.get id)
def NT (cf:xX) (g:aT) (n:Nat) (pairs:List (Nat×Nat)) (base:Nat):Nat->Nat->List aN->List (Nat×Nat)->List (Nat×aA×aA)->VT->aA->Option (VT×aA)
 |_,_,[],_,_,T,H=>some (T,H)
 |i,k,r::rs,rd,ef,T,H=>
  match ID T r with
  |true=>match r.op.fresh with
   |true=>match tL (Qw g T) r.op with
    |some (ob,val)=>match SL pairs i (base+k) ef with
     |true=>NT cf g n pairs base (i+1) (k+1) rs ((i,base+k)::rd) ef (sV n T r.dst (val (base+k))) (H.set (base+k) ob)
     |false=>none
    |none=>none
   |false=>match r.op.mE with
    |true=>match exQ cf g T H r.op with
     |some (v,H')=>match Nat.ble H.next H'.next&&rd.all fun x=> !pairs.contains (x.1,i)||HY (H.get x.2) (H'.get x.2) with
      |true=>NT cf g n pairs base (i+1) k rs rd ((i,H,H')::ef) (sV n T r.dst v) H'
      |false=>none
     |none=>none
    |false=>match exQ cf g T H r.op with
     |some (v,_)=>match r.op.cG (Qw g T) with
      |some id=>match SL pairs i id ef with
       |true=>NT cf g n pairs base (i+1) k rs ((i,id)::rd) ef (sV n T r.dst v) H
       |false=>none
      |none=>NT cf g n pairs base (i+1) k rs rd ef (sV n T r.dst v) H
     |none=>none
  |false=>NT cf g n pairs base (i+1) (match r.op.fresh with|true=>k+1|false=>k) rs rd ef (sV n T r.dst aC) H
def MV (f:VT->List eX->aA->Option Res):Nat->VT->List eX->aA->Option Res
 |0,_,_,_=>none
 |m+1,T,ds,H=>match f T ds H with
  |some (.normal,T',eC,H')=>MV f m T' eC H'
  |r=>r
def LC (cf:xX) (g:aT) (n fuel:Nat):bP->VT->List eX->aA->Option Res
 |.skip,T,ds,H=>some (.normal,T,ds,H)
 |.ops rl,T,ds,H=>FL cf g n rl T ds H
 |.draw rl pairs,T,ds,H=>match mQ H (rl.countP (·.op.fresh)) with
  |true=>match NT cf g n pairs H.next 0 0 rl [] [] T {H with next:=H.next+rl.countP (·.op.fresh)} with
   |some (T',H')=>some (.normal,T',ds,H')
   |none=>none
  |false=>none
 |.seq a b,T,ds,H=>match LC cf g n fuel a T ds H with
  |some (.normal,T',eC,H')=>LC cf g n fuel b T' eC H'
  |r=>r
 |.cond c a b,T,ds,H=>match Qw g T c with
  |.bool true=>LC cf g n fuel a T ds H
  |.bool false=>LC cf g n fuel b T ds H
  |_=>none
 |.block id a,T,ds,H=>match LC cf g n fuel a T ds H with
  |some (.exit i,T',eC,H')=>match Nat.beq i id with
   |true=>some (.normal,T',eC,H')
   |false=>some (.exit i,T',eC,H')
  |r=>r
 |.loop a,T,ds,H=>MV (LC cf g n fuel a) fuel T ds H
 |.exit id,T,ds,H=>some (.exit id,T,ds,H)
 |.ret,T,ds,H=>some (.ret,T,ds,H)
 |.lK c ps LB body,T,ds,H=>match Qw g T c with
  |.func (.func fid) fs cs=>match cf (.func (.func fid) fs cs) [.yield (H.next+1)] ((H.alloc .NQ).alloc (.loop ⟨ps,LB,body⟩ (EZ n T) .ready)) with
   |some (.ret _,He)=>match He.get (H.next+1) with
    |some (.loop _ _ .ready)=>some (.normal,T,.mark H.next::ds,He.set (H.next+1) .dead)
    |some (.loop _ _ (.done .ret))=>some (.ret,T,.mark H.next::ds,He.set (H.next+1) .dead)
    |some (.loop _ _ (.done (.exit i)))=>some (.exit i,T,.mark H.next::ds,He.set (H.next+1) .dead)
    |_=>none
   |_=>none
  |_=>none
def CP (n:Nat) (T:VT):List (Nat×AV)->VT
 |[]=>T
 |(t,v)::r=>CP n (sV n T (some t) v) r
section
variable {P:Program} {g:aT} {n fuel:Nat} {cf:xX}
theorem Lg.sound {fv:AV} {args:List AV} {H H':aA} {out:Out} {p:FuncId×List AV×List AV} (h:Lg P g fv args H out H') (hp:iG fv=some p):Sound P g p.1 (p.2.1++args++p.2.2) H out H':=by
 rcases h with ⟨q,hq,h⟩|⟨id,rfl,_⟩
 . rw[hq] at hp;cases hp;exact h
 cases hp
def yN (P:Program) (g:aT) (cf:xX):Prop:=∀c args H out H',cf c args H=some (out,H')->Lg P g c args H out H'
theorem oI (FV:yN P g cf):∀(rl:List aN) (T:VT) (ds:List eX) (H:aA) (ae:Uf) (T':VT) (eC:List eX) (H':aA),GM n T->FL cf g n rl T ds H=some (ae,T',eC,H')->
 GM n T'/\∀Q:AQ,Q ae (EZ n T') eC H'->pY P g rl (EZ n T) ds H Q
 |[],T,ds,H,ae,T',eC,H',hb,h=>by simp only[FL,Ab,Ad] at h;obtain⟨rfl,rfl,rfl,rfl⟩:=h;exact⟨hb,fun Q hq=>hq⟩
 |o::r,T,ds,H,ae,T',eC,H',hb,h=>by
  unfold FL at h;rw[yY hb,Kv hb] at h;unfold pY
  cases hw:bF (EZ n T) o with
  |false=>rw[hw] at h;dsimp only at h;have ih:=oI FV r _ ds H ae T' eC H' (hb.put o.dst aC) h;rw[oF] at ih;exact⟨ih.1,fun Q hq=>by simpa using ih.2 Q hq⟩
  |true=>
   rw[hw] at h;dsimp only at h;simp only[if_true];split at h
   . rename_i f azs eK;split at h
     . rename_i v H1 hc;have ih:=oI FV r _ ds H1 ae T' eC H' (hb.put o.dst v) h;rw[oF] at ih;exact⟨ih.1,fun Q hq=>by rw[eK];exact⟨.ret v,H1,FV _ _ _ _ _ hc,ih.2 Q hq⟩⟩
     . rename_i v H1 hc;simp only[Ab,Ad] at h;obtain⟨rfl,rfl,rfl,rfl⟩:=h;exact⟨hb,fun Q hq=>by rw[eK];exact⟨.pA v,H1,FV _ _ _ _ _ hc,hq⟩⟩
     cases h
   . rename_i x eK;split at h
     . rename_i t v hx;simp only[Ab,Ad] at h;obtain⟨rfl,rfl,rfl,rfl⟩:=h;exact⟨hb,fun Q hq=>by rw[eK];exact⟨t,v,hx,hq⟩⟩
     cases h
   . rename_i f azs eK;split at h
     . rename_i p hp;have ih:=oI FV r _ _ H ae T' eC H' (hb.put o.dst aC) h;rw[oF] at ih;exact⟨ih.1,fun Q hq=>by rw[eK];exact⟨p,hp,ih.2 Q hq⟩⟩
     cases h
   rename_i n1 n2 n3;split at h
   . rename_i v H1 ha;have ih:=oI FV r _ ds H1 ae T' eC H' (hb.put o.dst v) h;rw[oF] at ih;refine⟨ih.1,fun Q hq=>?_⟩;split
     . rename_i f azs eK;exact absurd eK (n1 f azs)
     . rename_i x eK;exact absurd eK (n2 x)
     . rename_i f azs eK;exact absurd eK (n3 f azs)
     . rename_i x eK;rw[eK] at ha;cases ha
     . rename_i x eK;rw[eK] at ha;cases ha
     . rename_i x eK;rw[eK] at ha;cases ha
     exact⟨v,H1,ha,ih.2 Q hq⟩
   cases h
theorem Ly (FV:yN P g cf) {T:VT} (hb:GM n T) {H H':aA} {r:aN} {v:AV} (h:exQ cf g T H r.op=some (v,H')):AS P g r (EZ n T) H v H':=by
 unfold exQ at h;rw[yY hb] at h;unfold AS;split at h
 . rename_i f azs eK;rw[eK];split at h
   . rename_i p hp;split at h
     . rename_i v' H1 hc;simp only[Ab,Ad] at h;obtain⟨rfl,rfl⟩:=h;exact⟨p,hp,(FV _ _ _ _ _ hc).sound hp⟩
     cases h
   cases h
 . cases h
 . cases h
 rename_i n1 n2 n3;split
 . rename_i f azs eK;exact absurd eK (n1 f azs)
 . rename_i x eK;exact absurd eK (n2 x)
 . rename_i f azs eK;exact absurd eK (n3 f azs)
 exact h
theorem Jx {pairs:List (Nat×Nat)} {i id:Nat} {ef:List (Nat×aA×aA)} (h:SL pairs i id ef=true):∀x∈ef,(i,x.1)∈pairs->x.2.1.get id=x.2.2.get id:=by intro x hx hp;have :=Bc.1 h x hx;simp only[Dg,Cr,List.contains_eq_mem,Co] at this;exact Ki (this.resolve_left fun hh=>hh hp)
theorem nM (FV:yN P g cf) {pairs:List (Nat×Nat)} {base:Nat}:∀(rl:List aN) (i k:Nat) (rd:List (Nat×Nat)) (ef:List (Nat×aA×aA)) (T:VT) (H:aA) (T':VT) (H':aA),GM n T->
 NT cf g n pairs base i k rl rd ef T H=some (T',H')->GM n T'/\∀Q:List AV->aA->Prop,Q (EZ n T') H'->Ob P g pairs base i k rl rd ef (EZ n T) H Q
 |[],i,k,rd,ef,T,H,T',H',hb,h=>by simp only[NT,Ab,Ad] at h;obtain⟨rfl,rfl⟩:=h;exact⟨hb,fun Q hq=>hq⟩
 |r::rs,i,k,rd,ef,T,H,T',H',hb,h=>by
  unfold NT at h;rw[Kv hb] at h;unfold Ob
  cases hw:bF (EZ n T) r with
  |false=>
   rw[hw] at h;dsimp only at h;have ih:=nM FV rs _ _ _ _ _ _ T' H' (hb.put r.dst aC) h;rw[oF] at ih
   have hk:(match r.op.fresh with|true=>k+1|false=>k)=if r.op.fresh then k+1 else k:=(by cases r.op.fresh<;>rfl);rw[hk] at ih;exact⟨ih.1,fun Q hq=>by simpa using ih.2 Q hq⟩
  |true=>
   rw[hw] at h;dsimp only at h;simp only[if_true]
   cases hf:r.op.fresh with
   |true=>
    rw[hf] at h;dsimp only at h;simp only[if_true];rw[yY hb] at h;split at h
    . rename_i ob val ho;split at h
      . rename_i hk;have ih:=nM FV rs _ _ _ _ _ _ T' H' (hb.put r.dst (val (base+k))) h;rw[oF] at ih;exact⟨ih.1,fun Q hq=>⟨ob,val,ho,Jx hk,ih.2 Q hq⟩⟩
      cases h
    cases h
   |false=>
    rw[hf] at h;dsimp only at h;simp only[Ay,Bu]
    cases he:r.op.mE with
    |true=>
     rw[he] at h;dsimp only at h;simp only[if_true];split at h
     . rename_i v H1 aw;split at h
       . rename_i hk;simp only[Aj] at hk;have ih:=nM FV rs _ _ _ _ _ _ T' H' (hb.put r.dst v) h;rw[oF] at ih;refine⟨ih.1,fun Q hq=>⟨v,H1,Ly FV hb aw,by simpa using Ae hk.1,fun x hx hp=>?_,ih.2 Q hq⟩⟩;have :=Bc.1 hk.2 x hx;simp only[Dg,Cr,List.contains_eq_mem,Co] at this;exact Ki (this.resolve_left fun hh=>hh hp)
       cases h
     cases h
    |false=>
     rw[he] at h;dsimp only at h;simp only[Ay,Bu];split at h
     . rename_i v H1 aw;have qj:=Ly FV hb aw
       have hH:H1=H:=by
        unfold AS at qj;split at qj
        . rename_i eK;rw[eK] at he;cases he
        . exact qj.elim
        . exact qj.elim
        exact(DR (H1:=H) he hf qj (fun id _=>rfl)).1
       rw[hH] at qj;rw[yY hb] at h;split at h
       . rename_i id bZ;split at h
         . rename_i hk;have ih:=nM FV rs _ _ _ _ _ _ T' H' (hb.put r.dst v) h;rw[oF] at ih;refine⟨ih.1,fun Q hq=>⟨v,qj,fun iO zM=>?_,?_⟩⟩
           . rw[bZ] at zM;cases zM;exact Jx hk
           rw[bZ];exact ih.2 Q hq
         cases h
       rename_i bZ;have ih:=nM FV rs _ _ _ _ _ _ T' H' (hb.put r.dst v) h;rw[oF] at ih;refine⟨ih.1,fun Q hq=>⟨v,qj,fun iO zM=>?_,?_⟩⟩
       . rw[bZ] at zM;cases zM
       rw[bZ];exact ih.2 Q hq
     cases h
theorem DI {rl:List aN}:∀{s:List AV} {ds:List eX} {H:aA} {Q Q':AQ},(∀e s ds H,Q e s ds H->Q' e s ds H)->pY P g rl s ds H Q->pY P g rl s ds H Q':=by
 induction rl with
 |nil=>exact fun hq h=>hq _ _ _ _ h
 |cons o r ih=>
  intro s ds H Q Q' hq h;unfold pY at h ⊢;split
  . rename_i hw;rw[if_pos hw] at h;split at h
    . obtain⟨out,H',h1,h3⟩:=h;refine⟨out,H',h1,?_⟩
      cases out with
      |ret v=>exact ih hq h3
      |pA v=>exact hq _ _ _ _ h3
    . obtain⟨t,v,h1,h2⟩:=h;exact⟨t,v,h1,hq _ _ _ _ h2⟩
    . obtain⟨p,h1,h2⟩:=h;exact⟨p,h1,ih hq h2⟩
    . obtain⟨m,es,h1,h2,h3⟩:=h;exact⟨m,es,h1,h2,fun bs c mb k1 k2=>ih hq (h3 bs c mb k1 k2)⟩
    . obtain⟨it,m,mb,c,seen,es,bs,h1,h2,h3,h4,h5⟩:=h;exact⟨it,m,mb,c,seen,es,bs,h1,h2,h3,fun k=>ih hq (h4 k),fun j k1 k2=>ih hq (h5 j k1 k2)⟩
    . obtain⟨it,m,mb,c,seen,es,bs,j,h1,h2,h3,h4,h5⟩:=h;exact⟨it,m,mb,c,seen,es,bs,j,h1,h2,h3,h4,ih hq h5⟩
    obtain⟨v,H',h1,h2⟩:=h;exact⟨v,H',h1,ih hq h2⟩
  rename_i hw;rw[if_neg hw] at h;exact ih hq h
theorem Oc {pairs:List (Nat×Nat)} {base:Nat} {rl:List aN}:∀{i k:Nat} {rd:List (Nat×Nat)} {ef:List (Nat×aA×aA)} {s:List AV} {H:aA} {Q Q':List AV->aA->Prop},(∀s H,Q s H->Q' s H)->
 Ob P g pairs base i k rl rd ef s H Q->Ob P g pairs base i k rl rd ef s H Q':=by
 induction rl with
 |nil=>exact fun hq h=>hq _ _ h
 |cons r rs ih=>
  intro i k rd ef s H Q Q' hq h;unfold Ob at h ⊢;split
  . rename_i hw;rw[if_pos hw] at h;split
    . rename_i hf;rw[if_pos hf] at h;obtain⟨ob,val,h1,h2,h3⟩:=h;exact⟨ob,val,h1,h2,ih hq h3⟩
    rename_i hf;rw[if_neg hf] at h;split
    . rename_i he;rw[if_pos he] at h;obtain⟨v,H',h1,h2,h3,h4⟩:=h;exact⟨v,H',h1,h2,h3,ih hq h4⟩
    rename_i he;rw[if_neg he] at h;obtain⟨v,h1,h2,h3⟩:=h;exact⟨v,h1,h2,ih hq h3⟩
  rename_i hw;rw[if_neg hw] at h;exact ih hq h
theorem dP {c:bP}:∀{s:List AV} {ds:List eX} {H:aA} {Q Q':AQ},(∀e s ds H,Q e s ds H->Q' e s ds H)->AC P g c s ds H Q->AC P g c s ds H Q':=by
 induction c with
 |skip=>exact fun hq h=>hq _ _ _ _ h
 |ops rl=>exact fun hq h=>DI hq h
 |draw rl pairs=>exact fun hq h=>h.imp (fun h=>⟨h.1,Oc (fun s H=>hq _ _ _ _) h.2⟩) fun h=>h.imp (fun h=>h.mono fun _ _ _=>hq _ _ _ _) fun h=>h.mono fun _ _ h s' hl ht=>hq _ _ _ _ (h s' hl ht)
 |seq a b oY qS=>
  intro s ds H Q Q' hq h;refine oY (fun e s ds H h=>?_) h
  cases e with
  |normal=>exact qS hq h
  |_=>exact hq _ _ _ _ h
 |cond c a b oY qS=>
  intro s ds H Q Q' hq h;obtain⟨t,h1,h2⟩:=h;refine⟨t,h1,?_⟩
  cases t with
  |true=>exact oY hq h2
  |false=>exact qS hq h2
 |block id a ih=>
  intro s ds H Q Q' hq h;refine ih (fun e s ds H h=>?_) h
  cases e with
  |exit i=>
   simp only[mV] at h ⊢;split
   . rename_i hi;rw[if_pos hi] at h;exact hq _ _ _ _ h
   rename_i hi;rw[if_neg hi] at h;exact hq _ _ _ _ h
  |_=>exact hq _ _ _ _ h
 |loop a ih=>
  intro s ds H Q Q' hq h;obtain⟨I,m,h0,hI⟩:=h;refine⟨I,m,h0,fun m s ds H hi=>ih (fun e s ds H h=>?_) (hI m s ds H hi)⟩
  cases e with
  |normal=>exact h
  |_=>exact hq _ _ _ _ h
 |exit id=>exact fun hq h=>hq _ _ _ _ h
 |ret=>exact fun hq h=>hq _ _ _ _ h
 |lK c ps a b oY qS=>
  intro s ds H Q Q' hq h;obtain⟨fid,fs,cs,v,He,k',s',st,Hf,h1,h2,h3,h4,h5⟩:=h;refine⟨fid,fs,cs,v,He,k',s',st,Hf,h1,h2,h3,h4,?_⟩
  cases st with
  |ready=>exact hq _ _ _ _ h5
  |done e=>cases e<;>exact hq _ _ _ _ h5
  |busy=>exact h5.elim
  |over _=>exact h5.elim
theorem wV (FV:yN P g cf):∀(c:bP) (T:VT) (ds:List eX) (H:aA) (ae:Uf) (T':VT) (eC:List eX) (H':aA),GM n T->LC cf g n fuel c T ds H=some (ae,T',eC,H')->
 GM n T'/\∀Q:AQ,Q ae (EZ n T') eC H'->AC P g c (EZ n T) ds H Q:=by
 intro c
 induction c with
 |skip=>intro T ds H ae T' eC H' hb h;simp only[LC,Ab,Ad] at h;obtain⟨rfl,rfl,rfl,rfl⟩:=h;exact⟨hb,fun Q hq=>hq⟩
 |ops rl=>exact fun T ds H ae T' eC H' hb h=>oI FV rl T ds H ae T' eC H' hb h
 |draw rl pairs=>
  intro T ds H ae T' eC H' hb h;simp only[LC] at h;split at h
  . rename_i al;split at h
    . rename_i T1 H1 hd;simp only[Ab,Ad] at h;obtain⟨rfl,rfl,rfl,rfl⟩:=h;have :=nM FV rl 0 0 [] [] T _ T1 H1 hb hd;exact⟨this.1,fun Q hq=>.inl ⟨al,this.2 _ hq⟩⟩
    cases h
  cases h
 |seq a b oY qS=>
  intro T ds H ae T' eC H' hb h;simp only[LC] at h;split at h
  . rename_i T1 oR H1 ha;have h1:=oY T ds H _ T1 oR H1 hb ha;have h2:=qS T1 oR H1 ae T' eC H' h1.1 h;exact⟨h2.1,fun Q hq=>h1.2 _ (h2.2 Q hq)⟩
  rename_i hn;have h1:=oY T ds H ae T' eC H' hb h;refine⟨h1.1,fun Q hq=>h1.2 _ ?_⟩
  cases ae with
  |normal=>exact absurd h (hn _ _ _)
  |_=>exact hq
 |cond c a b oY qS=>
  intro T ds H ae T' eC H' hb h;simp only[LC] at h;rw[yY hb] at h;split at h
  . rename_i hc;have h1:=oY T ds H ae T' eC H' hb h;exact⟨h1.1,fun Q hq=>⟨true,hc,h1.2 Q hq⟩⟩
  . rename_i hc;have h1:=qS T ds H ae T' eC H' hb h;exact⟨h1.1,fun Q hq=>⟨false,hc,h1.2 Q hq⟩⟩
  cases h
 |block id a ih=>
  intro T ds H ae T' eC H' hb h;simp only[LC] at h;split at h
  . rename_i i T1 oR H1 ha;have h1:=ih T ds H _ T1 oR H1 hb ha;split at h
    . rename_i hi;have zL:i=id:=Au hi;simp only[Ab,Ad] at h;obtain⟨rfl,rfl,rfl,rfl⟩:=h;refine⟨h1.1,fun Q hq=>h1.2 _ ?_⟩;simp only[mV];rw[if_pos zL];exact hq
    rename_i hi;have zL:i≠id:=Nat.ne_of_beq_eq_false hi;simp only[Ab,Ad] at h;obtain⟨rfl,rfl,rfl,rfl⟩:=h;refine⟨h1.1,fun Q hq=>h1.2 _ ?_⟩;simp only[mV];rw[if_neg zL];exact hq
  rename_i hn;have h1:=ih T ds H ae T' eC H' hb h;refine⟨h1.1,fun Q hq=>h1.2 _ ?_⟩
  cases ae with
  |exit i=>exact absurd h (hn _ _ _ _)
  |_=>exact hq
 |loop a ih=>
  intro T ds H ae T' eC H' hb h;simp only[LC] at h
  have key:∀(m:Nat) (T:VT) (ds:List eX) (H:aA),GM n T->MV (LC cf g n fuel a) m T ds H=some (ae,T',eC,H')->GM n T':=by
   intro m
   induction m with
   |zero=>intro T ds H _ h;cases h
   |succ m ihm=>
    intro T ds H hb h;simp only[MV] at h;split at h
    . rename_i T1 oR H1 h1;exact ihm T1 oR H1 (ih _ _ _ _ _ _ _ hb h1).1 h
    exact(ih _ _ _ _ _ _ _ hb h).1
  refine⟨key fuel T ds H hb h,fun Q hq=>⟨fun m s ds H=>∃T,s=EZ n T/\GM n T/\MV (LC cf g n fuel a) m T ds H=some (ae,T',eC,H'),fuel,⟨T,rfl,hb,h⟩,?_⟩⟩;rintro m s oR H1 ⟨T1,rfl,Ji,h1⟩
  cases m with
  |zero=>cases h1
  |succ m=>
   simp only[MV] at h1;split at h1
   . rename_i T2 NS H2 h2;have :=ih _ _ _ _ _ _ _ Ji h2;exact this.2 _ ⟨m,Ea m,T2,rfl,this.1,h1⟩
   rename_i hn;have :=ih _ _ _ _ _ _ _ Ji h1;refine this.2 _ ?_
   cases ae with
   |normal=>exact absurd h1 (hn _ _ _)
   |_=>exact hq
 |exit id=>intro T ds H ae T' eC H' hb h;simp only[LC,Ab,Ad] at h;obtain⟨rfl,rfl,rfl,rfl⟩:=h;exact⟨hb,fun Q hq=>hq⟩
 |ret=>intro T ds H ae T' eC H' hb h;simp only[LC,Ab,Ad] at h;obtain⟨rfl,rfl,rfl,rfl⟩:=h;exact⟨hb,fun Q hq=>hq⟩
 |lK c ps a b _ _=>
  intro T ds H ae T' eC H' hb h;simp only[LC] at h;rw[yY hb] at h;split at h
  . rename_i fid fs cs hc;split at h
    . rename_i v He yD;have hS:=(FV _ _ _ _ _ yD).sound rfl;have hl:sN He (H.next+1) (He.set (H.next+1) .dead):=⟨rfl,fun m=>aA.aI _ _ _ _⟩;split at h
      . rename_i k' s' hg;simp only[Ab,Ad] at h;obtain⟨rfl,rfl,rfl,rfl⟩:=h;exact⟨hb,fun Q hq=>⟨fid,fs,cs,v,He,k',s',.ready,_,hc,hS,hg,hl,hq⟩⟩
      . rename_i k' s' hg;simp only[Ab,Ad] at h;obtain⟨rfl,rfl,rfl,rfl⟩:=h;exact⟨hb,fun Q hq=>⟨fid,fs,cs,v,He,k',s',.done .ret,_,hc,hS,hg,hl,hq⟩⟩
      . rename_i k' s' i hg;simp only[Ab,Ad] at h;obtain⟨rfl,rfl,rfl,rfl⟩:=h;exact⟨hb,fun Q hq=>⟨fid,fs,cs,v,He,k',s',.done (.exit i),_,hc,hS,hg,hl,hq⟩⟩
      cases h
    cases h
  cases h
end
end
def aCy (G:Gh) (w:World):Option AV->FrameMode->Prop
 |none,m=>m=.returning
 |some v,m=>∃x,m=.panicking [{v:=x,recovered:=false}]/\VR G w v x
def uZ (P:Program) (g:aT) (f:FuncId) (args:List AV) (md:Option AV) (H H':aA):Prop:=
 IN P f/\∀(G:Gh) (w:World) (vs:List Value) (u:FrameMode),WR g G H w->fJ G w args vs->aCy G w md u->
  CallsDIn Fence.wide 0 P f vs.toArray u w fun e u' w'=>(∃x,e=.returned x)/\settle u'=.returning/\∃G',WR g G' H' w'/\Ext G H w G' H' w'
def RF (P:Program) (g:aT):List eX->aA->(aA->Prop)->Prop
 |[],H,Q=>Q H
 |.call f azs::ds,H,Q=>∃H1,uZ P g f azs none H H1/\RF P g ds H1 Q
 |.mark id::ds,H,Q=>H.get id=some .NQ/\RF P g ds (H.set id .nz) Q
def th (P:Program) (g:aT) (F:wR) (R:Out->aA->Prop):AQ
 |.normal,s,ds,H|.ret,s,ds,H=>RF P g ds H fun H1=>∃vs,jU s H1 F.results=some vs/\R (.ret (iW vs)) H1
 |.panic v,s,ds,H=>match ds with
  |[]=>R (.pA v) H
  |.mark _::_=>False
  |.call f azs::ds=>∃H1,uZ P g f azs (some v) H H1/\RF P g ds H1 fun H2=>∃vs,jU s H2 F.results=some vs/\R (.ret (iW vs)) H2
 |.exit _,_,_,_=>False
theorem qK {P:Program} {g:aT} {fn:Func} {tmps:Array Value} {R:Ending->World->Prop} {Q:aA->Prop}:∀(ds:List eX) (l:List Deferred) (G:Gh) (H:aA) (w:World),
 RF P g ds H Q->WR g G H w->NA G w ds l->
 (∀G' H' w',Q H'->WR g G' H' w'->Ext G H w G' H' w'->∃v,(results fn tmps).run P w'=.ok v w'/\R (.returned v) w')->LeavesInM Fence.wide 0 P fn tmps R l .returning w
 |[],[],G,H,w,h,hw,hd,hR=>hR G H w h hw (Ext.refl G H w)
 |[],d::l,G,H,w,h,hw,hd,hR=>hd.elim
 |.call _ _::ds,[],G,H,w,h,hw,hd,hR=>hd.elim
 |.mark _::ds,[],G,H,w,h,hw,hd,hR=>hd.elim
 |.call f azs::ds,d::l,G,H,w,h,hw,hd,hR=>by obtain⟨H1,hS,hA⟩:=h;obtain⟨⟨cap,ht,hv⟩,oU⟩:=hd;refine⟨by simp,.inr ⟨wB,.func f,cap.toArray,f,d.args++cap.toArray,ht,by rw[ht];exact lC hS.1 _ _ _,fun _ _=>trivial,?_⟩⟩;have hc:=hS.2 G w _ .returning hw hv rfl;rw[show(d.args.toList++cap).toArray=d.args++cap.toArray by apply Dv;simp] at hc;refine hc.mono fun e u' w' he=>?_;obtain⟨⟨x,rfl⟩,hu,G',jG,tO⟩:=he;show LeavesInM Fence.wide 0 P fn tmps R l (settle u') w';rw[hu];exact qK ds l G' H1 w' hA jG (oU.ext tO) fun G2 H2 w2 hq qI OU=>hR G2 H2 w2 hq qI (tO.trans OU)
 |.mark id::ds,d::l,G,H,w,h,hw,hd,hR=>by obtain⟨hg,hA⟩:=h;obtain⟨⟨lc,hl,ht⟩,oU⟩:=hd;obtain⟨_,_,hb⟩:=hw.fQ id lc _ hl hg rfl;have zS:=run_takeDeferred (P:=P) hb;obtain⟨q1,q2⟩:=hw.AG (o':=.nz) (x:=.deferred none) (w':=w.putObj lc.cC (.deferred none)) hl hg rfl rfl rfl .now (fun _ hs=>hs);exact⟨by simp,.inl ⟨lc.cC,_,ht,zS,qK ds l G _ _ hA q1 (oU.ext q2) fun G2 H2 w2 hq qI OU=>hR G2 H2 w2 hq qI (q2.trans OU)⟩⟩
theorem mL {P:Program} {g:aT} {mu:Bool} (hm:Fit P g) {f:FuncId} {F:wR} (hF:iM P g mu f F) {args:List AV} {H H':aA} {out:Out}
 (h:AC P g F.body (nC F args) [] H (th P g F fun o h=>o=out/\h=H')):Sound P g f args H out H':=by
 refine⟨hF.ok,fun G w vs hw hv=>?_⟩;obtain⟨fn,c,h1,h2,_,h3,h4,h5⟩:=hF;refine callsIn_wide.1 (callsIn_of_wp_marks (n:=0) h1 h2 trivial (wpIn_mono (uT hm c none F.body h3 (.inl rfl) _ [] G H w _ _ h hw ?_ trivial) fun e a w' hq=>?_))
 . have hlen:=hv.1;show fJ G w _ _;simp only[nC,Jc,Iq,Fc,hlen,h4];refine hv.append ⟨by simp,fun j hj=>?_⟩;simp only[It] at hj;simp only[Ck,Ei,hj,if_true,Bb];exact VR.kN G w
 obtain⟨ae,s',eC,H1,G',q,jG,he,DG,oU,hx⟩:=hq
 have fin:∀(G2:Gh) (H2:aA) (w2:World),(∃vs,jU s' H2 F.results=some vs/\(Out.ret (iW vs)=out/\H2=H'))->WR g G2 H2 w2->Ext G' H1 w' G2 H2 w2->
  ∃v,(results fn a.tmps).run P w2=.ok v w2/\(fun(e:Ending) w'=>∃G',WR g G' H' w'/\Ext G H w G' H' w'/\LJ G' w' out e) (.returned v) w2:=by
  rintro G2 H2 w2 ⟨mq,gV,rfl,rfl⟩ qI OU;obtain⟨u,hu,GR⟩:=GH qI (DG.ext OU) h5 gV;exact⟨u,hu,G2,qI,he.trans OU,GR⟩
 cases ae with
 |normal=>
  cases e with
  |normal=>exact qK eC a.defers G' H1 w' q jG oU fin
  |_=>exact hx.elim
 |ret=>
  cases e with
  |ret=>exact qK eC a.defers G' H1 w' q jG oU fin
  |_=>exact hx.elim
 |exit id=>exact q.elim
 |panic v=>
  cases e with
  |panic ch=>
   obtain⟨x,rfl,a8⟩:=hx
   cases pc:eC with
   |nil=>
    subst pc
    cases Wr:a.defers with
    |nil=>obtain⟨rfl,rfl⟩:=q;show LeavesInM Fence.wide 0 P fn a.tmps _ a.defers _ w';rw[Wr];exact⟨G',jG,he,x,rfl,a8⟩
    |cons d r=>rw[Wr] at oU;exact oU.elim
   |cons d ds=>
    subst pc
    cases d with
    |mark _=>exact q.elim
    |call f0 azs=>
    cases Wr:a.defers with
    |nil=>rw[Wr] at oU;exact oU.elim
    |cons d0 l=>rw[Wr] at oU;obtain⟨⟨cap,ht,SH⟩,hdr⟩:=oU;obtain⟨H2,hS,hA⟩:=q;show LeavesInM Fence.wide 0 P fn a.tmps _ a.defers _ w';rw[Wr];refine⟨by simp,.inr ⟨wB,.func f0,cap.toArray,f0,d0.args++cap.toArray,ht,by rw[ht];exact lC hS.1 _ _ _,fun _ _=>trivial,?_⟩⟩;have hc:=hS.2 G' w' _ (.panicking [{v:=x,recovered:=false}]) jG SH ⟨x,rfl,a8⟩;rw[show(d0.args.toList++cap).toArray=d0.args++cap.toArray by apply Dv;simp] at hc;refine hc.mono fun e u' w2 OU=>?_;obtain⟨⟨y,rfl⟩,hu,G2,qI,tO⟩:=OU;show LeavesInM Fence.wide 0 P fn a.tmps _ l (settle u') w2;rw[hu];exact qK ds l G2 H2 w2 hA qI (hdr.ext tO) fun G3 H3 w3 hq ba Vj=>fin G3 H3 w3 hq ba (tO.trans Vj)
  |_=>exact hx.elim
def RT (P:Program) (g:aT) (mu:Bool):Code->Option (Option Nat×List aN×bP)
 |.seq (.region _ ops false) rest=>
  match ops.toList with
  |o::l=>match o.op,o.guard,iU P g mu ops l,dK P g mu rest with
   |.call c,none,some rl,some ac=>match c.callee,c.args.toList with
    |.builtin .recover,[]=>some (o.dst,rl,ac)
    |_,_=>none
   |_,_,_,_=>none
  |[]=>none
 |_=>none
theorem Qs {P:Program} {id:Nat} {ops:Array Oper} {o:Oper} {Q:Exit->Act->List Frame->World->Prop} {a:Act} {cs vI:List Frame} {w:World} {v:Value} (ho:ops[0]?=some o) (hg:o.guard=none)
 (aBa:∀a w,(execOp (Act.eval a) o).run P w=.ok .recover w) (hv:(recoverD cs=some (v,vI))\/(recoverD cs=none/\v=.nilIface/\vI=cs))
 (h:wpOpsIn Fence.wide 0 P ops (fun e a' w'=>Q e a' vI w') (List.range' 1 (ops.size -1)) (a.put o.dst v) w):(Code.region id ops false).wpS P Q a cs w:=by
 intro b k hb xC;obtain⟨e,a',w',hq,zJ⟩:=wp_opsIn _ _ _ h b k vI xC trivial (room_wide _);rw[arrivesIn_iff (fun _ _=>stepsIn_wide) xC,Frame.atR_of_none xC] at zJ;have EG:0<ops.size:=(Bw.1 ho).1
 have aAz:List.range ops.size=0::List.range' 1 (ops.size -1):=by rw[Ix];obtain⟨n,hn⟩:∃n,ops.size=n+1:=⟨ops.size -1,by omega⟩;rw[hn,List.range'_succ];simp
 have hw:Region.wanted o (yielded ops a.tmps)=true:=by simp[Region.wanted,hg]
 have xU:=stepG_op (P:=P) (b:=b) (a:=a) (k:=k) (cs:=cs) (w:=w) (rest:=List.range' 1 (ops.size -1)) ho hw
 have gg:∀v,(b.at a (.inRegion ops (0::List.range' 1 (ops.size -1))::k)).finish v=b.at (a.put o.dst v) (.inRegion ops (List.range' 1 (ops.size -1))::k):=by intro v;rw[Frame.finish_at,ho];rfl
 have hk:(b.at a (.inRegion ops (0::List.range' 1 (ops.size -1))::k)).kind=.deferred:=hb;have htr:=tryRecover_deferred hk cs
 have h1:step P (lone (b.at a (.code (.region id ops false)::k)) cs w)=.next (lone (b.at a (.inRegion ops (0::List.range' 1 (ops.size -1))::k)) cs w):=by rw[<-aAz];exact step_region
 have h2:step P (lone (b.at a (.inRegion ops (0::List.range' 1 (ops.size -1))::k)) cs w)=.next (lone (b.at (a.put o.dst v) (.inRegion ops (List.range' 1 (ops.size -1))::k)) vI w):=by
  refine step_lone_go ?_;rw[xU,<-gg];have hr:=aBa a w
  rcases hv with hv|⟨hv,rfl,rfl⟩
  . simp only[Frame.at] at htr ⊢;simp[stepG.apply,hr,htr,hv]
  simp only[Frame.at] at htr ⊢;simp[stepG.apply,hr,htr,hv]
 exact⟨e,a',vI,w',hq,.of_steps (.head h1 (.one h2)) zJ⟩
def XG (P:Program) (g:aT) (mu:Bool) (f:FuncId) (n:Nat) (dst:Option Nat) (rl:List aN) (ac:bP):Prop:=
 ∃fn c,P.funcs[f]?=some fn/\fn.body=some c/\(fn.name== "runtime.NumGoroutine")=false/\RT P g mu c=some (dst,rl,ac)/\fn.ntmps=n/\fn.results.toList=[]
theorem LN {P:Program} {f:FuncId} {fn:Func} {c:Code} {args:Array Value} {u:FrameMode} {w:World} {R:Ending->FrameMode->World->Prop} (hf:P.funcs[f]?=some fn) (hb:fn.body=some c)
 (h:∀(top:Frame) (below:List Frame),top.mode=u->c.wpS P (bodyPostS P fn top below R) {tmps:=args++Array.replicate (fn.ntmps -args.size) undef,defers:=[]} (top::below) w):CallsDIn Fence.wide 0 P f args u w R:=by
 refine⟨trivial,fun top below hu _=>?_⟩;obtain⟨b,Tn⟩:∃b:Frame,b={(default:Frame) with fn:=f,kind:=.deferred}:=⟨_,rfl⟩
 have gU:b.at {tmps:=args++Array.replicate (fn.ntmps -args.size) undef,defers:=[]} [.code c]=Frame.enter P f args .deferred:=by rw[Tn];simp[Frame.enter,Frame.at,hf,hb]
 obtain⟨e,a1,fs,w1,hq,zJ⟩:=h top below hu b [] (by rw[Tn]) (by rw[Tn];rfl);rw[gU] at zJ;have hk:b.kind=.deferred:=by rw[Tn]
 have hn:b.fn=f:=by rw[Tn]
 cases e with
 |exit id=>exact hq.elim
 |goto l=>exact hq.elim
 |outgrown=>exact⟨.outgrown,hq.choose,w1,b,hq.choose_spec,zJ.resolve_left (by rw[hk];simp),hk,hn,trivial⟩
 |normal=>obtain⟨hd,u1,rfl,v,hr,hR⟩:=hq;exact⟨.returned v,u1,w1,_,hR,comesIn_wide.2 (Steps.trans zJ (.one step_end)),hk,hn,rfl,hd,fn,by rw[<-hn] at hf;exact hf,hr⟩
 |ret=>obtain⟨hd,u1,rfl,v,hr,hR⟩:=hq;exact⟨.returned v,u1,w1,_,hR,comesIn_wide.2 zJ.choose_spec,hk,hn,rfl,hd,fn,by rw[<-hn] at hf;exact hf,hr⟩
 |panic chain=>obtain⟨hd,u1,rfl,hR⟩:=hq;exact⟨.panicked chain,u1,w1,_,hR,comesIn_wide.2 zJ.choose_spec,hk,hn,rfl,hd,fn,by rw[<-hn] at hf;exact hf⟩
theorem NH {P:Program} {g:aT} {mu:Bool} (hm:Fit P g) {f:FuncId} {n:Nat} {dst:Option Nat} {rl:List aN} {ac:bP} (hF:XG P g mu f n dst rl ac)
 {args:List AV} {md:Option AV} {H H':aA}
 (h:pY P g rl (jF (args++List.replicate (n -args.length) aC) dst (md.getD .lZ)) [] H (Zk (fun s ds H=>AC P g ac s ds H fun e s ds H=>(match e with|.normal=>True|.ret=>True|_=>False)/\ds=[]/\H=H')
   fun _ _ _ _=>False)):uZ P g f args md H H':=by
 obtain⟨fn,c,h1,h2,h0,h3,h4,h5⟩:=hF;refine⟨⟨fn,h1,by rw[h2];rfl,h0⟩,fun G w vs u hw hv hmd=>?_⟩;refine LN h1 h2 fun c₀ cs hc₀=>?_;unfold RT at h3;split at h3
 . rename_i id ops rest;split at h3
   . rename_i o l hl;split at h3
     . rename_i cl Sv ac' eK hg Ty hac;split at h3
       . rename_i Pb BP;simp only[Ab,Ad] at h3;obtain⟨rfl,rfl,rfl⟩:=h3
         have ho:ops[0]?=some o:=(by rw[<-Iv,hl];rfl);have hlen:ops.size=l.length+1:=by rw[<-Cm,hl];rfl
         have aBa:∀a w,(execOp (Act.eval a) o).run P w=.ok .recover w:=fun a w=>by have aAm:cl.args= #[]:=(by apply Dv;simpa using BP);simp[execOp,eK,resolve,Pb,aAm,invoke,builtin]
         have key:∃(v:Value) (u':FrameMode),((recoverD (c₀::cs)=some (v,{c₀ with mode:=u'}::cs))\/(recoverD (c₀::cs)=none/\v=.nilIface/\u'=u))/\settle u'=.returning/\VR G w (md.getD .lZ) v:=by
          cases md with
          |none=>obtain rfl:u=.returning:=hmd;exact⟨.nilIface,.returning,.inr ⟨by simp[recoverD,hc₀],rfl,rfl⟩,rfl,.lZ⟩
          |some v=>obtain⟨x,rfl,hx⟩:=hmd;exact⟨x,.panicking [{v:=x,recovered:=true}],.inl (by simp[recoverD,hc₀]),rfl,hx⟩
         obtain⟨v,u',kA,hu',hvv⟩:=key
         have FW:(recoverD (c₀::cs)=some (v,{c₀ with mode:=u'}::cs))\/(recoverD (c₀::cs)=none/\v=.nilIface/\({c₀ with mode:=u'}::cs:List Frame)=c₀::cs):=by
          rcases kA with hh|⟨hh,rfl,rfl⟩
          . exact .inl hh
          refine .inr ⟨hh,rfl,?_⟩;subst hc₀;rfl
         have hs:SR G w (args++List.replicate (n -args.length) aC) {tmps:=vs.toArray++Array.replicate (fn.ntmps -vs.toArray.size) undef,defers:=[]}:=by have hlen:=hv.1;show fJ G w _ _;simp only[Jc,Iq,Fc,hlen,h4];refine hv.append ⟨by simp,fun j hj=>?_⟩;simp only[It] at hj;simp only[Ck,Ei,hj,if_true,Bb];exact VR.kN G w
         refine wpS_seq (Qs ho hg aBa FW ?_)
         have hA:=yL (ro:=none) l Sv 1 Ty (fun j hj=>by
          rw[<-Iv,hl,Gc,Df]
          exact Ac hj) (.inl rfl) _ [] G H w _ _ h hw (hs.put o.dst hvv) (by cases o.dst<;>trivial)
         rw[show ops.size -1=l.length by omega];refine DC (ro:=none) (fun e a1 w1 hq=>?_) _ _ _ hA;obtain⟨ae,s',eC,H1,G',q,jG,he,DG,oU,hx⟩:=hq
         cases ae with
         |normal=>
          cases e with
          |normal=>
           refine wpS_of_wp (wp_mono (wpIn_wide.1 (uT hm rest none ac' hac (.inl rfl) s' eC G' H1 w1 a1 _ q jG DG oU)) fun e a2 w2 hq2=>?_);obtain⟨ae2,s2,NS,H2,G2,q2,qI,OU,hs2,hd2,hx2⟩:=hq2;obtain⟨q3,rfl,rfl⟩:=q2
           have Jq:a2.defers=[]:=by
            cases Wr:a2.defers with
            |nil=>rfl
            |cons d r=>rw[Wr] at hd2;exact hd2.elim
           have oW:(results fn a2.tmps).run P w2=.ok (.tuple #[]) w2:=by have :fn.results= #[]:=(by apply Dv;simpa using h5);unfold results;simp[this]
           cases ae2 with
           |normal=>
            cases e with
            |normal=>exact⟨Jq,u',rfl,_,oW,⟨_,rfl⟩,hu',G2,qI,he.trans OU⟩
            |_=>exact hx2.elim
           |ret=>
            cases e with
            |ret=>exact⟨Jq,u',rfl,_,oW,⟨_,rfl⟩,hu',G2,qI,he.trans OU⟩
            |_=>exact hx2.elim
           |exit id=>exact q3.elim
           |panic v=>exact q3.elim
          |_=>exact hx.elim
         |exit id=>exact q.elim
         |ret=>exact q.elim
         |panic v=>exact q.elim
       cases h3
     cases h3
   cases h3
 cases h3
section
def Mf (T:VT) (H:aA):List AO->Option (List AV)
 |[]=>some []
 |x::r=>match (match x with
   |.tmp t=>some (T.get t)
   |.cell a agg n=>match cD (Qw g0 T) H (.load agg n (.tmp a)) with
    |some (v,_)=>some v
    |none=>none),Mf T H r with
  |some v,some vs=>some (v::vs)
  |_,_=>none
theorem QY {n:Nat} {T:VT} (hb:GM n T) (H:aA):∀l,Mf T H l=jU (EZ n T) H l
 |[]=>rfl
 |x::r=>by
  have ih:=QY hb H r
  cases x with
  |tmp t=>simp only[Mf,jU,WK,ih,Kr hb];cases jU (EZ n T) H r<;>rfl
  |cell a agg m=>
   simp only[Mf,jU,WK,ih,yY hb]
   cases cD (Arg.eval g0 (EZ n T)) H (.load agg m (.tmp a)) with
   |none=>rfl
   |some p=>cases jU (EZ n T) H r<;>rfl
def Ro (CJ:FuncId->Nat->Bool):List eX->aA->Option aA
 |[],H=>some H
 |.call f azs::ds,H=>match CJ f azs.length with
  |true=>Ro CJ ds H
  |false=>none
 |.mark id::ds,H=>match H.get id with
  |some .NQ=>Ro CJ ds (H.set id .nz)
  |_=>none
def aAh (cf:xX) (g:aT) (fuel:Nat) (CJ:FuncId->Nat->Bool) (F:wR) (args:List AV) (H:aA):Option (Out×aA):=
 match Nat.ble args.length F.ntmps with
 |true=>match LC cf g F.ntmps fuel F.body (uE F.ntmps args 0 .nil) [] H with
  |some (.normal,T,ds,H')|some (.ret,T,ds,H')=>match Ro CJ ds H' with
   |some H1=>match Mf T H1 F.results with
    |some vs=>some (.ret (iW vs),H1)
    |none=>none
   |none=>none
  |some (.panic v,_,[],H')=>some (.pA v,H')
  |_=>none
 |false=>none
theorem GM.nil (n:Nat):GM n .nil:=fun _ _=>rfl
theorem GJ (n:Nat):∀(vs:List AV) (i:Nat) (T:VT),GM n T->i+vs.length<=n->
 GM n (uE n vs i T)/\∀t,(uE n vs i T).get t=if i<=t/\t<i+vs.length then vs.getD (t -i) aC else T.get t
 |[],i,T,hb,h=>⟨hb,fun t=>by rw[if_neg (by simp only[Ar];omega)];rfl⟩
 |v::vs,i,T,hb,h=>by
  simp only[Ak] at h;have :=GJ n vs (i+1) (sV n T (some i) v) (hb.put _ _) (by omega);refine⟨this.1,fun t=>?_⟩;show(uE n vs (i+1) (sV n T (some i) v)).get t=_;rw[this.2 t];have To:Nat.blt i n=true:=by simpa [Eb] using(by omega:i<n)
  have zQ:(sV n T (some i) v).get t=if t=i then v else T.get t:=by simp only[sV,To];exact VT.aI T i v t
  rw[zQ];simp only[Ak];by_cases h1:i+1<=t/\t<i+1+vs.length
  . rw[if_pos h1,if_pos (by omega)];obtain⟨m,hm⟩:∃m,t -i=m+1:=⟨t -i -1,by omega⟩;rw[hm,Es,show t -(i+1)=m by omega]
  rw[if_neg h1];by_cases h2:t=i
  . subst h2;rw[if_pos rfl,if_pos (by omega)];simp
  rw[if_neg h2,if_neg (by omega)]
theorem Ko {n:Nat} {args:List AV} (h:args.length<=n):GM n (uE n args 0 .nil)/\EZ n (uE n args 0 .nil)=args++List.replicate (n -args.length) aC:=by
 have :=GJ n args 0 .nil (GM.nil n) (by omega);refine⟨this.1,Ej fun t=>?_⟩;unfold EZ;rw[Cj];by_cases ht:t<n
 . rw[Hq ht,Bi,this.2 t];by_cases h1:t<args.length
   . rw[if_pos (by omega),Dy h1];simp[Ac h1,getD_eq]
   rw[if_neg (by omega),Fz (by omega),Ei,if_pos (by omega)];rfl
 rw[Bp (by simp;omega),Bp (by simp;omega)];rfl
section
variable {P:Program} {g:aT} {fuel:Nat} {cf:xX}
def Lk (P:Program) (g:aT) (CJ:FuncId->Nat->Bool):Prop:=∀f k,CJ f k=true->∀(args:List AV) (H:aA),args.length=k->uZ P g f args none H H
theorem Mt {CJ:FuncId->Nat->Bool} (hn:Lk P g CJ) {Q:aA->Prop}:∀(ds:List eX) (H H1:aA),Ro CJ ds H=some H1->Q H1->RF P g ds H Q
 |[],H,H1,he,h=>by cases he;exact h
 |.mark id::ds,H,H1,he,h=>by
  simp only[Ro] at he;split at he
  . rename_i hg;exact⟨hg,Mt hn ds _ _ he h⟩
  cases he
 |.call f azs::ds,H,H1,he,h=>by
  simp only[Ro] at he;split at he
  . rename_i hd;exact⟨H,hn f _ hd azs H rfl,Mt hn ds H _ he h⟩
  cases he
theorem Rq (hm:Fit P g) (FV:yN P g cf) {CJ:FuncId->Nat->Bool} (hn:Lk P g CJ) {mu:Bool} {f:FuncId} {F:wR} (hF:iM P g mu f F) {args:List AV} {H H':aA} {out:Out}
 (h:aAh cf g fuel CJ F args H=some (out,H')):Sound P g f args H out H':=by
 unfold aAh at h;split at h
 . rename_i hle;have gz:args.length<=F.ntmps:=Ae hle;obtain⟨hb,hs⟩:=Ko gz
   have fin:∀(ae:Uf) (T:VT) (ds:List eX) (H1:aA),(ae=.normal\/ae=.ret)->LC cf g F.ntmps fuel F.body (uE F.ntmps args 0 .nil) [] H=some (ae,T,ds,H1)->
    (match Ro CJ ds H1 with
      |some H2=>match Mf T H2 F.results with
       |some vs=>some (Out.ret (iW vs),H2)
       |none=>none
      |none=>none)=some (out,H')->Sound P g f args H out H':=by
    intro ae T ds H1 hae he h;obtain⟨hbT,hq⟩:=wV FV F.body _ _ _ _ _ _ _ hb he;split at h
    . rename_i H2 nQ;split at h
      . rename_i vs gV;simp only[Ab,Ad] at h;obtain⟨rfl,rfl⟩:=h;refine mL hm hF ?_;unfold nC;rw[<-hs];refine hq _ ?_
        have :RF P g ds H1 fun H1'=>∃mq,jU (EZ F.ntmps T) H1' F.results=some mq/\(Out.ret (iW mq)=Out.ret (iW vs)/\H1'=H2):=by refine Mt hn ds H1 H2 nQ ⟨vs,?_,rfl,rfl⟩;rw[<-QY hbT];exact gV
        rcases hae with rfl|rfl<;>exact this
      cases h
    cases h
   split at h
   . rename_i T ds H1 he;exact fin .normal T ds H1 (.inl rfl) he h
   . rename_i T ds H1 he;exact fin .ret T ds H1 (.inr rfl) he h
   . rename_i v T H1 he;simp only[Ab,Ad] at h;obtain⟨rfl,rfl⟩:=h;obtain⟨hbT,hq⟩:=wV FV F.body _ _ _ _ _ _ _ hb he;refine mL hm hF ?_;unfold nC;rw[<-hs];exact hq _ ⟨rfl,rfl⟩
   cases h
 cases h
inductive FT where
 |leaf (k:Nat) (F:wR)
 |node (m:Nat) (l r:FT)
def FT.get:FT->FuncId->Option wR
 |.leaf k F,f=>match Nat.beq f k with
  |true=>some F
  |false=>none
 |.node m l r,f=>match Nat.blt f m with
  |true=>l.get f
  |false=>r.get f
def FT.Wn (p:FuncId->wR->Prop):FT->Prop
 |.leaf k F=>p k F
 |.node _ l r=>l.Wn p/\r.Wn p
theorem FT.Wn.get {p:FuncId->wR->Prop}:∀{t:FT},t.Wn p->∀{f:FuncId} {F:wR},t.get f=some F->p f F
 |.leaf k F',h,f,F,hg=>by
  simp only[FT.get] at hg;split at hg
  . rename_i hb;obtain rfl:=Aa hg;rw[Au hb];exact h
  cases hg
 |.node m l r,h,f,F,hg=>by
  simp only[FT.get] at hg;split at hg
  . exact FT.Wn.get h.1 hg
  exact FT.Wn.get h.2 hg
def exY (cf:xX) (g:aT) (fuel:Nat) (id:Nat) (args:List AV) (H:aA):Option (Out×aA):=
 match H.get id with
 |some (.loop k s .ready)=>match Nat.beq args.length k.ps.length with
  |true=>match LC cf g s.length fuel k.LB (CP s.length (uE s.length s 0 .nil) (k.ps.zip args)) [] H with
   |some (.normal,T1,[],H1)=>match H1.get id with
    |some (.loop k1 s1 .ready)=>match LC cf g s.length fuel k.body T1 [] (H1.set id (.loop k1 s1 .busy)) with
     |some (e,_,[],H2)=>match H2.get id with
      |some (.loop k2 s2 .busy)=>match e with
       |.normal=>some (.ret (.bool true),H2.set id (.loop k2 s2 .ready))
       |.ret=>some (.ret (.bool false),H2.set id (.loop k2 s2 (.done .ret)))
       |.exit i=>some (.ret (.bool false),H2.set id (.loop k2 s2 (.done (.exit i))))
       |.panic _=>none
      |_=>none
     |_=>none
    |_=>none
   |_=>none
  |false=>none
 |_=>none
theorem GF {n:Nat}:∀(l:List (Nat×AV)) (T:VT),GM n T->GM n (CP n T l)/\EZ n (CP n T l)=nU (EZ n T) l
 |[],T,h=>⟨h,rfl⟩
 |(t,v)::r,T,h=>by have ih:=GF r (sV n T (some t) v) (h.put _ _);refine⟨ih.1,?_⟩;rw[CP,ih.2,oF];rfl
theorem VX (hm:Fit P g) (FV:yN P g cf) {id:Nat} {args:List AV} {H H':aA} {out:Out} (h:exY cf g fuel id args H=some (out,H')):yQ P g id args H out H':=by
 unfold exY at h;split at h
 . rename_i k s hg;split at h
   . rename_i hlen;obtain⟨ou,hs0⟩:=Ko (Ai s.length);rw[Nat.sub_self,List.replicate_zero,Cf] at hs0;obtain⟨Ji,im⟩:=GF (k.ps.zip args) _ ou;rw[hs0] at im;refine Lm hm hg (Au hlen) ?_;unfold Mu;split at h
     . rename_i T1 H1 ha;obtain⟨SC,aw⟩:=wV FV k.LB _ _ _ _ _ _ _ Ji ha;rw[<-im];refine aw _ ?_;split at h
       . rename_i k1 s1 rO;split at h
         . rename_i e T2 H2 Tn;obtain⟨hb3,hq2⟩:=wV FV k.body _ _ _ _ _ _ _ SC Tn;refine⟨rfl,k1,s1,rO,hq2 _ ?_⟩;split at h
           . rename_i k2 s2 hg2;split at h
             . simp only[Ab,Ad] at h;obtain⟨rfl,rfl⟩:=h;exact⟨rfl,rfl,k2,s2,hg2,rfl⟩
             . simp only[Ab,Ad] at h;obtain⟨rfl,rfl⟩:=h;exact⟨rfl,rfl,k2,s2,hg2,rfl⟩
             . simp only[Ab,Ad] at h;obtain⟨rfl,rfl⟩:=h;exact⟨rfl,rfl,k2,s2,hg2,rfl⟩
             cases h
           cases h
         cases h
       cases h
     cases h
   cases h
 cases h
abbrev GO:=FuncId->List AV->aA->Option (Out×aA)
def FF (P:Program) (g:aT) (RD:GO):Prop:=∀f args H out H',RD f args H=some (out,H')->Sound P g f args H out H'
def exF (RD:GO) (tab:FuncId->Option wR) (g:aT) (fuel:Nat) (CJ:FuncId->Nat->Bool):Nat->xX
 |0=>fun _ _ _=>none
 |d+1=>fun c args H=>match c with
  |.yield id=>exY (exF RD tab g fuel CJ d) g fuel id args H
  |.func (.func f) fs cs=>match RD f (fs++args++cs) H with
   |some r=>some r
   |none=>match tab f with
    |some F=>aAh (exF RD tab g fuel CJ d) g fuel CJ F (fs++args++cs) H
    |none=>none
  |_=>none
theorem DX (hm:Fit P g) {RD:GO} (ho:FF P g RD) {tab:FuncId->Option wR} {CJ:FuncId->Nat->Bool} (hn:Lk P g CJ) (ht:∀f F,tab f=some F->∃mu,iM P g mu f F):∀d,yN P g (exF RD tab g fuel CJ d)
 |0=>fun f args H out H' h=>by cases h
 |d+1=>fun c args H out H' h=>by
  simp only[exF] at h;split at h
  . rename_i id;exact .inr ⟨id,rfl,VX hm (DX hm ho hn ht d) h⟩
  . rename_i f fs cs;refine .inl ⟨(f,fs,cs),rfl,?_⟩;split at h
    . rename_i r hr;cases h;exact ho _ _ _ _ _ hr
    split at h
    . rename_i F hF;obtain⟨mu,hmu⟩:=ht f F hF;exact Rq hm (DX hm ho hn ht d) hn hmu h
    cases h
  cases h
end
end
section
mutual
def AV.free:AV->Bool
 |.pl cs=>bN cs
 |.bH tag _ els=>Nat.blt tag 2&&dS els
 |.func _ a b=>bN a&&bN b
 |.iface _ v=>v.free
 |.agg cs=>bN cs
 |.eZ vs=>bN vs
 |.ref _ _|.sl _ _ _ _ _|.map _|.yield _=>false
 |_=>true
def bN:List AV->Bool
 |[]=>true
 |x::r=>x.free&&bN r
def dS:List (List AV)->Bool
 |[]=>true
 |x::r=>bN x&&dS r
end
theorem MG:∀{l:List AV},bN l=true->∀x∈l,x.free=true
 |[],_,x,hx=>by cases hx
 |y::l,h,x,hx=>by
  simp only[bN,Aj] at h
  rcases Ah.1 hx with rfl|hx
  . exact h.1
  exact MG h.2 x hx
theorem pN {a b:List AV}:bN (a++b)=(bN a&&bN b):=by
 induction a with
 |nil=>simp[bN]
 |cons x r ih=>simp[bN,ih,Bool.and_assoc]
theorem jR:∀{l:List (List AV)},dS l=true->bN l.flatten=true
 |[],_=>rfl
 |y::l,h=>by simp only[dS,Aj] at h;rw[Bo,pN,h.1,jR h.2];rfl
theorem iI {l:List AV} (h:bN l=true) {j:Nat} (hj:j<l.length):(l.getD j aC).free=true:=by refine MG h _ ?_;rw[getD_eq,Ac hj];exact Ap hj
theorem VR.nO {G G':Gh} {w w':World} {a:AV} {u:Value} (h:VR G w a u) (hf:a.free=true)
 (hi:∀b o,G.fB b o->G'.fB b o/\w'.cell? ⟨b,o,none⟩=w.cell? ⟨b,o,none⟩):VR G' w' a u:=by
 induction h with
 |bool b=>exact .bool b
 |int k n=>exact .int k n
 |str s=>exact .str s
 |zX=>exact .zX
 |ref id off l h=>cases hf
 |pl cells b o us h hv ih=>simp only[AV.free] at hf;exact .pl cells b o us (fun j hj=>⟨(hi _ _ (h j hj).1).1,by rw[(hi _ _ (h j hj).1).2];exact(h j hj).2.1,(h j hj).2.2⟩) (fun j hj=>ih j hj (iI hf hj))
 |aF=>exact .aF
 |rE tag sz b o s ht=>exact .rE tag sz b o s ht
 |bH tag sz els b o cap us hu h hv ht ih=>
  simp only[AV.free,Aj] at hf;have pI:=jR hf.2;refine .bH tag sz els b o cap us hu (fun j hj=>⟨(hi _ _ (h j hj).1).1,by rw[(hi _ _ (h j hj).1).2];exact(h j hj).2.1,(h j hj).2.2⟩) (fun j hj=>ih j hj (iI pI hj)) ?_;refine⟨ht.1,?_⟩;have h2:=ht.2;have oX:tag<2:=by have :=hf.1;simpa [Eb] using this
  match tag,h2,oX with
  |0,_,_=>trivial
  |1,h2,_=>exact h2
  |k+2,_,hh=>omega
 |sl id sz off len cap gQ l h hlen gU nE=>cases hf
 |func fn fs cs azs bs ha hb hav OS oY qS=>simp only[AV.free,Aj] at hf;exact .func fn fs cs azs bs ha hb (fun j hj=>oY j hj (iI hf.1 hj)) (fun j hj=>qS j hj (iI hf.2 hj))
 |vZ=>exact .vZ
 |iface t a v h ih=>exact .iface t a v (ih hf)
 |lZ=>exact .lZ
 |agg cs vs lY h1 hv ih=>simp only[AV.free] at hf;exact .agg cs vs lY h1 (fun j hj=>ih j hj (iI hf hj))
 |eZ cs vs lY hv ih=>simp only[AV.free] at hf;exact .eZ cs vs lY (fun j hj=>ih j hj (iI hf hj))
 |map id l h=>cases hf
 |yield id l h=>cases hf
 |oZ=>exact .oZ
theorem fJ.nO {G G':Gh} {w w':World} {xs:List AV} {vs:List Value} (h:fJ G w xs vs) (hf:bN xs=true)
 (hi:∀b o,G.fB b o->G'.fB b o/\w'.cell? ⟨b,o,none⟩=w.cell? ⟨b,o,none⟩):fJ G' w' xs vs:=
 ⟨h.1,fun j hj=>(h.2 j hj).nO (iI hf hj) hi⟩
def OI (tk:Option Nat) (nw tag:Nat):Nat:=
 match tag with
 |0=>0
 |1=>1
 |k+2=>match tk with
  |some k'=>match Nat.beq k k' with
   |true=>nw+2
   |false=>0
  |none=>0
def hY (H:aA) (tk:Option Nat) (nw:Nat):AV->Option AV
 |.bH tag sz els=>match dS els with
  |true=>some (.bH (OI tk nw tag) sz els)
  |false=>none
 |.sl id sz off len cap=>match H.eB id with
  |some cs=>match Nat.ble (off+len*sz) cs.length&&bN (cs.drop off) with
   |true=>some (.bH 0 sz (eQ sz len (cs.drop off)))
   |false=>none
  |none=>none
 |.ref id off=>match H.eB id with
  |some cs=>match bN (cs.drop off) with
   |true=>some (.pl (cs.drop off))
   |false=>none
  |none=>none
 |v=>match v.free with
  |true=>some v
  |false=>none
def uQ (f:AV->Option AV):List AV->Option (List AV)
 |[]=>some []
 |x::r=>match f x,uQ f r with
  |some y,some ys=>some (y::ys)
  |_,_=>none
def fG (H:aA) (tk:Option Nat) (nw:Nat):Nat->AV->Option AV
 |0,v=>hY H tk nw v
 |n+1,.agg cs=>(uQ (fG H tk nw n) cs).map .agg
 |n+1,.eZ vs=>(uQ (fG H tk nw n) vs).map .eZ
 |_,v=>hY H tk nw v
theorem EL {f:AV->Option AV}:∀{l r:List AV},uQ f l=some r->r.length=l.length/\∀j,j<l.length->f (l.getD j aC)=some (r.getD j aC)
 |[],r,h=>by obtain rfl:=Aa h;exact⟨rfl,fun j hj=>absurd hj (Bh j)⟩
 |x::l,r,h=>by
  simp only[uQ] at h;split at h
  . rename_i y ys hy HR;obtain rfl:=Aa h;obtain⟨h1,h2⟩:=EL HR;refine⟨by simp[h1],fun j hj=>?_⟩
    cases j with
    |zero=>simpa using hy
    |succ j=>simpa using h2 j (by simpa using hj)
  cases h
def mN (tk:Option Nat) (H:aA):aA:=match tk with
 |none=>H
 |some _=>H.alloc .tok
def uW (g:aT):Prop:=∀n cs,g n=some cs->bN cs=true
def Out.av:Out->AV
 |.ret v=>v
 |.pA v=>v
def Out.with:Out->AV->Out
 |.ret _,v=>.ret v
 |.pA _,v=>.pA v
section
variable {P:Program} {g:aT}
def zA (G G2:Gh) (H:aA) (H2:aA) (tk:Option Nat):Gh where
 loc:=fun id=>if id=H.next then tk.bind G2.loc else G.loc id
 fB:=fun b o=>G2.fB b o\/∃id l cs dH,G2.loc id=some l/\H2.get id=some (.cells cs dH)/\l.cC=b/\l.base<=o/\o<l.base+l.OZ
 mo:=G.mo
theorem Kj {G G2:Gh} {H H2:aA} {w2:World} {tk:Option Nat} (hn:∀k,tk=some k->H2.get k=some .tok) (qI:WR g G2 H2 w2) {v v':AV} {u:Value} (h:VR G2 w2 v u) (hs:hY H2 tk H.next v=some v'):
 VR (zA G G2 H H2 tk) w2 v' u:=by
 have hi:∀b o,G2.fB b o->(zA G G2 H H2 tk).fB b o/\w2.cell? ⟨b,o,none⟩=w2.cell? ⟨b,o,none⟩:=fun b o hh=>⟨.inl hh,rfl⟩
 have frozen:∀{id:Nat} {l:Loc} {cs:List AV} {off:Nat},G2.loc id=some l->H2.eB id=some cs->bN (cs.drop off)=true->∀j,j<(cs.drop off).length->
  ∃x,(zA G G2 H H2 tk).fB l.cC (l.base+off+j)/\w2.cell? ⟨l.cC,l.base+off+j,none⟩=some x/\((cs.drop off).getD j aC).one=true/\VR (zA G G2 H H2 tk) w2 ((cs.drop off).getD j aC) x:=by
  intro id l cs off hl hc hf j hj;obtain⟨dH,hg⟩:=aA.mO hc;obtain⟨a1,a2,a3,a4,a5⟩:=qI.cells id l cs dH hl hg;simp only[Cv] at hj;obtain⟨x,hx,a8⟩:=a5 (off+j) (by omega);have Nc:(cs.drop off).getD j aC=cs.getD (off+j) aC:=by rw[getD_eq,getD_eq,Ed]
  refine⟨x,.inr ⟨id,l,cs,dH,hl,hg,rfl,by omega,by omega⟩,by rw[Bd];exact hx,?_,?_⟩
  . rw[Nc];refine a4 _ ?_;rw[getD_eq,Ac (by omega)];exact Ap _
  have al:=iI hf (j:=j) (by simpa using hj);rw[Nc] at al ⊢;exact a8.nO al hi
 unfold hY at hs;split at hs
 . rename_i tag sz els;split at hs
   . rename_i hf;obtain rfl:=Aa hs;have pI:=jR hf
     cases h with
     |rE _ _ b o s ht=>
      refine .rE _ _ _ _ _ ?_
      match tag,ht with
      |0,_=>exact Nat.zero_lt_two
      |1,_=>exact Nat.one_lt_two
     |bH _ _ _ b o cap us hu hh hv ht=>
      refine .bH _ sz els b o cap us hu (fun j hj=>⟨(hi _ _ (hh j hj).1).1,(hh j hj).2⟩) (fun j hj=>(hv j hj).nO (iI pI hj) hi) ⟨ht.1,?_⟩;have h2:=ht.2
      match tag,h2 with
      |0,_=>trivial
      |1,h2=>exact h2
      |k+2,⟨l,h1,h2⟩=>
       cases tk with
       |none=>trivial
       |some k'=>
        simp only[OI]
        cases hk:Nat.beq k k' with
        |false=>trivial
        |true=>obtain rfl:=Au hk;exact⟨l,by simp only[zA,if_true,Option.bind_some];exact h1,h2⟩
   cases hs
 . rename_i id sz off len cap;split at hs
   . rename_i cs hc;split at hs
     . rename_i gG;obtain rfl:=Aa hs;simp only[Aj] at gG;have hle:off+len*sz<=cs.length:=Ae gG.1
       cases h with
       |sl _ _ _ _ _ gQ l hl hlen gU nE=>
        obtain⟨f1,f2,f3⟩:=jM sz len (cs.drop off) (by simp;omega);have Ts:=frozen hl hc gG.2;have hmul:len*sz<=cap*sz:=Cd sz hlen
        have HQ:∀j,j<(eQ sz len (cs.drop off)).flatten.length->j<(cs.drop off).length/\(eQ sz len (cs.drop off)).flatten.getD j aC=(cs.drop off).getD j aC:=fun j hj=>by rw[f1] at hj ⊢;simp only[Cb,Cv] at hj;refine⟨by simp;omega,?_⟩;rw[getD_take _ _ _ _ (by omega)]
        have key:=VR.bH (G:=zA G G2 H H2 tk) (w:=w2) 0 sz (eQ sz len (cs.drop off)) l.cC (l.base+off) gQ (fun j=>(w2.cell? ⟨l.cC,l.base+off+j,none⟩).getD undef) f3
         (fun j hj=>by
           obtain⟨h1,h2⟩:=HQ j hj;obtain⟨x,q1,q2,q3,q4⟩:=Ts j h1
           exact⟨q1,by rw[q2];rfl,by rw[h2];exact q3⟩)
         (fun j hj=>by
           obtain⟨h1,h2⟩:=HQ j hj;obtain⟨x,q1,q2,q3,q4⟩:=Ts j h1
           rw[h2,q2];exact q4)
         ⟨by rw[f2];rcases nE with rfl|⟨_,Jj,_⟩<;>omega,trivial⟩
        rw[f2] at key;exact key
     cases hs
   cases hs
 . rename_i id off;split at hs
   . rename_i cs hc;split at hs
     . rename_i hf;obtain rfl:=Aa hs
       cases h with
       |ref _ _ l hl=>
        have Ts:=frozen hl hc hf
        exact .pl (cs.drop off) l.cC (l.base+off) (fun j=>(w2.cell? ⟨l.cC,l.base+off+j,none⟩).getD undef)
         (fun j hj=>by
           obtain⟨x,q1,q2,q3,q4⟩:=Ts j hj
           exact⟨q1,by rw[q2];rfl,q3⟩)
         (fun j hj=>by
           obtain⟨x,q1,q2,q3,q4⟩:=Ts j hj
           rw[q2];exact q4)
     cases hs
   cases hs
 split at hs
 . rename_i hf;obtain rfl:=Aa hs;exact h.nO hf hi
 cases hs
theorem ZW {G G2:Gh} {H H2:aA} {w2:World} {tk:Option Nat} {nw n:Nat} {v v':AV} (hs:fG H2 tk nw n v=some v') (h:v.one=true):v'.one=true:=by
 have h1:hY H2 tk nw v=some v'->v'.one=true:=fun hs=>by
  unfold hY at hs
  repeat' (split at hs)
  all_goals first
   |(cases hs;done)
   |(obtain rfl:=Aa hs;first|rfl|exact h)
 cases n with
 |zero=>exact h1 hs
 |succ n=>
  unfold fG at hs;split at hs
  . exact h1 hs
  . cases h
  . cases h
  exact h1 hs
theorem CV {G G2:Gh} {H H2:aA} {w2:World} {tk:Option Nat} (hn:∀k,tk=some k->H2.get k=some .tok) (qI:WR g G2 H2 w2):∀(n:Nat) {v v':AV} {u:Value},VR G2 w2 v u->fG H2 tk H.next n v=some v'->
 VR (zA G G2 H H2 tk) w2 v' u
 |0,v,v',u,h,hs=>Kj hn qI h hs
 |n+1,v,v',u,h,hs=>by
  unfold fG at hs;split at hs
  . exact Kj hn qI h hs
  . rename_i m cs hm;obtain rfl:m=n:=by omega
    simp only[Af] at hs;obtain⟨r,hr,rfl⟩:=hs;obtain⟨r1,r2⟩:=EL hr
    cases h with
    |agg _ vs hl h1 hv=>refine .agg r vs (by omega) (fun c hc=>?_) (fun j hj=>CV hn qI m (hv j (by omega)) (r2 j (by omega)));obtain⟨j,hj,rfl⟩:=Fy.1 hc;have :=r2 j (by omega);rw[getD_eq,getD_eq,Ac hj,Ac (by omega)] at this;exact ZW (G:=G) (G2:=G2) (H:=H) (w2:=w2) this (h1 _ (Ap _))
  . rename_i m vs0 hm;obtain rfl:m=n:=by omega
    simp only[Af] at hs;obtain⟨r,hr,rfl⟩:=hs;obtain⟨r1,r2⟩:=EL hr
    cases h with
    |eZ _ vs hl hv=>exact .eZ r vs (by omega) (fun j hj=>CV hn qI m (hv j (by omega)) (r2 j (by omega)))
  exact Kj hn qI h hs
theorem DP.frame (hg:uW g) {f:FuncId} {args:List AV} (hf:bN args=true) {R:Out->aA->Prop} (h:DP P g f args ⟨0,.nil⟩ R) (H:aA) {aJe:Out} {H':aA}
 (hR:∀out H2,R out H2->∃tk n v',(∀k,tk=some k->H2.get k=some .tok)/\fG H2 tk H.next n out.av=some v'/\out.with v'=aJe/\mN tk H=H'):Sound P g f args H aJe H':=by
 refine⟨h.1,fun G w vs hw hv=>?_⟩;let G0:Gh:=⟨fun _=>none,G.fB,G.mo⟩;have hG0:∀b o,G.fB b o->G0.fB b o/\w.cell? ⟨b,o,none⟩=w.cell? ⟨b,o,none⟩:=fun b o hh=>⟨hh,rfl⟩
 have hw0:WR g G0 ⟨0,.nil⟩ w:={
  cells:=fun id l cs dH h1=>by cases h1
  room:=fun id l h1=>by cases h1
  iN:=fun id iO l l' _ h1=>by cases h1
  gW:=fun id l h1=>by cases h1
  fQ:=fun id l es h1=>by cases h1
  lt:=fun id l h1=>by cases h1
  fU:=hw.fU
  fY:=fun k cs hk=>(hw.fY k cs hk).nO (hg k cs hk) hG0
  xA:=hw.xA
  mo:=hw.mo}
 refine(h.2 G0 w vs hw0 (hv.nO hf hG0)).mono fun e w2 he=>?_;obtain⟨out,H2,G2,hr,qI,tO,oV⟩:=he;obtain⟨tk,n,v',zS,hs,rfl,rfl⟩:=hR _ _ hr
 have EF:∀id l,G2.loc id=some l->H2.live id->w.heap.size<=l.cC:=fun id l h1 h2=>by
  rcases tO.jK id l h1 h2 with hh|⟨dN,l0,hh,_⟩
  . exact hh
  cases hh
 have YL:∀b,b<w.heap.size->w2.heap[b]?=w.heap[b]?:=fun b hb=>tO.frame b hb fun id l hh=>by cases hh
 have ph:∀b o,(zA G G2 H H2 tk).fB b o->G.fB b o\/w.heap.size<=b:=fun b o hi=>by
  rcases hi with hi|⟨id,l,cs,dH,h1,h2,rfl,_⟩
  . rcases tO.mU b o hi with hh|hh|⟨dN,l0,hh,_⟩
    . exact .inl hh
    . exact .inr hh
    cases hh
  exact .inr (EF id l h1 ⟨_,h2,rfl⟩)
 have pP:∀id l,G.loc id=some l->(zA G G2 H H2 tk).loc id=some l:=fun id l hl=>by have :=hw.lt id l hl;simp only[zA];rw[if_neg (by omega)];exact hl
 have mS:∀b o,G.fB b o->(zA G G2 H H2 tk).fB b o/\w2.cell? ⟨b,o,none⟩=w.cell? ⟨b,o,none⟩:=fun b o hi=>⟨.inl (tO.fB b o hi).1,(tO.fB b o hi).2⟩;have aDx:H.next<=(mN tk H).next:=by cases tk<;>simp[mN]
 have cJ:∀id,id≠H.next->(mN tk H).get id=H.get id:=fun id cF=>by
  cases tk with
  |none=>rfl
  |some k=>simp only[mN,aA.aG,if_neg cF]
 have lX:∀id l,(zA G G2 H H2 tk).loc id=some l->(id≠H.next/\G.loc id=some l)\/(id=H.next/\∃k,tk=some k/\G2.loc k=some l/\(mN tk H).get id=some .tok):=fun id l hl=>by
  simp only[zA] at hl;by_cases bZ:id=H.next
  . rw[if_pos bZ] at hl
    cases tk with
    |none=>cases hl
    |some k=>exact .inr ⟨bZ,k,rfl,hl,by simp only[mN,aA.aG,if_pos bZ]⟩
  rw[if_neg bZ] at hl;exact .inl ⟨bZ,hl⟩
 have nF:∀id,id≠H.next->(mN tk H).live id->H.live id:=fun id cF ⟨o,h1,h2⟩=>⟨o,by rw[<-cJ id cF];exact h1,h2⟩;have Ni:∀k l,tk=some k->G2.loc k=some l->w.heap.size<=l.cC:=fun k l h1 h2=>EF k l h2 ⟨_,zS k h1,rfl⟩
 have aBb:WR g (zA G G2 H H2 tk) (mN tk H) w2:={
  cells:=fun id l cs dH h1 h2=>by
   rcases lX id l h1 with ⟨cF,hl⟩|⟨_,k,_,_,ht⟩
   . rw[cJ id cF] at h2;obtain⟨a1,a2,a3,a4,a5⟩:=hw.cells id l cs dH hl h2;have hb:=hw.kI hl ⟨_,h2,rfl⟩;refine⟨a1,a2,a3,a4,fun j hj=>?_⟩;obtain⟨x,hx,a8⟩:=a5 j hj;exact⟨x,by rw[eV (YL _ hb)];exact hx,a8.mono pP mS⟩
   rw[ht] at h2;cases h2
  room:=fun id l h1 h2=>by
   rcases lX id l h1 with ⟨cF,hl⟩|⟨_,k,hk,pt,ht⟩
   . rw[cJ id cF] at h2
     have hb:l.cC<w.heap.size:=hw.kI hl (by
      rcases h2 with ⟨cs,dH,hh⟩|hh
      . exact⟨_,hh,rfl⟩
      exact⟨_,hh,rfl⟩)
     obtain⟨c,el,fz,b1,b2,b3⟩:=hw.room id l hl h2;exact⟨c,el,fz,by rw[YL _ hb];exact b1,b2,fun j hj=>by rw[iR (YL _ hb)];exact b3 j hj⟩
   exact qI.room k l pt (.inr (zS k hk))
  iN:=fun id iO l l' cF h1 h2 qN DH=>by
   rcases lX id l h1 with ⟨qH,uP⟩|⟨qH,k,hk,gw,_⟩<;>rcases lX iO l' h2 with ⟨SE,pt⟩|⟨SE,k',SD,kP,_⟩
   . exact hw.iN id iO l l' cF uP pt (nF id qH qN) (nF iO SE DH)
   . have :=hw.kI uP (nF id qH qN);have :=Ni k' l' SD kP;exact .inl (by omega)
   . have :=hw.kI pt (nF iO SE DH);have :=Ni k l hk gw;exact .inl (by omega)
   exact absurd (qH.trans SE.symm) cF
  gW:=fun id l h1 qN j hj hi=>by
   rcases lX id l h1 with ⟨qH,uP⟩|⟨qH,k,hk,gw,_⟩
   . have hb:=hw.kI uP (nF id qH qN)
     rcases ph _ _ hi with hh|hh
     . exact hw.gW id l uP (nF id qH qN) j hj hh
     omega
   rcases hi with hi|⟨id2,l2,cs,dH,q1,q2,q3,q4,q5⟩
   . exact qI.gW k l gw ⟨_,zS k hk,rfl⟩ j hj hi
   have cF:id2≠k:=fun hh=>by rw[hh,zS k hk] at q2;cases q2
   have hs:=(qI.cells id2 l2 cs dH q1 q2).2.1
   rcases qI.iN id2 k l2 l cF q1 gw ⟨_,q2,rfl⟩ ⟨_,zS k hk,rfl⟩ with hd|hd|hd
   . exact hd q3
   . omega
   omega
  fQ:=fun id l o h1 h2 hk=>by
   rcases lX id l h1 with ⟨cF,hl⟩|⟨_,k,_,_,ht⟩
   . rw[cJ id cF] at h2;have hb:=hw.kI hl ⟨_,h2,KD hk⟩;obtain⟨a1,a2,a3⟩:=hw.fQ id l o hl h2 hk;exact⟨a1,a2,a3.mono (YL _ hb) fun _ _ h=>h.mono pP mS⟩
   rw[ht] at h2;cases h2;cases hk
  lt:=fun id l h1=>by
   rcases lX id l h1 with ⟨cF,hl⟩|⟨hn,k,hk,_,_⟩
   . have :=hw.lt id l hl;omega
   subst hk;simp[mN,hn]
  fU:=fun b o hi=>by
   rcases hi with hi|⟨id,l,cs,dH,q1,q2,rfl,q4,q5⟩
   . exact qI.fU b o hi
   obtain⟨a1,_,_,_,a5⟩:=qI.cells id l cs dH q1 q2;obtain⟨x,hx,_⟩:=a5 (o -l.base) (by omega);exact⟨x,by rw[show o=l.base+(o -l.base) by omega];exact hx⟩
  fY:=fun k cs hk=>(hw.fY k cs hk).mono pP mS
  xA:=qI.xA
  mo:=hw.mo}
 have aDq:Ext G H w (zA G G2 H H2 tk) (mN tk H) w2:={
  loc:=pP
  fB:=mS
  size:=tO.size
  frame:=fun b hb _=>YL b hb
  jK:=fun id l h1 qN=>by
   rcases lX id l h1 with ⟨cF,hl⟩|⟨_,k,hk,gw,_⟩
   . exact .inr ⟨id,l,hl,nF id cF qN,rfl⟩
   exact .inl (Ni k l hk gw)
  mU:=fun b o hi=>by
   rcases ph b o hi with hh|hh
   . exact .inl hh
   exact .inr (.inl hh)
  next:=aDx
  news:=fun id l h1 h2=>by
   rcases lX id l h1 with ⟨cF,hl⟩|⟨hn,_⟩
   . rw[h2] at hl;cases hl
   omega
  dead:=fun id l h1 qN=>nF id (by have :=hw.lt id l h1;omega) qN
  mo:=rfl
  same:=tO.same}
 refine⟨_,aBb,aDq,?_⟩
 cases out with
 |ret v=>
  cases e with
  |returned u=>exact CV zS qI n oV hs
  |_=>exact oV.elim
 |pA v=>
  cases e with
  |panicked ch=>obtain⟨u,rfl,GR⟩:=oV;exact⟨u,rfl,CV zS qI n GR hs⟩
  |_=>exact oV.elim
theorem Sound.frame (hg:uW g) {f:FuncId} {args:List AV} (hf:bN args=true) {out:Out} {H2:aA} (h:Sound P g f args ⟨0,.nil⟩ out H2) {tk:Option Nat} (zS:∀k,tk=some k->H2.get k=some .tok) {n:Nat}
 (H:aA) {v':AV} (hs:fG H2 tk H.next n out.av=some v'):Sound P g f args H (out.with v') (mN tk H):=
 h.open.frame hg hf H fun o H3 hh=>by obtain⟨rfl,rfl⟩:=hh;exact⟨tk,n,v',zS,hs,rfl,rfl⟩
end
end
section
abbrev cQ:=Nat->AV
abbrev FQ:=Uf->cQ->List eX->aA->Prop
def jD (g:aT) (f:cQ):Arg->AV
 |.tmp t=>f t
 |.const v=>v
 |.fY n=>match g n with
  |some cs=>.pl cs
  |none=>aC
def iA (f:cQ) (d:Nat) (v:AV):cQ:=fun t=>if t=d then v else f t
theorem oQ (f:cQ) (d:Nat) (v:AV):iA f d v d=v:=by simp[iA]
theorem lP (f:cQ) {d t:Nat} (v:AV) (h:t≠d):iA f d v t=f t:=by simp[iA,h]
def eF (n:Nat) (f:cQ):Option Nat->AV->cQ
 |none,_=>f
 |some d,v=>if d<n then iA f d v else f
def eJ (f:cQ) (o:aN):Bool:=
 match o.guard with
 |none=>true
 |some (d,b)=>match f d with
  |.bool c=>c==b
  |_=>false
def jV (r:Option (AV×aA)) (k:AV->aA->Prop):Prop:=
 match r with
 |some (v,H)=>k v H
 |none=>False
def bM (P:Program) (g:aT) (n:Nat):List aN->cQ->List eX->aA->FQ->Prop
 |[],f,ds,H,Q=>Q .normal f ds H
 |o::r,f,ds,H,Q=>
  if eJ f o then
   match o.op with
   |.call c azs=>∃out H',Lg P g (jD g f c) (azs.map (jD g f)) H out H'/\
     match out with
     |.ret v=>bM P g n r (eF n f o.dst v) ds H' Q
     |.pA v=>Q (.panic v) f ds H'
   |.panic x=>∃t v,jD g f x=.iface t v/\Q (.panic (.iface t v)) f ds H
   |.iH c azs=>∃p,iG (jD g f c)=some p/\bM P g n r (eF n f o.dst aC) (.call p.1 (p.2.1++azs.map (jD g f)++p.2.2)::ds) H Q
   |.rF x=>∃m es,jD g f x=.map m/\H.get m=some (.map es)/\∀bs c mb,bs.length=es.length->bs.Nodup->
     bM P g n r (eF n f o.dst (.ref H.next 0)) ds ((H.set m (.pQ es bs c mb)).alloc (.iter m mb c [])) Q
   |.yE x=>∃it m mb c seen es bs,jD g f x=.ref it 0/\H.get it=some (.iter m mb c seen)/\H.get m=some (.pQ es bs c mb)/\
     ((∀b∈bs,b∈seen)->bM P g n r (eF n f o.dst (.eZ [.bool false])) ds H Q)/\
     ∀j,j<bs.length->bs.getD j 0∉seen->bM P g n r (eF n f o.dst (.eZ [.bool true,(es.getD j (aC,aC)).1,(es.getD j (aC,aC)).2])) ds (H.set it (.iter m mb c (seen++[bs.getD j 0]))) Q
   |.tX x=>∃it m mb c seen es bs j,jD g f x=.ref it 0/\H.get it=some (.iter m mb c (seen++[bs.getD j 0]))/\H.get m=some (.pQ es bs c mb)/\j<bs.length/\
     bM P g n r (eF n f o.dst (.eZ [(es.getD j (aC,aC)).1,(es.getD j (aC,aC)).2])) ds H Q
   |op=>jV (cD (jD g f) H op) fun v H'=>bM P g n r (eF n f o.dst v) ds H' Q
  else bM P g n r (eF n f o.dst aC) ds H Q
def yO (P:Program) (g:aT) (r:aN) (f:cQ) (H:aA) (v:AV) (H':aA):Prop:=
 match r.op with
 |.call c azs=>∃p,iG (jD g f c)=some p/\Sound P g p.1 (p.2.1++azs.map (jD g f)++p.2.2) H (.ret v) H'
 |.panic _|.iH _ _=>False
 |op=>cD (jD g f) H op=some (v,H')
def RK (P:Program) (g:aT) (n:Nat) (pairs:List (Nat×Nat)) (base:Nat):Nat->Nat->List aN->List (Nat×Nat)->List (Nat×aA×aA)->cQ->aA->(cQ->aA->Prop)->Prop
 |_,_,[],_,_,f,H,Q=>Q f H
 |i,k,r::rs,rd,ef,f,H,Q=>
  if eJ f r then
   if r.op.fresh then
    ∃ob val,tL (jD g f) r.op=some (ob,val)/\(∀x∈ef,(i,x.1)∈pairs->x.2.1.get (base+k)=x.2.2.get (base+k))/\
     RK P g n pairs base (i+1) (k+1) rs ((i,base+k)::rd) ef (eF n f r.dst (val (base+k))) (H.set (base+k) ob) Q
   else if r.op.mE then
    ∃v H',yO P g r f H v H'/\H.next<=H'.next/\(∀x∈rd,(x.1,i)∈pairs->H.get x.2=H'.get x.2)/\
     RK P g n pairs base (i+1) k rs rd ((i,H,H')::ef) (eF n f r.dst v) H' Q
   else
    ∃v,yO P g r f H v H/\(∀id,r.op.cG (jD g f)=some id->∀x∈ef,(i,x.1)∈pairs->x.2.1.get id=x.2.2.get id)/\
     RK P g n pairs base (i+1) k rs (match r.op.cG (jD g f) with|some id=>(i,id)::rd|none=>rd) ef (eF n f r.dst v) H Q
  else RK P g n pairs base (i+1) (if r.op.fresh then k+1 else k) rs rd ef (eF n f r.dst aC) H Q
def gI (next:cQ->List eX->aA->Prop) (Q:FQ):FQ
 |.normal,f,ds,H=>next f ds H
 |e,f,ds,H=>Q e f ds H
def cW (id:Nat) (Q:FQ):FQ
 |.exit i,f,ds,H=>if i=id then Q .normal f ds H else Q (.exit i) f ds H
 |e,f,ds,H=>Q e f ds H
def xI (n:Nat) (f:cQ):List (Nat×AV)->cQ
 |[]=>f
 |(t,v)::r=>xI n (eF n f (some t) v) r
def WN (id:Nat) (out:Out) (H3:aA):FQ
 |.normal,_,ds,H=>ds=[]/\out=.ret (.bool true)/\∃k sn,H.get id=some (.loop k sn .busy)/\H3=H.set id (.loop k sn .ready)
 |.ret,_,ds,H=>ds=[]/\out=.ret (.bool false)/\∃k sn,H.get id=some (.loop k sn .busy)/\H3=H.set id (.loop k sn (.done .ret))
 |.exit i,_,ds,H=>ds=[]/\out=.ret (.bool false)/\∃k sn,H.get id=some (.loop k sn .busy)/\H3=H.set id (.loop k sn (.done (.exit i)))
 |.panic _,_,_,_=>False
def KE (st:LSt) (f:cQ) (ds:List eX) (H:aA) (Q:FQ):Prop:=
 match st with
 |.ready=>Q .normal f ds H
 |.done .ret=>Q .ret f ds H
 |.done (.exit i)=>Q (.exit i) f ds H
 |_=>False
def LF (n:Nat) (f:cQ):List AV:=(List.range n).map f
def mI (n:Nat) (f:cQ):Prop:=∀t,n<=t->f t=aC
def FC (P:Program) (g:aT) (n:Nat):bP->cQ->List eX->aA->FQ->Prop
 |.skip,f,ds,H,Q=>Q .normal f ds H
 |.ops rl,f,ds,H,Q=>bM P g n rl f ds H Q
 |.draw rl pairs,f,ds,H,Q=>(mQ H (rl.countP (·.op.fresh))=true/\
   RK P g n pairs H.next 0 0 rl [] [] f {H with next:=H.next+rl.countP (·.op.fresh)} fun f' H'=>Q .normal f' ds H')\/
   (mI n f->∃x f' H',IG P g rl pairs (LF n f) H (fun x' s' h'=>x'=x/\s'=LF n f'/\h'=H')/\mI n f'/\(∀t,t∉rl.filterMap (·.dst)->f' t=f t)/\Q (.panic x) f' ds H')\/
   (mI n f->∃x H',IF P g rl pairs (LF n f) H (fun x' h'=>x'=x/\h'=H')/\∀f':cQ,mI n f'->(∀t,t∉rl.filterMap (·.dst)->f' t=f t)->Q (.panic x) f' ds H')
 |.seq a b,f,ds,H,Q=>FC P g n a f ds H (gI (fun f ds H=>FC P g n b f ds H Q) Q)
 |.cond c a b,f,ds,H,Q=>∃t,jD g f c=.bool t/\if t then FC P g n a f ds H Q else FC P g n b f ds H Q
 |.block id a,f,ds,H,Q=>FC P g n a f ds H (cW id Q)
 |.loop a,f,ds,H,Q=>∃(I:Nat->cQ->List eX->aA->Prop) (m:Nat),I m f ds H/\
   ∀m f ds H,I m f ds H->FC P g n a f ds H (gI (fun f ds H=>∃k,k<m/\I k f ds H) Q)
 |.exit id,f,ds,H,Q=>Q (.exit id) f ds H
 |.ret,f,ds,H,Q=>Q .ret f ds H
 |.lK c ps LB body,f,ds,H,Q=>∃fid fs cs v He k' s' st Hf,jD g f c=.func (.func fid) fs cs/\
   Sound P g fid (fs++[.yield (H.next+1)]++cs) ((H.alloc .NQ).alloc (.loop ⟨ps,LB,body⟩ (LF n f) .ready)) (.ret v) He/\He.get (H.next+1)=some (.loop k' s' st)/\sN He (H.next+1) Hf/\
   KE st f (.mark H.next::ds) Hf Q
def NF (P:Program) (g:aT) (n:Nat) (k:IP) (f:cQ) (id:Nat) (args:List AV) (H2:aA) (out:Out) (H3:aA):Prop:=
 FC P g n k.LB (xI n f (k.ps.zip args)) [] H2 fun e f1 oR H1=>match e with
  |.normal=>oR=[]/\∃k1 l8,H1.get id=some (.loop k1 l8 .ready)/\FC P g n k.body f1 [] (H1.set id (.loop k1 l8 .busy)) (WN id out H3)
  |_=>False
theorem mI.put {n:Nat} {f:cQ} (h:mI n f) (dst:Option Nat) (v:AV):mI n (eF n f dst v):=by
 cases dst with
 |none=>exact h
 |some d=>
  simp only[eF];split
  . intro t ht;rw[lP f v (by omega)];exact h t ht
  exact h
theorem HJ {n:Nat} {f:cQ} (h:mI n f) (t:Nat):(LF n f).getD t aC=f t:=by
 unfold LF;rw[getD_eq,Cj];by_cases ht:t<n
 . simp[ht]
 rw[h t (by omega)];simp[ht]
theorem mK {n:Nat} {f:cQ} (dst:Option Nat) (v:AV):LF n (eF n f dst v)=jF (LF n f) dst v:=by
 cases dst with
 |none=>rfl
 |some d=>
  simp only[eF,jF,LF];apply Ej;intro i;rw[Eh];simp only[Cj,Ax,Cl];by_cases hd:d<n
  . rw[if_pos hd];by_cases hi:d=i
    . subst hi;simp[hd,oQ]
    rw[if_neg hi];by_cases gU:i<n
    . simp[gU,lP f v (Ne.symm hi)]
    simp[gU]
  rw[if_neg hd];by_cases hi:d=i
  . subst hi;simp[hd]
  rw[if_neg hi]
theorem tJ {n:Nat} {f:cQ} (h:mI n f) (g:aT):jD g f=Arg.eval g (LF n f):=by
 funext x
 cases x with
 |tmp t=>exact(HJ h t).symm
 |const v=>rfl
 |fY n=>rfl
theorem Ku {n:Nat} {f:cQ} (h:mI n f) (o:aN):eJ f o=bF (LF n f) o:=by
 unfold eJ bF
 cases o.guard with
 |none=>rfl
 |some p=>simp only[HJ h];cases f p.1<;>rfl
theorem Li {n:Nat}:∀(l:List (Nat×AV)) (f:cQ),nU (LF n f) l=LF n (xI n f l)
 |[],f=>rfl
 |(t,v)::l,f=>by rw[nU,xI,<-Li l];congr 1;rw[mK];rfl
theorem mI.nU {n:Nat}:∀(l:List (Nat×AV)) {f:cQ},mI n f->mI n (xI n f l)
 |[],_,h=>h
 |(t,v)::l,_,h=>mI.nU l (h.put (some t) v)
def tb (n:Nat) (Q:FQ):AQ:=fun e s ds H=>∃f,s=LF n f/\mI n f/\Q e f ds H
section
variable {P:Program} {g:aT} {n:Nat}
theorem gD:∀(rl:List aN) (f:cQ) (ds:List eX) (H:aA) (Q:FQ),mI n f->bM P g n rl f ds H Q->pY P g rl (LF n f) ds H (tb n Q)
 |[],f,ds,H,Q,hb,h=>⟨f,rfl,hb,h⟩
 |o::r,f,ds,H,Q,hb,h=>by
  unfold bM at h;unfold pY;rw[Ku hb,tJ hb] at h;split at h
  . rename_i hw;rw[if_pos hw];split at h
    . rename_i c azs eK;obtain⟨out,H',h2,h3⟩:=h;rw[eK];refine⟨out,H',h2,?_⟩
      cases out with
      |ret v=>
       have :=gD r _ ds H' Q (hb.put o.dst v) h3
       rwa [mK] at this
      |pA v=>exact⟨f,rfl,hb,h3⟩
    . rename_i x eK;obtain⟨t,v,h1,h2⟩:=h;rw[eK];exact⟨t,v,h1,f,rfl,hb,h2⟩
    . rename_i c azs eK;obtain⟨p,h1,h2⟩:=h;rw[eK];refine⟨p,h1,?_⟩;have :=gD r _ _ H Q (hb.put o.dst aC) h2
      rwa [mK] at this
    . rename_i x eK;obtain⟨m,es,h1,h2,h3⟩:=h;rw[eK];refine⟨m,es,h1,h2,fun bs c mb k1 k2=>?_⟩;have :=gD r _ _ _ Q (hb.put o.dst _) (h3 bs c mb k1 k2)
      rwa [mK] at this
    . rename_i x eK;obtain⟨it,m,mb,c,seen,es,bs,h1,h2,h3,h4,h5⟩:=h;rw[eK];refine⟨it,m,mb,c,seen,es,bs,h1,h2,h3,fun k=>?_,fun j k1 k2=>?_⟩
      . have :=gD r _ _ _ Q (hb.put o.dst _) (h4 k)
        rwa [mK] at this
      have :=gD r _ _ _ Q (hb.put o.dst _) (h5 j k1 k2)
      rwa [mK] at this
    . rename_i x eK;obtain⟨it,m,mb,c,seen,es,bs,j,h1,h2,h3,h4,h5⟩:=h;rw[eK];refine⟨it,m,mb,c,seen,es,bs,j,h1,h2,h3,h4,?_⟩;have :=gD r _ _ _ Q (hb.put o.dst _) h5
      rwa [mK] at this
    rename_i n1 n2 n3 n4 n5 n6;unfold jV at h;split at h
    . rename_i v H' ha;have :=gD r _ ds H' Q (hb.put o.dst v) h;rw[mK] at this;split
      . rename_i c azs eK;exact absurd eK (n1 c azs)
      . rename_i x eK;exact absurd eK (n2 x)
      . rename_i c azs eK;exact absurd eK (n3 c azs)
      . rename_i x eK;exact absurd eK (n4 x)
      . rename_i x eK;exact absurd eK (n5 x)
      . rename_i x eK;exact absurd eK (n6 x)
      exact⟨v,H',ha,this⟩
    exact h.elim
  rename_i hw;rw[if_neg hw];have :=gD r _ ds H Q (hb.put o.dst aC) h
  rwa [mK] at this
theorem Lh {f:cQ} (hb:mI n f) {r:aN} {H H':aA} {v:AV} (h:yO P g r f H v H'):AS P g r (LF n f) H v H':=by
 unfold yO at h;unfold AS
 rwa [tJ hb] at h
theorem pT {pairs:List (Nat×Nat)} {base:Nat} {Q:cQ->aA->Prop}:∀(rl:List aN) (i k:Nat) (rd:List (Nat×Nat)) (ef:List (Nat×aA×aA)) (f:cQ) (H:aA),mI n f->
 RK P g n pairs base i k rl rd ef f H Q->Ob P g pairs base i k rl rd ef (LF n f) H (fun s H=>∃f,s=LF n f/\mI n f/\Q f H)
 |[],i,k,rd,ef,f,H,hb,h=>⟨f,rfl,hb,h⟩
 |r::rs,i,k,rd,ef,f,H,hb,h=>by
  unfold RK at h;unfold Ob;rw[Ku hb] at h;split at h
  . rename_i hw;rw[if_pos hw];split at h
    . rename_i hf;rw[if_pos hf];obtain⟨ob,val,h1,h2,h3⟩:=h;rw[tJ hb] at h1;refine⟨ob,val,h1,h2,?_⟩;have :=pT rs _ _ _ _ _ _ (hb.put r.dst _) h3
      rwa [mK] at this
    rename_i hf;rw[if_neg hf];split at h
    . rename_i he;rw[if_pos he];obtain⟨v,H',h1,h2,h3,h4⟩:=h;refine⟨v,H',Lh hb h1,h2,h3,?_⟩;have :=pT rs _ _ _ _ _ _ (hb.put r.dst _) h4
      rwa [mK] at this
    rename_i he;rw[if_neg he];obtain⟨v,h1,h2,h3⟩:=h;refine⟨v,Lh hb h1,by rw[<-tJ hb];exact h2,?_⟩;have :=pT rs _ _ _ _ _ _ (hb.put r.dst _) h3;rw[mK] at this;rw[<-tJ hb];exact this
  rename_i hw;rw[if_neg hw];have :=pT rs _ _ _ _ _ _ (hb.put r.dst _) h
  rwa [mK] at this
theorem uU:∀(c:bP) (f:cQ) (ds:List eX) (H:aA) (Q:FQ),mI n f->FC P g n c f ds H Q->AC P g c (LF n f) ds H (tb n Q):=by
 intro c
 induction c with
 |skip=>exact fun f ds H Q hb h=>⟨f,rfl,hb,h⟩
 |ops rl=>exact fun f ds H Q hb h=>gD rl f ds H Q hb h
 |draw rl pairs=>
  intro f ds H Q hb h;refine h.imp (fun h=>⟨h.1,pT rl 0 0 [] [] f _ hb h.2⟩) fun h=>h.imp (fun h=>?_) fun h=>?_
  . obtain⟨x,f',H',h1,h2,_,h3⟩:=h hb;exact h1.mono fun x' s' h' ⟨e1,e2,e3⟩=>⟨f',e2,h2,by rw[e1,e3];exact h3⟩
  obtain⟨x,H',h1,h3⟩:=h hb;refine h1.mono fun x' h' ⟨e1,e3⟩ s' hl ht=>?_;have lY:s'.length=n:=by rw[hl];simp[LF]
  refine⟨fun t=>s'.getD t aC,?_,fun t ht=>?_,?_⟩
  . apply Fk
    . simp[LF,lY]
    intro i h1 h2;simp[LF,List.getD,Ac h1]
  . simp[List.getD,Bp (show s'.length<=t by omega)]
  rw[e1,e3];exact h3 _ (fun t ht=>by simp[List.getD,Bp (show s'.length<=t by omega)]) fun t hm=>(ht t hm).trans (HJ hb t)
 |seq a b oY qS=>
  intro f ds H Q hb h;show AC P g a (LF n f) ds H _;refine dP (fun e s ds H hq=>?_) (oY f ds H _ hb h);obtain⟨f',rfl,vR,hq⟩:=hq
  cases e with
  |normal=>exact qS f' ds H Q vR hq
  |_=>exact⟨f',rfl,vR,hq⟩
 |cond c a b oY qS=>
  intro f ds H Q hb h;obtain⟨t,h1,h2⟩:=h;rw[tJ hb] at h1;refine⟨t,h1,?_⟩
  cases t with
  |true=>exact oY f ds H Q hb h2
  |false=>exact qS f ds H Q hb h2
 |block id a ih=>
  intro f ds H Q hb h;show AC P g a (LF n f) ds H _;refine dP (fun e s ds H hq=>?_) (ih f ds H _ hb h);obtain⟨f',rfl,vR,hq⟩:=hq
  cases e with
  |exit i=>
   simp only[cW] at hq;simp only[mV];split
   . rename_i hi;rw[if_pos hi] at hq;exact⟨f',rfl,vR,hq⟩
   rename_i hi;rw[if_neg hi] at hq;exact⟨f',rfl,vR,hq⟩
  |_=>exact⟨f',rfl,vR,hq⟩
 |loop a ih=>
  intro f ds H Q hb h;obtain⟨I,m,h0,hI⟩:=h;refine⟨fun m s ds H=>∃f,s=LF n f/\mI n f/\I m f ds H,m,⟨f,rfl,hb,h0⟩,?_⟩;rintro m s oR H1 ⟨f1,rfl,Ji,h1⟩;refine dP (fun e s ds H hq=>?_) (ih f1 oR H1 _ Ji (hI m f1 oR H1 h1));obtain⟨f',rfl,vR,hq⟩:=hq
  cases e with
  |normal=>obtain⟨k,hk,hq⟩:=hq;exact⟨k,hk,f',rfl,vR,hq⟩
  |_=>exact⟨f',rfl,vR,hq⟩
 |exit id=>exact fun f ds H Q hb h=>⟨f,rfl,hb,h⟩
 |ret=>exact fun f ds H Q hb h=>⟨f,rfl,hb,h⟩
 |lK c ps a b oY qS=>
  intro f ds H Q hb h;obtain⟨fid,fs,cs,v,He,k',s',st,Hf,h1,h2,h3,h4,h5⟩:=h;rw[tJ hb] at h1;refine⟨fid,fs,cs,v,He,k',s',st,Hf,h1,h2,h3,h4,?_⟩
  cases st with
  |ready=>exact⟨f,rfl,hb,h5⟩
  |done e=>cases e<;>exact⟨f,rfl,hb,h5⟩
  |busy=>exact h5.elim
  |over _=>exact h5.elim
theorem Up {rl:List aN}:∀{f:cQ} {ds:List eX} {H:aA} {Q Q':FQ},(∀e f ds H,Q e f ds H->Q' e f ds H)->bM P g n rl f ds H Q->bM P g n rl f ds H Q':=by
 induction rl with
 |nil=>exact fun hq h=>hq _ _ _ _ h
 |cons o r ih=>
  intro f ds H Q Q' hq h;unfold bM at h ⊢;split
  . rename_i hw;rw[if_pos hw] at h;split at h
    . obtain⟨out,H',h1,h3⟩:=h;refine⟨out,H',h1,?_⟩
      cases out with
      |ret v=>exact ih hq h3
      |pA v=>exact hq _ _ _ _ h3
    . obtain⟨t,v,h1,h2⟩:=h;exact⟨t,v,h1,hq _ _ _ _ h2⟩
    . obtain⟨p,h1,h2⟩:=h;exact⟨p,h1,ih hq h2⟩
    . obtain⟨m,es,h1,h2,h3⟩:=h;exact⟨m,es,h1,h2,fun bs c mb k1 k2=>ih hq (h3 bs c mb k1 k2)⟩
    . obtain⟨it,m,mb,c,seen,es,bs,h1,h2,h3,h4,h5⟩:=h;exact⟨it,m,mb,c,seen,es,bs,h1,h2,h3,fun k=>ih hq (h4 k),fun j k1 k2=>ih hq (h5 j k1 k2)⟩
    . obtain⟨it,m,mb,c,seen,es,bs,j,h1,h2,h3,h4,h5⟩:=h;exact⟨it,m,mb,c,seen,es,bs,j,h1,h2,h3,h4,ih hq h5⟩
    unfold jV at h ⊢;split at h
    . exact ih hq h
    exact h.elim
  rename_i hw;rw[if_neg hw] at h;exact ih hq h
theorem Oj {pairs:List (Nat×Nat)} {base:Nat} {rl:List aN}:∀{i k:Nat} {rd:List (Nat×Nat)} {ef:List (Nat×aA×aA)} {f:cQ} {H:aA} {Q Q':cQ->aA->Prop},(∀f H,Q f H->Q' f H)->
 RK P g n pairs base i k rl rd ef f H Q->RK P g n pairs base i k rl rd ef f H Q':=by
 induction rl with
 |nil=>exact fun hq h=>hq _ _ h
 |cons r rs ih=>
  intro i k rd ef f H Q Q' hq h;unfold RK at h ⊢;split
  . rename_i hw;rw[if_pos hw] at h;split
    . rename_i hf;rw[if_pos hf] at h;obtain⟨ob,val,h1,h2,h3⟩:=h;exact⟨ob,val,h1,h2,ih hq h3⟩
    rename_i hf;rw[if_neg hf] at h;split
    . rename_i he;rw[if_pos he] at h;obtain⟨v,H',h1,h2,h3,h4⟩:=h;exact⟨v,H',h1,h2,h3,ih hq h4⟩
    rename_i he;rw[if_neg he] at h;obtain⟨v,h1,h2,h3⟩:=h;exact⟨v,h1,h2,ih hq h3⟩
  rename_i hw;rw[if_neg hw] at h;exact ih hq h
theorem iX {c:bP}:∀{f:cQ} {ds:List eX} {H:aA} {Q Q':FQ},(∀e f ds H,Q e f ds H->Q' e f ds H)->FC P g n c f ds H Q->FC P g n c f ds H Q':=by
 induction c with
 |skip=>exact fun hq h=>hq _ _ _ _ h
 |ops rl=>exact fun hq h=>Up hq h
 |draw rl pairs=>exact fun hq h=>h.imp (fun h=>⟨h.1,Oj (fun s H=>hq _ _ _ _) h.2⟩) fun h=>h.imp (fun h hb=>let⟨x,f',H',h1,h2,h3,h4⟩:=h hb;⟨x,f',H',h1,h2,h3,hq _ _ _ _ h4⟩) fun h hb=>let⟨x,H',h1,h2⟩:=h hb;⟨x,H',h1,fun f' vR ht=>hq _ _ _ _ (h2 f' vR ht)⟩
 |seq a b oY qS=>
  intro f ds H Q Q' hq h;refine oY (fun e f ds H h=>?_) h
  cases e with
  |normal=>exact qS hq h
  |_=>exact hq _ _ _ _ h
 |cond c a b oY qS=>
  intro f ds H Q Q' hq h;obtain⟨t,h1,h2⟩:=h;refine⟨t,h1,?_⟩
  cases t with
  |true=>exact oY hq h2
  |false=>exact qS hq h2
 |block id a ih=>
  intro f ds H Q Q' hq h;refine ih (fun e f ds H h=>?_) h
  cases e with
  |exit i=>
   simp only[cW] at h ⊢;split
   . rename_i hi;rw[if_pos hi] at h;exact hq _ _ _ _ h
   rename_i hi;rw[if_neg hi] at h;exact hq _ _ _ _ h
  |_=>exact hq _ _ _ _ h
 |loop a ih=>
  intro f ds H Q Q' hq h;obtain⟨I,m,h0,hI⟩:=h;refine⟨I,m,h0,fun m f ds H hi=>ih (fun e f ds H h=>?_) (hI m f ds H hi)⟩
  cases e with
  |normal=>exact h
  |_=>exact hq _ _ _ _ h
 |exit id=>exact fun hq h=>hq _ _ _ _ h
 |ret=>exact fun hq h=>hq _ _ _ _ h
 |lK c ps a b oY qS=>
  intro f ds H Q Q' hq h;obtain⟨fid,fs,cs,v,He,k',s',st,Hf,h1,h2,h3,h4,h5⟩:=h;refine⟨fid,fs,cs,v,He,k',s',st,Hf,h1,h2,h3,h4,?_⟩
  cases st with
  |ready=>exact hq _ _ _ _ h5
  |done e=>cases e<;>exact hq _ _ _ _ h5
  |busy=>exact h5.elim
  |over _=>exact h5.elim
def dW (args:List AV):cQ:=fun t=>args.getD t aC
def EU (f:cQ) (H:aA):AO->Option AV
 |.tmp t=>some (f t)
 |.cell a agg n=>match cD (jD g0 f) H (.load agg n (.tmp a)) with
  |some (v,_)=>some v
  |none=>none
def mZ (f:cQ) (H:aA):List AO->Option (List AV)
 |[]=>some []
 |x::r=>match EU f H x,mZ f H r with
  |some v,some vs=>some (v::vs)
  |_,_=>none
theorem CR {f:cQ} (hb:mI n f) (H:aA):∀l,mZ f H l=jU (LF n f) H l
 |[]=>rfl
 |x::r=>by
  have ih:=CR hb H r
  cases x with
  |tmp t=>simp only[mZ,jU,EU,WK,ih,HJ hb];cases jU (LF n f) H r<;>rfl
  |cell a agg m=>
   simp only[mZ,jU,EU,WK,ih,tJ hb]
   cases cD (Arg.eval g0 (LF n f)) H (.load agg m (.tmp a)) with
   |none=>rfl
   |some p=>cases jU (LF n f) H r<;>rfl
theorem xN {args:List AV} (h:args.length<=n):mI n (dW args)/\LF n (dW args)=args++List.replicate (n -args.length) aC:=by
 refine⟨fun t ht=>?_,Ej fun t=>?_⟩
 . simp only[dW,getD_eq];rw[Bp (by omega)];rfl
 unfold LF;rw[Cj];by_cases ht:t<n
 . rw[Hq ht,Bi];by_cases h1:t<args.length
   . rw[Dy h1];simp[dW,getD_eq,Ac h1]
   rw[Fz (by omega),Ei,if_pos (by omega)];simp only[dW,getD_eq];rw[Bp (by omega)];rfl
 rw[Bp (by simp;omega),Bp (by simp;omega)];rfl
def GX (rs:List AO) (R:Out->aA->Prop):FQ
 |.normal,f,ds,H|.ret,f,ds,H=>ds=[]/\∃vs,mZ f H rs=some vs/\R (.ret (iW vs)) H
 |.panic v,_,ds,H=>ds=[]/\R (.pA v) H
 |.exit _,_,_,_=>False
theorem Wz {F:wR} {args:List AV} (ha:args.length<=F.ntmps) {H:aA} {R:Out->aA->Prop} (h:FC P g F.ntmps F.body (dW args) [] H (GX F.results R)):
 AC P g F.body (nC F args) [] H (lp F R):=by
 obtain⟨hb,hl⟩:=xN ha;unfold nC;rw[<-hl];refine dP (fun e s ds H hq=>?_) (uU F.body _ [] H _ hb h);obtain⟨f,rfl,vR,hq⟩:=hq
 cases e with
 |normal=>obtain⟨h1,vs,h2,h3⟩:=hq;exact⟨h1,vs,by rw[<-CR vR];exact h2,h3⟩
 |ret=>obtain⟨h1,vs,h2,h3⟩:=hq;exact⟨h1,vs,by rw[<-CR vR];exact h2,h3⟩
 |panic v=>exact hq
 |exit id=>exact hq
def aN.dE (r:aN):Bool:=match r.op with|.rF _|.yE _=>false|_=>true
def bP.dE:bP->Bool
 |.ops rl=>rl.all aN.dE
 |.seq a b|.cond _ a b=>a.dE&&b.dE
 |.block _ a|.loop a=>a.dE
 |_=>true
theorem RG {rl:List aN} (hd:rl.all aN.dE=true):∀{s:List AV} {ds:List eX} {H:aA} {Q:AQ},pY P g rl s ds H Q->
 ∃ae s' eC H',Q ae s' eC H'/\pY P g rl s ds H (fun e s d h=>e=ae/\s=s'/\d=eC/\h=H'):=by
 induction rl with
 |nil=>exact fun {s ds H Q} h=>⟨.normal,s,ds,H,h,rfl,rfl,rfl,rfl⟩
 |cons o r ih=>
  intro s ds H Q h;simp only[Hg,Aj] at hd;have ih:=fun {s ds H Q}=> @ih hd.2 s ds H Q;unfold pY at h ⊢;by_cases hw:bF s o=true
  . simp only[hw,if_true] at h ⊢;split at h
    . obtain⟨out,H',h1,h3⟩:=h
      cases out with
      |ret v=>obtain⟨ae,s',eC,H1,q,hA⟩:=ih h3;exact⟨ae,s',eC,H1,q,.ret v,H',h1,hA⟩
      |pA v=>exact⟨.panic v,s,ds,H',h3,.pA v,H',h1,rfl,rfl,rfl,rfl⟩
    . obtain⟨t,v,h1,h2⟩:=h;exact⟨_,s,ds,H,h2,t,v,h1,rfl,rfl,rfl,rfl⟩
    . obtain⟨p,h1,h2⟩:=h;obtain⟨ae,s',eC,H1,q,hA⟩:=ih h2;exact⟨ae,s',eC,H1,q,p,h1,hA⟩
    . rename_i x eK;simp[aN.dE,eK] at hd
    . rename_i x eK;simp[aN.dE,eK] at hd
    . obtain⟨it,m,mb,c,seen,es,bs,j,h1,h2,h3,h4,h5⟩:=h;obtain⟨ae,s',eC,H1,q,hA⟩:=ih h5;exact⟨ae,s',eC,H1,q,it,m,mb,c,seen,es,bs,j,h1,h2,h3,h4,hA⟩
    obtain⟨v,H',h1,h2⟩:=h;obtain⟨ae,s',eC,H1,q,hA⟩:=ih h2;exact⟨ae,s',eC,H1,q,v,H',h1,hA⟩
  simp only[hw] at h ⊢;exact ih h
theorem Ue {pairs:List (Nat×Nat)} {base:Nat} {rl:List aN}:∀{i k:Nat} {rd:List (Nat×Nat)} {ef:List (Nat×aA×aA)} {s:List AV} {H:aA} {Q:List AV->aA->Prop},
 Ob P g pairs base i k rl rd ef s H Q->∃s' H',Q s' H'/\Ob P g pairs base i k rl rd ef s H (fun s h=>s=s'/\h=H'):=by
 induction rl with
 |nil=>exact fun {i k rd ef s H Q} h=>⟨s,H,h,rfl,rfl⟩
 |cons r rs ih=>
  intro i k rd ef s H Q h;unfold Ob at h ⊢;by_cases hw:bF s r=true
  . simp only[hw,if_true] at h ⊢;by_cases hf:r.op.fresh=true
    . simp only[hf,if_true] at h ⊢;obtain⟨ob,val,h1,h2,h3⟩:=h;obtain⟨s',H',q,hA⟩:=ih h3;exact⟨s',H',q,ob,val,h1,h2,hA⟩
    simp only[hf] at h ⊢;by_cases he:r.op.mE=true
    . simp only[he,if_true] at h ⊢;obtain⟨v,H1,h1,h2,h3,h4⟩:=h;obtain⟨s',H',q,hA⟩:=ih h4;exact⟨s',H',q,v,H1,h1,h2,h3,hA⟩
    simp only[he] at h ⊢;obtain⟨v,h1,h2,h3⟩:=h;obtain⟨s',H',q,hA⟩:=ih h3;exact⟨s',H',q,v,h1,h2,hA⟩
  simp only[hw] at h ⊢;exact ih h
def bP.tight:bP->Bool
 |.draw rl pairs=>pairs.all fun p=>decide (p.2<=rl.length)
 |.seq a b|.cond _ a b=>a.tight&&b.tight
 |.block _ a|.loop a=>a.tight
 |_=>true
def NB (b:Bool) (ae:Uf) (s':List AV) (eC:List eX) (H':aA):AQ:=fun e s d h=>e=ae/\(s=s'\/(b=false/\∃x,ae=.panic x))/\d=eC/\h=H'
theorem NB.up {b b':Bool} {ae:Uf} {s':List AV} {eC:List eX} {H':aA} (hb:b=false->b'=false) {e:Uf} {s:List AV} {d:List eX} {h:aA} (hh:NB b ae s' eC H' e s d h):NB b' ae s' eC H' e s d h:=
 ⟨hh.1,hh.2.1.imp id fun h=>⟨hb h.1,h.2⟩,hh.2.2⟩
theorem Oa {c:bP} (hd:c.dE=true):∀{s:List AV} {ds:List eX} {H:aA} {Q:AQ},AC P g c s ds H Q->
 ∃ae s' eC H',Q ae s' eC H'/\AC P g c s ds H (NB c.tight ae s' eC H'):=by
 induction c with
 |skip=>exact fun {s ds H Q} h=>⟨.normal,s,ds,H,h,rfl,.inl rfl,rfl,rfl⟩
 |ops rl=>intro s ds H Q h;obtain⟨ae,s',eC,H',q,hA⟩:=RG hd h;exact⟨ae,s',eC,H',q,DI (fun e s d h hh=>⟨hh.1,.inl hh.2.1,hh.2.2⟩) hA⟩
 |draw rl pairs=>
  intro s ds H Q h
  rcases h with h|⟨j,Hs,ss,vs,h1,D,r,f,azs,p,x,H1,e1,e2,e3,e4,e5,q⟩|⟨j,Sv,Hs,ss,vs,h1,hl,hw,hs,D,r,f,azs,p,x,H1,e1,e2,e3,e4,e5,q⟩
  . obtain⟨s',H',q,hA⟩:=Ue h.2;exact⟨.normal,s',ds,H',q,.inl ⟨h.1,Oc (fun s H h=>⟨rfl,.inl h.1,rfl,h.2⟩) hA⟩⟩
  . exact⟨.panic x,ss j,ds,H1,q,.inr (.inl ⟨j,Hs,ss,vs,h1,D,r,f,azs,p,x,H1,e1,e2,e3,e4,e5,rfl,.inl rfl,rfl,rfl⟩)⟩
  have ht:(bP.draw rl pairs).tight=false:=by simp only[bP.tight];rw[List.all_eq_false];exact⟨_,h1,by simp⟩
  exact⟨.panic x,s,ds,H1,q s rfl fun _ _=>rfl,.inr (.inr ⟨j,Sv,Hs,ss,vs,h1,hl,hw,hs,D,r,f,azs,p,x,H1,e1,e2,e3,e4,e5,fun s' _ _=>⟨rfl,.inr ⟨ht,x,rfl⟩,rfl,rfl⟩⟩)⟩
 |seq a b oY qS=>
  simp only[bP.dE,Aj] at hd;have oY:=fun {s ds H Q}=> @oY hd.1 s ds H Q;have qS:=fun {s ds H Q}=> @qS hd.2 s ds H Q;have la:a.tight=false->(a.seq b).tight=false:=fun h=>by simp[bP.tight,h]
  have lb:b.tight=false->(a.seq b).tight=false:=fun h=>by simp[bP.tight,h]
  intro s ds H Q h;obtain⟨ae,s1,oR,H1,q,hA⟩:=oY h
  cases ae with
  |normal=>
   obtain⟨ae2,s2,NS,H2,q2,hB⟩:=qS q;refine⟨ae2,s2,NS,H2,q2,?_⟩;show AC P g a s ds H _;refine dP (fun e s d h hh=>?_) hA;obtain⟨rfl,rfl|⟨_,x,hx⟩,rfl,rfl⟩:=hh
   . exact dP (fun e s d h hh=>hh.up lb) hB
   cases hx
  |_=>refine⟨_,s1,oR,H1,q,?_⟩;show AC P g a s ds H _;refine dP (fun e s d h hh=>?_) hA;have hh:=hh.up la;obtain⟨rfl,h2⟩:=hh;exact⟨rfl,h2⟩
 |cond c a b oY qS=>
  simp only[bP.dE,Aj] at hd;have oY:=fun {s ds H Q}=> @oY hd.1 s ds H Q;have qS:=fun {s ds H Q}=> @qS hd.2 s ds H Q;intro s ds H Q h;obtain⟨t,h1,h2⟩:=h
  cases t with
  |true=>obtain⟨ae,s1,oR,H1,q,hA⟩:=oY h2;exact⟨ae,s1,oR,H1,q,true,h1,dP (fun e s d h hh=>hh.up fun h=>by simp[bP.tight,h]) hA⟩
  |false=>obtain⟨ae,s1,oR,H1,q,hA⟩:=qS h2;exact⟨ae,s1,oR,H1,q,false,h1,dP (fun e s d h hh=>hh.up fun h=>by simp[bP.tight,h]) hA⟩
 |block id a ih=>
  have ih:=fun {s ds H Q}=> @ih hd s ds H Q;intro s ds H Q h;obtain⟨ae,s1,oR,H1,q,hA⟩:=ih h
  have other:∀e,(∀i,e≠ .exit i)->Q e s1 oR H1->AC P g a s ds H (NB a.tight e s1 oR H1)->
   ∃ae s' eC H',Q ae s' eC H'/\AC P g (.block id a) s ds H (NB a.tight ae s' eC H'):=fun e cF hq hA=>by
   refine⟨e,s1,oR,H1,hq,?_⟩;show AC P g a s ds H _;refine dP (fun e' s d h hh=>?_) hA;obtain⟨rfl,h2⟩:=hh
   cases e' with
   |exit i=>exact absurd rfl (cF i)
   |_=>exact⟨rfl,h2⟩
  cases ae with
  |exit i=>
   simp only[mV] at q;by_cases hi:i=id
   . rw[if_pos hi] at q;refine⟨.normal,s1,oR,H1,q,?_⟩;show AC P g a s ds H _;refine dP (fun e s d h hh=>?_) hA;obtain⟨rfl,rfl|⟨_,x,hx⟩,rfl,rfl⟩:=hh
     . simp only[mV];rw[if_pos hi];exact⟨rfl,.inl rfl,rfl,rfl⟩
     cases hx
   rw[if_neg hi] at q;refine⟨.exit i,s1,oR,H1,q,?_⟩;show AC P g a s ds H _;refine dP (fun e s d h hh=>?_) hA;obtain⟨rfl,h2⟩:=hh;simp only[mV];rw[if_neg hi];exact⟨rfl,h2⟩
  |normal=>exact other _ (fun i hh=>by cases hh) q hA
  |ret=>exact other _ (fun i hh=>by cases hh) q hA
  |panic v=>exact other _ (fun i hh=>by cases hh) q hA
 |loop a ih=>
  have ih:=fun {s ds H Q}=> @ih hd s ds H Q;intro s ds H Q h;obtain⟨I,m,h0,hI⟩:=h
  have key:∀(m:Nat) (s:List AV) (ds:List eX) (H:aA),I m s ds H->
   ∃ae s' eC H',Q ae s' eC H'/\AC P g (.loop a) s ds H (NB a.tight ae s' eC H'):=by
   intro m
   induction m using Nat.strongRecOn with
   |_ m ihm=>
    intro s ds H hi;obtain⟨ae,s1,oR,H1,q,hA⟩:=ih (hI m s ds H hi)
    have once:∀e,e≠ .normal->Q e s1 oR H1->AC P g a s ds H (NB a.tight e s1 oR H1)->
     ∃ae s' eC H',Q ae s' eC H'/\AC P g (.loop a) s ds H (NB a.tight ae s' eC H'):=fun e cF hq hA=>by
     refine⟨e,s1,oR,H1,hq,fun k s' d' h'=>s'=s/\d'=ds/\h'=H,0,⟨rfl,rfl,rfl⟩,?_⟩;rintro k _ _ _ ⟨rfl,rfl,rfl⟩;refine dP (fun e' s d h hh=>?_) hA;obtain⟨rfl,h2⟩:=hh
     cases e' with
     |normal=>exact absurd rfl cF
     |_=>exact⟨rfl,h2⟩
    cases ae with
    |normal=>
     obtain⟨k,hk,Qz⟩:=q;obtain⟨ae2,s2,NS,H2,q2,J,j,hj,hJ⟩:=ihm k hk s1 oR H1 Qz;refine⟨ae2,s2,NS,H2,q2,fun x s' d' h'=>J x s' d' h'\/(x=j+1/\s'=s/\d'=ds/\h'=H),j+1,.inr ⟨rfl,rfl,rfl,rfl⟩,?_⟩;rintro x s' d' h' (hx|⟨rfl,rfl,rfl,rfl⟩)
     . refine dP (fun e s d h hh=>?_) (hJ x s' d' h' hx)
       cases e with
       |normal=>obtain⟨y,hy,hyy⟩:=hh;exact⟨y,hy,.inl hyy⟩
       |_=>exact hh
     refine dP (fun e s d h hh=>?_) hA;obtain⟨rfl,rfl|⟨_,x,hx⟩,rfl,rfl⟩:=hh
     . exact⟨j,Ea j,.inl hj⟩
     cases hx
    |exit i=>exact once _ (fun hh=>by cases hh) q hA
    |ret=>exact once _ (fun hh=>by cases hh) q hA
    |panic v=>exact once _ (fun hh=>by cases hh) q hA
  exact key m s ds H h0
 |exit id=>exact fun {s ds H Q} h=>⟨_,s,ds,H,h,rfl,.inl rfl,rfl,rfl⟩
 |ret=>exact fun {s ds H Q} h=>⟨_,s,ds,H,h,rfl,.inl rfl,rfl,rfl⟩
 |lK c ps a b oY qS=>
  intro s ds H Q h;obtain⟨fid,fs,cs,v,He,k',s',st,Hf,h1,h2,h3,h4,h5⟩:=h
  cases st with
  |ready=>exact⟨_,_,_,Hf,h5,fid,fs,cs,v,He,k',s',.ready,Hf,h1,h2,h3,h4,rfl,.inl rfl,rfl,rfl⟩
  |done e=>cases e<;>exact⟨_,_,_,Hf,h5,fid,fs,cs,v,He,k',s',.done _,Hf,h1,h2,h3,h4,rfl,.inl rfl,rfl,rfl⟩
  |busy=>exact h5.elim
  |over _=>exact h5.elim
theorem bL {mu:Bool} (hm:Fit P g) {f:FuncId} {F:wR} (hF:iM P g mu f F) {args:List AV} (ha:args.length<=F.ntmps) {H:aA} {R:Out->aA->Prop}
 (h:FC P g F.ntmps F.body (dW args) [] H (GX F.results R)) (hdt:F.body.dE=true:=by first|rfl|decide):∃out H',R out H'/\Sound P g f args H out H':=by
 obtain⟨ae,s,ds,H',q,hA⟩:=Oa hdt (Wz ha h);have fin:∀out,R out H'->AC P g F.body (nC F args) [] H (lp F fun o h=>o=out/\h=H')->∃out H',R out H'/\Sound P g f args H out H':=fun out hR hA=>⟨out,H',hR,On hm hF hA⟩
 cases ae with
 |exit id=>exact q.elim
 |panic v=>refine fin (.pA v) q.2 (dP (fun e s d h hh=>?_) hA);obtain⟨rfl,_,rfl,rfl⟩:=hh;exact⟨q.1,rfl,rfl⟩
 |normal=>
  obtain⟨h1,vs,h2,h3⟩:=q;refine fin _ h3 (dP (fun e s d h hh=>?_) hA);obtain⟨rfl,rfl|⟨_,x,hx⟩,rfl,rfl⟩:=hh
  . exact⟨h1,vs,h2,rfl,rfl⟩
  cases hx
 |ret=>
  obtain⟨h1,vs,h2,h3⟩:=q;refine fin _ h3 (dP (fun e s d h hh=>?_) hA);obtain⟨rfl,rfl|⟨_,x,hx⟩,rfl,rfl⟩:=hh
  . exact⟨h1,vs,h2,rfl,rfl⟩
  cases hx
end
end
section
theorem dB {a b:Prop} (h1:a->b) (h2:b->a):a=b:=propext ⟨h1,h2⟩
theorem aJ {r r':Option (AV×aA)} (h:r=r') (k:AV->aA->Prop):jV r k=jV r' k:=by rw[h]
theorem dI (v:AV) (H:aA) (k:AV->aA->Prop):jV (some (v,H)) k=k v H:=dB id id
section
variable {P:Program} {g:aT} {n:Nat} {r:List aN} {f:cQ} {ds:List eX} {H:aA} {Q:FQ}
theorem oG:bM P g n [] f ds H Q=Q .normal f ds H:=dB id id
theorem ND (d:Nat) (op:cZ) (hp:op.plain=true) (hd:d<n):
 bM P g n (⟨some d,op,none⟩::r) f ds H Q=jV (cD (jD g f) H op) fun v H'=>bM P g n r (iA f d v) ds H' Q:=by
 have :∀v,eF n f (some d) v=iA f d v:=fun v=>by simp[eF,hd]
 conv=>lhs;unfold bM
 simp only[eJ,if_true,this]
 cases op<;>first|rfl|cases hp
theorem XF (op:cZ) (hp:op.plain=true):
 bM P g n (⟨none,op,none⟩::r) f ds H Q=jV (cD (jD g f) H op) fun v H'=>bM P g n r f ds H' Q:=by
 conv=>lhs;unfold bM
 simp only[eJ,if_true,eF]
 cases op<;>first|rfl|cases hp
theorem AR (d:Nat) (x:Arg) (hd:d<n):bM P g n (⟨some d,(.CI x),none⟩::r) f ds H Q=jV (cD (jD g f) H (.CI x)) fun v H'=>bM P g n r (iA f d v) ds H' Q:=ND d _ rfl hd
theorem uV (d:Nat) (o:BinOp) (x y:Arg) (hd:d<n):bM P g n (⟨some d,(.bin o x y),none⟩::r) f ds H Q=jV (cD (jD g f) H (.bin o x y)) fun v H'=>bM P g n r (iA f d v) ds H' Q:=ND d _ rfl hd
theorem Un {d:Nat} {fid:FuncId} {azs:List Arg} {args:List AV} {v:AV} {H':aA} (hd:d<n) (ha:azs.map (jD g f)=args) (hS:Sound P g fid args H (.ret v) H')
 (h:bM P g n r (iA f d v) ds H' Q):bM P g n (⟨some d,.call (.const (.func (.func fid) [] [])) azs,none⟩::r) f ds H Q:=by
 have :∀v,eF n f (some d) v=iA f d v:=fun v=>by simp[eF,hd]
 unfold bM;simp only[eJ,if_true,this];exact⟨.ret v,H',.inl ⟨(fid,[],[]),rfl,by simpa [ha] using hS⟩,h⟩
theorem lF {d:Nat} {c:Arg} {fid:FuncId} {fs cs:List AV} {azs:List Arg} {args:List AV} {v:AV} {H':aA} (hd:d<n) (hc:jD g f c=.func (.func fid) fs cs) (ha:fs++azs.map (jD g f)++cs=args)
 (hS:Sound P g fid args H (.ret v) H') (h:bM P g n r (iA f d v) ds H' Q):bM P g n (⟨some d,.call c azs,none⟩::r) f ds H Q:=by
 have :∀v,eF n f (some d) v=iA f d v:=fun v=>by simp[eF,hd]
 unfold bM;simp only[eJ,if_true,this];exact⟨.ret v,H',.inl ⟨(fid,fs,cs),by rw[hc];rfl,by rw[ha];exact hS⟩,h⟩
theorem fA (t:Nat):jD g f (.tmp t)=f t:=by cases h:f t<;>exact h
theorem rY (v:AV):jD g f (.const v)=v:=by cases v<;>rfl
theorem DJ (rl:List aN):FC P g n (.ops rl) f ds H Q=bM P g n rl f ds H Q:=dB id id
theorem HI:FC P g n .skip f ds H Q=Q .normal f ds H:=dB id id
theorem ud:FC P g n .ret f ds H Q=Q .ret f ds H:=dB id id
theorem HH (id:Nat):FC P g n (.exit id) f ds H Q=Q (.exit id) f ds H:=dB (fun h=>h) (fun h=>h)
theorem aB {a b:bP} (h:∀K:cQ->List eX->aA->Prop,(∀f ds H,FC P g n b f ds H Q->K f ds H)->FC P g n a f ds H (gI K Q)):FC P g n (.seq a b) f ds H Q:=h _ fun _ _ _ h=>h
theorem aS {id:Nat} {a:bP} (h:FC P g n a f ds H (cW id Q)):FC P g n (.block id a) f ds H Q:=h
theorem TO {c:Arg} {a b:bP} (t:Bool) (hc:jD g f c=.bool t) (h1:t=true->FC P g n a f ds H Q) (h2:t=false->FC P g n b f ds H Q):FC P g n (.cond c a b) f ds H Q:=by
 refine⟨t,hc,?_⟩
 cases t with
 |true=>exact h1 rfl
 |false=>exact h2 rfl
theorem NC {a:bP} (I:Nat->cQ->List eX->aA->Prop) (m:Nat) (h0:I m f ds H) (h:∀m f ds H,I m f ds H->FC P g n a f ds H (gI (fun f ds H=>∃k,k<m/\I k f ds H) Q)):FC P g n (.loop a) f ds H Q:=⟨I,m,h0,h⟩
theorem fE (K:cQ->List eX->aA->Prop):gI K Q .normal f ds H=K f ds H:=dB id id
theorem We (K:cQ->List eX->aA->Prop):gI K Q .ret f ds H=Q .ret f ds H:=dB id id
theorem lO (K:cQ->List eX->aA->Prop) (i:Nat):gI K Q (.exit i) f ds H=Q (.exit i) f ds H:=dB id id
theorem GS (i:Nat):cW i Q .normal f ds H=Q .normal f ds H:=dB id id
theorem Nn (i:Nat):cW i Q .ret f ds H=Q .ret f ds H:=dB id id
theorem nZ (i:Nat):cW i Q (.exit i) f ds H=Q .normal f ds H:=by simp[cW]
theorem Jt (i j:Nat) (h:j≠i):cW i Q (.exit j) f ds H=Q (.exit j) f ds H:=by simp[cW,h]
end
class Pl (op:cZ):Prop where h:op.plain=true
instance (x:Arg):Pl (.CI x):=⟨rfl⟩
instance (c a b:Arg):Pl (.pick c a b):=⟨rfl⟩
instance (z:List AV):Pl (.alloc z):=⟨rfl⟩
instance (x:Arg):Pl (.box x):=⟨rfl⟩
instance (z:List AV) (ps:List (Nat×Nat×Arg)):Pl (.build z ps):=⟨rfl⟩
instance (sz:Nat) (xs:List Arg):Pl (.KK sz xs):=⟨rfl⟩
instance (agg:Bool) (m:Nat) (a:Arg):Pl (.load agg m a):=⟨rfl⟩
instance (m:Nat) (a x:Arg):Pl (.store m a x):=⟨rfl⟩
instance (x:Arg):Pl (.KM x):=⟨rfl⟩
instance (o:BinOp) (x y:Arg):Pl (.bin o x y):=⟨rfl⟩
instance (neg:Bool) (x y:Arg):Pl (.eqb neg x y):=⟨rfl⟩
instance (neg:Bool) (sh:List Sk) (x y:Arg):Pl (.eqf neg sh x y):=⟨rfl⟩
instance (neg:Bool) (k:Nk) (lit:Bool) (x y:Arg):Pl (.Xp neg k lit x y):=⟨rfl⟩
instance (o:UnOp) (x:Arg):Pl (.un o x):=⟨rfl⟩
instance (k:IntKind) (x:Arg):Pl (.JH k x):=⟨rfl⟩
instance (x:Arg):Pl (.wM x):=⟨rfl⟩
instance (x:Arg):Pl (.yA x):=⟨rfl⟩
instance (m:Nat) (x:Arg):Pl (.Sw m x):=⟨rfl⟩
instance (t:TypeId) (x:Arg):Pl (.SV t x):=⟨rfl⟩
instance (fn:Fn) (a b:List Arg):Pl (.SU fn a b):=⟨rfl⟩
instance:Pl (.uJ):=⟨rfl⟩
instance (sz bytes:Nat) (z:List AV) (l c:Arg):Pl (.gM sz bytes z l c):=⟨rfl⟩
instance (x:Arg) (lo hi:Option Arg):Pl (.Kn x lo hi):=⟨rfl⟩
instance (sz:Nat) (x:Arg) (lo hi mx:Option Arg):Pl (.Sx sz x lo hi mx):=⟨rfl⟩
instance (m sz:Nat) (x:Arg) (lo hi mx:Option Arg):Pl (.yJ m sz x lo hi mx):=⟨rfl⟩
instance (off:Nat) (x:Arg):Pl (.Ru off x):=⟨rfl⟩
instance (arr:Option Nat) (sz:Nat) (x i:Arg):Pl (.Nl arr sz x i):=⟨rfl⟩
instance (m sz:Nat) (agg:Bool) (x i:Arg):Pl (.idx m sz agg x i):=⟨rfl⟩
instance (x i:Arg):Pl (.idxs x i):=⟨rfl⟩
instance (t:TypeId) (ok:Bool) (z:AV) (x:Arg):Pl (.TE t ok z x):=⟨rfl⟩
instance (x:Arg) (i:Nat):Pl (.Rr x i):=⟨rfl⟩
instance (x:Arg):Pl (.lens x):=⟨rfl⟩
instance (x:Arg):Pl (.GU x):=⟨rfl⟩
instance (x y:Arg):Pl (.QA x y):=⟨rfl⟩
instance (x y:Arg):Pl (.QC x y):=⟨rfl⟩
instance (sz bytes:Nat) (mu:Bool) (x y:Arg):Pl (.append sz bytes mu x y):=⟨rfl⟩
instance (sz:Nat) (x y:Arg):Pl (.copy sz x y):=⟨rfl⟩
instance (k:Sk) (z:AV) (ok:Bool) (x i:Arg):Pl (.lookup k z ok x i):=⟨rfl⟩
instance (k:Sk) (m i v:Arg):Pl (.KH k m i v):=⟨rfl⟩
instance (sz:Nat) (z:List AV) (x:Arg):Pl (.zw sz z x):=⟨rfl⟩
theorem aJk (P:Program) (g:aT) (n:Nat):
 (∀(r:List aN) (f:cQ) (ds:List eX) (H:aA) (Q:FQ) (d:Nat) (op:cZ) [Pl op] (hd:d<n),bM P g n (⟨some d,op,none⟩::r) f ds H Q=jV (cD (jD g f) H op) fun v H'=>bM P g n r (iA f d v) ds H' Q)/\
 (∀(r:List aN) (f:cQ) (ds:List eX) (H:aA) (Q:FQ) (op:cZ) [Pl op],bM P g n (⟨none,op,none⟩::r) f ds H Q=jV (cD (jD g f) H op) fun v H'=>bM P g n r f ds H' Q)/\
 (∀(f:cQ) (ds:List eX) (H:aA) (Q:FQ),bM P g n [] f ds H Q=Q .normal f ds H)/\
 (∀(f:cQ) (ds:List eX) (H:aA) (Q:FQ) (rl:List aN),FC P g n (.ops rl) f ds H Q=bM P g n rl f ds H Q)/\
 (∀(f:cQ) (ds:List eX) (H:aA) (Q:FQ),FC P g n .skip f ds H Q=Q .normal f ds H)/\
 (∀(f:cQ) (ds:List eX) (H:aA) (Q:FQ),FC P g n .ret f ds H Q=Q .ret f ds H)/\
 (∀(f:cQ) (ds:List eX) (H:aA) (Q:FQ) (id:Nat),FC P g n (.exit id) f ds H Q=Q (.exit id) f ds H):=
 ⟨fun _ _ _ _ _ d op i hd=>ND d op i.h hd,fun _ _ _ _ _ op i=>XF op i.h,fun _ _ _ _=>oG,fun _ _ _ _ rl=>DJ rl,fun _ _ _ _=>HI,fun _ _ _ _=>ud,fun _ _ _ _ id=>HH id⟩
theorem Qi:
 (∀(v:AV) (H:aA) (k:AV->aA->Prop),jV (some (v,H)) k=k v H)/\
 (∀(g:aT) (f:cQ) (t:Nat),jD g f (.tmp t)=f t)/\
 (∀(g:aT) (f:cQ) (v:AV),jD g f (.const v)=v)/\
 (∀(f:cQ) (d:Nat) (v:AV),iA f d v d=v)/\
 (∀(f:cQ) (d t:Nat) (v:AV),t≠d->iA f d v t=f t)/\
 (∀(f:cQ) (ds:List eX) (H:aA) (Q:FQ) (K:cQ->List eX->aA->Prop),gI K Q .normal f ds H=K f ds H)/\
 (∀(f:cQ) (ds:List eX) (H:aA) (Q:FQ) (K:cQ->List eX->aA->Prop),gI K Q .ret f ds H=Q .ret f ds H)/\
 (∀(f:cQ) (ds:List eX) (H:aA) (Q:FQ) (K:cQ->List eX->aA->Prop) (i:Nat),gI K Q (.exit i) f ds H=Q (.exit i) f ds H)/\
 (∀(f:cQ) (ds:List eX) (H:aA) (Q:FQ) (i:Nat),cW i Q .normal f ds H=Q .normal f ds H)/\
 (∀(f:cQ) (ds:List eX) (H:aA) (Q:FQ) (i:Nat),cW i Q .ret f ds H=Q .ret f ds H)/\
 (∀(f:cQ) (ds:List eX) (H:aA) (Q:FQ) (i:Nat),cW i Q (.exit i) f ds H=Q .normal f ds H)/\
 (∀(f:cQ) (ds:List eX) (H:aA) (Q:FQ) (i j:Nat),j≠i->cW i Q (.exit j) f ds H=Q (.exit j) f ds H):=
 ⟨dI,
   (fun g f t=>fA t),
   (fun g f v=>rY v),
   oQ,
   (fun f d t v h=>lP f v h),
   (fun f ds H Q K=>fE K),
   (fun f ds H Q K=>We K),
   (fun f ds H Q K i=>lO K i),
   (fun f ds H Q i=>GS i),
   (fun f ds H Q i=>Nn i),
   (fun f ds H Q i=>nZ i),
   (fun f ds H Q i j h=>Jt i j h)⟩
end
def Own (H:aA) (sz:Nat) (v:AV) (els:List (List AV)):Prop:=
 (v=.aF/\els=[])\/∃k,v=.bH (k+2) sz els/\k<H.next/\H.get k=some .tok
def nD:AV->Option Nat
 |.bH (k+2) _ _=>some k
 |_=>none
structure Us (H H':aA) (v:AV):Prop where
 next:H.next<=H'.next
 get:∀id,nD v≠some id->id<H.next->H'.get id=H.get id
theorem Own.nil (H:aA) (sz:Nat):Own H sz .aF []:=.inl ⟨rfl,rfl⟩
theorem Own.bH {H:aA} {sz k:Nat} {els:List (List AV)} (hk:k<H.next) (h:H.get k=some .tok):Own H sz (.bH (k+2) sz els) els:=.inr ⟨k,rfl,hk,h⟩
theorem Own.fresh (H:aA) (sz:Nat) (els:List (List AV)):Own (H.alloc .tok) sz (.bH (H.next+2) sz els) els:=.bH (by simp) (by rw[aA.aG,if_pos rfl])
theorem Own.alloc {H:aA} {sz:Nat} {v:AV} {els:List (List AV)} (h:Own H sz v els) (o:dU):Own (H.alloc o) sz v els:=by
 rcases h with h|⟨k,h1,h2,h3⟩
 . exact .inl h
 exact .inr ⟨k,h1,by simp;omega,by rw[aA.aG,if_neg (by omega)];exact h3⟩
theorem Own.set {H:aA} {sz:Nat} {v:AV} {els:List (List AV)} (h:Own H sz v els) (id:Nat) (o:dU) (bZ:nD v≠some id):Own (H.set id o) sz v els:=by
 rcases h with h|⟨k,rfl,h2,h3⟩
 . exact .inl h
 refine .inr ⟨k,rfl,h2,?_⟩;rw[aA.aI,if_neg]
 . exact h3
 intro hh;exact bZ (by simp[nD,hh])
theorem Own.TG {H:aA} {sz:Nat} {v:AV} {els:List (List AV)} (h:Own H sz v els) {id:Nat} (ht:nD v=some id):id<H.next:=by
 rcases h with ⟨rfl,_⟩|⟨k,rfl,h2,h3⟩
 . cases ht
 simp only[nD,Ab] at ht;omega
theorem Own.append {H:aA} {sz bytes:Nat} {v:AV} {els ys:List (List AV)} (h:Own H sz v els) (hb:(els.length+ys.length)*bytes<=2^40):
 ∃v' H',cV H sz bytes false v ys=some (v',H')/\Own H' sz v' (els++ys)/\Us H H' v:=by
 by_cases hy:ys=[]
 . subst hy;refine⟨v,H,?_,by rw[Cf];exact h,Ai _,fun _ _ _=>rfl⟩
   rcases h with ⟨rfl,rfl⟩|⟨k,rfl,_,hk⟩<;>rfl
 have cF:ys.isEmpty=false:=by cases ys with
  |nil=>exact absurd rfl hy
  |cons _ _=>rfl
 rcases h with ⟨rfl,rfl⟩|⟨k,rfl,YO,hk⟩
 . refine⟨.bH (H.next+2) sz ys,H.alloc .tok,?_,.inr ⟨H.next,by simp,by simp,by simp[aA.aG]⟩,by simp,fun id _ bZ=>by rw[aA.aG,if_neg (by omega)]⟩;simp only[cV,cF,iK];simp only[Ar,Cc] at hb;simp[hb]
 refine⟨.bH (H.next+2) sz (els++ys),(H.set k .dead).alloc .tok,?_,.inr ⟨H.next,rfl,by simp,by simp[aA.aG]⟩,by simp,fun id h1 bZ=>?_⟩
 . simp only[cV,cF];simp[hb,hk]
 rw[aA.aG,if_neg (by simp;omega),aA.aI,if_neg];intro hh;exact h1 (by simp[nD,hh])
def aO (l:List Nat):List (List AV):=l.map fun(b:Nat)=>[AV.int .u8 b]
def bU (l:List Int):List (List AV):=l.map fun x=>[AV.int .i64 x]
theorem cK (a b:List Nat):aO (a++b)=aO a++aO b:=by simp[aO]
theorem bB (a:List Nat):(aO a).length=a.length:=by simp[aO]
theorem mW (a b:List Int):bU (a++b)=bU a++bU b:=by simp[bU]
theorem bQ (a:List Int):(bU a).length=a.length:=by simp[bU]
theorem bW:∀l,dS (aO l)=true
 |[]=>rfl
 |x::l=>by simp only[aO,Be,dS,bN,AV.free,Cx,Cu];exact bW l
theorem pM:∀l,dS (bU l)=true
 |[]=>rfl
 |x::l=>by simp only[bU,Be,dS,bN,AV.free,Cx,Cu];exact pM l
theorem fW {P:Program} {g:aT} (hg:uW g) {f:FuncId} {args:List AV} (ha:bN args=true) {sz:Nat} {els:List (List AV)} (cF:els≠[]) (hf:dS els=true)
 (h:∃out H',(∃v,out=.ret v/\Own H' sz v els)/\Sound P g f args ⟨0,.nil⟩ out H') (H:aA):Sound P g f args H (.ret (.bH (H.next+2) sz els)) (H.alloc .tok):=by
 obtain⟨out,H',⟨v,rfl,Nf⟩,hS⟩:=h
 rcases Nf with ⟨_,he⟩|⟨k,rfl,_,hk⟩
 . exact absurd he cF
 refine hS.frame hg ha (tk:=some k) (fun k' SD=>by cases SD;exact hk) (n:=0) H ?_;simp[Out.av,fG,hY,hf,OI]
theorem BL (H:aA) (id:Nat) (o:dU):(H.set id o).get id=some o:=by rw[aA.aI,if_pos rfl]
attribute [local congr] aJ
theorem wrap_i64 {x:Int} (h0: -2^63<=x) (h1:x<2^63):IntKind.i64.wrap x=x:=by simp only[IntKind.wrap,IntKind.bits,IntKind.signed];simp;split<;>omega
def rangeLoop (id cmp ix ln nx:Nat) (B:bP):bP:=
 .block id (.loop (.seq (.ops [⟨some cmp,.bin .lss (.tmp ix) (.tmp ln),none⟩]) (.seq (.cond (.tmp cmp) .skip (.exit id)) (.seq B
  (.ops [⟨some nx,.bin .add (.tmp ix) (.const (.int .i64 1)),none⟩,⟨some ix,.CI (.tmp nx),none⟩])))))
theorem IJ {P:Program} {g:aT} {n:Nat} {id cmp ix ln nx:Nat} {B:bP} {f:cQ} {ds:List eX} {H:aA} {Q:FQ} (J:Nat->cQ->aA->Prop) (N:Nat) (hN:(N:Int)<2^63)
 (hs:cmp<n/\ix<n/\nx<n/\cmp≠ix/\cmp≠ln/\nx≠ix/\nx≠ln/\ix≠ln)
 (h1:f ix=.int .i64 0) (h2:f ln=.int .i64 N) (h0:J 0 f H)
 (st:∀(i:Nat) (f:cQ) (H:aA) (d:Nat) (v:AV),d=cmp\/d=nx\/d=ix->J i f H->J i (iA f d v) H)
 (body:∀(i:Nat) (f:cQ) (H:aA),i<N->f ix=.int .i64 i->f ln=.int .i64 N->J i f H->
   FC P g n B f ds H (gI (fun f' eC H'=>eC=ds/\f' ix=.int .i64 i/\f' ln=.int .i64 N/\J (i+1) f' H') (cW id Q)))
 (done:∀(f:cQ) (H:aA),f ln=.int .i64 N->J N f H->Q .normal f ds H):FC P g n (rangeLoop id cmp ix ln nx B) f ds H Q:=by
 obtain⟨s1,s2,s3,s4,s5,s6,s7,s8⟩:=hs;refine aS (NC (fun m f' eC H'=>eC=ds/\∃i:Nat,i<=N/\m=N -i/\f' ix=.int .i64 i/\f' ln=.int .i64 N/\J i f' H') N ⟨rfl,0,Cs _,by omega,h1,h2,h0⟩ ?_);rintro m f1 oR H1 ⟨rfl,i,hi,rfl,e1,e2,e3⟩;refine aB fun K hK=>?_;rw[DJ,uV _ _ _ _ s1];simp only[cD,fA,e1,e2,jX,if_true,Bi,dI,oG,fE];apply hK;clear hK K;have st1:=st i f1 H1 cmp (.bool (decide ((i:Int)<N))) (.inl rfl) e3;refine aB fun K hK=>TO (decide ((i:Int)<N)) (by rw[fA,oQ]) (fun ht=>?_) (fun ht=>?_)
 . rw[HI,fE];apply hK;clear hK K;have eW:i<N:=by have :=Dq ht;omega
   refine aB fun K hK=>?_;have hb:=body i _ H1 eW (by rw[lP _ _ (Ne.symm s4)];exact e1) (by rw[lP _ _ (Ne.symm s5)];exact e2) st1;have mono:∀{c:bP} {f:cQ} {ds:List eX} {H:aA} {Q Q':FQ},(∀e f ds H,Q e f ds H->Q' e f ds H)->FC P g n c f ds H Q->FC P g n c f ds H Q':=fun {c f ds H Q Q'} hq h=>iX hq h;refine mono (fun e f2 NS H2 h=>?_) hb
   cases e with
   |normal=>
    obtain⟨rfl,b1,b2,b3⟩:=h;show K f2 NS H2;apply hK;rw[DJ,uV _ _ _ _ s3];have hw:IntKind.i64.wrap ((i:Int)+1)=((i+1:Nat):Int):=(by rw[wrap_i64 (by omega) (by omega)];rfl);simp only[cD,fA,rY,b1,jX,if_true,Bi,dI];rw[AR _ _ s2];simp only[cD,fA,dI,oG,fE,oQ,hw];refine⟨N -(i+1),by omega,trivial,i+1,by omega,rfl,rfl,?_,?_⟩
    . rw[lP _ _ (Ne.symm s8),lP _ _ (Ne.symm s7)];exact b2
    exact st _ _ _ _ _ (.inr (.inr rfl)) (st _ _ _ _ _ (.inr (.inl rfl)) b3)
   |_=>exact h
 rw[HH,lO,lO,nZ];have xB:i=N:=by have :=of_decide_eq_false ht;omega
 subst xB;exact done _ _ (by rw[lP _ _ (Ne.symm s5)];exact e2) st1
theorem Uz (ev:Arg->AV) (H:aA) (zero:List AV):cD ev H (.alloc zero)=some (.ref H.next 0,H.alloc (.cells zero false)):=rfl
def aOe:=And.intro Uz <| And.intro @cD.eq_1 <| And.intro @cD.eq_2 <| And.intro @cD.eq_4 <| And.intro @cD.eq_5 <| And.intro @cD.eq_6 <| And.intro @cD.eq_7 <| And.intro @cD.eq_8 <| And.intro @cD.eq_9 <| And.intro @cD.eq_10 <| And.intro @cD.eq_11 <| And.intro @cD.eq_12 <| And.intro @cD.eq_13 <| And.intro @cD.eq_14 <| And.intro @cD.eq_15 <| And.intro @cD.eq_16 <| And.intro @cD.eq_17 <| And.intro @cD.eq_18 <| And.intro @cD.eq_19 <| And.intro @cD.eq_20 <| And.intro @cD.eq_21 <| And.intro @cD.eq_22 <| And.intro @cD.eq_23 <| And.intro @cD.eq_24 <| And.intro @cD.eq_25 <| And.intro @cD.eq_26 <| And.intro @cD.eq_27 <| And.intro @cD.eq_28 <| And.intro @cD.eq_29 <| And.intro @cD.eq_30 <| And.intro @cD.eq_31 <| And.intro @cD.eq_32 <| And.intro @cD.eq_33 <| And.intro @cD.eq_34 <| And.intro @cD.eq_35 <| And.intro @cD.eq_36 <| And.intro @cD.eq_37 <| And.intro @cD.eq_38 <| And.intro @cD.eq_39 @cD.eq_40
def aOf:=And.intro @jX.eq_1 <| And.intro @jX.eq_2 <| And.intro @jX.eq_3 <| And.intro @jX.eq_4 <| And.intro @jX.eq_5 <| And.intro @jX.eq_6 <| And.intro @jX.eq_7 <| And.intro @jX.eq_8 <| And.intro @jX.eq_9 <| And.intro @jX.eq_10 <| And.intro @jX.eq_11 <| And.intro @jX.eq_12 <| And.intro @jX.eq_13 <| And.intro @jX.eq_14 <| And.intro @jX.eq_15 <| And.intro @jX.eq_16 @jX.eq_17
section
def rU (v:AV) (A B:Prop):Prop:=
 match v with
 |.bool true=>A
 |.bool false=>B
 |_=>False
def gS (v:AV) (b:Bool) (A B:Prop):Prop:=
 match v with
 |.bool c=>if c=b then A else B
 |_=>B
section
variable {P:Program} {g:aT} {n:Nat} {r:List aN} {f:cQ} {ds:List eX} {H:aA} {Q:FQ}
theorem Oh (c:Arg) (a b:bP):FC P g n (.cond c a b) f ds H Q=rU (jD g f c) (FC P g n a f ds H Q) (FC P g n b f ds H Q):=by
 refine dB (fun h=>?_) (fun h=>?_)
 . obtain⟨t,h1,h2⟩:=h;rw[h1]
   cases t with
   |true=>exact h2
   |false=>exact h2
 unfold rU at h;split at h
 . rename_i hv;exact⟨true,hv,h⟩
 . rename_i hv;exact⟨false,hv,h⟩
 exact h.elim
theorem yS (A B:Prop):rU (.bool true) A B=A:=dB id id
theorem vG (A B:Prop):rU (.bool false) A B=B:=dB id id
theorem wU (p:Prop) [Decidable p] (A B:Prop):rU (.bool (decide p)) A B=((p->A)/\(¬p->B)):=by
 by_cases hp:p
 . simp[hp,yS]
 simp[hp,vG]
theorem VG (b:Bool) (A B:Prop):rU (.bool (!b)) A B=rU (.bool b) B A:=by cases b<;>rfl
theorem aK {v v':AV} (h:v=v') (A B:Prop):rU v A B=rU v' A B:=by rw[h]
theorem ue (d x:Nat) (b:Bool) (op:cZ) (hd:d<n):
 bM P g n (⟨some d,op,some (x,b)⟩::r) f ds H Q=gS (f x) b (bM P g n (⟨some d,op,none⟩::r) f ds H Q) (bM P g n r (iA f d aC) ds H Q):=by
 have :∀v,eF n f (some d) v=iA f d v:=fun v=>by simp[eF,hd]
 conv=>lhs;unfold bM
 conv=>rhs;arg 3;unfold bM
 simp only[eJ,this,if_true];unfold gS
 cases h:f x with
 |bool c=>by_cases hc:c=b<;>simp[hc]
 |_=>simp
theorem Vg (A B:Prop):gS (.bool true) true A B=A:=dB id id
theorem Vd (A B:Prop):gS (.bool false) false A B=A:=dB id id
theorem Vf (A B:Prop):gS (.bool true) false A B=B:=dB id id
theorem Ve (A B:Prop):gS (.bool false) true A B=B:=dB id id
theorem aH {v v':AV} (h:v=v') (b:Bool) (A B:Prop):gS v b A B=gS v' b A B:=by rw[h]
theorem br (a b:bP):FC P g n (.seq a b) f ds H Q=FC P g n a f ds H (gI (fun f ds H=>FC P g n b f ds H Q) Q):=dB id id
theorem aU {c:bP} {f':cQ} (h:f=f'):FC P g n c f ds H Q=FC P g n c f' ds H Q:=by rw[h]
theorem aM {f':cQ} (h:f=f'):bM P g n r f ds H Q=bM P g n r f' ds H Q:=by rw[h]
theorem aL {K:cQ->List eX->aA->Prop} {e:Uf} {f':cQ} (h:f=f'):gI K Q e f ds H=gI K Q e f' ds H:=by rw[h]
theorem aD {id:Nat} {e:Uf} {f':cQ} (h:f=f'):cW id Q e f ds H=cW id Q e f' ds H:=by rw[h]
end
theorem Zf:
 (∀(P:Program) (g:aT) (n:Nat) (f:cQ) (ds:List eX) (H:aA) (Q:FQ) (c:Arg) (a b:bP),FC P g n (.cond c a b) f ds H Q=rU (jD g f c) (FC P g n a f ds H Q) (FC P g n b f ds H Q))/\
 (∀(A B:Prop),rU (.bool true) A B=A)/\
 (∀(A B:Prop),rU (.bool false) A B=B)/\
 (∀(P:Program) (g:aT) (n:Nat) (r:List aN) (f:cQ) (ds:List eX) (H:aA) (Q:FQ) (d x:Nat) (b:Bool) (op:cZ) (hd:d<n),
   bM P g n (⟨some d,op,some (x,b)⟩::r) f ds H Q=gS (f x) b (bM P g n (⟨some d,op,none⟩::r) f ds H Q) (bM P g n r (iA f d aC) ds H Q))/\
 (∀(A B:Prop),gS (.bool true) true A B=A)/\
 (∀(A B:Prop),gS (.bool false) false A B=A)/\
 (∀(A B:Prop),gS (.bool true) false A B=B)/\
 (∀(A B:Prop),gS (.bool false) true A B=B)/\
 (∀(P:Program) (g:aT) (n:Nat) (f:cQ) (ds:List eX) (H:aA) (Q:FQ) (a b:bP),FC P g n (.seq a b) f ds H Q=FC P g n a f ds H (gI (fun f ds H=>FC P g n b f ds H Q) Q)):=
 ⟨fun _ _ _ _ _ _ _ c a b=>Oh c a b,yS,vG,fun _ _ _ _ _ _ _ _ d x b op hd=>ue d x b op hd,Vg,Vd,Vf,Ve,fun _ _ _ _ _ _ _ a b=>br a b⟩
def fm (id c:Nat) (ts:bP) (B:bP) (st:bP):bP:=
 .block id (.loop (.seq (.seq ts (.cond (.tmp c) .skip (.exit id))) (.seq B st)))
theorem uc {P:Program} {g:aT} {n:Nat} {id c:Nat} {ts B st:bP} {f:cQ} {ds:List eX} {H:aA} {Q:FQ} (J:Nat->cQ->aA->Prop) (N:Nat)
 (h0:J 0 f H)
 (test:∀(i:Nat) (f:cQ) (H:aA),i<=N->J i f H->∀(K:cQ->Prop),(∀f',f' c=.bool (decide (i<N))->J i f' H->K f')->∀Q':FQ,FC P g n ts f ds H (gI (fun f' eC H'=>eC=ds/\H'=H/\K f') Q'))
 (body:∀(i:Nat) (f:cQ) (H:aA),i<N->J i f H->
   FC P g n B f ds H (gI (fun f' eC H'=>eC=ds/\FC P g n st f' ds H' (gI (fun f' eC H'=>eC=ds/\J (i+1) f' H') (cW id Q))) (cW id Q)))
 (done:∀(f:cQ) (H:aA),J N f H->Q .normal f ds H):FC P g n (fm id c ts B st) f ds H Q:=by
 have mono:∀{c:bP} {f:cQ} {ds:List eX} {H:aA} {Q Q':FQ},(∀e f ds H,Q e f ds H->Q' e f ds H)->FC P g n c f ds H Q->FC P g n c f ds H Q':=fun {c f ds H Q Q'} hq h=>iX hq h;refine aS (NC (fun m f' eC H'=>eC=ds/\∃i:Nat,i<=N/\m=N -i/\J i f' H') N ⟨rfl,0,Cs _,by omega,h0⟩ ?_);rintro m f1 oR H1 ⟨rfl,i,hi,rfl,e3⟩;refine aB fun K hK=>?_;refine aB fun K2 bO=>?_;refine mono (fun e f2 NS H2 h=>?_) (test i f1 H1 hi e3 (fun f'=>K2 f' oR H1) (fun f' h1 h2=>?_) (gI K (cW id Q) |> fun Z=>Z))
 . cases e with
   |normal=>obtain⟨rfl,rfl,h⟩:=h;exact h
   |_=>exact h
 apply bO;rw[Oh,fA,h1];by_cases eW:i<N
 . rw[Bk eW,yS,HI,fE];apply hK;refine aB fun K3 HP=>?_;refine mono (fun e f2 NS H2 h=>?_) (body i f' H1 eW h2)
   cases e with
   |normal=>
    obtain⟨rfl,h⟩:=h;show K3 f2 NS H2;apply HP;refine mono (fun e f3 ds3 H3 hh=>?_) h
    cases e with
    |normal=>obtain⟨h5,h6⟩:=hh;exact⟨N -(i+1),by omega,h5,i+1,by omega,rfl,h6⟩
    |_=>exact hh
   |_=>exact h
 rw[As eW,vG,HH,lO,lO,nZ];obtain rfl:i=N:=by omega
 exact done f' H1 h2
theorem VR.Wb {G:Gh} {w:World} {tag sz:Nat} {els:List (List AV)} {u:Value} (h:VR G w (.bH tag sz els) u):VR G w (.bH 0 sz els) u:=by
 cases h with
 |bH _ _ _ b o cap us hu h hv ht=>exact .bH 0 sz els b o cap us hu h hv ⟨ht.1,trivial⟩
 |rE _ _ b o s ht=>exact .rE _ _ b o s (by omega)
theorem Sound.Wb {P:Program} {g:aT} {f:FuncId} {sz:Nat} {els:List (List AV)} {rest:List AV} {H H':aA} {out:Out} (h:Sound P g f (.bH 0 sz els::rest) H out H') (tag:Nat):
 Sound P g f (.bH tag sz els::rest) H out H':=by
 refine⟨h.1,fun G w vs hw hv=>h.2 G w vs hw ⟨hv.1,fun j hj=>?_⟩⟩;have :=hv.2 j hj
 cases j with
 |zero=>exact VR.Wb this
 |succ j=>exact this
def jW (H:aA) (sz:Nat) (v:AV) (els:List (List AV)):Prop:=Own H sz v els/\(els=[]->v=.aF)
theorem jW.nil (H:aA) (sz:Nat):jW H sz .aF []:=⟨.nil H sz,fun _=>rfl⟩
theorem jW.alloc {H:aA} {sz:Nat} {v:AV} {els:List (List AV)} (h:jW H sz v els) (o:dU):jW (H.alloc o) sz v els:=⟨h.1.alloc o,h.2⟩
theorem jW.append {H:aA} {sz bytes:Nat} {v:AV} {els:List (List AV)} {e:List AV} (h:jW H sz v els) (hb:(els.length+1)*bytes<=2^40):
 ∃v' H',cV H sz bytes false v [e]=some (v',H')/\jW H' sz v' (els++[e])/\Us H H' v:=by
 obtain⟨v',H',h1,h2,h3⟩:=h.1.append (bytes:=bytes) (ys:=[e]) (by simpa using hb);exact⟨v',H',h1,⟨h2,fun he=>by simp at he⟩,h3⟩
def Nv (H:aA) (sz:Nat) (els:List (List AV)):AV:=if els=[] then .aF else .bH (H.next+2) sz els
def KX (H:aA) (els:List (List AV)):aA:=if els=[] then H else H.alloc .tok
theorem jW.out (H:aA) (sz:Nat) (els:List (List AV)):jW (KX H els) sz (Nv H sz els) els:=by
 unfold KX Nv;by_cases h:els=[]
 . subst h;exact jW.nil _ _
 rw[if_neg h,if_neg h];exact⟨Own.fresh _ _ _,fun he=>absurd he h⟩
theorem MW {k:AV->Option AV}:∀{l:List AV},(∀x∈l,k x=some x)->uQ k l=some l
 |[],_=>rfl
 |x::l,h=>by simp only[uQ];rw[h x Aq,MW fun y hy=>h y (Ao _ hy)]
theorem RQ {P:Program} {g:aT} (hg:uW g) {f:FuncId} {args:List AV} (ha:bN args=true) {sz:Nat} {els:List (List AV)} {rest:List AV} (hr:∀x∈rest,∃k n,x=.int k n) (hf:dS els=true)
 (h:∃out H',(∃v,out=.ret (.eZ (v::rest))/\jW H' sz v els)/\Sound P g f args ⟨0,.nil⟩ out H') (H:aA):Sound P g f args H (.ret (.eZ (Nv H sz els::rest))) (KX H els):=by
 obtain⟨out,H',⟨v,rfl,Nf,Jq⟩,hS⟩:=h
 have Pj:∀(tk:Option Nat) (nw:Nat),uQ (fG H' tk nw 0) rest=some rest:=fun tk nw=>MW fun x hx=>by obtain⟨k,n,rfl⟩:=hr x hx;rfl
 by_cases he:els=[]
 . have :=Jq he;subst this;subst he;have e1:fG H' none H.next 0 .aF=some .aF:=rfl
   have :=hS.frame hg ha (tk:=none) (fun k' SD=>by cases SD) (n:=1) H (v':=.eZ (.aF::rest)) (by
    show(uQ (fG H' none H.next 0) (.aF::rest)).map AV.eZ=_
    simp only[uQ,e1,Pj,Bi])
   simpa [Nv,KX,Out.with,mN] using this
 rcases Nf with ⟨rfl,sG⟩|⟨k,rfl,_,hk⟩
 . exact absurd sG he
 have e1:fG H' (some k) H.next 0 (.bH (k+2) sz els)=some (.bH (H.next+2) sz els):=by simp[fG,hY,hf,OI]
 have :=hS.frame hg ha (tk:=some k) (fun k' SD=>by cases SD;exact hk) (n:=1) H (v':=.eZ (.bH (H.next+2) sz els::rest)) (by
  show(uQ (fG H' (some k) H.next 0) (.bH (k+2) sz els::rest)).map AV.eZ=_
  simp only[uQ,e1,Pj,Bi])
 simpa [Nv,KX,he,Out.with,mN] using this
theorem Km (tag sz:Nat) {els:List (List AV)} {a:Nat} (ha:a<=els.length):∃Wa,(tag<2->Wa<2)/\lN sz (.bH tag sz els) (some a) none none=some (.bH Wa sz (els.drop a)):=by
 simp only[lN,Bb,Dd];rw[if_pos ⟨trivial,ha,Ai _⟩];by_cases h:a<els.length\/tag<2
 . rw[if_pos ⟨trivial,h⟩];exact⟨tag,id,rfl⟩
 rw[if_neg (by simp[h])];refine⟨0,fun _=>by omega,?_⟩;rw[Bl (by simp)]
theorem aOh:
 (∀{α:Type} (a b:α),(a≠b)=¬(a=b))/\((¬False)=True)/\(∀{α:Type} {_:Decidable True} (a b:α),(if True then a else b)=a)/\((false=true)=False)/\
 (∀{α:Type} {_:Decidable False} (a b:α),(if False then a else b)=b)/\(∀{α β:Type} (f:α->β) (a:α),Option.map f (some a)=some (f a))/\(∀{α:Type} (a:α) (l:List α),(a::l).length=l.length+1)/\
 (∀{α:Type},([]:List α).length=0)/\(∀n:Nat,0+n=n)/\(∀{α:Type} (a d:α) (l:List α),(a::l).getD 0 d=a)/\(∀{α:Type} (a d:α) (l:List α) (n:Nat),(a::l).getD (n+1) d=l.getD n d)/\
 (∀p:Prop,(p/\p)=p)/\(∀n:Nat,(n<=n)=True)/\(∀(p:Prop) [Decidable p] (A B:Prop),rU (.bool (decide p)) A B=((p->A)/\(¬p->B))):=
 ⟨fun a b=>ne_eq a b,Ia,fun a b=>if_true a b,Ay,fun a b=>Bu a b,fun f a=>rfl,fun a l=>rfl,rfl,Cc,fun _ _ _=>rfl,fun _ _ _ _=>rfl,and_self,fun n=>eq_true (Ai n),fun p _ A B=>wU p A B⟩
def sy:=And.intro Qi (And.intro Zf (And.intro aOe (And.intro aOf aOh)))
theorem sn:(∀n:Nat,n*1=n)/\(∀n:Nat,1*n=n)/\(∀n:Nat,0*n=0)/\(∀n:Nat,n -0=n)/\(∀n:Nat,n+0=n)/\(∀n:Nat,0+n=n):=
 ⟨Dk,Fv,Hr,Gq,Cp,Cc⟩
theorem sh:(∀n m:Nat,aA.get ⟨n,.nil⟩ m=none)/\(∀(H:aA) (o:dU) (i:Nat),(H.alloc o).get i=if i=H.next then some o else H.get i)/\(∀(H:aA) (j:Nat) (o:dU) (i:Nat),(H.set j o).get i=if i=j then some o else H.get i)/\
 (∀(H:aA) (o:dU),(H.alloc o).next=H.next+1)/\(∀(H:aA) (j:Nat) (o:dU),(H.set j o).next=H.next)/\(∀n:Nat,0+n=n)/\
 (∀{α:Type} {_:Decidable True} (a b:α),(if True then a else b)=a)/\(∀{α:Type} {_:Decidable False} (a b:α),(if False then a else b)=b):=
 ⟨fun _ _=>rfl,fun _ _ _=>aA.aG ..,fun _ _ _ _=>aA.aI ..,fun _ _=>aA.aR ..,fun _ _ _=>aA.bD ..,Cc,fun a b=>if_true a b,fun a b=>Bu a b⟩
theorem sl:
 (∀{α:Type} (a:α) (l:List α) (n:Nat),(a::l).take (n+1)=a::l.take n)/\(∀{α:Type} (a:α) (l:List α) (n:Nat),(a::l).drop (n+1)=l.drop n)/\(∀{α:Type} (l:List α),l.take 0=[])/\(∀{α:Type} (l:List α),l.drop 0=l)/\
 (∀{α:Type} (n:Nat),([]:List α).take n=[])/\(∀{α:Type} (n:Nat),([]:List α).drop n=[])/\(∀{α:Type} (a:α) (l m:List α),a::l++m=a::(l++m))/\(∀{α:Type} (l:List α),[]++l=l)/\(∀{α:Type} (l:List α),l++[]=l)/\
 (∀{α β:Type} (f:α->β) (a:α) (l:List α),(a::l).map f=f a::l.map f)/\(∀{α β:Type} (f:α->β),[].map f=[])/\(∀{α:Type} (a d:α) (l:List α),(a::l).getD 0 d=a)/\
 (∀{α:Type} (a d:α) (l:List α) (n:Nat),(a::l).getD (n+1) d=l.getD n d)/\(∀{α:Type} (a b:α) (l:List α),(a::l).set 0 b=b::l)/\(∀{α:Type} (a b:α) (l:List α) (n:Nat),(a::l).set (n+1) b=a::l.set n b):=
 ⟨fun _ _ _=>rfl,fun _ _ _=>rfl,fun l=>Ew,fun _=>rfl,fun n=>List.take_nil,fun n=>Jg,fun _ _ _=>rfl,fun _=>rfl,fun l=>Cf l,fun _ _ _=>rfl,fun _=>rfl,fun _ _ _=>rfl,fun _ _ _ _=>rfl,fun _ _ _=>rfl,fun _ _ _ _=>rfl⟩
theorem sm:(∀{α β:Type} (f:α->β) (a:α) (l:List α),(a::l).map f=f a::l.map f)/\(∀{α β:Type} (f:α->β),[].map f=[])/\(∀{α:Type} (a b:α),(a≠b)=¬(a=b))/\((¬False)=True)/\
 (∀{α:Type} (a d:α) (l:List α),(a::l).getD 0 d=a)/\(∀{α:Type} (a d:α) (l:List α) (n:Nat),(a::l).getD (n+1) d=l.getD n d):=
 ⟨fun _ _ _=>rfl,fun _=>rfl,fun a b=>ne_eq a b,Ia,fun _ _ _=>rfl,fun _ _ _ _=>rfl⟩
end
end Go.Av
