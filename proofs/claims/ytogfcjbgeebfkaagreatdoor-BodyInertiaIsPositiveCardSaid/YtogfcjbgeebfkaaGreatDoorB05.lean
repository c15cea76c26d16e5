/-
  Part of the proof of statement 13
-/
import Derived.Test.YtogfcjbgeebfkaaGreatDoorB04
import Derived.Recover
set_option linter.unusedVariables false
set_option linter.unusedSimpArgs false
set_option linter.unusedSectionVars false
set_option linter.defProp false
namespace Go.Av
open Go
section
inductive VT where
 |nil
 |node (v:AV) (l r:VT)
def VT.get:VT->Nat->AV
 |.nil,_=>aC
 |.node v l r,n=>match n with
  |0=>v
  |m+1=>match Nat.beq (Nat.mod m 2) 0 with
   |true=>l.get (Nat.div m 2)
   |false=>r.get (Nat.div m 2)
def VT.root:VT->AV
 |.nil=>aC
 |.node v _ _=>v
def VT.left:VT->VT
 |.nil=>.nil
 |.node _ l _=>l
def VT.right:VT->VT
 |.nil=>.nil
 |.node _ _ r=>r
def VT.JO:Nat->VT->Nat->AV->VT
 |0,t,_,v=>.node v t.left t.right
 |f+1,t,n,v=>match n with
  |0=>.node v t.left t.right
  |m+1=>match Nat.beq (Nat.mod m 2) 0 with
   |true=>.node t.root (VT.JO f t.left (Nat.div m 2) v) t.right
   |false=>.node t.root t.left (VT.JO f t.right (Nat.div m 2) v)
theorem VT.XU(t:VT):t.get 0=t.root:=by cases t<;>rfl
theorem VT.KY(t:VT)(m:Nat):t.get (m+1)=if Nat.beq (Nat.mod m 2) 0=true then t.left.get (Nat.div m 2) else t.right.get (Nat.div m 2):=by
 cases t with
 |nil=>simp[VT.get,VT.left,VT.right]
 |node v l r=>grind[VT.get,VT.left,VT.right]
theorem XZ{m k:Nat}(O:Nat.beq (Nat.mod m 2) 0=Nat.beq (Nat.mod k 2) 0)(Z:Nat.div m 2=Nat.div k 2):m=k:=by
 have a1:m%2=Nat.mod m 2:=rfl;have y:k%2=Nat.mod k 2:=rfl;have Q:m / 2=Nat.div m 2:=rfl;have i:k / 2=Nat.div k 2:=rfl
 have h4:m%2=0↔k%2=0:=by
  constructor
  . intro h;simp_all
  intro h;simp_all
 omega
theorem VT.KX:∀(f:Nat) (t:VT) (n:Nat) (v:AV) (m:Nat),n<=f->(VT.JO f t n v).get m=if m=n then v else t.get m:=by
 intro f
 induction f with
 |zero=>
  intro t n v m A;obtain rfl:n=0:=by omega
  cases m with
  |zero=>rfl
  |succ m=>simp[VT.JO,VT.KY,VT.left,VT.right]
 |succ f K=>
  intro t n v m A
  cases n with
  |zero=>
   cases m with
   |zero=>rfl
   |succ m=>simp[VT.JO,VT.KY,VT.left,VT.right]
  |succ n=>
   have hd:Nat.div n 2<=f:=Aw (Fq n 2) A0
   cases X:Nat.beq (Nat.mod n 2) 0 with
   |true=>
    simp only[VT.JO,X]
    cases m with
    |zero=>simp[VT.XU,VT.root]
    |succ m=>grind[VT.KY,VT.left,VT.right,XZ]
   |false=>
    simp only[VT.JO,X]
    cases m with
    |zero=>simp[VT.XU,VT.root]
    |succ m=>grind[VT.KY,VT.left,VT.right,XZ]
def VT.set(t:VT)(n:Nat)(v:AV):VT:=VT.JO n t n v
theorem VT.aD(t:VT)(n:Nat)(v:AV)(m:Nat):(t.set n v).get m=if m=n then v else t.get m:=VT.KX n t n v m (Ad _)
def PD(n:Nat)(T:VT):List AV:=(List.range n).map T.get
def OG(n:Nat)(T:VT):Prop:=∀t,n<=t->T.get t=aC
def zS(n:Nat)(T:VT)(A:Option Nat)(v:AV):VT:=
 match A with
 |none=>T
 |some d=>match Nat.blt d n with
  |true=>T.set d v
  |false=>T
variable{T:VT}
theorem OG.put{n:Nat}(h:OG n T)(A:Option Nat)(v:AV):OG n (zS n T A v):=by
 unfold zS;split
 . omega
 rename_i d
 cases X:Nat.blt d n with
 |true=>
  intro t W;rw[VT.aD,if_neg]
  . exact h t W
  grind[Nat.blt_eq]
 |false=>omega
theorem RR{n:Nat}(h:OG n T)(t:Nat):(PD n T).getD t aC=T.get t:=by
 unfold PD;by_cases W:t<n
 . grind
 rw[h t A0]
 grind
theorem sJ{n:Nat}(A:Option Nat)(v:AV):PD n (zS n T A v)=oM (PD n T) A v:=by
 unfold zS oM
 cases A with
 |none=>rfl
 |some d=>
  unfold PD;apply Gd
  cases a:Nat.blt d n with
  |true=>grind[VT.aD]
  |false=>
   have hd:¬d<n:=by
    intro X;have :Nat.blt d n=true:=by grind[Nat.blt_eq]
    grind
   grind
def BH(n:Nat):List AV->Nat->VT->VT
 |[],_,T=>T
 |v::vs,i,T=>BH n vs (i+1) (zS n T (some i) v)
def ZE(g:bL)(T:VT):Arg->AV
 |.tmp t=>T.get t
 |.const v=>v
 |.jE n=>match g n with
  |some cs=>.pl cs
  |none=>aC
theorem IQ{n:Nat}(h:OG n T)(g:bL):ZE g T=Arg.eval g (PD n T):=by
 funext x
 cases x with
 |tmp t=>exact(RR h t).symm
 |const v=>rfl
 |jE n=>rfl
def PF(T:VT)(o:bH):Bool:=
 match o.guard with
 |none=>true
 |some (d,b)=>match T.get d with
  |.bool c=>c==b
  |_=>false
theorem RV{n:Nat}(h:OG n T)(o:bH):PF T o=bW (PD n T) o:=by grind[PF,bW,RR]
mutual
def AV.same:AV->AV->Bool
 |.bool a,.bool b=>a==b
 |.int j a,.int k b=>decide (j=k)&&decide (a=b)
 |.str a,.str b=>a==b
 |.Li,.Li=>true
 |.ref i o,.ref j p=>i==j&&o==p
 |.pl a,.pl b=>sV a b
 |.bG,.bG=>true
 |.bK t s e,.bK t' s' e'=>t==t'&&s==s'&&NI e e'
 |.sl a b c d e,.sl a' b' c' d' e'=>a==a'&&b==b'&&c==c'&&d==d'&&e==e'
 |.func f a b,.func f' a' b'=>decide (f=f')&&sV a a'&&sV b b'
 |.BU,.BU=>true
 |.iface t v,.iface t' v'=>decide (t=t')&&v.same v'
 |.pY,.pY=>true
 |.agg a,.agg b=>sV a b
 |.iV a,.iV b=>sV a b
 |.map i,.map j=>i==j
 |.rV,.rV=>true
 |_,_=>false
def sV:List AV->List AV->Bool
 |[],[]=>true
 |x::r,y::s=>x.same y&&sV r s
 |_,_=>false
def NI:List (List AV)->List (List AV)->Bool
 |[],[]=>true
 |x::r,y::s=>sV x y&&NI r s
 |_,_=>false
end
mutual
theorem AV.Vo:∀(a b:AV),a.same b=true->a=b:=by
 intro a b h
 cases a<;>cases b<;>simp only[AV.same,Ak,Dr,Bs] at h<;>first
  |rfl
  |(cases h;done)
  |(subst h;rfl)
  |(obtain⟨O,Z⟩:=h;subst O;subst Z;rfl)
  |(obtain⟨⟨⟨⟨O,Z⟩,B⟩,h4⟩,M⟩:=h;subst O;subst Z;subst B;subst h4;subst M;rfl)
  |(rw[sW _ _ h];done)
  |(obtain⟨O,Z⟩:=h;subst O;rw[AV.Vo _ _ Z];done)
  |(obtain⟨⟨O,Z⟩,B⟩:=h;subst O;subst Z;rw[Tl _ _ B];done)
  |(obtain⟨⟨O,Z⟩,B⟩:=h;subst O;rw[sW _ _ Z,sW _ _ B];done)
theorem sW:∀(a b:List AV),sV a b=true->a=b:=by
 intro a b h
 cases a with
 |nil=>cases b with
  |nil=>rfl
  |cons y s=>simp[sV] at h
 |cons x r=>cases b with
  |nil=>simp[sV] at h
  |cons y s=>simp only[sV,Ak] at h;rw[AV.Vo _ _ h.1,sW _ _ h.2]
theorem Tl:∀(a b:List (List AV)),NI a b=true->a=b:=by
 intro a b h
 cases a with
 |nil=>cases b with
  |nil=>rfl
  |cons y s=>simp[NI] at h
 |cons x r=>cases b with
  |nil=>simp[NI] at h
  |cons y s=>simp only[NI,Ak] at h;rw[sW _ _ h.1,Tl _ _ h.2]
end
def Oy:Option eS->Option eS->Bool
 |none,none=>true
 |some (.cells a o),some (.cells b p)=>sV a b&&o==p
 |some .tok,some .tok=>true
 |some .dead,some .dead=>true
 |some (.map a),some (.map b)=>sV (a.map (·.1)) (b.map (·.1))&&sV (a.map (·.2)) (b.map (·.2))
 |_,_=>false
theorem zh{a b:List (AV×AV)}(O:a.map (·.1)=b.map (·.1))(Z:a.map (·.2)=b.map (·.2)):a=b:=by
 induction a generalizing b with
 |nil=>simp_all
 |cons x r K=>cases b with
  |nil=>grind
  |cons y s=>grind
theorem RF{a b:Option eS}(h:Oy a b=true):a=b:=by
 unfold Oy at h
 grind[sW,zh]
abbrev GL:=AV->List AV->aB->Option (Out×aB)
abbrev Res:=su×VT×List gW×aB
def NZ(cf:GL)(g:bL)(n:Nat):List bH->VT->List gW->aB->Option Res
 |[],T,ds,H=>some (.normal,T,ds,H)
 |o::r,T,ds,H=>
  match PF T o with
  |true=>match o.op with
   |.call f azs=>match cf (ZE g T f) (azs.map (ZE g T)) H with
    |some (.ret v,H')=>NZ cf g n r (zS n T o.dst v) ds H'
    |some (.Lo v,H')=>some (.panic v,T,ds,H')
    |none=>none
   |.panic x=>match ZE g T x with
    |.iface t v=>some (.panic (.iface t v),T,ds,H)
    |_=>none
   |.mY f azs=>match nB (ZE g T f) with
    |some p=>NZ cf g n r (zS n T o.dst aC) (.call p.1 (p.2.1++azs.map (ZE g T)++p.2.2)::ds) H
    |none=>none
   |op=>match dU (ZE g T) H op with
    |some (v,H')=>NZ cf g n r (zS n T o.dst v) ds H'
    |none=>none
  |false=>NZ cf g n r (zS n T o.dst aC) ds H
def exQ(cf:GL)(g:bL)(T:VT)(H:aB):eN->Option (AV×aB)
 |.call f azs=>match nB (ZE g T f) with
  |some _=>match cf (ZE g T f) (azs.map (ZE g T)) H with
   |some (.ret v,H')=>some (v,H')
   |_=>none
  |none=>none
 |.panic _|.mY _ _=>none
 |op=>dU (ZE g T) H op
def cu(pairs:List (Nat×Nat))(i id:Nat)(t:List (Nat×aB×aB)):Bool:=
 t.all fun x=> !pairs.contains (i,x.1)||Oy (x.2.1.get id) (x.2.2.get id)
def Uk(cf:GL)(g:bL)(n:Nat)(pairs:List (Nat×Nat))(base:Nat):Nat->Nat->List bH->List (Nat×Nat)->List (Nat×aB×aB)->VT->aB->Option (VT×aB)
 |_,_,[],_,_,T,H=>some (T,H)
 |i,k,r::rs,rd,ef,T,H=>
  match PF T r with
  |true=>match r.op.fresh with
   |true=>match BX (ZE g T) r.op with
    |some (ob,val)=>match cu pairs i (base+k) ef with
     |true=>Uk cf g n pairs base (i+1) (k+1) rs ((i,base+k)::rd) ef (zS n T r.dst (val (base+k))) (H.set (base+k) ob)
     |false=>none
    |none=>none
   |false=>match r.op.rF with
    |true=>match exQ cf g T H r.op with
     |some (v,H')=>match Nat.ble H.next H'.next&&rd.all fun x=> !pairs.contains (x.1,i)||Oy (H.get x.2) (H'.get x.2) with
      |true=>Uk cf g n pairs base (i+1) k rs rd ((i,H,H')::ef) (zS n T r.dst v) H'
      |false=>none
     |none=>none
    |false=>match exQ cf g T H r.op with
     |some (v,_)=>match r.op.dP (ZE g T) with
      |some id=>match cu pairs i id ef with
       |true=>Uk cf g n pairs base (i+1) k rs ((i,id)::rd) ef (zS n T r.dst v) H
       |false=>none
      |none=>Uk cf g n pairs base (i+1) k rs rd ef (zS n T r.dst v) H
     |none=>none
  |false=>Uk cf g n pairs base (i+1) (match r.op.fresh with|true=>k+1|false=>k) rs rd ef (zS n T r.dst aC) H
def TX(f:VT->List gW->aB->Option Res):Nat->VT->List gW->aB->Option Res
 |0,_,_,_=>none
 |m+1,T,ds,H=>match f T ds H with
  |some (.normal,T',gC,H')=>TX f m T' gC H'
  |r=>r
def Ss(cf:GL)(g:bL)(n fuel:Nat):bX->VT->List gW->aB->Option Res
 |.skip,T,ds,H=>some (.normal,T,ds,H)
 |.ops rl,T,ds,H=>NZ cf g n rl T ds H
 |.draw rl pairs,T,ds,H=>match oJ H (rl.countP (·.op.fresh)) with
  |true=>match Uk cf g n pairs H.next 0 0 rl [] [] T {H with next:=H.next+rl.countP (·.op.fresh)} with
   |some (T',H')=>some (.normal,T',ds,H')
   |none=>none
  |false=>none
 |.seq a b,T,ds,H=>match Ss cf g n fuel a T ds H with
  |some (.normal,T',gC,H')=>Ss cf g n fuel b T' gC H'
  |r=>r
 |.cond c a b,T,ds,H=>match ZE g T c with
  |.bool true=>Ss cf g n fuel a T ds H
  |.bool false=>Ss cf g n fuel b T ds H
  |_=>none
 |.block id a,T,ds,H=>match Ss cf g n fuel a T ds H with
  |some (.exit i,T',gC,H')=>match Nat.beq i id with
   |true=>some (.normal,T',gC,H')
   |false=>some (.exit i,T',gC,H')
  |r=>r
 |.loop a,T,ds,H=>TX (Ss cf g n fuel a) fuel T ds H
 |.exit id,T,ds,H=>some (.exit id,T,ds,H)
 |.ret,T,ds,H=>some (.ret,T,ds,H)
 |.pO c ps MI body,T,ds,H=>match ZE g T c with
  |.func (.func fid) fs cs=>match cf (.func (.func fid) fs cs) [.yield (H.next+1)] ((H.alloc .AN).alloc (.loop ⟨ps,MI,body⟩ (PD n T) .ready)) with
   |some (.ret _,He)=>match He.get (H.next+1) with
    |some (.loop _ _ .ready)=>some (.normal,T,.mark H.next::ds,He.set (H.next+1) .dead)
    |some (.loop _ _ (.done .ret))=>some (.ret,T,.mark H.next::ds,He.set (H.next+1) .dead)
    |some (.loop _ _ (.done (.exit i)))=>some (.exit i,T,.mark H.next::ds,He.set (H.next+1) .dead)
    |_=>none
   |_=>none
  |_=>none
def Lr(n:Nat)(T:VT):List (Nat×AV)->VT
 |[]=>T
 |(t,v)::r=>Lr n (zS n T (some t) v) r
section
variable {P:Program} {g:bL} {n fuel:Nat} {cf:GL}
theorem SQ.sound{a:AV}{args:List AV}{H H':aB}{out:Out}{p:FuncId×List AV×List AV}(h:SQ P g a args H out H')(m:nB a=some p):Sound P g p.1 (p.2.1++args++p.2.2) H out H':=by
 rcases h with ⟨q,D,h⟩|⟨id,rfl,_⟩
 . grind
 cases m
def HQ(P:Program)(g:bL)(cf:GL):Prop:=∀c args H out H',cf c args H=some (out,H')->SQ P g c args H out H'
theorem sL(B:HQ P g cf):∀(rl:List bH) (T:VT) (ds:List gW) (H:aB) (z:su) (j:VT) (V:List gW) (H':aB),OG n T->NZ cf g n rl T ds H=some (z,j,V,H')->
 OG n j/\∀Q:AQ,Q z (PD n j) V H'->uK P g rl (PD n T) ds H Q
 |[],T,ds,H,z,j,V,H',hb,h=>by simp only[NZ,Aj,An] at h;obtain⟨rfl,rfl,rfl,rfl⟩:=h;exact⟨hb,fun Q D=>D⟩
 |o::r,T,ds,H,z,j,V,H',hb,h=>by
  unfold NZ at h;rw[IQ hb,RV hb] at h;unfold uK
  cases L:bW (PD n T) o with
  |false=>rw[L] at h;dsimp only at h;have K:=sL B r _ ds H z j V H' (hb.put o.dst aC) h;rw[sJ] at K;exact⟨K.1,fun Q D=>by simpa using K.2 Q D⟩
  |true=>
   rw[L] at h;dsimp only at h;simp only[if_true];split at h
   . rename_i f X b;split at h
     . rename_i v H1 R;have K:=sL B r _ ds H1 z j V H' (hb.put o.dst v) h;rw[sJ] at K;exact⟨K.1,fun Q D=>by rw[b];exact⟨.ret v,H1,B _ _ _ _ _ R,K.2 Q D⟩⟩
     . rename_i v H1 R;simp only[Aj,An] at h;obtain⟨rfl,rfl,rfl,rfl⟩:=h;exact⟨hb,fun Q D=>by rw[b];exact⟨.Lo v,H1,B _ _ _ _ _ R,D⟩⟩
     cases h
   . rename_i x b;split at h
     . rename_i t v C;simp only[Aj,An] at h;obtain⟨rfl,rfl,rfl,rfl⟩:=h;exact⟨hb,fun Q D=>by rw[b];exact⟨t,v,C,D⟩⟩
     cases h
   . rename_i f X b;split at h
     . rename_i p m;have K:=sL B r _ _ H z j V H' (hb.put o.dst aC) h;rw[sJ] at K;exact⟨K.1,fun Q D=>by rw[b];exact⟨p,m,K.2 Q D⟩⟩
     cases h
   rename_i n1 n2 J;split at h
   . rename_i v H1 I;have K:=sL B r _ ds H1 z j V H' (hb.put o.dst v) h;rw[sJ] at K;refine⟨K.1,fun Q D=>?_⟩;split
     . rename_i f X b;exact absurd b (n1 f X)
     . rename_i x b;exact absurd b (n2 x)
     . rename_i f X b;exact absurd b (J f X)
     . rename_i x b;rw[b] at I;cases I
     . rename_i x b;rw[b] at I;cases I
     . rename_i x b;rw[b] at I;cases I
     exact⟨v,H1,I,K.2 Q D⟩
   cases h
theorem Su(B:HQ P g cf){T:VT}(X:OG n T){H H':aB}{r:bH}{v:AV}(h:exQ cf g T H r.op=some (v,H')):NT P g r (PD n T) H v H':=by
 unfold exQ at h;rw[IQ X] at h;unfold NT;split at h
 . rename_i f a b;rw[b];split at h
   . rename_i p m;split at h
     . rename_i q H1 R;obtain⟨rfl,rfl⟩:=h;exact⟨p,m,(B _ _ _ _ _ R).sound m⟩
     grind
   grind
 all_goals grind
theorem QP{pairs:List (Nat×Nat)}{i id:Nat}{t:List (Nat×aB×aB)}(h:cu pairs i id t=true):∀x∈t,(i,x.1)∈pairs->x.2.1.get id=x.2.2.get id:=by intro x C m;have :=Bi.1 h x C;simp only[Eb,Ct,List.contains_eq_mem,Cd] at this;exact RF (this.resolve_left fun X=>X m)
theorem rP(B:HQ P g cf){pairs:List (Nat×Nat)}{base:Nat}:∀(rl:List bH) (i k:Nat) (a:List (Nat×Nat)) (t:List (Nat×aB×aB)) (T:VT) (H:aB) (j:VT) (H':aB),OG n T->
 Uk cf g n pairs base i k rl a t T H=some (j,H')->OG n j/\∀Q:List AV->aB->Prop,Q (PD n j) H'->WQ P g pairs base i k rl a t (PD n T) H Q
 |[],i,k,a,t,T,H,j,H',hb,h=>by simp only[Uk,Aj,An] at h;obtain⟨rfl,rfl⟩:=h;exact⟨hb,fun Q D=>D⟩
 |r::rs,i,k,a,t,T,H,j,H',hb,h=>by
  unfold Uk at h;rw[RV hb] at h;unfold WQ
  cases L:bW (PD n T) r with
  |false=>
   rw[L] at h;dsimp only at h;have K:=rP B rs _ _ _ _ _ _ j H' (hb.put r.dst aC) h;rw[sJ] at K
   have E:(match r.op.fresh with|true=>k+1|false=>k)=if r.op.fresh then k+1 else k:=(by cases r.op.fresh<;>rfl);rw[E] at K;exact⟨K.1,fun Q D=>by simpa using K.2 Q D⟩
  |true=>
   rw[L] at h;dsimp only at h;simp only[if_true]
   cases N:r.op.fresh with
   |true=>
    rw[N] at h;dsimp only at h;simp only[if_true];rw[IQ hb] at h;split at h
    . rename_i l val S;split at h
      . rename_i E;have K:=rP B rs _ _ _ _ _ _ j H' (hb.put r.dst (val (base+k))) h;rw[sJ] at K;exact⟨K.1,fun Q D=>⟨l,val,S,QP E,K.2 Q D⟩⟩
      cases h
    cases h
   |false=>
    rw[N] at h;dsimp only at h;simp only[Br,Db]
    cases z:r.op.rF with
    |true=>
     rw[z] at h;dsimp only at h;simp only[if_true];split at h
     . rename_i v H1 c;split at h
       . rename_i E;simp only[Ak] at E;have K:=rP B rs _ _ _ _ _ _ j H' (hb.put r.dst v) h;rw[sJ] at K;refine⟨K.1,fun Q D=>⟨v,H1,Su B hb c,by simpa using Ab E.1,fun x C m=>?_,K.2 Q D⟩⟩;have :=Bi.1 E.2 x C;simp only[Eb,Ct,List.contains_eq_mem,Cd] at this;exact RF (this.resolve_left fun X=>X m)
       cases h
     cases h
    |false=>
     rw[z] at h;dsimp only at h;split at h
     . rename_i v H1 c;have d:=Su B hb c
       have q:H1=H:=by
        unfold NT at d;split at d
        . rename_i b;rw[b] at z;cases z
        . exact d.elim
        . exact d.elim
        exact(MW (H1:=H) z N d (fun id _=>rfl)).1
       rw[q] at d;rw[IQ hb] at h;split at h
       . rename_i id f;split at h
         . rename_i E;have K:=rP B rs _ _ _ _ _ _ j H' (hb.put r.dst v) h;rw[sJ] at K;refine⟨K.1,fun Q D=>⟨v,d,fun e y=>?_,?_⟩⟩
           . rw[f] at y;cases y;exact QP E
           rw[f];exact K.2 Q D
         cases h
       rename_i f;have K:=rP B rs _ _ _ _ _ _ j H' (hb.put r.dst v) h;rw[sJ] at K;refine⟨K.1,fun Q D=>⟨v,d,fun e y=>?_,?_⟩⟩
       . rw[f] at y;cases y
       rw[f];exact K.2 Q D
     cases h
theorem MM{rl:List bH}:∀{s:List AV} {ds:List gW} {H:aB} {Q z:AQ},(∀e s ds H,Q e s ds H->z e s ds H)->uK P g rl s ds H Q->uK P g rl s ds H z:=by
 induction rl with
 |nil=>exact fun D h=>D _ _ _ _ h
 |cons o r K=>
  intro s ds H Q z D h;unfold uK at h ⊢;split
  . rename_i L;rw[if_pos L] at h;split at h
    . obtain⟨out,H',O,B⟩:=h;refine⟨out,H',O,?_⟩
      cases out with
      |ret v=>exact K D B
      |Lo v=>exact D _ _ _ _ B
    . obtain⟨t,v,O,Z⟩:=h;exact⟨t,v,O,D _ _ _ _ Z⟩
    . obtain⟨p,O,Z⟩:=h;exact⟨p,O,K D Z⟩
    . exact ZbA
    . exact ZaT
    . exact Zbq
    obtain⟨v,H',O,Z⟩:=h;exact⟨v,H',O,K D Z⟩
  rename_i L;rw[if_neg L] at h;exact K D h
theorem WS{pairs:List (Nat×Nat)}{base:Nat}{rl:List bH}:∀{i k:Nat} {a:List (Nat×Nat)} {t:List (Nat×aB×aB)} {s:List AV} {H:aB} {Q z:List AV->aB->Prop},(∀s H,Q s H->z s H)->
 WQ P g pairs base i k rl a t s H Q->WQ P g pairs base i k rl a t s H z:=by
 induction rl with
 |nil=>exact fun D h=>D _ _ h
 |cons r W K=>grind[WQ]
theorem fD{c:bX}:∀{s:List AV} {ds:List gW} {H:aB} {Q z:AQ},(∀e s ds H,Q e s ds H->z e s ds H)->AC P g c s ds H Q->AC P g c s ds H z:=by
 induction c with
 |skip=>exact fun D h=>D _ _ _ _ h
 |ops rl=>exact fun D h=>MM D h
 |draw rl pairs=>exact fun D h=>h.imp (fun h=>⟨h.1,WS (fun s H=>D _ _ _ _) h.2⟩) fun h=>h.imp (fun h=>h.mono fun _ _ _=>D _ _ _ _) fun h=>h.mono fun _ _ h l U W=>D _ _ _ _ (h l U W)
 |seq a b R w=>
  intro s ds H Q z D h;refine R (fun e s ds H h=>?_) h
  cases e with
  |normal=>exact w D h
  |_=>exact D _ _ _ _ h
 |cond c a b R w=>
  intro s ds H Q z D h;exact ZbI
 |block id a K=>
  intro s ds H Q z D h;refine K (fun e s ds H h=>?_) h
  cases e with
  |exit i=>grind[qU]
  |_=>exact D _ _ _ _ h
 |loop a K=>
  intro s ds H Q z D h;obtain⟨I,m,G,d⟩:=h;refine⟨I,m,G,fun m s ds H F=>K (fun e s ds H h=>?_) (d m s ds H F)⟩
  cases e with
  |normal=>exact h
  |_=>exact D _ _ _ _ h
 |exit id=>exact fun D h=>D _ _ _ _ h
 |ret=>exact fun D h=>D _ _ _ _ h
 |pO c S a b R w=>
  intro s ds H Q z D h;obtain⟨fid,fs,cs,v,y,p,l,A,L,O,Z,B,h4,M⟩:=h;refine⟨fid,fs,cs,v,y,p,l,A,L,O,Z,B,h4,?_⟩
  cases A with
  |ready=>exact D _ _ _ _ M
  |done e=>cases e<;>exact D _ _ _ _ M
  |busy=>assumption
  |over _=>assumption
theorem EX(B:HQ P g cf):∀(c:bX) (T:VT) (ds:List gW) (H:aB) (z:su) (j:VT) (V:List gW) (H':aB),OG n T->Ss cf g n fuel c T ds H=some (z,j,V,H')->
 OG n j/\∀Q:AQ,Q z (PD n j) V H'->AC P g c (PD n T) ds H Q:=by
 intro c
 induction c with
 |skip=>intro T ds H z j V H' X h;simp only[Ss,Aj,An] at h;obtain⟨rfl,rfl,rfl,rfl⟩:=h;exact⟨X,fun Q D=>D⟩
 |ops rl=>exact fun T ds H z j V H' X h=>sL B rl T ds H z j V H' X h
 |draw rl pairs=>
  intro T ds H z j V H' X h;simp only[Ss] at h;split at h
  . rename_i t;split at h
    . rename_i f H1 hd;simp only[Aj,An] at h;obtain⟨rfl,rfl,rfl,rfl⟩:=h;have :=rP B rl 0 0 [] [] T _ f H1 X hd;exact⟨this.1,fun Q D=>.inl ⟨t,this.2 _ D⟩⟩
    cases h
  cases h
 |seq a b e r=>
  intro T ds H z j V H' X h;simp only[Ss] at h;split at h
  . rename_i f N H1 I;have O:=e T ds H _ f N H1 X I;have Z:=r f N H1 z j V H' O.1 h;exact⟨Z.1,fun Q D=>O.2 _ (Z.2 Q D)⟩
  rename_i A;have O:=e T ds H z j V H' X h;refine⟨O.1,fun Q D=>O.2 _ ?_⟩
  cases z with
  |normal=>exact absurd h (A _ _ _)
  |_=>exact D
 |cond c a b e r=>
  intro T ds H z j V H' X h;simp only[Ss] at h;rw[IQ X] at h;split at h
  . rename_i R;have O:=e T ds H z j V H' X h;exact⟨O.1,fun Q D=>⟨true,R,O.2 Q D⟩⟩
  . rename_i R;have O:=r T ds H z j V H' X h;exact⟨O.1,fun Q D=>⟨false,R,O.2 Q D⟩⟩
  cases h
 |block id a K=>
  intro T ds H z j V H' X h;simp only[Ss] at h;split at h
  . rename_i i f N H1 I;have O:=K T ds H _ f N H1 X I;split at h
    . rename_i F;have o:i=id:=Ch F;simp only[Aj,An] at h;obtain⟨rfl,rfl,rfl,rfl⟩:=h;refine⟨O.1,fun Q D=>O.2 _ ?_⟩;simp only[qU];rw[if_pos o];exact D
    rename_i F;have o:i≠id:=Nat.ne_of_beq_eq_false F;simp only[Aj,An] at h;obtain⟨rfl,rfl,rfl,rfl⟩:=h;refine⟨O.1,fun Q D=>O.2 _ ?_⟩;simp only[qU];rw[if_neg o];exact D
  rename_i A;have O:=K T ds H z j V H' X h;refine⟨O.1,fun Q D=>O.2 _ ?_⟩
  cases z with
  |exit i=>exact absurd h (A _ _ _ _)
  |_=>exact D
 |loop a K=>
  intro T ds H z j V H' X h;simp only[Ss] at h
  have key:∀(m:Nat) (T:VT) (ds:List gW) (H:aB),OG n T->TX (Ss cf g n fuel a) m T ds H=some (z,j,V,H')->OG n j:=by
   intro m
   induction m with
   |zero=>intro T ds H _ h;cases h
   |succ m W=>
    intro T ds H X h;simp only[TX] at h;split at h
    . rename_i f N H1 O;exact W f N H1 (K _ _ _ _ _ _ _ X O).1 h
    exact(K _ _ _ _ _ _ _ X h).1
  refine⟨key fuel T ds H X h,fun Q D=>⟨fun m s ds H=>∃T,s=PD n T/\OG n T/\TX (Ss cf g n fuel a) m T ds H=some (z,j,V,H'),fuel,⟨T,rfl,X,h⟩,?_⟩⟩;rintro m s N H1 ⟨f,rfl,q,O⟩
  cases m with
  |zero=>cases O
  |succ m=>
   simp only[TX] at O;split at O
   . rename_i x u H2 Z;have :=K _ _ _ _ _ _ _ q Z;exact this.2 _ ⟨m,Fa m,x,rfl,this.1,O⟩
   rename_i A;have :=K _ _ _ _ _ _ _ q O;refine this.2 _ ?_
   cases z with
   |normal=>exact absurd O (A _ _ _)
   |_=>exact D
 |exit id=>intro T ds H z j V H' X h;obtain⟨rfl,rfl,rfl,rfl⟩:=h;exact⟨X,fun Q D=>D⟩
 |ret=>intro T ds H z j V H' X h;obtain⟨rfl,rfl,rfl,rfl⟩:=h;exact⟨X,fun Q D=>D⟩
 |pO c S a b _ _=>
  intro T ds H z j V H' X h;simp only[Ss] at h;rw[IQ X] at h;split at h
  . rename_i fid fs cs R;split at h
    . rename_i v y k;have w:=(B _ _ _ _ _ k).sound rfl;have U:zH y (H.next+1) (y.set (H.next+1) .dead):=⟨rfl,fun m=>aB.aD _ _ _ _⟩;split at h
      . rename_i p l d;obtain⟨rfl,rfl,rfl,rfl⟩:=h;exact⟨X,fun Q D=>⟨fid,fs,cs,v,y,p,l,.ready,_,R,w,d,U,D⟩⟩
      . rename_i p l d;obtain⟨rfl,rfl,rfl,rfl⟩:=h;exact⟨X,fun Q D=>⟨fid,fs,cs,v,y,p,l,.done .ret,_,R,w,d,U,D⟩⟩
      . rename_i p l i d;obtain⟨rfl,rfl,rfl,rfl⟩:=h;exact⟨X,fun Q D=>⟨fid,fs,cs,v,y,p,l,.done (.exit i),_,R,w,d,U,D⟩⟩
      cases h
    cases h
  cases h
end
end
def bDq(G:Gh)(w:World):Option AV->FrameMode->Prop
 |none,m=>m=.returning
 |some v,m=>∃x,m=.panicking [{v:=x,recovered:=false}]/\VR G w v x
def IA(P:Program)(g:bL)(f:FuncId)(args:List AV)(a:Option AV)(H H':aB):Prop:=
 CI P f/\∀(G:Gh) (w:World) (vs:List Value) (u:FrameMode),WR g G H w->jD G w args vs->bDq G w a u->
  CallsDIn Fence.wide 0 P f vs.toArray u w fun e K w'=>(∃x,e=.returned x)/\settle K=.returning/\∃E,WR g E H' w'/\Ext G H w E H' w'
def ZN(P:Program)(g:bL):List gW->aB->(aB->Prop)->Prop
 |[],H,Q=>Q H
 |.call f azs::ds,H,Q=>∃H1,IA P g f azs none H H1/\ZN P g ds H1 Q
 |.mark id::ds,H,Q=>H.get id=some .AN/\ZN P g ds (H.set id .dfx) Q
def aTg(P:Program)(g:bL)(F:CC)(R:Out->aB->Prop):AQ
 |.normal,s,ds,H|.ret,s,ds,H=>ZN P g ds H fun H1=>∃vs,rA s H1 F.results=some vs/\R (.ret (nJ vs)) H1
 |.panic v,s,ds,H=>match ds with
  |[]=>R (.Lo v) H
  |.mark _::_=>False
  |.call f azs::ds=>∃H1,IA P g f azs (some v) H H1/\ZN P g ds H1 fun H2=>∃vs,rA s H2 F.results=some vs/\R (.ret (nJ vs)) H2
 |.exit _,_,_,_=>False
theorem vG{P:Program}{g:bL}{fn:Func}{tmps:Array Value}{R:Ending->World->Prop}{Q:aB->Prop}:∀(ds:List gW) (l:List Deferred) (G:Gh) (H:aB) (w:World),
 ZN P g ds H Q->WR g G H w->UE G w ds l->
 (∀E H' w',Q H'->WR g E H' w'->Ext G H w E H' w'->∃v,(results fn tmps).run P w'=.ok v w'/\R (.returned v) w')->LeavesInM Fence.wide 0 P fn tmps R l .returning w
 |[],[],G,H,w,h,hw,hd,hR=>hR G H w h hw (Ext.refl G H w)
 |[],d::l,G,H,w,h,hw,hd,hR=>hd.elim
 |.call _ _::ds,[],G,H,w,h,hw,hd,hR=>hd.elim
 |.mark _::ds,[],G,H,w,h,hw,hd,hR=>hd.elim
 |.call f azs::ds,d::l,G,H,w,h,hw,hd,hR=>by obtain⟨H1,k,n⟩:=h;obtain⟨⟨cap,W,J⟩,T⟩:=hd;refine⟨by simp,.inr ⟨DX,.func f,cap.toArray,f,d.args++cap.toArray,W,by rw[W];exact pD k.1 _ _ _,fun _ _=>trivial,?_⟩⟩;have c:=k.2 G w _ .returning hw J rfl;rw[show(d.args.toList++cap).toArray=d.args++cap.toArray by simp] at c;refine c.mono fun e K w' z=>?_;obtain⟨⟨x,rfl⟩,B,E,I,V⟩:=z;show LeavesInM Fence.wide 0 P fn tmps R l (settle K) w';rw[B];exact vG ds l E H1 w' n I (T.ext V) fun G2 H2 w2 D a i=>hR G2 H2 w2 D a (V.trans i)
 |.mark id::ds,d::l,G,H,w,h,hw,hd,hR=>by obtain⟨b,n⟩:=h;obtain⟨⟨j,U,W⟩,T⟩:=hd;obtain⟨_,_,X⟩:=hw.iT id j _ U b rfl;have t:=run_takeDeferred (P:=P) X;obtain⟨q1,q2⟩:=hw.JN (o':=.dfx) (x:=.deferred none) (w':=w.putObj j.dE (.deferred none)) U b rfl rfl rfl .now (fun _ M=>M);exact⟨by simp,.inl ⟨j.dE,_,W,t,vG ds l G _ _ n q1 (T.ext q2) fun G2 H2 w2 D a i=>hR G2 H2 w2 D a (q2.trans i)⟩⟩
variable{N:Bool}
theorem qG{P:Program}{g:bL}(t:Fit P g){f:FuncId}{F:CC}(hF:gX P g N f F){args:List AV}{H H':aB}{out:Out}
 (h:AC P g F.body (sC F args) [] H (aTg P g F fun o h=>o=out/\h=H')):Sound P g f args H out H':=by
 refine⟨hF.ok,fun G w vs L J=>?_⟩;obtain⟨fn,c,O,Z,_,h3,h4,M⟩:=hF;refine callsIn_wide.1 (callsIn_of_wp_marks (n:=0) O Z trivial (wpIn_mono (CG t c none F.body h3 (.inl rfl) _ [] G H w _ _ h L ?_ trivial) fun e a w' D=>?_))
 . have Q:=J.1;show jD G w _ _;exact ZaR
 obtain⟨ae,s',V,H1,E,q,I,z,DL,T,C⟩:=D
 have p:∀(G2:Gh) (H2:aB) (w2:World),(∃vs,rA s' H2 F.results=some vs/\(Out.ret (nJ vs)=out/\H2=H'))->WR g G2 H2 w2->Ext E H1 w' G2 H2 w2->
  ∃v,(results fn a.tmps).run P w2=.ok v w2/\(fun(e:Ending) w'=>∃E,WR g E H' w'/\Ext G H w E H' w'/\ZU E w' out e) (.returned v) w2:=by
  rintro G2 H2 w2 ⟨a6,pL,rfl,rfl⟩ CA i;obtain⟨u,B,OS⟩:=OB CA (DL.ext i) M pL;exact⟨u,B,G2,CA,z.trans i,OS⟩
 cases ae with
 |normal=>
  cases e with
  |normal=>exact vG V a.defers E H1 w' q I T p
  |_=>exact C.elim
 |ret=>
  cases e with
  |ret=>exact vG V a.defers E H1 w' q I T p
  |_=>exact C.elim
 |exit id=>exact q.elim
 |panic v=>
  cases e with
  |panic ch=>
   obtain⟨x,rfl,m⟩:=C
   cases k:V with
   |nil=>
    subst k
    cases U:a.defers with
    |nil=>obtain⟨rfl,rfl⟩:=q;show LeavesInM Fence.wide 0 P fn a.tmps _ a.defers _ w';rw[U];exact⟨E,I,z,x,rfl,m⟩
    |cons d r=>rw[U] at T;exact T.elim
   |cons d ds=>
    subst k
    cases d with
    |mark _=>exact q.elim
    |call A X=>
    cases U:a.defers with
    |nil=>rw[U] at T;exact T.elim
    |cons s l=>rw[U] at T;obtain⟨⟨cap,ht,DN⟩,W⟩:=T;obtain⟨H2,hS,hA⟩:=q;show LeavesInM Fence.wide 0 P fn a.tmps _ a.defers _ w';rw[U];refine⟨by simp,.inr ⟨DX,.func A,cap.toArray,A,s.args++cap.toArray,ht,by rw[ht];exact pD hS.1 _ _ _,fun _ _=>trivial,?_⟩⟩;have R:=hS.2 E w' _ (.panicking [{v:=x,recovered:=false}]) I DN ⟨x,rfl,m⟩;rw[show(s.args.toList++cap).toArray=s.args++cap.toArray by simp] at R;refine R.mono fun e K w2 i=>?_;obtain⟨⟨y,rfl⟩,B,G2,CA,vA⟩:=i;show LeavesInM Fence.wide 0 P fn a.tmps _ l (settle K) w2;rw[B];exact vG ds l G2 H2 w2 hA CA (W.ext vA) fun G3 H3 w3 D b S=>p G3 H3 w3 D b (vA.trans S)
  |_=>exact C.elim
def Zb(P:Program)(g:bL)(N:Bool):Code->Option (Option Nat×List bH×bX)
 |.seq (.region _ ops false) rest=>
  match ops.toList with
  |o::l=>match o.op,o.guard,mX P g N ops l,fL P g N rest with
   |.call c,none,some rl,some ac=>match c.callee,c.args.toList with
    |.builtin .recover,[]=>some (o.dst,rl,ac)
    |_,_=>none
   |_,_,_,_=>none
  |[]=>none
 |_=>none
variable{w:World}
theorem Yz{P:Program}{id:Nat}{m:Array Oper}{o:Oper}{Q:Exit->Act->List Frame->World->Prop}{a:Act}{cs t:List Frame}{v:Value}(S:m[0]?=some o)(d:o.guard=none)
 (i:∀a w,(execOp (Act.eval a) o).run P w=.ok .recover w) (J:(recoverD cs=some (v,t))\/(recoverD cs=none/\v=.nilIface/\t=cs))
 (h:wpOpsIn Fence.wide 0 P m (fun e s w'=>Q e s t w') (List.range' 1 (m.size -1)) (a.put o.dst v) w):(Code.region id m false).wpS P Q a cs w:=by
 intro b k X f;obtain⟨e,s,w',D,g⟩:=wp_opsIn _ _ _ h b k t f trivial (room_wide _);rw[arrivesIn_iff (fun _ _=>stepsIn_wide) f,Frame.atR_of_none f] at g;have p:0<m.size:=(Eg.1 S).1
 have l:List.range m.size=0::List.range' 1 (m.size -1):=by rw[Ki];obtain⟨n,A⟩:∃n,m.size=n+1:=⟨m.size -1,by omega⟩;simp[A,List.range'_succ]
 have L:Region.wanted o (yielded m a.tmps)=true:=by simp[Region.wanted,d]
 have q:=stepG_op (P:=P) (b:=b) (a:=a) (k:=k) (cs:=cs) (w:=w) (rest:=List.range' 1 (m.size -1)) S L
 have c:∀v,(b.at a (.inRegion m (0::List.range' 1 (m.size -1))::k)).finish v=b.at (a.put o.dst v) (.inRegion m (List.range' 1 (m.size -1))::k):=by simp[Frame.finish_at,S]
 have E:(b.at a (.inRegion m (0::List.range' 1 (m.size -1))::k)).kind=.deferred:=X;have j:=tryRecover_deferred E cs
 have O:step P (lone (b.at a (.code (.region id m false)::k)) cs w)=.next (lone (b.at a (.inRegion m (0::List.range' 1 (m.size -1))::k)) cs w):=by rw[<-l];rfl
 have Z:step P (lone (b.at a (.inRegion m (0::List.range' 1 (m.size -1))::k)) cs w)=.next (lone (b.at (a.put o.dst v) (.inRegion m (List.range' 1 (m.size -1))::k)) t w):=by
  refine step_lone_go ?_;have V:=i a w
  rcases J with J|⟨J,rfl,rfl⟩<;>simp_all[Frame.at,stepG.apply,V,j,J]
 exact⟨e,s,t,w',D,.of_steps (.head O (.one Z)) g⟩
def aBu(P:Program)(g:bL)(mu:Bool)(f:FuncId)(n:Nat)(dst:Option Nat)(rl:List bH)(ac:bX):Prop:=
 ∃fn c,P.funcs[f]?=some fn/\fn.body=some c/\(fn.name== "runtime.NumGoroutine")=false/\Zb P g mu c=some (dst,rl,ac)/\fn.ntmps=n/\fn.results.toList=[]
theorem Rm{P:Program}{f:FuncId}{fn:Func}{c:Code}{args:Array Value}{u:FrameMode}{R:Ending->FrameMode->World->Prop}(N:P.funcs[f]?=some fn)(X:fn.body=some c)
 (h:∀(q:Frame) (a:List Frame),q.mode=u->c.wpS P (bodyPostS P fn q a R) {tmps:=args++Array.replicate (fn.ntmps -args.size) undef,defers:=[]} (q::a) w):CallsDIn Fence.wide 0 P f args u w R:=by
 refine⟨trivial,fun q a B _=>?_⟩;obtain⟨b,F⟩:∃b:Frame,b={(default:Frame) with fn:=f,kind:=.deferred}:=⟨_,rfl⟩
 have y:b.at {tmps:=args++Array.replicate (fn.ntmps -args.size) undef,defers:=[]} [.code c]=Frame.enter P f args .deferred:=by simp[F,Frame.enter,Frame.at,N,X]
 obtain⟨e,a1,fs,w1,D,g⟩:=h q a B b [] (by grind) (by rw[F];rfl);rw[y] at g;have E:b.kind=.deferred:=by grind
 have A:b.fn=f:=by grind
 cases e with
 |exit id=>exact D.elim
 |goto l=>exact D.elim
 |outgrown=>exact⟨.outgrown,D.choose,w1,b,D.choose_spec,g.resolve_left (by grind),E,A,trivial⟩
 |normal=>obtain⟨hd,m,rfl,v,V,r⟩:=D;exact⟨.returned v,m,w1,_,r,comesIn_wide.2 (Steps.trans g (.one step_end)),E,A,rfl,hd,fn,by rw[<-A] at N;exact N,V⟩
 |ret=>obtain⟨hd,m,rfl,v,V,r⟩:=D;exact⟨.returned v,m,w1,_,r,comesIn_wide.2 g.choose_spec,E,A,rfl,hd,fn,by rw[<-A] at N;exact N,V⟩
 |panic k=>obtain⟨hd,m,rfl,r⟩:=D;exact⟨.panicked k,m,w1,_,r,comesIn_wide.2 g.choose_spec,E,A,rfl,hd,fn,by rw[<-A] at N;exact N⟩
theorem UT{P:Program}{g:bL}(t:Fit P g){f:FuncId}{n:Nat}{A:Option Nat}{rl:List bH}{k:bX}(hF:aBu P g N f n A rl k)
 {args:List AV} {md:Option AV} {H H':aB}
 (h:uK P g rl (oM (args++List.replicate (n -args.length) aC) A (md.getD .pY)) [] H (aJh (fun s ds H=>AC P g k s ds H fun e s ds H=>(match e with|.normal=>True|.ret=>True|_=>False)/\ds=[]/\H=H')
   fun _ _ _ _=>False)):IA P g f args md H H':=by
 obtain⟨fn,c,O,Z,h0,B,h4,h5⟩:=hF;refine⟨⟨fn,O,by rw[Z];rfl,h0⟩,fun G w vs u L J ab=>?_⟩;refine Rm O Z fun i cs W=>?_;unfold Zb at B;split at B
 . rename_i id m rest;split at B
   . rename_i o l U;split at B
     . rename_i cl jb aq gZ hg VA aj;split at B
       . rename_i QB LA;simp only[Aj,An] at B;obtain⟨rfl,rfl,rfl⟩:=B
         have S:m[0]?=some o:=(by rw[<-Array.getElem?_toList,U];rfl);have Q:m.size=l.length+1:=by rw[<-Ej,U];rfl
         have ak:∀a w,(execOp (Act.eval a) o).run P w=.ok .recover w:=fun a w=>by have ar:cl.args= #[]:=(by apply Array.ext';simpa using LA);simp[execOp,gZ,resolve,QB,ar,invoke,builtin]
         have key:∃(v:Value) (K:FrameMode),((recoverD (i::cs)=some (v,{i with mode:=K}::cs))\/(recoverD (i::cs)=none/\v=.nilIface/\K=u))/\settle K=.returning/\VR G w (md.getD .pY) v:=by
          cases md with
          |none=>obtain rfl:u=.returning:=ab;exact⟨.nilIface,.returning,.inr ⟨by simp[recoverD,W],rfl,rfl⟩,rfl,.pY⟩
          |some v=>obtain⟨x,rfl,C⟩:=ab;exact⟨x,.panicking [{v:=x,recovered:=true}],.inl (by simp[recoverD,W]),rfl,C⟩
         obtain⟨v,K,R,a7,af⟩:=key
         have F:(recoverD (i::cs)=some (v,{i with mode:=K}::cs))\/(recoverD (i::cs)=none/\v=.nilIface/\({i with mode:=K}::cs:List Frame)=i::cs):=by
          rcases R with X|⟨X,rfl,rfl⟩
          . exact .inl X
          refine .inr ⟨X,rfl,?_⟩;subst W;rfl
         have M:SR G w (args++List.replicate (n -args.length) aC) {tmps:=vs.toArray++Array.replicate (fn.ntmps -vs.toArray.size) undef,defers:=[]}:=by have Q:=J.1;show jD G w _ _;simp only[Kr,Jt,Gw,Q,h4];refine J.append ⟨by simp,fun j Y=>?_⟩;simp only[Kb] at Y;simp only[Dj,Hr,Y,if_true,By];exact VR.oQ G w
         refine wpS_seq (Yz S hg ak F ?_)
         have hA:=HP (ro:=none) l jb 1 VA (fun j Y=>by
          rw[<-Array.getElem?_toList,U,Iu,Fo]
          exact Ai Y) (.inl rfl) _ [] G H w _ _ h L (M.put o.dst af) (by cases o.dst<;>trivial)
         rw[show m.size -1=l.length by omega];refine MH (ro:=none) (fun e a1 w1 D=>?_) _ _ _ hA;obtain⟨ae,s',V,H1,E,q,I,z,DL,T,C⟩:=D
         cases ae with
         |normal=>
          cases e with
          |normal=>
           refine wpS_of_wp (wp_mono (wpIn_wide.1 (CG t rest none aq aj (.inl rfl) s' V E H1 w1 a1 _ q I DL T)) fun e y w2 ag=>?_);obtain⟨an,s2,p,H2,G2,q2,CA,WH,ay,ad,a6⟩:=ag;obtain⟨q3,rfl,rfl⟩:=q2
           have b:y.defers=[]:=by
            cases xm:y.defers with
            |nil=>rfl
            |cons d r=>rw[xm] at ad;exact ad.elim
           have GF:(results fn y.tmps).run P w2=.ok (.tuple #[]) w2:=by have :fn.results= #[]:=(by simpa using h5);unfold results;simp[this]
           cases an with
           |normal=>
            cases e with
            |normal=>exact⟨b,K,rfl,_,GF,⟨_,rfl⟩,a7,G2,CA,z.trans WH⟩
            |_=>exact a6.elim
           |ret=>
            cases e with
            |ret=>exact⟨b,K,rfl,_,GF,⟨_,rfl⟩,a7,G2,CA,z.trans WH⟩
            |_=>exact a6.elim
           |exit id=>exact q3.elim
           |panic v=>exact q3.elim
          |_=>exact C.elim
         |exit id=>exact q.elim
         |ret=>exact q.elim
         |panic v=>exact q.elim
       cases B
     cases B
   cases B
 cases B
section
def Ti(T:VT)(H:aB):List KA->Option (List AV)
 |[]=>some []
 |x::r=>match (match x with
   |.tmp t=>some (T.get t)
   |.cell a agg n=>match dU (ZE g0 T) H (.load agg n (.tmp a)) with
    |some (v,_)=>some v
    |none=>none),Ti T H r with
  |some v,some vs=>some (v::vs)
  |_,_=>none
theorem YU{n:Nat}{T:VT}(X:OG n T)(H:aB):∀l,Ti T H l=rA (PD n T) H l
 |[]=>rfl
 |x::r=>by
  have K:=YU X H r
  cases x with
  |tmp t=>grind[Ti,rA,aAc,RR]
  |cell a e m=>grind[Ti,rA,aAc,IQ]
def al(a:FuncId->Nat->Bool):List gW->aB->Option aB
 |[],H=>some H
 |.call f azs::ds,H=>match a f azs.length with
  |true=>al a ds H
  |false=>none
 |.mark id::ds,H=>match H.get id with
  |some .AN=>al a ds (H.set id .dfx)
  |_=>none
def aYz(cf:GL)(g:bL)(fuel:Nat)(a:FuncId->Nat->Bool)(F:CC)(args:List AV)(H:aB):Option (Out×aB):=
 match Nat.ble args.length F.ntmps with
 |true=>match Ss cf g F.ntmps fuel F.body (BH F.ntmps args 0 .nil) [] H with
  |some (.normal,T,ds,H')|some (.ret,T,ds,H')=>match al a ds H' with
   |some H1=>match Ti T H1 F.results with
    |some vs=>some (.ret (nJ vs),H1)
    |none=>none
   |none=>none
  |some (.panic v,_,[],H')=>some (.Lo v,H')
  |_=>none
 |false=>none
theorem OG.nil(n:Nat):OG n .nil:=fun _ _=>rfl
theorem OE(n:Nat):∀(vs:List AV) (i:Nat) (T:VT),OG n T->i+vs.length<=n->
 OG n (BH n vs i T)/\∀t,(BH n vs i T).get t=if i<=t/\t<i+vs.length then vs.getD (t -i) aC else T.get t
 |[],i,T,hb,h=>⟨hb,fun t=>by rw[if_neg A3];rfl⟩
 |v::vs,i,T,hb,h=>by
  simp only[As] at h;have :=OE n vs (i+1) (zS n T (some i) v) (hb.put _ _) A0;refine⟨this.1,fun t=>?_⟩;show(BH n vs (i+1) (zS n T (some i) v)).get t=_;have O:Nat.blt i n=true:=by grind[Nat.blt_eq]
  have a:(zS n T (some i) v).get t=if t=i then v else T.get t:=by simp only[zS,O];exact VT.aD T i v t
  grind
theorem RN{n:Nat}{args:List AV}(h:args.length<=n):OG n (BH n args 0 .nil)/\PD n (BH n args 0 .nil)=args++List.replicate (n -args.length) aC:=by
 have :=OE n args 0 .nil (OG.nil n) A0;refine⟨this.1,Gd fun t=>?_⟩;unfold PD;rw[Dw];by_cases W:t<n
 . rw[Ko W,Cq,this.2 t];by_cases O:t<args.length
   . rw[if_pos A0,Jd O];simp[Ai O,getD_eq]
   rw[if_neg A0,Iy A0,Hr,if_pos A0];rfl
 rw[Cr Zag,Cr Zag];rfl
section
variable {P:Program} {g:bL} {fuel:Nat} {cf:GL}
def PN(P:Program)(g:bL)(a:FuncId->Nat->Bool):Prop:=∀f k,a f k=true->∀(args:List AV) (H:aB),args.length=k->IA P g f args none H H
theorem Tw{a:FuncId->Nat->Bool}(A:PN P g a){Q:aB->Prop}:∀(ds:List gW) (H H1:aB),al a ds H=some H1->Q H1->ZN P g ds H Q
 |[],H,H1,he,h=>by cases he;exact h
 |.mark id::ds,H,H1,he,h=>by
  simp only[al] at he;split at he
  . rename_i d;exact⟨d,Tw A ds _ _ he h⟩
  grind
 |.call f azs::ds,H,H1,he,h=>by
  simp only[al] at he;split at he
  . rename_i hd;exact⟨H,A f _ hd azs H rfl,Tw A ds H _ he h⟩
  grind
theorem au(t:Fit P g)(B:HQ P g cf){a:FuncId->Nat->Bool}(A:PN P g a){N:Bool}{f:FuncId}{F:CC}(u:gX P g N f F){args:List AV}{H H':aB}{out:Out}
 (h:aYz cf g fuel a F args H=some (out,H')):Sound P g f args H out H':=by
 unfold aYz at h;split at h
 . rename_i m;have e:args.length<=F.ntmps:=Ab m;obtain⟨X,M⟩:=RN e
   have p:∀(d:su) (T:VT) (ds:List gW) (H1:aB),(d=.normal\/d=.ret)->Ss cf g F.ntmps fuel F.body (BH F.ntmps args 0 .nil) [] H=some (d,T,ds,H1)->
    (match al a ds H1 with
      |some H2=>match Ti T H2 F.results with
       |some vs=>some (Out.ret (nJ vs),H2)
       |none=>none
      |none=>none)=some (out,H')->Sound P g f args H out H':=by
    intro d T ds H1 b z h;obtain⟨c,D⟩:=EX B F.body _ _ _ _ _ _ _ X z;split at h
    . rename_i H2 y;split at h
      . rename_i vs I;simp only[Aj,An] at h;obtain⟨rfl,rfl⟩:=h;refine qG t u ?_;unfold sC;rw[<-M];refine D _ ?_
        have :ZN P g ds H1 fun E=>∃i,rA (PD F.ntmps T) E F.results=some i/\(Out.ret (nJ i)=Out.ret (nJ vs)/\E=H2):=by refine Tw A ds H1 H2 y ⟨vs,?_,rfl,rfl⟩;rw[<-YU c];exact I
        rcases b with rfl|rfl<;>exact this
      cases h
    cases h
   split at h
   . rename_i T ds H1 z;exact p .normal T ds H1 (.inl rfl) z h
   . rename_i T ds H1 z;exact p .ret T ds H1 (.inr rfl) z h
   . rename_i v T H1 z;obtain⟨rfl,rfl⟩:=h;obtain⟨c,D⟩:=EX B F.body _ _ _ _ _ _ _ X z;refine qG t u ?_;unfold sC;rw[<-M];exact D _ ⟨rfl,rfl⟩
   cases h
 cases h
inductive FT where
 |leaf (k:Nat) (F:CC)
 |node (m:Nat) (l r:FT)
def FT.get:FT->FuncId->Option CC
 |.leaf k F,f=>match Nat.beq f k with
  |true=>some F
  |false=>none
 |.node m l r,f=>match Nat.blt f m with
  |true=>l.get f
  |false=>r.get f
def FT.All(p:FuncId->CC->Prop):FT->Prop
 |.leaf k F=>p k F
 |.node _ l r=>l.All p/\r.All p
theorem FT.All.get{p:FuncId->CC->Prop}:∀{t:FT},t.All p->∀{f:FuncId} {F:CC},t.get f=some F->p f F
 |.leaf k F',h,f,F,hg=>by
  simp only[FT.get] at hg;split at hg
  . rename_i X;obtain rfl:=Aa hg;rw[Ch X];exact h
  grind
 |.node m l r,h,f,F,hg=>by
  simp only[FT.get] at hg;split at hg
  . exact FT.All.get h.1 hg
  exact FT.All.get h.2 hg
def exY(cf:GL)(g:bL)(fuel:Nat)(id:Nat)(args:List AV)(H:aB):Option (Out×aB):=
 match H.get id with
 |some (.loop k s .ready)=>match Nat.beq args.length k.ps.length with
  |true=>match Ss cf g s.length fuel k.MI (Lr s.length (BH s.length s 0 .nil) (k.ps.zip args)) [] H with
   |some (.normal,T1,[],H1)=>match H1.get id with
    |some (.loop k1 s1 .ready)=>match Ss cf g s.length fuel k.body T1 [] (H1.set id (.loop k1 s1 .busy)) with
     |some (e,_,[],H2)=>match H2.get id with
      |some (.loop k2 s2 .busy)=>match e with
       |.normal=>some (.ret (.bool true),H2.set id (.loop k2 s2 .ready))
       |.ret=>some (.ret (.bool false),H2.set id (.loop k2 s2 (.done .ret)))
       |.exit i=>some (.ret (.bool false),H2.set id (.loop k2 s2 (.done (.exit i))))
       |.panic _=>none
      |_=>none
     |_=>none
    |_=>none
   |_=>none
  |false=>none
 |_=>none
theorem Nt{n:Nat}:∀(l:List (Nat×AV)) (T:VT),OG n T->OG n (Lr n T l)/\PD n (Lr n T l)=rY (PD n T) l
 |[],T,h=>⟨h,rfl⟩
 |(t,v)::r,T,h=>by have K:=Nt r (zS n T (some t) v) (h.put _ _);refine⟨K.1,?_⟩;rw[Lr,K.2,sJ];rfl
theorem wg(t:Fit P g)(B:HQ P g cf){id:Nat}{args:List AV}{H H':aB}{out:Out}(h:exY cf g fuel id args H=some (out,H')):mS P g id args H out H':=by
 unfold exY at h;split at h
 . rename_i k s d;split at h
   . rename_i Q;obtain⟨q,u⟩:=RN (Ad s.length);rw[Nat.sub_self,List.replicate_zero,Bx] at u;obtain⟨b,O⟩:=Nt (k.ps.zip args) _ q;rw[u] at O;refine MT t d (Ch Q) ?_;unfold PJ;split at h
     . rename_i f H1 I;obtain⟨o,c⟩:=EX B k.MI _ _ _ _ _ _ _ b I;rw[<-O];refine c _ ?_;split at h
       . rename_i k1 s1 w;split at h
         . rename_i e x H2 F;obtain⟨r,a⟩:=EX B k.body _ _ _ _ _ _ _ o F;refine⟨rfl,k1,s1,w,a _ ?_⟩;split at h
           . rename_i k2 s2 M;split at h
             . exact Zbo
             . exact Zbo
             . exact Zbo
             cases h
           cases h
         cases h
       cases h
     cases h
   cases h
 cases h
abbrev UR:=FuncId->List AV->aB->Option (Out×aB)
def PO(P:Program)(g:bL)(b:UR):Prop:=∀f args H out H',b f args H=some (out,H')->Sound P g f args H out H'
def exF(b:UR)(e:FuncId->Option CC)(g:bL)(fuel:Nat)(a:FuncId->Nat->Bool):Nat->GL
 |0=>fun _ _ _=>none
 |d+1=>fun c args H=>match c with
  |.yield id=>exY (exF b e g fuel a d) g fuel id args H
  |.func (.func f) fs cs=>match b f (fs++args++cs) H with
   |some r=>some r
   |none=>match e f with
    |some F=>aYz (exF b e g fuel a d) g fuel a F (fs++args++cs) H
    |none=>none
  |_=>none
theorem Md(t:Fit P g){b:UR}(S:PO P g b){e:FuncId->Option CC}{a:FuncId->Nat->Bool}(A:PN P g a)(W:∀f F,e f=some F->∃N,gX P g N f F):∀d,HQ P g (exF b e g fuel a d)
 |0=>fun f args H out H' h=>by cases h
 |d+1=>fun c args H out H' h=>by
  simp only[exF] at h;split at h
  . rename_i id;exact .inr ⟨id,rfl,wg t (Md t S A W d) h⟩
  . rename_i f fs cs;refine .inl ⟨(f,fs,cs),rfl,?_⟩;split at h
    . rename_i r V;cases h;exact S _ _ _ _ _ V
    split at h
    . rename_i F u;obtain⟨N,i⟩:=W f F u;exact au t (Md t S A W d) A i h
    grind
  grind
end
end
section
mutual
def AV.free:AV->Bool
 |.pl cs=>cP cs
 |.bK tag _ els=>Nat.blt tag 2&&fK els
 |.func _ a b=>cP a&&cP b
 |.iface _ v=>v.free
 |.agg cs=>cP cs
 |.iV vs=>cP vs
 |.ref _ _|.sl _ _ _ _ _|.map _|.yield _=>false
 |_=>true
def cP:List AV->Bool
 |[]=>true
 |x::r=>x.free&&cP r
def fK:List (List AV)->Bool
 |[]=>true
 |x::r=>cP x&&fK r
end
theorem TF:∀{l:List AV},cP l=true->∀x∈l,x.free=true
 |[],_,x,hx=>by grind
 |y::l,h,x,hx=>by
  simp only[cP,Ak] at h
  rcases Ba.1 hx with rfl|hx
  . grind
  exact TF h.2 x hx
theorem jX{a b:List AV}:cP (a++b)=(cP a&&cP b):=by
 induction a with
 |nil=>rfl
 |cons x r K=>grind[cP]
theorem jH:∀{l:List (List AV)},fK l=true->cP l.flatten=true
 |[],_=>rfl
 |y::l,h=>by simp_all[fK,Ak,Cb,jX,h,jH]
theorem kT{l:List AV}(h:cP l=true){j:Nat}(Y:j<l.length):(l.getD j aC).free=true:=by
 refine TF h _ ?_
 grind
variable{w':World}
theorem VR.oB{G E:Gh}{w:World}{a:AV}{u:Value}(h:VR G w a u)(N:a.free=true)
 (F:∀b o,G.iA b o->E.iA b o/\w'.cell? ⟨b,o,none⟩=w.cell? ⟨b,o,none⟩):VR E w' a u:=by
 induction h with
 |bool b=>exact .bool b
 |int k n=>exact .int k n
 |str s=>exact .str s
 |Li=>exact .Li
 |ref id off l h=>cases N
 |pl cells b o us h J K=>exact .pl cells b o us (fun j Y=>⟨(F _ _ (h j Y).1).1,by grind,(h j Y).2.2⟩) (fun j Y=>K j Y (kT N Y))
 |bG=>exact .bG
 |wE tag sz b o s W=>exact .wE tag sz b o s W
 |bK tag sz els b o cap us B h J W K=>
  simp only[AV.free,Ak] at N;have i:=jH N.2;refine .bK tag sz els b o cap us B (fun j Y=>⟨(F _ _ (h j Y).1).1,by grind,(h j Y).2.2⟩) (fun j Y=>K j Y (kT i Y)) ?_;refine⟨W.1,?_⟩;have Z:=W.2
  grind[Nat.blt_eq]
 |sl id sz off len cap V l h Q y T=>cases N
 |func fn fs cs X e I d c P R f=>simp only[AV.free,Ak] at N;exact .func fn fs cs X e I d (fun j Y=>R j Y (kT N.1 Y)) (fun j Y=>f j Y (kT N.2 Y))
 |BU=>exact .BU
 |iface t a v h K=>exact .iface t a v (K N)
 |pY=>exact .pY
 |agg cs vs L O J K=>exact .agg cs vs L O (fun j Y=>K j Y (kT N Y))
 |iV cs vs L J K=>exact .iV cs vs L (fun j Y=>K j Y (kT N Y))
 |map id l h=>cases N
 |yield id l h=>cases N
 |rV=>exact .rV
theorem jD.oB{G E:Gh}{w:World}{xs:List AV}{vs:List Value}(h:jD G w xs vs)(N:cP xs=true)
 (F:∀b o,G.iA b o->E.iA b o/\w'.cell? ⟨b,o,none⟩=w.cell? ⟨b,o,none⟩):jD E w' xs vs:=
 ⟨h.1,fun j Y=>(h.2 j Y).oB (kT N Y) F⟩
def EK(tk:Option Nat)(t tag:Nat):Nat:=
 match tag with
 |0=>0
 |1=>1
 |k+2=>match tk with
  |some p=>match Nat.beq k p with
   |true=>t+2
   |false=>0
  |none=>0
def kK(H:aB)(tk:Option Nat)(t:Nat):AV->Option AV
 |.bK tag sz els=>match fK els with
  |true=>some (.bK (EK tk t tag) sz els)
  |false=>none
 |.sl id sz off len cap=>match H.eV id with
  |some cs=>match Nat.ble (off+len*sz) cs.length&&cP (cs.drop off) with
   |true=>some (.bK 0 sz (gE sz len (cs.drop off)))
   |false=>none
  |none=>none
 |.ref id off=>match H.eV id with
  |some cs=>match cP (cs.drop off) with
   |true=>some (.pl (cs.drop off))
   |false=>none
  |none=>none
 |v=>match v.free with
  |true=>some v
  |false=>none
def GI(f:AV->Option AV):List AV->Option (List AV)
 |[]=>some []
 |x::r=>match f x,GI f r with
  |some y,some ys=>some (y::ys)
  |_,_=>none
def iH(H:aB)(tk:Option Nat)(t:Nat):Nat->AV->Option AV
 |0,v=>kK H tk t v
 |n+1,.agg cs=>(GI (iH H tk t n) cs).map .agg
 |n+1,.iV vs=>(GI (iH H tk t n) vs).map .iV
 |_,v=>kK H tk t v
theorem FJ{f:AV->Option AV}:∀{l r:List AV},GI f l=some r->r.length=l.length/\∀j,j<l.length->f (l.getD j aC)=some (r.getD j aC)
 |[],r,h=>by obtain rfl:=Aa h;simp
 |x::l,r,h=>by
  simp only[GI] at h;split at h
  . rename_i y ys Q E;obtain⟨O,Z⟩:=FJ E
    grind
  grind
def tF(tk:Option Nat)(H:aB):aB:=match tk with
 |none=>H
 |some _=>H.alloc .tok
def GN(g:bL):Prop:=∀n cs,g n=some cs->cP cs=true
def Out.av:Out->AV
 |.ret v=>v
 |.Lo v=>v
def Out.with:Out->AV->Out
 |.ret _,v=>.ret v
 |.Lo _,v=>.Lo v
section
variable {P:Program} {g:bL}
def FZ(G G2:Gh)(H:aB)(H2:aB)(tk:Option Nat):Gh where
 loc:=fun id=>if id=H.next then tk.bind G2.loc else G.loc id
 iA:=fun b o=>G2.iA b o\/∃id l cs r,G2.loc id=some l/\H2.get id=some (.cells cs r)/\l.dE=b/\l.base<=o/\o<l.base+l.WO
 mo:=G.mo
theorem RH{G G2:Gh}{H H2:aB}{w2:World}{tk:Option Nat}(A:∀k,tk=some k->H2.get k=some .tok)(a:WR g G2 H2 w2){v q:AV}{u:Value}(h:VR G2 w2 v u)(M:kK H2 tk H.next v=some q):
 VR (FZ G G2 H H2 tk) w2 q u:=by
 have F:∀b o,G2.iA b o->(FZ G G2 H H2 tk).iA b o/\w2.cell? ⟨b,o,none⟩=w2.cell? ⟨b,o,none⟩:=fun b o X=>⟨.inl X,rfl⟩
 have frozen:∀{id:Nat} {l:Loc} {cs:List AV} {off:Nat},G2.loc id=some l->H2.eV id=some cs->cP (cs.drop off)=true->∀j,j<(cs.drop off).length->
  ∃x,(FZ G G2 H H2 tk).iA l.dE (l.base+off+j)/\w2.cell? ⟨l.dE,l.base+off+j,none⟩=some x/\((cs.drop off).getD j aC).one=true/\VR (FZ G G2 H H2 tk) w2 ((cs.drop off).getD j aC) x:=by
  intro id l cs off U R N j Y;obtain⟨r,d⟩:=aB.qL R;obtain⟨a1,a2,a3,i,K⟩:=a.cells id l cs r U d;simp only[Hi] at Y;obtain⟨x,C,m⟩:=K (off+j) A0;have e:(cs.drop off).getD j aC=cs.getD (off+j) aC:=by rw[getD_eq,getD_eq,List.getElem?_drop]
  refine⟨x,.inr ⟨id,l,cs,r,U,d,rfl,by omega,by omega⟩,by rw[Bm];exact C,?_,?_⟩
  . rw[e];refine i _ ?_;rw[getD_eq,Ai A0];exact Ag _
  have n:=kT N (j:=j) ZaV;rw[e] at n ⊢;exact m.oB n F
 unfold kK at M;split at M
 . rename_i tag sz els;split at M
   . rename_i N;obtain rfl:=Aa M;have L:=jH N
     cases h with
     |wE _ _ b o s W=>
      refine .wE _ _ _ _ _ ?_
      match tag,W with
      |0,_=>exact Nat.zero_lt_two
      |1,_=>exact Nat.one_lt_two
     |bK _ _ _ b o cap us B X J W=>
      refine .bK _ sz els b o cap us B (fun j Y=>⟨(F _ _ (X j Y).1).1,(X j Y).2⟩) (fun j Y=>(J j Y).oB (kT L Y) F) ⟨W.1,?_⟩;have Z:=W.2
      match tag,Z with
      |0,_=>trivial
      |1,Z=>exact Z
      |k+2,⟨l,O,Z⟩=>
       cases tk with
       |none=>trivial
       |some f=>
        simp only[EK]
        cases E:Nat.beq k f with
        |false=>trivial
        |true=>obtain rfl:=Ch E;exact⟨l,by simp only[FZ,if_true,Option.bind_some];exact O,Z⟩
   cases M
 . rename_i id sz off len cap;split at M
   . rename_i cs R;split at M
     . rename_i p;obtain rfl:=Aa M;simp only[Ak] at p;have t:off+len*sz<=cs.length:=Ab p.1
       cases h with
       |sl _ _ _ _ _ V l U Q y T=>
        obtain⟨z,P,S⟩:=mB sz len (cs.drop off) Zag;have I:=frozen U R p.2;have D:len*sz<=cap*sz:=Bc sz Q
        have c:∀j,j<(gE sz len (cs.drop off)).flatten.length->j<(cs.drop off).length/\(gE sz len (cs.drop off)).flatten.getD j aC=(cs.drop off).getD j aC:=fun j Y=>by rw[z] at Y ⊢;simp only[Fb,Hi] at Y;refine⟨by simp;omega,?_⟩;rw[getD_take _ _ _ _ A0]
        have key:=VR.bK (G:=FZ G G2 H H2 tk) (w:=w2) 0 sz (gE sz len (cs.drop off)) l.dE (l.base+off) V (fun j=>(w2.cell? ⟨l.dE,l.base+off+j,none⟩).getD undef) S
         (fun j Y=>by
           obtain⟨O,Z⟩:=c j Y;obtain⟨x,q1,q2,q3,q4⟩:=I j O
           exact⟨q1,by rw[q2];rfl,by rw[Z];exact q3⟩)
         (fun j Y=>by
           obtain⟨O,Z⟩:=c j Y;obtain⟨x,q1,q2,q3,q4⟩:=I j O
           rw[Z,q2];exact q4)
         ⟨by rw[P];rcases T with rfl|⟨_,BZ,_⟩<;>omega,trivial⟩
        rw[P] at key;exact key
     cases M
   cases M
 . rename_i id off;split at M
   . rename_i cs R;split at M
     . rename_i N;obtain rfl:=Aa M
       cases h with
       |ref _ _ l U=>
        have I:=frozen U R N
        exact .pl (cs.drop off) l.dE (l.base+off) (fun j=>(w2.cell? ⟨l.dE,l.base+off+j,none⟩).getD undef)
         (fun j Y=>by
           obtain⟨x,q1,q2,q3,q4⟩:=I j Y
           exact⟨q1,by rw[q2];rfl,q3⟩)
         (fun j Y=>by
           obtain⟨x,q1,q2,q3,q4⟩:=I j Y
           rw[q2];exact q4)
     cases M
   cases M
 split at M
 . rename_i N;obtain rfl:=Aa M;exact h.oB N F
 cases M
theorem aIu{G G2:Gh}{H H2:aB}{w2:World}{tk:Option Nat}{t n:Nat}{v q:AV}(M:iH H2 tk t n v=some q)(h:v.one=true):q.one=true:=by
 have O:kK H2 tk t v=some q->q.one=true:=fun M=>by
  unfold kK at M
  repeat' (split at M)
  all_goals first
   |(cases M;done)
   |(obtain rfl:=Aa M;assumption)
 cases n with
 |zero=>exact O M
 |succ n=>
  unfold iH at M;split at M
  . omega
  . cases h
  . cases h
  grind
theorem Ly{G G2:Gh}{H H2:aB}{w2:World}{tk:Option Nat}(A:∀k,tk=some k->H2.get k=some .tok)(a:WR g G2 H2 w2):∀(n:Nat) {v q:AV} {u:Value},VR G2 w2 v u->iH H2 tk H.next n v=some q->
 VR (FZ G G2 H H2 tk) w2 q u
 |0,v,q,u,h,hs=>RH A a h hs
 |n+1,v,q,u,h,hs=>by
  unfold iH at hs;split at hs
  . omega
  . rename_i m cs t;simp only[Ae] at hs;obtain⟨r,V,rfl⟩:=hs;obtain⟨r1,r2⟩:=FJ V
    cases h with
    |agg _ vs U O J=>refine .agg r vs A0 (fun c R=>?_) (fun j Y=>Ly A a m (J j A0) (r2 j A0));obtain⟨j,Y,rfl⟩:=Hd.1 R;have :=r2 j A0;rw[getD_eq,getD_eq,Ai Y,Ai A0] at this;exact aIu (G:=G) (G2:=G2) (H:=H) (w2:=w2) this (O _ (Ag _))
  . rename_i m b t;simp only[Ae] at hs;obtain⟨r,V,rfl⟩:=hs;obtain⟨r1,r2⟩:=FJ V
    cases h with
    |iV _ vs U J=>exact .iV r vs A0 (fun j Y=>Ly A a m (J j A0) (r2 j A0))
  exact RH A a h hs
theorem MS.frame(d:GN g){f:FuncId}{args:List AV}(hf:cP args=true){R:Out->aB->Prop}(h:MS P g f args ⟨0,.nil⟩ R)(H:aB){ad:Out}{H':aB}
 (hR:∀out H2,R out H2->∃tk n v',(∀k,tk=some k->H2.get k=some .tok)/\iH H2 tk H.next n out.av=some v'/\out.with v'=ad/\tF tk H=H'):Sound P g f args H ad H':=by
 refine⟨h.1,fun G w vs L J=>?_⟩;let G0:Gh:=⟨fun _=>none,G.iA,G.mo⟩;have W:∀b o,G.iA b o->G0.iA b o/\w.cell? ⟨b,o,none⟩=w.cell? ⟨b,o,none⟩:=fun b o hh=>⟨hh,rfl⟩
 have af:WR g G0 ⟨0,.nil⟩ w:={
  cells:=fun id l cs r O=>by cases O
  room:=fun id l O=>by cases O
  lL:=fun id lZ l l' _ O=>by cases O
  kI:=fun id l O=>by cases O
  iT:=fun id l es O=>by cases O
  lt:=fun id l O=>by cases O
  iE:=L.iE
  jE:=fun k cs E=>(L.jE k cs E).oB (d k cs E) W
  BP:=L.BP
  mo:=L.mo}
 refine(h.2 G0 w vs af (J.oB hf W)).mono fun e w2 z=>?_;obtain⟨out,H2,G2,hr,CA,V,p⟩:=z;obtain⟨tk,n,v',t,M,rfl,rfl⟩:=hR _ _ hr
 have Mo:∀id l,G2.loc id=some l->H2.live id->w.heap.size<=l.dE:=fun id l O Z=>by
  rcases V.mV id l O Z with hh|⟨fO,l0,hh,_⟩
  . exact hh
  cases hh
 have q:∀b,b<w.heap.size->w2.heap[b]?=w.heap[b]?:=fun b X=>V.frame b X fun id l hh=>by cases hh
 have ae:∀b o,(FZ G G2 H H2 tk).iA b o->G.iA b o\/w.heap.size<=b:=fun b o F=>by
  rcases F with F|⟨id,l,cs,r,O,Z,rfl,_⟩
  . rcases V.pM b o F with hh|hh|⟨fO,l0,hh,_⟩
    . exact .inl hh
    . exact .inr hh
    cases hh
  exact .inr (Mo id l O ⟨_,Z,rfl⟩)
 have A:∀id l,G.loc id=some l->(FZ G G2 H H2 tk).loc id=some l:=fun id l U=>by have :=L.lt id l U;simp only[FZ];rw[if_neg A0];exact U
 have S:∀b o,G.iA b o->(FZ G G2 H H2 tk).iA b o/\w2.cell? ⟨b,o,none⟩=w.cell? ⟨b,o,none⟩:=fun b o F=>⟨.inl (V.iA b o F).1,(V.iA b o F).2⟩;have ak:H.next<=(tF tk H).next:=by cases tk<;>simp[tF]
 have dB:∀id,id≠H.next->(tF tk H).get id=H.get id:=fun id s=>by
  cases tk with
  |none=>rfl
  |some k=>simp only[tF,aB.aJ,if_neg s]
 have pX:∀id l,(FZ G G2 H H2 tk).loc id=some l->(id≠H.next/\G.loc id=some l)\/(id=H.next/\∃k,tk=some k/\G2.loc k=some l/\(tF tk H).get id=some .tok):=fun id l U=>by
  simp only[FZ] at U;by_cases a6:id=H.next
  . rw[if_pos a6] at U
    cases tk with
    |none=>cases U
    |some k=>exact .inr ⟨a6,k,rfl,U,by simp only[tF,aB.aJ,if_pos a6]⟩
  rw[if_neg a6] at U;exact .inl ⟨a6,U⟩
 have rG:∀id,id≠H.next->(tF tk H).live id->H.live id:=fun id s ⟨o,O,Z⟩=>⟨o,by rw[<-dB id s];exact O,Z⟩;have VE:∀k l,tk=some k->G2.loc k=some l->w.heap.size<=l.dE:=fun k l O Z=>Mo k l Z ⟨_,t k O,rfl⟩
 have aj:WR g (FZ G G2 H H2 tk) (tF tk H) w2:={
  cells:=fun id l cs r O Z=>by
   rcases pX id l O with ⟨s,U⟩|⟨_,k,_,_,ht⟩
   . rw[dB id s] at Z;obtain⟨a1,y,Q,i,N⟩:=L.cells id l cs r U Z;have X:=L.mE U ⟨_,Z,rfl⟩;refine⟨a1,y,Q,i,fun j Y=>?_⟩;obtain⟨x,C,m⟩:=N j Y;exact⟨x,by rw[fN (q _ X)];exact C,m.mono A S⟩
   rw[ht] at Z;cases Z
  room:=fun id l O Z=>by
   rcases pX id l O with ⟨s,U⟩|⟨_,k,E,a7,ht⟩
   . rw[dB id s] at Z
     have X:l.dE<w.heap.size:=L.mE U (by
      rcases Z with ⟨cs,r,hh⟩|hh
      . exact⟨_,hh,rfl⟩
      exact⟨_,hh,rfl⟩)
     obtain⟨c,T,fz,b1,b2,D⟩:=L.room id l U Z;exact ZbJ
   exact CA.room k l a7 (.inr (t k E))
  lL:=fun id lZ l l' s O Z K rT=>by
   rcases pX id l O with ⟨B,LK⟩|⟨B,k,E,a,_⟩<;>rcases pX lZ l' Z with ⟨I,a7⟩|⟨I,k',vX,fS,_⟩
   . exact L.lL id lZ l l' s LK a7 (rG id B K) (rG lZ I rT)
   . have :=L.mE LK (rG id B K);have :=VE k' l' vX fS;exact .inl A0
   . have :=L.mE a7 (rG lZ I rT);have :=VE k l E a;exact .inl A0
   exact absurd (B.trans I.symm) s
  kI:=fun id l O K j Y F=>by
   rcases pX id l O with ⟨B,LK⟩|⟨B,k,E,a,_⟩
   . have X:=L.mE LK (rG id B K)
     rcases ae _ _ F with hh|hh
     . exact L.kI id l LK (rG id B K) j Y hh
     omega
   rcases F with F|⟨ab,l2,cs,r,q1,q2,q3,q4,q5⟩
   . exact CA.kI k l a ⟨_,t k E,rfl⟩ j Y F
   have s:ab≠k:=fun hh=>by rw[hh,t k E] at q2;cases q2
   have M:=(CA.cells ab l2 cs r q1 q2).2.1
   rcases CA.lL ab k l2 l s q1 a ⟨_,q2,rfl⟩ ⟨_,t k E,rfl⟩ with hd|hd|hd
   . exact hd q3
   . omega
   omega
  iT:=fun id l o O Z E=>by
   rcases pX id l O with ⟨s,U⟩|⟨_,k,_,_,ht⟩
   . rw[dB id s] at Z;have X:=L.mE U ⟨_,Z,LZ E⟩;obtain⟨a1,y,Q⟩:=L.iT id l o U Z E;exact⟨a1,y,Q.mono (q _ X) fun _ _ h=>h.mono A S⟩
   rw[ht] at Z;cases Z;cases E
  lt:=fun id l O=>by
   rcases pX id l O with ⟨s,U⟩|⟨hn,k,E,_,_⟩
   . have :=L.lt id l U;omega
   subst E;simp[tF,hn]
  iE:=fun b o F=>by
   rcases F with F|⟨id,l,cs,r,q1,q2,rfl,q4,q5⟩
   . exact CA.iE b o F
   obtain⟨a1,_,_,_,N⟩:=CA.cells id l cs r q1 q2;exact Zbn
  jE:=fun k cs E=>(L.jE k cs E).mono A S
  BP:=CA.BP
  mo:=L.mo}
 have ag:Ext G H w (FZ G G2 H H2 tk) (tF tk H) w2:={
  loc:=A
  iA:=S
  size:=V.size
  frame:=fun b X _=>q b X
  mV:=fun id l O K=>by
   rcases pX id l O with ⟨s,U⟩|⟨_,k,E,a,_⟩
   . exact .inr ⟨id,l,U,rG id s K,rfl⟩
   exact .inl (VE k l E a)
  pM:=fun b o F=>by
   rcases ae b o F with hh|hh
   . exact .inl hh
   exact .inr (.inl hh)
  next:=ak
  news:=fun id l O Z=>by
   rcases pX id l O with ⟨s,U⟩|⟨hn,_⟩
   . rw[Z] at U;cases U
   omega
  dead:=fun id l O K=>rG id (by have :=L.lt id l O;omega) K
  mo:=rfl
  same:=V.same}
 refine⟨_,aj,ag,?_⟩
 cases out with
 |ret v=>
  cases e with
  |returned u=>exact Ly t CA n p M
  |_=>exact p.elim
 |Lo v=>
  cases e with
  |panicked ch=>obtain⟨u,rfl,OS⟩:=p;exact⟨u,rfl,Ly t CA n OS M⟩
  |_=>exact p.elim
theorem Sound.frame(d:GN g){f:FuncId}{args:List AV}(N:cP args=true){out:Out}{H2:aB}(h:Sound P g f args ⟨0,.nil⟩ out H2){tk:Option Nat}(t:∀k,tk=some k->H2.get k=some .tok){n:Nat}
 (H:aB) {q:AV} (M:iH H2 tk H.next n out.av=some q):Sound P g f args H (out.with q) (tF tk H):=
 h.open.frame d N H fun o W X=>by grind
end
end
section
abbrev dI:=Nat->AV
abbrev FQ:=su->dI->List gW->aB->Prop
def nZ(g:bL)(f:dI):Arg->AV
 |.tmp t=>f t
 |.const v=>v
 |.jE n=>match g n with
  |some cs=>.pl cs
  |none=>aC
def jF(f:dI)(d:Nat)(v:AV):dI:=fun t=>if t=d then v else f t
theorem sZ(f:dI)(d:Nat)(v:AV):jF f d v d=v:=by simp[jF]
theorem pR(f:dI){d t:Nat}(v:AV)(h:t≠d):jF f d v t=f t:=by grind[jF]
def gJ(n:Nat)(f:dI):Option Nat->AV->dI
 |none,_=>f
 |some d,v=>if d<n then jF f d v else f
def lF(f:dI)(o:bH):Bool:=
 match o.guard with
 |none=>true
 |some (d,b)=>match f d with
  |.bool c=>c==b
  |_=>false
def nY(r:Option (AV×aB))(k:AV->aB->Prop):Prop:=
 match r with
 |some (v,H)=>k v H
 |none=>False
def bS(P:Program)(g:bL)(n:Nat):List bH->dI->List gW->aB->FQ->Prop
 |[],f,ds,H,Q=>Q .normal f ds H
 |o::r,f,ds,H,Q=>
  if lF f o then
   match o.op with
   |.call c azs=>∃out H',SQ P g (nZ g f c) (azs.map (nZ g f)) H out H'/\
     match out with
     |.ret v=>bS P g n r (gJ n f o.dst v) ds H' Q
     |.Lo v=>Q (.panic v) f ds H'
   |.panic x=>∃t v,nZ g f x=.iface t v/\Q (.panic (.iface t v)) f ds H
   |.mY c azs=>∃p,nB (nZ g f c)=some p/\bS P g n r (gJ n f o.dst aC) (.call p.1 (p.2.1++azs.map (nZ g f)++p.2.2)::ds) H Q
   |.xU x=>∃m es,nZ g f x=.map m/\H.get m=some (.map es)/\∀N c mb,N.length=es.length->N.Nodup->
     bS P g n r (gJ n f o.dst (.ref H.next 0)) ds ((H.set m (.tW es N c mb)).alloc (.iter m mb c [])) Q
   |.GY x=>∃w m mb c seen es N,nZ g f x=.ref w 0/\H.get w=some (.iter m mb c seen)/\H.get m=some (.tW es N c mb)/\
     ((∀b∈N,b∈seen)->bS P g n r (gJ n f o.dst (.iV [.bool false])) ds H Q)/\
     ∀j,j<N.length->N.getD j 0∉seen->bS P g n r (gJ n f o.dst (.iV [.bool true,(es.getD j (aC,aC)).1,(es.getD j (aC,aC)).2])) ds (H.set w (.iter m mb c (seen++[N.getD j 0]))) Q
   |.AZ x=>∃w m mb c seen es N j,nZ g f x=.ref w 0/\H.get w=some (.iter m mb c (seen++[N.getD j 0]))/\H.get m=some (.tW es N c mb)/\j<N.length/\
     bS P g n r (gJ n f o.dst (.iV [(es.getD j (aC,aC)).1,(es.getD j (aC,aC)).2])) ds H Q
   |op=>nY (dU (nZ g f) H op) fun v H'=>bS P g n r (gJ n f o.dst v) ds H' Q
  else bS P g n r (gJ n f o.dst aC) ds H Q
def HT(P:Program)(g:bL)(r:bH)(f:dI)(H:aB)(v:AV)(H':aB):Prop:=
 match r.op with
 |.call c azs=>∃p,nB (nZ g f c)=some p/\Sound P g p.1 (p.2.1++azs.map (nZ g f)++p.2.2) H (.ret v) H'
 |.panic _|.mY _ _=>False
 |op=>dU (nZ g f) H op=some (v,H')
def ZS(P:Program)(g:bL)(n:Nat)(pairs:List (Nat×Nat))(base:Nat):Nat->Nat->List bH->List (Nat×Nat)->List (Nat×aB×aB)->dI->aB->(dI->aB->Prop)->Prop
 |_,_,[],_,_,f,H,Q=>Q f H
 |i,k,r::rs,rd,ef,f,H,Q=>
  if lF f r then
   if r.op.fresh then
    ∃z val,BX (nZ g f) r.op=some (z,val)/\(∀x∈ef,(i,x.1)∈pairs->x.2.1.get (base+k)=x.2.2.get (base+k))/\
     ZS P g n pairs base (i+1) (k+1) rs ((i,base+k)::rd) ef (gJ n f r.dst (val (base+k))) (H.set (base+k) z) Q
   else if r.op.rF then
    ∃v H',HT P g r f H v H'/\H.next<=H'.next/\(∀x∈rd,(x.1,i)∈pairs->H.get x.2=H'.get x.2)/\
     ZS P g n pairs base (i+1) k rs rd ((i,H,H')::ef) (gJ n f r.dst v) H' Q
   else
    ∃v,HT P g r f H v H/\(∀id,r.op.dP (nZ g f)=some id->∀x∈ef,(i,x.1)∈pairs->x.2.1.get id=x.2.2.get id)/\
     ZS P g n pairs base (i+1) k rs (match r.op.dP (nZ g f) with|some id=>(i,id)::rd|none=>rd) ef (gJ n f r.dst v) H Q
  else ZS P g n pairs base (i+1) (if r.op.fresh then k+1 else k) rs rd ef (gJ n f r.dst aC) H Q
def iJ(next:dI->List gW->aB->Prop)(Q:FQ):FQ
 |.normal,f,ds,H=>next f ds H
 |e,f,ds,H=>Q e f ds H
def dX(id:Nat)(Q:FQ):FQ
 |.exit i,f,ds,H=>if i=id then Q .normal f ds H else Q (.exit i) f ds H
 |e,f,ds,H=>Q e f ds H
def oE(n:Nat)(f:dI):List (Nat×AV)->dI
 |[]=>f
 |(t,v)::r=>oE n (gJ n f (some t) v) r
def aAh(id:Nat)(out:Out)(W:aB):FQ
 |.normal,_,ds,H=>ds=[]/\out=.ret (.bool true)/\∃k sn,H.get id=some (.loop k sn .busy)/\W=H.set id (.loop k sn .ready)
 |.ret,_,ds,H=>ds=[]/\out=.ret (.bool false)/\∃k sn,H.get id=some (.loop k sn .busy)/\W=H.set id (.loop k sn (.done .ret))
 |.exit i,_,ds,H=>ds=[]/\out=.ret (.bool false)/\∃k sn,H.get id=some (.loop k sn .busy)/\W=H.set id (.loop k sn (.done (.exit i)))
 |.panic _,_,_,_=>False
def QW(A:LSt)(f:dI)(ds:List gW)(H:aB)(Q:FQ):Prop:=
 match A with
 |.ready=>Q .normal f ds H
 |.done .ret=>Q .ret f ds H
 |.done (.exit i)=>Q (.exit i) f ds H
 |_=>False
def LF(n:Nat)(f:dI):List AV:=(List.range n).map f
def nH(n:Nat)(f:dI):Prop:=∀t,n<=t->f t=aC
def FC(P:Program)(g:bL)(n:Nat):bX->dI->List gW->aB->FQ->Prop
 |.skip,f,ds,H,Q=>Q .normal f ds H
 |.ops rl,f,ds,H,Q=>bS P g n rl f ds H Q
 |.draw rl pairs,f,ds,H,Q=>(oJ H (rl.countP (·.op.fresh))=true/\
   ZS P g n pairs H.next 0 0 rl [] [] f {H with next:=H.next+rl.countP (·.op.fresh)} fun u H'=>Q .normal u ds H')\/
   (nH n f->∃x u H',PI P g rl pairs (LF n f) H (fun D l M=>D=x/\l=LF n u/\M=H')/\nH n u/\(∀t,t∉rl.filterMap (·.dst)->u t=f t)/\Q (.panic x) u ds H')\/
   (nH n f->∃x H',PH P g rl pairs (LF n f) H (fun D M=>D=x/\M=H')/\∀u:dI,nH n u->(∀t,t∉rl.filterMap (·.dst)->u t=f t)->Q (.panic x) u ds H')
 |.seq a b,f,ds,H,Q=>FC P g n a f ds H (iJ (fun f ds H=>FC P g n b f ds H Q) Q)
 |.cond c a b,f,ds,H,Q=>∃t,nZ g f c=.bool t/\if t then FC P g n a f ds H Q else FC P g n b f ds H Q
 |.block id a,f,ds,H,Q=>FC P g n a f ds H (dX id Q)
 |.loop a,f,ds,H,Q=>∃(I:Nat->dI->List gW->aB->Prop) (m:Nat),I m f ds H/\
   ∀m f ds H,I m f ds H->FC P g n a f ds H (iJ (fun f ds H=>∃k,k<m/\I k f ds H) Q)
 |.exit id,f,ds,H,Q=>Q (.exit id) f ds H
 |.ret,f,ds,H,Q=>Q .ret f ds H
 |.pO c ps MI body,f,ds,H,Q=>∃fid fs cs v y p l A L,nZ g f c=.func (.func fid) fs cs/\
   Sound P g fid (fs++[.yield (H.next+1)]++cs) ((H.alloc .AN).alloc (.loop ⟨ps,MI,body⟩ (LF n f) .ready)) (.ret v) y/\y.get (H.next+1)=some (.loop p l A)/\zH y (H.next+1) L/\
   QW A f (.mark H.next::ds) L Q
def UN(P:Program)(g:bL)(n:Nat)(k:HU)(f:dI)(id:Nat)(args:List AV)(H2:aB)(out:Out)(W:aB):Prop:=
 FC P g n k.MI (oE n f (k.ps.zip args)) [] H2 fun e u N H1=>match e with
  |.normal=>N=[]/\∃k1 b,H1.get id=some (.loop k1 b .ready)/\FC P g n k.body u [] (H1.set id (.loop k1 b .busy)) (aAh id out W)
  |_=>False
theorem nH.put{n:Nat}{f:dI}(h:nH n f)(A:Option Nat)(v:AV):nH n (gJ n f A v):=by
 cases A with
 |none=>exact h
 |some d=>
  simp only[gJ];split
  . intro t W;rw[pR f v A0];exact h t W
  omega
theorem Oc{n:Nat}{f:dI}(h:nH n f)(t:Nat):(LF n f).getD t aC=f t:=by
 unfold LF;by_cases W:t<n
 . grind
 rw[h t A0]
 grind
theorem qF{n:Nat}{f:dI}(A:Option Nat)(v:AV):LF n (gJ n f A v)=oM (LF n f) A v:=by
 cases A with
 |none=>rfl
 |some d=>
  simp only[gJ,oM,LF];apply Gd
  grind[sZ,pR]
theorem DE{n:Nat}{f:dI}(h:nH n f)(g:bL):nZ g f=Arg.eval g (LF n f):=by
 funext x
 cases x with
 |tmp t=>exact(Oc h t).symm
 |const v=>rfl
 |jE n=>rfl
theorem RU{n:Nat}{f:dI}(h:nH n f)(o:bH):lF f o=bW (LF n f) o:=by grind[lF,bW,Oc]
theorem MP{n:Nat}:∀(l:List (Nat×AV)) (f:dI),rY (LF n f) l=LF n (oE n f l)
 |[],f=>rfl
 |(t,v)::l,f=>by rw[rY,oE,<-MP l];rw[qF];rfl
theorem nH.rY{n:Nat}:∀(l:List (Nat×AV)) {f:dI},nH n f->nH n (oE n f l)
 |[],_,h=>h
 |(t,v)::l,_,h=>nH.rY l (h.put (some t) v)
def aTc(n:Nat)(Q:FQ):AQ:=fun e s ds H=>∃f,s=LF n f/\nH n f/\Q e f ds H
section
variable {P:Program} {g:bL} {n:Nat}
theorem kR:∀(rl:List bH) (f:dI) (ds:List gW) (H:aB) (Q:FQ),nH n f->bS P g n rl f ds H Q->uK P g rl (LF n f) ds H (aTc n Q)
 |[],f,ds,H,Q,hb,h=>⟨f,rfl,hb,h⟩
 |o::r,f,ds,H,Q,hb,h=>by
  unfold bS at h;unfold uK;rw[RU hb,DE hb] at h;split at h
  . rename_i L;rw[if_pos L];split at h
    . rename_i c X b;obtain⟨out,H',Z,B⟩:=h;rw[b];refine⟨out,H',Z,?_⟩
      cases out with
      |ret v=>
       have :=kR r _ ds H' Q (hb.put o.dst v) B
       rwa [qF] at this
      |Lo v=>exact⟨f,rfl,hb,B⟩
    . rename_i x b;obtain⟨t,v,O,Z⟩:=h;rw[b];exact⟨t,v,O,f,rfl,hb,Z⟩
    . rename_i c X b;obtain⟨p,O,Z⟩:=h;rw[b];refine⟨p,O,?_⟩;have :=kR r _ _ H Q (hb.put o.dst aC) Z
      rwa [qF] at this
    . rename_i x b;obtain⟨m,es,O,Z,B⟩:=h;rw[b];refine⟨m,es,O,Z,fun N c mb k1 k2=>?_⟩;have :=kR r _ _ _ Q (hb.put o.dst _) (B N c mb k1 k2)
      rwa [qF] at this
    . rename_i x b;obtain⟨w,m,mb,c,seen,es,N,O,Z,B,h4,M⟩:=h;rw[b];refine⟨w,m,mb,c,seen,es,N,O,Z,B,fun k=>?_,fun j k1 k2=>?_⟩
      . have :=kR r _ _ _ Q (hb.put o.dst _) (h4 k)
        rwa [qF] at this
      have :=kR r _ _ _ Q (hb.put o.dst _) (M j k1 k2)
      rwa [qF] at this
    . rename_i x b;obtain⟨w,m,mb,c,seen,es,N,j,O,Z,B,h4,M⟩:=h;rw[b];refine⟨w,m,mb,c,seen,es,N,j,O,Z,B,h4,?_⟩;have :=kR r _ _ _ Q (hb.put o.dst _) M
      rwa [qF] at this
    rename_i n1 n2 J a d e;unfold nY at h;split at h
    . rename_i v H' I;have :=kR r _ ds H' Q (hb.put o.dst v) h;rw[qF] at this;split
      . rename_i c X b;exact absurd b (n1 c X)
      . rename_i x b;exact absurd b (n2 x)
      . rename_i c X b;exact absurd b (J c X)
      . rename_i x b;exact absurd b (a x)
      . rename_i x b;exact absurd b (d x)
      . rename_i x b;exact absurd b (e x)
      exact⟨v,H',I,this⟩
    exact h.elim
  rename_i L;rw[if_neg L];have :=kR r _ ds H Q (hb.put o.dst aC) h
  rwa [qF] at this
theorem SV{f:dI}(X:nH n f){r:bH}{H H':aB}{v:AV}(h:HT P g r f H v H'):NT P g r (LF n f) H v H':=by
 unfold HT at h
 rwa [DE X] at h
theorem yH{pairs:List (Nat×Nat)}{base:Nat}{Q:dI->aB->Prop}:∀(rl:List bH) (i k:Nat) (a:List (Nat×Nat)) (t:List (Nat×aB×aB)) (f:dI) (H:aB),nH n f->
 ZS P g n pairs base i k rl a t f H Q->WQ P g pairs base i k rl a t (LF n f) H (fun s H=>∃f,s=LF n f/\nH n f/\Q f H)
 |[],i,k,a,t,f,H,hb,h=>⟨f,rfl,hb,h⟩
 |r::rs,i,k,a,t,f,H,hb,h=>by
  unfold ZS at h;unfold WQ;rw[RU hb] at h;split at h
  . rename_i L;rw[if_pos L];split at h
    . rename_i N;rw[if_pos N];obtain⟨b,val,O,Z,B⟩:=h;rw[DE hb] at O;refine⟨b,val,O,Z,?_⟩;have :=yH rs _ _ _ _ _ _ (hb.put r.dst _) B
      rwa [qF] at this
    rename_i N;rw[if_neg N];split at h
    . rename_i z;rw[if_pos z];obtain⟨v,H',O,Z,B,h4⟩:=h;refine⟨v,H',SV hb O,Z,B,?_⟩;have :=yH rs _ _ _ _ _ _ (hb.put r.dst _) h4
      rwa [qF] at this
    rename_i z;rw[if_neg z];obtain⟨v,O,Z,B⟩:=h;refine⟨v,SV hb O,by rw[<-DE hb];exact Z,?_⟩;have :=yH rs _ _ _ _ _ _ (hb.put r.dst _) B;rw[qF] at this;rw[<-DE hb];exact this
  rename_i L;rw[if_neg L];have :=yH rs _ _ _ _ _ _ (hb.put r.dst _) h
  rwa [qF] at this
theorem uM:∀(c:bX) (f:dI) (ds:List gW) (H:aB) (Q:FQ),nH n f->FC P g n c f ds H Q->AC P g c (LF n f) ds H (aTc n Q):=by
 intro c
 induction c with
 |skip=>exact fun f ds H Q X h=>⟨f,rfl,X,h⟩
 |ops rl=>exact fun f ds H Q X h=>kR rl f ds H Q X h
 |draw rl pairs=>
  intro f ds H Q X h;refine h.imp (fun h=>⟨h.1,yH rl 0 0 [] [] f _ X h.2⟩) fun h=>h.imp (fun h=>?_) fun h=>?_
  . obtain⟨x,u,H',O,Z,_,B⟩:=h X;exact O.mono fun j l V ⟨T,o,C⟩=>⟨u,o,Z,by rw[T,C];exact B⟩
  obtain⟨x,H',O,B⟩:=h X;refine O.mono fun j V ⟨T,C⟩ l U W=>?_;have Y:l.length=n:=by rw[U];simp[LF]
  refine⟨fun t=>l.getD t aC,?_,fun t W=>?_,?_⟩
  . apply Et
    all_goals grind[LF]
  . grind
  rw[T,C];exact B _ (fun t W=>by grind) fun t z=>(W t z).trans (Oc X t)
 |seq a b R w=>
  intro f ds H Q X h;show AC P g a (LF n f) ds H _;refine fD (fun e s ds H D=>?_) (R f ds H _ X h);obtain⟨u,rfl,r,D⟩:=D
  cases e with
  |normal=>exact w u ds H Q r D
  |_=>exact⟨u,rfl,r,D⟩
 |cond c a b R w=>
  intro f ds H Q X h;obtain⟨t,O,Z⟩:=h;rw[DE X] at O;refine⟨t,O,?_⟩
  grind
 |block id a K=>
  intro f ds H Q X h;show AC P g a (LF n f) ds H _;refine fD (fun e s ds H D=>?_) (K f ds H _ X h);obtain⟨u,rfl,r,D⟩:=D
  cases e with
  |exit i=>
   simp only[dX] at D;simp only[qU];split
   . rename_i F;rw[if_pos F] at D;exact⟨u,rfl,r,D⟩
   rename_i F;rw[if_neg F] at D;exact⟨u,rfl,r,D⟩
  |_=>exact⟨u,rfl,r,D⟩
 |loop a K=>
  intro f ds H Q X h;obtain⟨I,m,G,J⟩:=h;refine⟨fun m s ds H=>∃f,s=LF n f/\nH n f/\I m f ds H,m,⟨f,rfl,X,G⟩,?_⟩;rintro m s N H1 ⟨d,rfl,q,O⟩;refine fD (fun e s ds H D=>?_) (K d N H1 _ q (J m d N H1 O));obtain⟨u,rfl,r,D⟩:=D
  cases e with
  |normal=>obtain⟨k,E,D⟩:=D;exact⟨k,E,u,rfl,r,D⟩
  |_=>exact⟨u,rfl,r,D⟩
 |exit id=>exact fun f ds H Q X h=>⟨f,rfl,X,h⟩
 |ret=>exact fun f ds H Q X h=>⟨f,rfl,X,h⟩
 |pO c S a b R w=>
  intro f ds H Q X h;obtain⟨fid,fs,cs,v,y,p,l,A,L,O,Z,B,h4,M⟩:=h;rw[DE X] at O;refine⟨fid,fs,cs,v,y,p,l,A,L,O,Z,B,h4,?_⟩
  cases A with
  |ready=>exact⟨f,rfl,X,M⟩
  |done e=>cases e<;>exact⟨f,rfl,X,M⟩
  |busy=>exact M.elim
  |over _=>exact M.elim
theorem tp{rl:List bH}:∀{f:dI} {ds:List gW} {H:aB} {Q z:FQ},(∀e f ds H,Q e f ds H->z e f ds H)->bS P g n rl f ds H Q->bS P g n rl f ds H z:=by
 induction rl with
 |nil=>exact fun D h=>D _ _ _ _ h
 |cons o r K=>
  intro f ds H Q z D h;unfold bS at h ⊢;split
  . rename_i L;rw[if_pos L] at h;split at h
    . obtain⟨out,H',O,B⟩:=h;refine⟨out,H',O,?_⟩
      cases out with
      |ret v=>exact K D B
      |Lo v=>exact D _ _ _ _ B
    . obtain⟨t,v,O,Z⟩:=h;exact⟨t,v,O,D _ _ _ _ Z⟩
    . obtain⟨p,O,Z⟩:=h;exact⟨p,O,K D Z⟩
    . exact ZbA
    . exact ZaT
    . exact Zbq
    unfold nY at h ⊢;split at h
    . exact K D h
    exact h.elim
  rename_i L;rw[if_neg L] at h;exact K D h
theorem Wa{pairs:List (Nat×Nat)}{base:Nat}{rl:List bH}:∀{i k:Nat} {a:List (Nat×Nat)} {t:List (Nat×aB×aB)} {f:dI} {H:aB} {Q z:dI->aB->Prop},(∀f H,Q f H->z f H)->
 ZS P g n pairs base i k rl a t f H Q->ZS P g n pairs base i k rl a t f H z:=by
 induction rl with
 |nil=>exact fun D h=>D _ _ h
 |cons r W K=>grind[ZS]
variable{c:bX}
theorem jJ:∀{f:dI} {ds:List gW} {H:aB} {Q z:FQ},(∀e f ds H,Q e f ds H->z e f ds H)->FC P g n c f ds H Q->FC P g n c f ds H z:=by
 induction c with
 |skip=>exact fun D h=>D _ _ _ _ h
 |ops rl=>exact fun D h=>tp D h
 |draw rl pairs=>exact fun D h=>h.imp (fun h=>⟨h.1,Wa (fun s H=>D _ _ _ _) h.2⟩) fun h=>h.imp (fun h X=>let⟨x,u,H',O,Z,B,h4⟩:=h X;⟨x,u,H',O,Z,B,D _ _ _ _ h4⟩) fun h X=>let⟨x,H',O,Z⟩:=h X;⟨x,H',O,fun u r W=>D _ _ _ _ (Z u r W)⟩
 |seq a b R w=>
  intro f ds H Q z D h;refine R (fun e f ds H h=>?_) h
  cases e with
  |normal=>exact w D h
  |_=>exact D _ _ _ _ h
 |cond c a b R w=>
  intro f ds H Q z D h;exact ZbI
 |block id a K=>
  intro f ds H Q z D h;refine K (fun e f ds H h=>?_) h
  cases e with
  |exit i=>grind[dX]
  |_=>exact D _ _ _ _ h
 |loop a K=>
  intro f ds H Q z D h;obtain⟨I,m,G,d⟩:=h;refine⟨I,m,G,fun m f ds H F=>K (fun e f ds H h=>?_) (d m f ds H F)⟩
  cases e with
  |normal=>exact h
  |_=>exact D _ _ _ _ h
 |exit id=>exact fun D h=>D _ _ _ _ h
 |ret=>exact fun D h=>D _ _ _ _ h
 |pO c S a b R w=>
  intro f ds H Q z D h;obtain⟨fid,fs,cs,v,y,p,l,A,L,O,Z,B,h4,M⟩:=h;refine⟨fid,fs,cs,v,y,p,l,A,L,O,Z,B,h4,?_⟩
  cases A with
  |ready=>exact D _ _ _ _ M
  |done e=>cases e<;>exact D _ _ _ _ M
  |busy=>assumption
  |over _=>assumption
def dY(args:List AV):dI:=fun t=>args.getD t aC
def aIb(f:dI)(H:aB):KA->Option AV
 |.tmp t=>some (f t)
 |.cell a agg n=>match dU (nZ g0 f) H (.load agg n (.tmp a)) with
  |some (v,_)=>some v
  |none=>none
def ED(f:dI)(H:aB):List KA->Option (List AV)
 |[]=>some []
 |x::r=>match aIb f H x,ED f H r with
  |some v,some vs=>some (v::vs)
  |_,_=>none
theorem Lv{f:dI}(X:nH n f)(H:aB):∀l,ED f H l=rA (LF n f) H l
 |[]=>rfl
 |x::r=>by
  have K:=Lv X H r
  cases x with
  |tmp t=>grind[ED,rA,aIb,aAc,Oc]
  |cell a e m=>grind[ED,rA,aIb,aAc,DE]
theorem sB{args:List AV}(h:args.length<=n):nH n (dY args)/\LF n (dY args)=args++List.replicate (n -args.length) aC:=by
 refine⟨fun t W=>?_,Gd fun t=>?_⟩
 all_goals grind[dY,getD_eq,LF]
def SI(W:List KA)(R:Out->aB->Prop):FQ
 |.normal,f,ds,H|.ret,f,ds,H=>ds=[]/\∃vs,ED f H W=some vs/\R (.ret (nJ vs)) H
 |.panic v,_,ds,H=>ds=[]/\R (.Lo v) H
 |.exit _,_,_,_=>False
theorem aBg{F:CC}{args:List AV}(I:args.length<=F.ntmps){H:aB}{R:Out->aB->Prop}(h:FC P g F.ntmps F.body (dY args) [] H (SI F.results R)):
 AC P g F.body (sC F args) [] H (aPy F R):=by
 obtain⟨X,U⟩:=sB I;unfold sC;rw[<-U];refine fD (fun e s ds H D=>?_) (uM F.body _ [] H _ X h);obtain⟨f,rfl,r,D⟩:=D
 cases e with
 |normal=>obtain⟨O,vs,Z,B⟩:=D;exact⟨O,vs,by grind[Lv],B⟩
 |ret=>obtain⟨O,vs,Z,B⟩:=D;exact⟨O,vs,by grind[Lv],B⟩
 |panic v=>exact D
 |exit id=>exact D
def bH.dL(r:bH):Bool:=match r.op with|.xU _|.GY _=>false|_=>true
def bX.dL:bX->Bool
 |.ops rl=>rl.all bH.dL
 |.seq a b|.cond _ a b=>a.dL&&b.dL
 |.block _ a|.loop a=>a.dL
 |_=>true
theorem ZO{rl:List bH}(hd:rl.all bH.dL=true):∀{s:List AV} {ds:List gW} {H:aB} {Q:AQ},uK P g rl s ds H Q->
 ∃z l V H',Q z l V H'/\uK P g rl s ds H (fun e s d h=>e=z/\s=l/\d=V/\h=H'):=by
 induction rl with
 |nil=>exact fun {s ds H Q} h=>⟨.normal,s,ds,H,h,rfl,rfl,rfl,rfl⟩
 |cons o r K=>
  intro s ds H Q h;simp only[List.all_cons,Ak] at hd;have K:=fun {s ds H Q}=> @K hd.2 s ds H Q;unfold uK at h ⊢;by_cases L:bW s o=true
  . simp only[L,if_true] at h ⊢;split at h
    . obtain⟨out,H',O,B⟩:=h
      cases out with
      |ret v=>obtain⟨z,l,V,H1,q,n⟩:=K B;exact⟨z,l,V,H1,q,.ret v,H',O,n⟩
      |Lo v=>exact⟨.panic v,s,ds,H',B,.Lo v,H',O,rfl,rfl,rfl,rfl⟩
    . obtain⟨t,v,O,Z⟩:=h;exact⟨_,s,ds,H,Z,t,v,O,rfl,rfl,rfl,rfl⟩
    . obtain⟨p,O,Z⟩:=h;obtain⟨z,l,V,H1,q,n⟩:=K Z;exact⟨z,l,V,H1,q,p,O,n⟩
    . rename_i x b;simp[bH.dL,b] at hd
    . rename_i x b;simp[bH.dL,b] at hd
    . obtain⟨w,m,mb,c,seen,es,N,j,O,Z,B,h4,M⟩:=h;obtain⟨z,l,V,H1,q,n⟩:=K M;exact⟨z,l,V,H1,q,w,m,mb,c,seen,es,N,j,O,Z,B,h4,n⟩
    obtain⟨v,H',O,Z⟩:=h;obtain⟨z,l,V,H1,q,n⟩:=K Z;exact⟨z,l,V,H1,q,v,H',O,n⟩
  simp only[L] at h ⊢;exact K h
theorem so{pairs:List (Nat×Nat)}{base:Nat}{rl:List bH}:∀{i k:Nat} {a:List (Nat×Nat)} {t:List (Nat×aB×aB)} {s:List AV} {H:aB} {Q:List AV->aB->Prop},
 WQ P g pairs base i k rl a t s H Q->∃l H',Q l H'/\WQ P g pairs base i k rl a t s H (fun s h=>s=l/\h=H'):=by
 induction rl with
 |nil=>exact fun {i k a t s H Q} h=>⟨s,H,h,rfl,rfl⟩
 |cons r W K=>grind[WQ]
def bX.tight:bX->Bool
 |.draw rl pairs=>pairs.all fun p=>decide (p.2<=rl.length)
 |.seq a b|.cond _ a b=>a.tight&&b.tight
 |.block _ a|.loop a=>a.tight
 |_=>true
def UF(b:Bool)(z:su)(l:List AV)(V:List gW)(H':aB):AQ:=fun e s d h=>e=z/\(s=l\/(b=false/\∃x,z=.panic x))/\d=V/\h=H'
theorem UF.up{b k:Bool}{z:su}{l:List AV}{V:List gW}{H':aB}(a:b=false->k=false){e:su}{s:List AV}{d:List gW}{h:aB}(X:UF b z l V H' e s d h):UF k z l V H' e s d h:=
 ⟨X.1,X.2.1.imp id fun h=>⟨a h.1,h.2⟩,X.2.2⟩
theorem JY(hd:c.dL=true):∀{s:List AV} {ds:List gW} {H:aB} {Q:AQ},AC P g c s ds H Q->
 ∃z l V H',Q z l V H'/\AC P g c s ds H (UF c.tight z l V H'):=by
 induction c with
 |skip=>exact fun {s ds H Q} h=>⟨.normal,s,ds,H,h,rfl,.inl rfl,rfl,rfl⟩
 |ops rl=>intro s ds H Q h;obtain⟨z,l,V,H',q,n⟩:=ZO hd h;exact⟨z,l,V,H',q,MM (fun e s d h X=>⟨X.1,.inl X.2.1,X.2.2⟩) n⟩
 |draw rl pairs=>
  intro s ds H Q h
  rcases h with h|⟨j,Hs,u,vs,O,D,r,f,ab,p,x,H1,T,o,e3,e4,Y,q⟩|⟨j,jb,Hs,u,vs,O,U,hw,hs,D,r,f,ab,p,x,H1,T,o,e3,e4,Y,q⟩
  . obtain⟨l,H',q,n⟩:=so h.2;exact⟨.normal,l,ds,H',q,.inl ⟨h.1,WS (fun s H h=>⟨rfl,.inl h.1,rfl,h.2⟩) n⟩⟩
  . exact⟨.panic x,u j,ds,H1,q,.inr (.inl ⟨j,Hs,u,vs,O,D,r,f,ab,p,x,H1,T,o,e3,e4,Y,rfl,.inl rfl,rfl,rfl⟩)⟩
  have ht:(bX.draw rl pairs).tight=false:=by simp only[bX.tight];rw[Jk];exact⟨_,O,by simp⟩
  exact⟨.panic x,s,ds,H1,q s rfl fun _ _=>rfl,.inr (.inr ⟨j,jb,Hs,u,vs,O,U,hw,hs,D,r,f,ab,p,x,H1,T,o,e3,e4,Y,fun l _ _=>⟨rfl,.inr ⟨ht,x,rfl⟩,rfl,rfl⟩⟩)⟩
 |seq a b R w=>
  simp only[bX.dL,Ak] at hd;have R:=fun {s ds H Q}=> @R hd.1 s ds H Q;have w:=fun {s ds H Q}=> @w hd.2 s ds H Q;have G:a.tight=false->(a.seq b).tight=false:=fun h=>by simp[bX.tight,h]
  have lb:b.tight=false->(a.seq b).tight=false:=fun h=>by simp[bX.tight,h]
  intro s ds H Q h;obtain⟨z,s1,N,H1,q,n⟩:=R h
  cases z with
  |normal=>
   obtain⟨ad,s2,Uj,H2,q2,hB⟩:=w q;refine⟨ad,s2,Uj,H2,q2,?_⟩;show AC P g a s ds H _;refine fD (fun e s d h X=>?_) n;obtain⟨rfl,rfl|⟨_,x,C⟩,rfl,rfl⟩:=X
   . exact fD (fun e s d h X=>X.up lb) hB
   cases C
  |_=>refine⟨_,s1,N,H1,q,?_⟩;show AC P g a s ds H _;refine fD (fun e s d h X=>?_) n;have X:=X.up G;obtain⟨rfl,Z⟩:=X;exact⟨rfl,Z⟩
 |cond c a b R w=>
  simp only[bX.dL,Ak] at hd;have R:=fun {s ds H Q}=> @R hd.1 s ds H Q;have w:=fun {s ds H Q}=> @w hd.2 s ds H Q;intro s ds H Q h;obtain⟨t,O,Z⟩:=h
  cases t with
  |true=>obtain⟨z,s1,N,H1,q,n⟩:=R Z;exact⟨z,s1,N,H1,q,true,O,fD (fun e s d h X=>X.up fun h=>by simp[bX.tight,h]) n⟩
  |false=>obtain⟨z,s1,N,H1,q,n⟩:=w Z;exact⟨z,s1,N,H1,q,false,O,fD (fun e s d h X=>X.up fun h=>by simp[bX.tight,h]) n⟩
 |block id a K=>
  have K:=fun {s ds H Q}=> @K hd s ds H Q;intro s ds H Q h;obtain⟨z,s1,N,H1,q,n⟩:=K h
  have a6:∀e,(∀i,e≠ .exit i)->Q e s1 N H1->AC P g a s ds H (UF a.tight e s1 N H1)->
   ∃z l V H',Q z l V H'/\AC P g (.block id a) s ds H (UF a.tight z l V H'):=fun e cU hq n=>by
   refine⟨e,s1,N,H1,hq,?_⟩;show AC P g a s ds H _;refine fD (fun e' s d h X=>?_) n;obtain⟨rfl,Z⟩:=X
   cases e' with
   |exit i=>exact absurd rfl (cU i)
   |_=>exact⟨rfl,Z⟩
  cases z with
  |exit i=>
   simp only[qU] at q;by_cases F:i=id
   . rw[if_pos F] at q;refine⟨.normal,s1,N,H1,q,?_⟩;show AC P g a s ds H _;refine fD (fun e s d h X=>?_) n;obtain⟨rfl,rfl|⟨_,x,C⟩,rfl,rfl⟩:=X
     . simp only[qU];rw[if_pos F];exact⟨rfl,.inl rfl,rfl,rfl⟩
     cases C
   rw[if_neg F] at q;refine⟨.exit i,s1,N,H1,q,?_⟩;show AC P g a s ds H _;refine fD (fun e s d h X=>?_) n;obtain⟨rfl,Z⟩:=X;simp only[qU];rw[if_neg F];exact⟨rfl,Z⟩
  |normal=>exact a6 _ (fun i X=>by cases X) q n
  |ret=>exact a6 _ (fun i X=>by cases X) q n
  |panic v=>exact a6 _ (fun i X=>by cases X) q n
 |loop a K=>
  have K:=fun {s ds H Q}=> @K hd s ds H Q;intro s ds H Q h;obtain⟨I,m,h0,hI⟩:=h
  have key:∀(m:Nat) (s:List AV) (ds:List gW) (H:aB),I m s ds H->
   ∃z l V H',Q z l V H'/\AC P g (.loop a) s ds H (UF a.tight z l V H'):=by
   intro m
   induction m using Nat.strongRecOn with
   |_ m W=>
    intro s ds H F;obtain⟨z,s1,N,H1,q,n⟩:=K (hI m s ds H F)
    have a7:∀e,e≠ .normal->Q e s1 N H1->AC P g a s ds H (UF a.tight e s1 N H1)->
     ∃z l V H',Q z l V H'/\AC P g (.loop a) s ds H (UF a.tight z l V H'):=fun e cU hq n=>by
     refine⟨e,s1,N,H1,hq,fun k l d' M=>l=s/\d'=ds/\M=H,0,⟨rfl,rfl,rfl⟩,?_⟩;rintro k _ _ _ ⟨rfl,rfl,rfl⟩;refine fD (fun e' s d h X=>?_) n;obtain⟨rfl,Z⟩:=X
     cases e' with
     |normal=>exact absurd rfl cU
     |_=>exact⟨rfl,Z⟩
    cases z with
    |normal=>
     obtain⟨k,E,Rc⟩:=q;obtain⟨ad,s2,Uj,H2,q2,J,j,hj,hJ⟩:=W k E s1 N H1 Rc;refine⟨ad,s2,Uj,H2,q2,fun x l d' M=>J x l d' M\/(x=j+1/\l=s/\d'=ds/\M=H),j+1,.inr ⟨rfl,rfl,rfl,rfl⟩,?_⟩;rintro x l d' M (C|⟨rfl,rfl,rfl,rfl⟩)
     . refine fD (fun e s d h X=>?_) (hJ x l d' M C)
       cases e with
       |normal=>obtain⟨y,hy,af⟩:=X;exact⟨y,hy,.inl af⟩
       |_=>exact X
     refine fD (fun e s d h X=>?_) n;obtain⟨rfl,rfl|⟨_,x,C⟩,rfl,rfl⟩:=X
     . exact⟨j,Fa j,.inl hj⟩
     cases C
    |exit i=>exact a7 _ (fun X=>by cases X) q n
    |ret=>exact a7 _ (fun X=>by cases X) q n
    |panic v=>exact a7 _ (fun X=>by cases X) q n
  exact key m s ds H h0
 |exit id=>exact fun {s ds H Q} h=>⟨_,s,ds,H,h,rfl,.inl rfl,rfl,rfl⟩
 |ret=>exact fun {s ds H Q} h=>⟨_,s,ds,H,h,rfl,.inl rfl,rfl,rfl⟩
 |pO c S a b R w=>
  intro s ds H Q h;obtain⟨fid,fs,cs,v,He,k',l,A,L,O,Z,B,h4,h5⟩:=h
  cases A with
  |ready=>exact⟨_,_,_,L,h5,fid,fs,cs,v,He,k',l,.ready,L,O,Z,B,h4,rfl,.inl rfl,rfl,rfl⟩
  |done e=>cases e<;>exact⟨_,_,_,L,h5,fid,fs,cs,v,He,k',l,.done _,L,O,Z,B,h4,rfl,.inl rfl,rfl,rfl⟩
  |busy=>exact h5.elim
  |over _=>exact h5.elim
theorem bZ{N:Bool}(t:Fit P g){f:FuncId}{F:CC}(u:gX P g N f F){args:List AV}(I:args.length<=F.ntmps){H:aB}{R:Out->aB->Prop}
 (h:FC P g F.ntmps F.body (dY args) [] H (SI F.results R)) (a:F.body.dL=true:=by first|rfl|decide):∃out H',R out H'/\Sound P g f args H out H':=by
 obtain⟨z,s,ds,H',q,n⟩:=JY a (aBg I h);have p:∀out,R out H'->AC P g F.body (sC F args) [] H (aPy F fun o h=>o=out/\h=H')->∃out H',R out H'/\Sound P g f args H out H':=fun out r n=>⟨out,H',r,Wd t u n⟩
 cases z with
 |exit id=>exact q.elim
 |panic v=>refine p (.Lo v) q.2 (fD (fun e s d h X=>?_) n);obtain⟨rfl,_,rfl,rfl⟩:=X;exact⟨q.1,rfl,rfl⟩
 |normal=>
  exact ZaN
 |ret=>
  exact ZaN
end
end
section
theorem eK{a b:Prop}(O:a->b)(Z:b->a):a=b:=propext ⟨O,Z⟩
theorem aQ{r n:Option (AV×aB)}(h:r=n)(k:AV->aB->Prop):nY r k=nY n k:=by rw[h]
theorem bV(v:AV)(H:aB)(k:AV->aB->Prop):nY (some (v,H)) k=k v H:=eK id id
section
variable {P:Program} {g:bL} {n:Nat} {r:List bH} {f:dI} {ds:List gW} {H:aB} {Q:FQ}
theorem yI:bS P g n [] f ds H Q=Q .normal f ds H:=eK id id
theorem UM(d:Nat)(op:eN)(m:op.plain=true)(hd:d<n):
 bS P g n (⟨some d,op,none⟩::r) f ds H Q=nY (dU (nZ g f) H op) fun v H'=>bS P g n r (jF f d v) ds H' Q:=by
 have :∀v,gJ n f (some d) v=jF f d v:=fun v=>by grind[gJ]
 conv=>lhs;unfold bS
 simp only[lF,if_true,this]
 cases op<;>first|rfl|cases m
theorem aBt(op:eN)(m:op.plain=true):
 bS P g n (⟨none,op,none⟩::r) f ds H Q=nY (dU (nZ g f) H op) fun v H'=>bS P g n r f ds H' Q:=by
 cases op<;>first|rfl|cases m
theorem KE(d:Nat)(x:Arg)(hd:d<n):bS P g n (⟨some d,(.mO x),none⟩::r) f ds H Q=nY (dU (nZ g f) H (.mO x)) fun v H'=>bS P g n r (jF f d v) ds H' Q:=UM d _ rfl hd
theorem CH(d:Nat)(o:BinOp)(x y:Arg)(hd:d<n):bS P g n (⟨some d,(.bin o x y),none⟩::r) f ds H Q=nY (dU (nZ g f) H (.bin o x y)) fun v H'=>bS P g n r (jF f d v) ds H' Q:=UM d _ rfl hd
variable{fid:FuncId}{v:AV}
theorem SU{d:Nat}{X:List Arg}{args:List AV}{H':aB}(hd:d<n)(I:X.map (nZ g f)=args)(w:Sound P g fid args H (.ret v) H')
 (h:bS P g n r (jF f d v) ds H' Q):bS P g n (⟨some d,.call (.const (.func (.func fid) [] [])) X,none⟩::r) f ds H Q:=by
 have :∀v,gJ n f (some d) v=jF f d v:=fun v=>by grind[gJ]
 unfold bS;simp only[lF,if_true,this];exact⟨.ret v,H',.inl ⟨(fid,[],[]),rfl,by grind⟩,h⟩
variable{c:Arg}
theorem nM{d:Nat}{fs cs:List AV}{X:List Arg}{args:List AV}{H':aB}(hd:d<n)(R:nZ g f c=.func (.func fid) fs cs)(I:fs++X.map (nZ g f)++cs=args)
 (w:Sound P g fid args H (.ret v) H') (h:bS P g n r (jF f d v) ds H' Q):bS P g n (⟨some d,.call c X,none⟩::r) f ds H Q:=by
 have :∀v,gJ n f (some d) v=jF f d v:=fun v=>by grind[gJ]
 unfold bS;simp only[lF,if_true,this];exact⟨.ret v,H',.inl ⟨(fid,fs,cs),by rw[R];rfl,by grind⟩,h⟩
theorem iG(t:Nat):nZ g f (.tmp t)=f t:=by rfl
theorem yQ(v:AV):nZ g f (.const v)=v:=by rfl
theorem MO(rl:List bH):FC P g n (.ops rl) f ds H Q=bS P g n rl f ds H Q:=eK id id
theorem UL:FC P g n .skip f ds H Q=Q .normal f ds H:=eK id id
theorem aTl:FC P g n .ret f ds H Q=Q .ret f ds H:=eK id id
theorem Oa(id:Nat):FC P g n (.exit id) f ds H Q=Q (.exit id) f ds H:=eK (fun h=>h) (fun h=>h)
variable{a:bX}
theorem aP{b:bX}(h:∀K:dI->List gW->aB->Prop,(∀f ds H,FC P g n b f ds H Q->K f ds H)->FC P g n a f ds H (iJ K Q)):FC P g n (.seq a b) f ds H Q:=h _ fun _ _ _ h=>h
theorem aM{id:Nat}(h:FC P g n a f ds H (dX id Q)):FC P g n (.block id a) f ds H Q:=h
theorem UH{b:bX}(t:Bool)(R:nZ g f c=.bool t)(O:t=true->FC P g n a f ds H Q)(Z:t=false->FC P g n b f ds H Q):FC P g n (.cond c a b) f ds H Q:=by
 refine⟨t,R,?_⟩
 grind
theorem UK(I:Nat->dI->List gW->aB->Prop)(m:Nat)(G:I m f ds H)(h:∀m f ds H,I m f ds H->FC P g n a f ds H (iJ (fun f ds H=>∃k,k<m/\I k f ds H) Q)):FC P g n (.loop a) f ds H Q:=⟨I,m,G,h⟩
theorem iZ(K:dI->List gW->aB->Prop):iJ K Q .normal f ds H=K f ds H:=eK id id
theorem aAw(K:dI->List gW->aB->Prop):iJ K Q .ret f ds H=Q .ret f ds H:=eK id id
theorem sD(K:dI->List gW->aB->Prop)(i:Nat):iJ K Q (.exit i) f ds H=Q (.exit i) f ds H:=eK id id
theorem OT(i:Nat):dX i Q .normal f ds H=Q .normal f ds H:=eK id id
theorem VI(i:Nat):dX i Q .ret f ds H=Q .ret f ds H:=eK id id
theorem sG(i:Nat):dX i Q (.exit i) f ds H=Q .normal f ds H:=by simp[dX]
theorem QJ(i j:Nat)(h:j≠i):dX i Q (.exit j) f ds H=Q (.exit j) f ds H:=by grind[dX]
end
class Pl (op:eN):Prop where h:op.plain=true
instance (x:Arg):Pl (.mO x):=⟨rfl⟩
instance (c a b:Arg):Pl (.pick c a b):=⟨rfl⟩
instance (z:List AV):Pl (.alloc z):=⟨rfl⟩
instance (x:Arg):Pl (.box x):=⟨rfl⟩
instance (z:List AV) (ps:List (Nat×Nat×Arg)):Pl (.build z ps):=⟨rfl⟩
instance (sz:Nat) (xs:List Arg):Pl (.Qf sz xs):=⟨rfl⟩
instance (agg:Bool) (m:Nat) (a:Arg):Pl (.load agg m a):=⟨rfl⟩
instance (m:Nat) (a x:Arg):Pl (.store m a x):=⟨rfl⟩
instance (x:Arg):Pl (.Qh x):=⟨rfl⟩
instance (o:BinOp) (x y:Arg):Pl (.bin o x y):=⟨rfl⟩
instance (neg:Bool) (x y:Arg):Pl (.eqb neg x y):=⟨rfl⟩
instance (neg:Bool) (sh:List Sk) (x y:Arg):Pl (.eqf neg sh x y):=⟨rfl⟩
instance (neg:Bool) (k:Nk) (lit:Bool) (x y:Arg):Pl (.eqn neg k lit x y):=⟨rfl⟩
instance (o:UnOp) (x:Arg):Pl (.un o x):=⟨rfl⟩
instance (k:IntKind) (x:Arg):Pl (.NW k x):=⟨rfl⟩
instance (x:Arg):Pl (.EG x):=⟨rfl⟩
instance (x:Arg):Pl (.GO x):=⟨rfl⟩
instance (m:Nat) (x:Arg):Pl (.jj m x):=⟨rfl⟩
instance (t:TypeId) (x:Arg):Pl (.ed t x):=⟨rfl⟩
instance (fn:Fn) (a b:List Arg):Pl (.SE fn a b):=⟨rfl⟩
instance:Pl (.BT):=⟨rfl⟩
instance (sz bytes:Nat) (z:List AV) (l c:Arg):Pl (.mJ sz bytes z l c):=⟨rfl⟩
instance (x:Arg) (lo hi:Option Arg):Pl (.RJ x lo hi):=⟨rfl⟩
instance (sz:Nat) (x:Arg) (lo hi mx:Option Arg):Pl (.Yi sz x lo hi mx):=⟨rfl⟩
instance (m sz:Nat) (x:Arg) (lo hi mx:Option Arg):Pl (.HL m sz x lo hi mx):=⟨rfl⟩
instance (off:Nat) (x:Arg):Pl (.xM off x):=⟨rfl⟩
instance (arr:Option Nat) (sz:Nat) (x i:Arg):Pl (.rH arr sz x i):=⟨rfl⟩
instance (m sz:Nat) (agg:Bool) (x i:Arg):Pl (.idx m sz agg x i):=⟨rfl⟩
instance (x i:Arg):Pl (.idxs x i):=⟨rfl⟩
instance (t:TypeId) (ok:Bool) (z:AV) (x:Arg):Pl (.ju t ok z x):=⟨rfl⟩
instance (x:Arg) (i:Nat):Pl (.Ul x i):=⟨rfl⟩
instance (x:Arg):Pl (.lens x):=⟨rfl⟩
instance (x:Arg):Pl (.QT x):=⟨rfl⟩
instance (x y:Arg):Pl (.VO x y):=⟨rfl⟩
instance (x y:Arg):Pl (.YA x y):=⟨rfl⟩
instance (sz bytes:Nat) (mu:Bool) (x y:Arg):Pl (.append sz bytes mu x y):=⟨rfl⟩
instance (sz:Nat) (x y:Arg):Pl (.copy sz x y):=⟨rfl⟩
instance (k:Sk) (z:AV) (ok:Bool) (x i:Arg):Pl (.lookup k z ok x i):=⟨rfl⟩
instance (k:Sk) (m i v:Arg):Pl (.Qa k m i v):=⟨rfl⟩
instance (sz:Nat) (z:List AV) (x:Arg):Pl (.clr sz z x):=⟨rfl⟩
theorem bNd(P:Program)(g:bL)(n:Nat):
 (∀(r:List bH) (f:dI) (ds:List gW) (H:aB) (Q:FQ) (d:Nat) (op:eN) [Pl op] (hd:d<n),bS P g n (⟨some d,op,none⟩::r) f ds H Q=nY (dU (nZ g f) H op) fun v H'=>bS P g n r (jF f d v) ds H' Q)/\
 (∀(r:List bH) (f:dI) (ds:List gW) (H:aB) (Q:FQ) (op:eN) [Pl op],bS P g n (⟨none,op,none⟩::r) f ds H Q=nY (dU (nZ g f) H op) fun v H'=>bS P g n r f ds H' Q)/\
 (∀(f:dI) (ds:List gW) (H:aB) (Q:FQ),bS P g n [] f ds H Q=Q .normal f ds H)/\
 (∀(f:dI) (ds:List gW) (H:aB) (Q:FQ) (rl:List bH),FC P g n (.ops rl) f ds H Q=bS P g n rl f ds H Q)/\
 (∀(f:dI) (ds:List gW) (H:aB) (Q:FQ),FC P g n .skip f ds H Q=Q .normal f ds H)/\
 (∀(f:dI) (ds:List gW) (H:aB) (Q:FQ),FC P g n .ret f ds H Q=Q .ret f ds H)/\
 (∀(f:dI) (ds:List gW) (H:aB) (Q:FQ) (id:Nat),FC P g n (.exit id) f ds H Q=Q (.exit id) f ds H):=
 ⟨fun _ _ _ _ _ d op i hd=>UM d op i.h hd,fun _ _ _ _ _ op i=>aBt op i.h,fun _ _ _ _=>yI,fun _ _ _ _ rl=>MO rl,fun _ _ _ _=>UL,fun _ _ _ _=>aTl,fun _ _ _ _ id=>Oa id⟩
theorem NL:
 (∀(v:AV) (H:aB) (k:AV->aB->Prop),nY (some (v,H)) k=k v H)/\
 (∀(g:bL) (f:dI) (t:Nat),nZ g f (.tmp t)=f t)/\
 (∀(g:bL) (f:dI) (v:AV),nZ g f (.const v)=v)/\
 (∀(f:dI) (d:Nat) (v:AV),jF f d v d=v)/\
 (∀(f:dI) (d t:Nat) (v:AV),t≠d->jF f d v t=f t)/\
 (∀(f:dI) (ds:List gW) (H:aB) (Q:FQ) (K:dI->List gW->aB->Prop),iJ K Q .normal f ds H=K f ds H)/\
 (∀(f:dI) (ds:List gW) (H:aB) (Q:FQ) (K:dI->List gW->aB->Prop),iJ K Q .ret f ds H=Q .ret f ds H)/\
 (∀(f:dI) (ds:List gW) (H:aB) (Q:FQ) (K:dI->List gW->aB->Prop) (i:Nat),iJ K Q (.exit i) f ds H=Q (.exit i) f ds H)/\
 (∀(f:dI) (ds:List gW) (H:aB) (Q:FQ) (i:Nat),dX i Q .normal f ds H=Q .normal f ds H)/\
 (∀(f:dI) (ds:List gW) (H:aB) (Q:FQ) (i:Nat),dX i Q .ret f ds H=Q .ret f ds H)/\
 (∀(f:dI) (ds:List gW) (H:aB) (Q:FQ) (i:Nat),dX i Q (.exit i) f ds H=Q .normal f ds H)/\
 (∀(f:dI) (ds:List gW) (H:aB) (Q:FQ) (i j:Nat),j≠i->dX i Q (.exit j) f ds H=Q (.exit j) f ds H):=
 ⟨bV,
   (fun g f t=>iG t),
   (fun g f v=>yQ v),
   sZ,
   (fun f d t v h=>pR f v h),
   (fun f ds H Q K=>iZ K),
   (fun f ds H Q K=>aAw K),
   (fun f ds H Q K i=>sD K i),
   (fun f ds H Q i=>OT i),
   (fun f ds H Q i=>VI i),
   (fun f ds H Q i=>sG i),
   (fun f ds H Q i j h=>QJ i j h)⟩
end
def Own(H:aB)(sz:Nat)(v:AV)(els:List (List AV)):Prop:=
 (v=.bG/\els=[])\/∃k,v=.bK (k+2) sz els/\k<H.next/\H.get k=some .tok
def Yp:AV->Option Nat
 |.bK (k+2) _ _=>some k
 |_=>none
structure bDm (H H':aB) (v:AV):Prop where
 next:H.next<=H'.next
 get:∀id,Yp v≠some id->id<H.next->H'.get id=H.get id
theorem Own.nil(H:aB)(sz:Nat):Own H sz .bG []:=.inl ⟨rfl,rfl⟩
theorem Own.bK{H:aB}{sz k:Nat}{els:List (List AV)}(E:k<H.next)(h:H.get k=some .tok):Own H sz (.bK (k+2) sz els) els:=.inr ⟨k,rfl,E,h⟩
theorem Own.fresh(H:aB)(sz:Nat)(els:List (List AV)):Own (H.alloc .tok) sz (.bK (H.next+2) sz els) els:=.bK A3 (by simp[aB.aJ])
variable{v:AV}
theorem Own.alloc{H:aB}{sz:Nat}{els:List (List AV)}(h:Own H sz v els)(o:eS):Own (H.alloc o) sz v els:=by
 rcases h with h|⟨k,O,Z,B⟩
 . exact .inl h
 exact .inr ⟨k,O,by simp;omega,by grind[aB.aJ]⟩
theorem Own.set{H:aB}{sz:Nat}{els:List (List AV)}(h:Own H sz v els)(id:Nat)(o:eS)(f:Yp v≠some id):Own (H.set id o) sz v els:=by
 rcases h with h|⟨k,rfl,Z,B⟩
 . exact .inl h
 refine .inr ⟨k,rfl,Z,?_⟩
 grind[aB.aD,Yp]
theorem Own.append{H:aB}{sz bytes:Nat}{els ys:List (List AV)}(h:Own H sz v els)(X:(els.length+ys.length)*bytes<=2^40):
 ∃q H',fM H sz bytes false v ys=some (q,H')/\Own H' sz q (els++ys)/\bDm H H' v:=by
 by_cases Q:ys=[]
 . subst Q;refine⟨v,H,?_,by grind,Ad _,fun _ _ _=>rfl⟩
   rcases h with ⟨rfl,rfl⟩|⟨k,rfl,_,E⟩<;>rfl
 rcases h with ⟨rfl,rfl⟩|⟨k,rfl,T,E⟩
 . refine⟨.bK (H.next+2) sz ys,H.alloc .tok,?_,.inr ⟨H.next,by simp,by simp,by simp[aB.aJ]⟩,by simp,fun id _ f=>by grind[aB.aJ]⟩
   grind[fM,lE]
 refine⟨.bK (H.next+2) sz (els++ys),(H.set k .dead).alloc .tok,?_,.inr ⟨H.next,rfl,by simp,by simp[aB.aJ]⟩,by simp,fun id O f=>?_⟩
 . grind[fM]
 rw[aB.aJ,if_neg Zag,aB.aD,if_neg]
 grind[Yp]
def LN(l:List Int):List (List AV):=l.map fun x=>[AV.int .i64 x]
theorem AT(a:List Int):(LN a).length=a.length:=by simp[LN]
theorem KT:∀l,fK (LN l)=true
 |[]=>rfl
 |x::l=>by exact KT l
theorem ER{P:Program}{g:bL}(d:GN g){f:FuncId}{args:List AV}(I:cP args=true){sz:Nat}{els:List (List AV)}(s:els≠[])(N:fK els=true)
 (h:∃out H',(∃v,out=.ret v/\Own H' sz v els)/\Sound P g f args ⟨0,.nil⟩ out H') (H:aB):Sound P g f args H (.ret (.bK (H.next+2) sz els)) (H.alloc .tok):=by
 obtain⟨out,H',⟨v,rfl,a⟩,w⟩:=h
 rcases a with ⟨_,z⟩|⟨k,rfl,_,E⟩
 . grind
 refine w.frame d I (tk:=some k) (fun p q=>by grind) (n:=0) H ?_;simp_all[Out.av,iH,kK,EK]
attribute [local congr] aQ
theorem wrap_i64{x:Int}(G: -2^63<=x)(O:x<2^63):IntKind.i64.wrap x=x:=by simp only[IntKind.wrap,IntKind.bits,IntKind.signed];simp;split<;>omega
def rangeLoop(id cmp ix ln nx:Nat)(B:bX):bX:=
 .block id (.loop (.seq (.ops [⟨some cmp,.bin .lss (.tmp ix) (.tmp ln),none⟩]) (.seq (.cond (.tmp cmp) .skip (.exit id)) (.seq B
  (.ops [⟨some nx,.bin .add (.tmp ix) (.const (.int .i64 1)),none⟩,⟨some ix,.mO (.tmp nx),none⟩])))))
theorem aBq{P:Program}{g:bL}{n:Nat}{id cmp ix ln nx:Nat}{B:bX}{f:dI}{ds:List gW}{H:aB}{Q:FQ}(J:Nat->dI->aB->Prop)(N:Nat)(y:(N:Int)<2^63)
 (M:cmp<n/\ix<n/\nx<n/\cmp≠ix/\cmp≠ln/\nx≠ix/\nx≠ln/\ix≠ln)
 (O:f ix=.int .i64 0) (Z:f ln=.int .i64 N) (G:J 0 f H)
 (A:∀(i:Nat) (f:dI) (H:aB) (d:Nat) (v:AV),d=cmp\/d=nx\/d=ix->J i f H->J i (jF f d v) H)
 (body:∀(i:Nat) (f:dI) (H:aB),i<N->f ix=.int .i64 i->f ln=.int .i64 N->J i f H->
   FC P g n B f ds H (iJ (fun u V H'=>V=ds/\u ix=.int .i64 i/\u ln=.int .i64 N/\J (i+1) u H') (dX id Q)))
 (done:∀(f:dI) (H:aB),f ln=.int .i64 N->J N f H->Q .normal f ds H):FC P g n (rangeLoop id cmp ix ln nx B) f ds H Q:=by
 obtain⟨s1,s2,s3,U,q,x,w,k⟩:=M;refine aM (UK (fun m u V H'=>V=ds/\∃i:Nat,i<=N/\m=N -i/\u ix=.int .i64 i/\u ln=.int .i64 N/\J i u H') N ⟨rfl,0,Bh _,by omega,O,Z,G⟩ ?_);rintro m j l H1 ⟨rfl,i,F,rfl,T,o,C⟩;refine aP fun K hK=>?_;rw[MO,CH _ _ _ _ s1];simp only[dU,iG,T,o,rL,if_true,Cq,bV,yI,iZ];apply hK;clear hK K;have a:=A i j H1 cmp (.bool (decide ((i:Int)<N))) (.inl rfl) C;refine aP fun K hK=>UH (decide ((i:Int)<N)) (by rw[iG,sZ]) (fun W=>?_) (fun W=>?_)
 . rw[UL,iZ];apply hK;clear hK K;have r:i<N:=by have :=Ek W;omega
   refine aP fun K hK=>?_;have X:=body i _ H1 r (by rw[pR _ _ (Ne.symm U)];exact T) (by rw[pR _ _ (Ne.symm q)];exact o) a;have mono:∀{c:bX} {f:dI} {ds:List gW} {H:aB} {Q z:FQ},(∀e f ds H,Q e f ds H->z e f ds H)->FC P g n c f ds H Q->FC P g n c f ds H z:=fun {c f ds H Q z} hq h=>jJ hq h;refine mono (fun e b p H2 h=>?_) X
   cases e with
   |normal=>
    obtain⟨rfl,b1,b2,D⟩:=h;show K b p H2;apply hK;rw[MO,CH _ _ _ _ s3];have L:IntKind.i64.wrap ((i:Int)+1)=((i+1:Nat):Int):=(by rw[wrap_i64 A0 A0];rfl);simp only[dU,iG,yQ,b1,rL,if_true,Cq,bV];rw[KE _ _ s2];simp only[dU,iG,bV,yI,iZ,sZ,L];refine⟨N -(i+1),by omega,trivial,i+1,by omega,rfl,rfl,?_,?_⟩
    . rw[pR _ _ (Ne.symm k),pR _ _ (Ne.symm w)];exact b2
    exact A _ _ _ _ _ (.inr (.inr rfl)) (A _ _ _ _ _ (.inr (.inl rfl)) D)
   |_=>exact h
 rw[Oa,sD,sD,sG];have R:i=N:=by have :=Gp W;omega
 subst R;exact done _ _ (by rw[pR _ _ (Ne.symm q)];exact o) a
theorem uh(ev:Arg->AV)(H:aB)(zero:List AV):dU ev H (.alloc zero)=some (.ref H.next 0,H.alloc (.cells zero false)):=rfl
def bSi:=And.intro uh <| And.intro @dU.eq_1 <| And.intro @dU.eq_2 <| And.intro @dU.eq_4 <| And.intro @dU.eq_5 <| And.intro @dU.eq_6 <| And.intro @dU.eq_7 <| And.intro @dU.eq_8 <| And.intro @dU.eq_9 <| And.intro @dU.eq_10 <| And.intro @dU.eq_11 <| And.intro @dU.eq_12 <| And.intro @dU.eq_13 <| And.intro @dU.eq_14 <| And.intro @dU.eq_15 <| And.intro @dU.eq_16 <| And.intro @dU.eq_17 <| And.intro @dU.eq_18 <| And.intro @dU.eq_19 <| And.intro @dU.eq_20 <| And.intro @dU.eq_21 <| And.intro @dU.eq_22 <| And.intro @dU.eq_23 <| And.intro @dU.eq_24 <| And.intro @dU.eq_25 <| And.intro @dU.eq_26 <| And.intro @dU.eq_27 <| And.intro @dU.eq_28 <| And.intro @dU.eq_29 <| And.intro @dU.eq_30 <| And.intro @dU.eq_31 <| And.intro @dU.eq_32 <| And.intro @dU.eq_33 <| And.intro @dU.eq_34 <| And.intro @dU.eq_35 <| And.intro @dU.eq_36 <| And.intro @dU.eq_37 <| And.intro @dU.eq_38 <| And.intro @dU.eq_39 @dU.eq_40
def bSj:=And.intro @rL.eq_1 <| And.intro @rL.eq_2 <| And.intro @rL.eq_3 <| And.intro @rL.eq_4 <| And.intro @rL.eq_5 <| And.intro @rL.eq_6 <| And.intro @rL.eq_7 <| And.intro @rL.eq_8 <| And.intro @rL.eq_9 <| And.intro @rL.eq_10 <| And.intro @rL.eq_11 <| And.intro @rL.eq_12 <| And.intro @rL.eq_13 <| And.intro @rL.eq_14 <| And.intro @rL.eq_15 <| And.intro @rL.eq_16 @rL.eq_17
section
def wN(v:AV)(A B:Prop):Prop:=
 match v with
 |.bool true=>A
 |.bool false=>B
 |_=>False
def gM(v:AV)(b:Bool)(A B:Prop):Prop:=
 match v with
 |.bool c=>if c=b then A else B
 |_=>B
section
variable {P:Program} {g:bL} {n:Nat} {r:List bH} {f:dI} {ds:List gW} {H:aB} {Q:FQ}
theorem WY(c:Arg)(a b:bX):FC P g n (.cond c a b) f ds H Q=wN (nZ g f c) (FC P g n a f ds H Q) (FC P g n b f ds H Q):=by
 refine eK (fun h=>?_) (fun h=>?_)
 . obtain⟨t,O,Z⟩:=h;rw[O]
   cases t with
   |true=>exact Z
   |false=>exact Z
 unfold wN at h;split at h
 . rename_i J;exact⟨true,J,h⟩
 . rename_i J;exact⟨false,J,h⟩
 grind
theorem IL(A B:Prop):wN (.bool true) A B=A:=eK id id
theorem CV(A B:Prop):wN (.bool false) A B=B:=eK id id
theorem uv(p:Prop) [Decidable p] (A B:Prop):wN (.bool (decide p)) A B=((p->A)/\(¬p->B)):=by by_cases m:p<;>simp_all[m,IL,CV]
theorem uw(b:Bool)(A B:Prop):wN (.bool (!b)) A B=wN (.bool b) B A:=by cases b<;>rfl
theorem aR{v q:AV}(h:v=q)(A B:Prop):wN v A B=wN q A B:=by rw[h]
theorem aTm(d x:Nat)(b:Bool)(op:eN)(hd:d<n):
 bS P g n (⟨some d,op,some (x,b)⟩::r) f ds H Q=gM (f x) b (bS P g n (⟨some d,op,none⟩::r) f ds H Q) (bS P g n r (jF f d aC) ds H Q):=by
 have :∀v,gJ n f (some d) v=jF f d v:=fun v=>by grind[gJ]
 conv=>lhs;unfold bS
 conv=>rhs;arg 3;unfold bS
 grind[lF,gM]
theorem xi(A B:Prop):gM (.bool true) true A B=A:=eK id id
theorem xf(A B:Prop):gM (.bool false) false A B=A:=eK id id
theorem xh(A B:Prop):gM (.bool true) false A B=B:=eK id id
theorem xg(A B:Prop):gM (.bool false) true A B=B:=eK id id
theorem aL{v q:AV}(h:v=q)(b:Bool)(A B:Prop):gM v b A B=gM q b A B:=by rw[h]
theorem ke(a b:bX):FC P g n (.seq a b) f ds H Q=FC P g n a f ds H (iJ (fun f ds H=>FC P g n b f ds H Q) Q):=eK id id
theorem bD{c:bX}{u:dI}(h:f=u):FC P g n c f ds H Q=FC P g n c u ds H Q:=by rw[h]
theorem aU{u:dI}(h:f=u):bS P g n r f ds H Q=bS P g n r u ds H Q:=by rw[h]
variable{e:su}
theorem aS{K:dI->List gW->aB->Prop}{u:dI}(h:f=u):iJ K Q e f ds H=iJ K Q e u ds H:=by rw[h]
theorem aG{id:Nat}{u:dI}(h:f=u):dX id Q e f ds H=dX id Q e u ds H:=by rw[h]
end
theorem bNe:
 (∀(P:Program) (g:bL) (n:Nat) (f:dI) (ds:List gW) (H:aB) (Q:FQ) (c:Arg) (a b:bX),FC P g n (.cond c a b) f ds H Q=wN (nZ g f c) (FC P g n a f ds H Q) (FC P g n b f ds H Q))/\
 (∀(A B:Prop),wN (.bool true) A B=A)/\
 (∀(A B:Prop),wN (.bool false) A B=B)/\
 (∀(P:Program) (g:bL) (n:Nat) (r:List bH) (f:dI) (ds:List gW) (H:aB) (Q:FQ) (d x:Nat) (b:Bool) (op:eN) (hd:d<n),
   bS P g n (⟨some d,op,some (x,b)⟩::r) f ds H Q=gM (f x) b (bS P g n (⟨some d,op,none⟩::r) f ds H Q) (bS P g n r (jF f d aC) ds H Q))/\
 (∀(A B:Prop),gM (.bool true) true A B=A)/\
 (∀(A B:Prop),gM (.bool false) false A B=A)/\
 (∀(A B:Prop),gM (.bool true) false A B=B)/\
 (∀(A B:Prop),gM (.bool false) true A B=B)/\
 (∀(P:Program) (g:bL) (n:Nat) (f:dI) (ds:List gW) (H:aB) (Q:FQ) (a b:bX),FC P g n (.seq a b) f ds H Q=FC P g n a f ds H (iJ (fun f ds H=>FC P g n b f ds H Q) Q)):=
 ⟨fun _ _ _ _ _ _ _ c a b=>WY c a b,IL,CV,fun _ _ _ _ _ _ _ _ d x b op hd=>aTm d x b op hd,xi,xf,xh,xg,fun _ _ _ _ _ _ _ a b=>ke a b⟩
def aMw(id c:Nat)(l:bX)(B:bX)(A:bX):bX:=
 .block id (.loop (.seq (.seq l (.cond (.tmp c) .skip (.exit id))) (.seq B A)))
theorem UI{P:Program}{g:bL}{n:Nat}{id c:Nat}{l B A:bX}{f:dI}{ds:List gW}{H:aB}{Q:FQ}(J:Nat->dI->aB->Prop)(N:Nat)
 (G:J 0 f H)
 (k:∀(i:Nat) (f:dI) (H:aB),i<=N->J i f H->∀(K:dI->Prop),(∀u,u c=.bool (decide (i<N))->J i u H->K u)->∀z:FQ,FC P g n l f ds H (iJ (fun u V H'=>V=ds/\H'=H/\K u) z))
 (body:∀(i:Nat) (f:dI) (H:aB),i<N->J i f H->
   FC P g n B f ds H (iJ (fun u V H'=>V=ds/\FC P g n A u ds H' (iJ (fun u V H'=>V=ds/\J (i+1) u H') (dX id Q))) (dX id Q)))
 (done:∀(f:dI) (H:aB),J N f H->Q .normal f ds H):FC P g n (aMw id c l B A) f ds H Q:=by
 have mono:∀{c:bX} {f:dI} {ds:List gW} {H:aB} {Q z:FQ},(∀e f ds H,Q e f ds H->z e f ds H)->FC P g n c f ds H Q->FC P g n c f ds H z:=fun {c f ds H Q z} hq h=>jJ hq h;refine aM (UK (fun m u V H'=>V=ds/\∃i:Nat,i<=N/\m=N -i/\J i u H') N ⟨rfl,0,Bh _,by omega,G⟩ ?_);rintro m o d H1 ⟨rfl,i,F,rfl,C⟩;refine aP fun K hK=>?_;refine aP fun L dJ=>?_;refine mono (fun e j p H2 h=>?_) (k i o H1 F C (fun u=>L u d H1) (fun u O b=>?_) (iJ K (dX id Q) |> fun Z=>Z))
 . cases e with
   |normal=>obtain⟨rfl,rfl,h⟩:=h;exact h
   |_=>exact h
 apply dJ;rw[WY,iG,O];by_cases r:i<N
 . rw[Af r,IL,UL,iZ];apply hK;refine aP fun q U=>?_;refine mono (fun e j p H2 h=>?_) (body i u H1 r b)
   cases e with
   |normal=>
    obtain⟨rfl,h⟩:=h;apply U;refine mono (fun e S a W X=>?_) h
    cases e with
    |normal=>obtain⟨M,w⟩:=X;exact⟨N -(i+1),by omega,M,i+1,by omega,rfl,w⟩
    |_=>exact X
   |_=>exact h
 rw[Ac r,CV,Oa,sD,sD,sG];obtain rfl:i=N:=by omega
 exact done u H1 b
theorem VR.JS{G:Gh}{w:World}{tag sz:Nat}{els:List (List AV)}{u:Value}(h:VR G w (.bK tag sz els) u):VR G w (.bK 0 sz els) u:=by
 cases h with
 |bK _ _ _ b o cap us B h J W=>exact .bK 0 sz els b o cap us B h J ⟨W.1,trivial⟩
 |wE _ _ b o s W=>exact .wE _ _ b o s A0
theorem Sound.JS{P:Program}{g:bL}{f:FuncId}{sz:Nat}{els:List (List AV)}{rest:List AV}{H H':aB}{out:Out}(h:Sound P g f (.bK 0 sz els::rest) H out H')(tag:Nat):
 Sound P g f (.bK tag sz els::rest) H out H':=by
 refine⟨h.1,fun G w vs L J=>h.2 G w vs L ⟨J.1,fun j Y=>?_⟩⟩;have :=J.2 j Y
 cases j with
 |zero=>exact VR.JS this
 |succ j=>grind
def PQ(H:aB)(sz:Nat)(v:AV)(els:List (List AV)):Prop:=Own H sz v els/\(els=[]->v=.bG)
theorem PQ.nil(H:aB)(sz:Nat):PQ H sz .bG []:=⟨.nil H sz,fun _=>rfl⟩
variable{v:AV}
theorem PQ.alloc{H:aB}{sz:Nat}{els:List (List AV)}(h:PQ H sz v els)(o:eS):PQ (H.alloc o) sz v els:=⟨h.1.alloc o,h.2⟩
theorem PQ.append{H:aB}{sz bytes:Nat}{els:List (List AV)}{e:List AV}(h:PQ H sz v els)(X:(els.length+1)*bytes<=2^40):
 ∃q H',fM H sz bytes false v [e]=some (q,H')/\PQ H' sz q (els++[e])/\bDm H H' v:=by
 obtain⟨q,H',O,Z,B⟩:=h.1.append (bytes:=bytes) (ys:=[e]) A0;exact⟨q,H',O,⟨Z,fun z=>by simp_all⟩,B⟩
def bMt(H:aB)(sz:Nat)(els:List (List AV)):AV:=if els=[] then .bG else .bK (H.next+2) sz els
def bMs(H:aB)(els:List (List AV)):aB:=if els=[] then H else H.alloc .tok
theorem PQ.out(H:aB)(sz:Nat)(els:List (List AV)):PQ (bMs H els) sz (bMt H sz els) els:=by
 unfold bMs bMt;by_cases h:els=[]
 . subst h;exact PQ.nil _ _
 rw[if_neg h,if_neg h];exact⟨Own.fresh _ _ _,fun z=>absurd z h⟩
theorem bSl:
 (∀{α:Type} (a b:α),(a≠b)=¬(a=b))/\((¬False)=True)/\(∀{α:Type} {_:Decidable True} (a b:α),(if True then a else b)=a)/\((false=true)=False)/\
 (∀{α:Type} {_:Decidable False} (a b:α),(if False then a else b)=b)/\(∀{α j:Type} (f:α->j) (a:α),Option.map f (some a)=some (f a))/\(∀{α:Type} (a:α) (l:List α),(a::l).length=l.length+1)/\
 (∀{α:Type},([]:List α).length=0)/\(∀n:Nat,0+n=n)/\(∀{α:Type} (a d:α) (l:List α),(a::l).getD 0 d=a)/\(∀{α:Type} (a d:α) (l:List α) (n:Nat),(a::l).getD (n+1) d=l.getD n d)/\
 (∀p:Prop,(p/\p)=p)/\(∀n:Nat,(n<=n)=True)/\(∀(p:Prop) [Decidable p] (A B:Prop),wN (.bool (decide p)) A B=((p->A)/\(¬p->B))):=
 ⟨fun a b=>ne_eq a b,Fm,fun a b=>if_true a b,Br,fun a b=>Db a b,fun f a=>rfl,fun a l=>rfl,rfl,Ds,fun _ _ _=>rfl,fun _ _ _ _=>rfl,and_self,fun n=>eq_true (Ad n),fun p _ A B=>uv p A B⟩
def sy:=And.intro NL (And.intro bNe (And.intro bSi (And.intro bSj bSl)))
theorem sn:(∀n:Nat,n*1=n)/\(∀n:Nat,1*n=n)/\(∀n:Nat,0*n=0)/\(∀n:Nat,n -0=n)/\(∀n:Nat,n+0=n)/\(∀n:Nat,0+n=n):=
 ⟨Df,Fh,Gq,Is,Cv,Ds⟩
theorem sh:(∀n m:Nat,aB.get ⟨n,.nil⟩ m=none)/\(∀(H:aB) (o:eS) (i:Nat),(H.alloc o).get i=if i=H.next then some o else H.get i)/\(∀(H:aB) (j:Nat) (o:eS) (i:Nat),(H.set j o).get i=if i=j then some o else H.get i)/\
 (∀(H:aB) (o:eS),(H.alloc o).next=H.next+1)/\(∀(H:aB) (j:Nat) (o:eS),(H.set j o).next=H.next)/\(∀n:Nat,0+n=n)/\
 (∀{α:Type} {_:Decidable True} (a b:α),(if True then a else b)=a)/\(∀{α:Type} {_:Decidable False} (a b:α),(if False then a else b)=b):=
 ⟨fun _ _=>rfl,fun _ _ _=>aB.aJ ..,fun _ _ _ _=>aB.aD ..,fun _ _=>aB.bJ ..,fun _ _ _=>aB.bB ..,Ds,fun a b=>if_true a b,fun a b=>Db a b⟩
theorem sl:
 (∀{α:Type} (a:α) (l:List α) (n:Nat),(a::l).take (n+1)=a::l.take n)/\(∀{α:Type} (a:α) (l:List α) (n:Nat),(a::l).drop (n+1)=l.drop n)/\(∀{α:Type} (l:List α),l.take 0=[])/\(∀{α:Type} (l:List α),l.drop 0=l)/\
 (∀{α:Type} (n:Nat),([]:List α).take n=[])/\(∀{α:Type} (n:Nat),([]:List α).drop n=[])/\(∀{α:Type} (a:α) (l m:List α),a::l++m=a::(l++m))/\(∀{α:Type} (l:List α),[]++l=l)/\(∀{α:Type} (l:List α),l++[]=l)/\
 (∀{α j:Type} (f:α->j) (a:α) (l:List α),(a::l).map f=f a::l.map f)/\(∀{α j:Type} (f:α->j),[].map f=[])/\(∀{α:Type} (a d:α) (l:List α),(a::l).getD 0 d=a)/\
 (∀{α:Type} (a d:α) (l:List α) (n:Nat),(a::l).getD (n+1) d=l.getD n d)/\(∀{α:Type} (a b:α) (l:List α),(a::l).set 0 b=b::l)/\(∀{α:Type} (a b:α) (l:List α) (n:Nat),(a::l).set (n+1) b=a::l.set n b):=
 ⟨fun _ _ _=>rfl,fun _ _ _=>rfl,fun l=>Hv,fun _=>rfl,fun n=>List.take_nil,fun n=>Ky,fun _ _ _=>rfl,fun _=>rfl,fun l=>Bx l,fun _ _ _=>rfl,fun _=>rfl,fun _ _ _=>rfl,fun _ _ _ _=>rfl,fun _ _ _=>rfl,fun _ _ _ _=>rfl⟩
theorem sm:(∀{α j:Type} (f:α->j) (a:α) (l:List α),(a::l).map f=f a::l.map f)/\(∀{α j:Type} (f:α->j),[].map f=[])/\(∀{α:Type} (a b:α),(a≠b)=¬(a=b))/\((¬False)=True)/\
 (∀{α:Type} (a d:α) (l:List α),(a::l).getD 0 d=a)/\(∀{α:Type} (a d:α) (l:List α) (n:Nat),(a::l).getD (n+1) d=l.getD n d):=
 ⟨fun _ _ _=>rfl,fun _=>rfl,fun a b=>ne_eq a b,Fm,fun _ _ _=>rfl,fun _ _ _ _=>rfl⟩
end
end Go.Av
