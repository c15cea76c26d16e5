/-
  Part of the proof of statement 9
-/
import Derived.Test.YtogfcjbgeebfkaaGreatDoorA04
import Derived.Recover
set_option linter.unusedVariables false
set_option linter.unusedSimpArgs false
set_option linter.unusedSectionVars false
set_option linter.defProp false
namespace Go.Av
open Go
section
inductive VT where
 |nil
 |node (v:AV) (l r:VT)
def VT.get:VT->Nat->AV
 |.nil,_=>aB
 |.node v l r,n=>match n with
  |0=>v
  |m+1=>match Nat.beq (Nat.mod m 2) 0 with
   |true=>l.get (Nat.div m 2)
   |false=>r.get (Nat.div m 2)
def VT.root:VT->AV
 |.nil=>aB
 |.node v _ _=>v
def VT.left:VT->VT
 |.nil=>.nil
 |.node _ l _=>l
def VT.right:VT->VT
 |.nil=>.nil
 |.node _ _ r=>r
def VT.KA:Nat->VT->Nat->AV->VT
 |0,t,_,v=>.node v t.left t.right
 |f+1,t,n,v=>match n with
  |0=>.node v t.left t.right
  |m+1=>match Nat.beq (Nat.mod m 2) 0 with
   |true=>.node t.root (VT.KA f t.left (Nat.div m 2) v) t.right
   |false=>.node t.root t.left (VT.KA f t.right (Nat.div m 2) v)
theorem VT.Xj(t:VT):t.get 0=t.root:=by cases t<;>rfl
theorem VT.LN(t:VT)(m:Nat):t.get (m+1)=if Nat.beq (Nat.mod m 2) 0=true then t.left.get (Nat.div m 2) else t.right.get (Nat.div m 2):=by
 cases t with
 |nil=>simp[VT.get,VT.left,VT.right]
 |node v l r=>grind[VT.get,VT.left,VT.right]
theorem Xp{m k:Nat}(O:Nat.beq (Nat.mod m 2) 0=Nat.beq (Nat.mod k 2) 0)(Z:Nat.div m 2=Nat.div k 2):m=k:=by
 have a1:m%2=Nat.mod m 2:=rfl;have Q:k%2=Nat.mod k 2:=rfl;have s:m / 2=Nat.div m 2:=rfl;have i:k / 2=Nat.div k 2:=rfl
 have h4:m%2=0↔k%2=0:=by
  constructor
  . intro h;simp_all
  intro h;simp_all
 omega
theorem VT.LM:∀(f:Nat) (t:VT) (n:Nat) (v:AV) (m:Nat),n<=f->(VT.KA f t n v).get m=if m=n then v else t.get m:=by
 intro f
 induction f with
 |zero=>
  intro t n v m A;obtain rfl:n=0:=by omega
  cases m with
  |zero=>rfl
  |succ m=>simp[VT.KA,VT.LN,VT.left,VT.right]
 |succ f z=>
  intro t n v m A
  cases n with
  |zero=>
   cases m with
   |zero=>rfl
   |succ m=>simp[VT.KA,VT.LN,VT.left,VT.right]
  |succ n=>
   have hd:Nat.div n 2<=f:=Ay (Fs n 2) A0
   cases X:Nat.beq (Nat.mod n 2) 0 with
   |true=>
    simp only[VT.KA,X]
    cases m with
    |zero=>simp[VT.Xj,VT.root]
    |succ m=>grind[VT.LN,VT.left,VT.right,Xp]
   |false=>
    simp only[VT.KA,X]
    cases m with
    |zero=>simp[VT.Xj,VT.root]
    |succ m=>grind[VT.LN,VT.left,VT.right,Xp]
def VT.set(t:VT)(n:Nat)(v:AV):VT:=VT.KA n t n v
theorem VT.aH(t:VT)(n:Nat)(v:AV)(m:Nat):(t.set n v).get m=if m=n then v else t.get m:=VT.LM n t n v m (Ae _)
def PQ(n:Nat)(T:VT):List AV:=(List.range n).map T.get
def Ob(n:Nat)(T:VT):Prop:=∀t,n<=t->T.get t=aB
def AJ(n:Nat)(T:VT)(A:Option Nat)(v:AV):VT:=
 match A with
 |none=>T
 |some d=>match Nat.blt d n with
  |true=>T.set d v
  |false=>T
variable{T:VT}
theorem Ob.put{n:Nat}(h:Ob n T)(A:Option Nat)(v:AV):Ob n (AJ n T A v):=by
 unfold AJ;split
 . omega
 rename_i d
 cases X:Nat.blt d n with
 |true=>
  intro t q;rw[VT.aH,if_neg]
  . exact h t q
  grind[Nat.blt_eq]
 |false=>omega
theorem Ri{n:Nat}(h:Ob n T)(t:Nat):(PQ n T).getD t aB=T.get t:=by
 unfold PQ;by_cases q:t<n
 . grind
 rw[h t A0]
 grind
theorem sV{n:Nat}(A:Option Nat)(v:AV):PQ n (AJ n T A v)=oR (PQ n T) A v:=by
 unfold AJ oR
 cases A with
 |none=>rfl
 |some d=>
  unfold PQ;apply Ga
  cases a:Nat.blt d n with
  |true=>grind[VT.aH]
  |false=>
   have hd:¬d<n:=by
    intro X;have :Nat.blt d n=true:=by grind[Nat.blt_eq]
    grind
   grind
def BZ(n:Nat):List AV->Nat->VT->VT
 |[],_,T=>T
 |v::vs,i,T=>BZ n vs (i+1) (AJ n T (some i) v)
def ZU(g:bL)(T:VT):Arg->AV
 |.tmp t=>T.get t
 |.const v=>v
 |.kQ n=>match g n with
  |some cs=>.pl cs
  |none=>aB
theorem JC{n:Nat}(h:Ob n T)(g:bL):ZU g T=Arg.eval g (PQ n T):=by
 funext x
 cases x with
 |tmp t=>exact(Ri h t).symm
 |const v=>rfl
 |kQ n=>rfl
def PS(T:VT)(o:bG):Bool:=
 match o.guard with
 |none=>true
 |some (d,b)=>match T.get d with
  |.bool c=>c==b
  |_=>false
theorem Rp{n:Nat}(h:Ob n T)(o:bG):PS T o=bU (PQ n T) o:=by grind[PS,bU,Ri]
mutual
def AV.same:AV->AV->Bool
 |.bool a,.bool b=>a==b
 |.int j a,.int k b=>decide (j=k)&&decide (a=b)
 |.str a,.str b=>a==b
 |.NX,.NX=>true
 |.ref i o,.ref j p=>i==j&&o==p
 |.pl a,.pl b=>tN a b
 |.bE,.bE=>true
 |.bJ t s e,.bJ t' s' e'=>t==t'&&s==s'&&Nc e e'
 |.sl a b c d e,.sl a' b' c' d' e'=>a==a'&&b==b'&&c==c'&&d==d'&&e==e'
 |.func f a b,.func f' a' b'=>decide (f=f')&&tN a a'&&tN b b'
 |.EL,.EL=>true
 |.iface t v,.iface t' v'=>decide (t=t')&&v.same v'
 |.rE,.rE=>true
 |.agg a,.agg b=>tN a b
 |.jS a,.jS b=>tN a b
 |.map i,.map j=>i==j
 |.uD,.uD=>true
 |_,_=>false
def tN:List AV->List AV->Bool
 |[],[]=>true
 |x::r,y::s=>x.same y&&tN r s
 |_,_=>false
def Nc:List (List AV)->List (List AV)->Bool
 |[],[]=>true
 |x::r,y::s=>tN x y&&Nc r s
 |_,_=>false
end
mutual
theorem AV.WA:∀(a b:AV),a.same b=true->a=b:=by
 intro a b h
 cases a<;>cases b<;>simp only[AV.same,Ak,Dl,Br] at h<;>first
  |rfl
  |(cases h;done)
  |(subst h;rfl)
  |(obtain⟨O,Z⟩:=h;subst O;subst Z;rfl)
  |(obtain⟨⟨⟨⟨O,Z⟩,W⟩,h4⟩,M⟩:=h;subst O;subst Z;subst W;subst h4;subst M;rfl)
  |(rw[tO _ _ h];done)
  |(obtain⟨O,Z⟩:=h;subst O;rw[AV.WA _ _ Z];done)
  |(obtain⟨⟨O,Z⟩,W⟩:=h;subst O;subst Z;rw[UD _ _ W];done)
  |(obtain⟨⟨O,Z⟩,W⟩:=h;subst O;rw[tO _ _ Z,tO _ _ W];done)
theorem tO:∀(a b:List AV),tN a b=true->a=b:=by
 intro a b h
 cases a with
 |nil=>cases b with
  |nil=>rfl
  |cons y s=>simp[tN] at h
 |cons x r=>cases b with
  |nil=>simp[tN] at h
  |cons y s=>simp only[tN,Ak] at h;rw[AV.WA _ _ h.1,tO _ _ h.2]
theorem UD:∀(a b:List (List AV)),Nc a b=true->a=b:=by
 intro a b h
 cases a with
 |nil=>cases b with
  |nil=>rfl
  |cons y s=>simp[Nc] at h
 |cons x r=>cases b with
  |nil=>simp[Nc] at h
  |cons y s=>simp only[Nc,Ak] at h;rw[tO _ _ h.1,UD _ _ h.2]
end
def PM:Option eG->Option eG->Bool
 |none,none=>true
 |some (.cells a o),some (.cells b p)=>tN a b&&o==p
 |some .tok,some .tok=>true
 |some .dead,some .dead=>true
 |some (.map a),some (.map b)=>tN (a.map (·.1)) (b.map (·.1))&&tN (a.map (·.2)) (b.map (·.2))
 |_,_=>false
theorem aAd{a b:List (AV×AV)}(O:a.map (·.1)=b.map (·.1))(Z:a.map (·.2)=b.map (·.2)):a=b:=by
 induction a generalizing b with
 |nil=>simp_all
 |cons x r z=>cases b with
  |nil=>grind
  |cons y s=>grind
theorem RW{a b:Option eG}(h:PM a b=true):a=b:=by
 unfold PM at h
 grind[tO,aAd]
abbrev HF:=AV->List AV->aA->Option (Out×aA)
abbrev Res:=tw×VT×List gX×aA
def Nw(cf:HF)(g:bL)(n:Nat):List bG->VT->List gX->aA->Option Res
 |[],T,ds,H=>some (.normal,T,ds,H)
 |o::r,T,ds,H=>
  match PS T o with
  |true=>match o.op with
   |.call f azs=>match cf (ZU g T f) (azs.map (ZU g T)) H with
    |some (.ret v,H')=>Nw cf g n r (AJ n T o.dst v) ds H'
    |some (.MD v,H')=>some (.panic v,T,ds,H')
    |none=>none
   |.panic x=>match ZU g T x with
    |.iface t v=>some (.panic (.iface t v),T,ds,H)
    |_=>none
   |.nD f azs=>match nH (ZU g T f) with
    |some p=>Nw cf g n r (AJ n T o.dst aB) (.call p.1 (p.2.1++azs.map (ZU g T)++p.2.2)::ds) H
    |none=>none
   |op=>match dS (ZU g T) H op with
    |some (v,H')=>Nw cf g n r (AJ n T o.dst v) ds H'
    |none=>none
  |false=>Nw cf g n r (AJ n T o.dst aB) ds H
def exQ(cf:HF)(g:bL)(T:VT)(H:aA):eJ->Option (AV×aA)
 |.call f azs=>match nH (ZU g T f) with
  |some _=>match cf (ZU g T f) (azs.map (ZU g T)) H with
   |some (.ret v,H')=>some (v,H')
   |_=>none
  |none=>none
 |.panic _|.nD _ _=>none
 |op=>dS (ZU g T) H op
def ff(pairs:List (Nat×Nat))(i id:Nat)(p:List (Nat×aA×aA)):Bool:=
 p.all fun x=> !pairs.contains (i,x.1)||PM (x.2.1.get id) (x.2.2.get id)
def Uw(cf:HF)(g:bL)(n:Nat)(pairs:List (Nat×Nat))(base:Nat):Nat->Nat->List bG->List (Nat×Nat)->List (Nat×aA×aA)->VT->aA->Option (VT×aA)
 |_,_,[],_,_,T,H=>some (T,H)
 |i,k,r::rs,rd,ef,T,H=>
  match PS T r with
  |true=>match r.op.fresh with
   |true=>match CS (ZU g T) r.op with
    |some (ob,val)=>match ff pairs i (base+k) ef with
     |true=>Uw cf g n pairs base (i+1) (k+1) rs ((i,base+k)::rd) ef (AJ n T r.dst (val (base+k))) (H.set (base+k) ob)
     |false=>none
    |none=>none
   |false=>match r.op.rR with
    |true=>match exQ cf g T H r.op with
     |some (v,H')=>match Nat.ble H.next H'.next&&rd.all fun x=> !pairs.contains (x.1,i)||PM (H.get x.2) (H'.get x.2) with
      |true=>Uw cf g n pairs base (i+1) k rs rd ((i,H,H')::ef) (AJ n T r.dst v) H'
      |false=>none
     |none=>none
    |false=>match exQ cf g T H r.op with
     |some (v,_)=>match r.op.dL (ZU g T) with
      |some id=>match ff pairs i id ef with
       |true=>Uw cf g n pairs base (i+1) k rs ((i,id)::rd) ef (AJ n T r.dst v) H
       |false=>none
      |none=>Uw cf g n pairs base (i+1) k rs rd ef (AJ n T r.dst v) H
     |none=>none
  |false=>Uw cf g n pairs base (i+1) (match r.op.fresh with|true=>k+1|false=>k) rs rd ef (AJ n T r.dst aB) H
def Ti(f:VT->List gX->aA->Option Res):Nat->VT->List gX->aA->Option Res
 |0,_,_,_=>none
 |m+1,T,ds,H=>match f T ds H with
  |some (.normal,T',gB,H')=>Ti f m T' gB H'
  |r=>r
def TF(cf:HF)(g:bL)(n fuel:Nat):bY->VT->List gX->aA->Option Res
 |.skip,T,ds,H=>some (.normal,T,ds,H)
 |.ops rl,T,ds,H=>Nw cf g n rl T ds H
 |.draw rl pairs,T,ds,H=>match qV H (rl.countP (·.op.fresh)) with
  |true=>match Uw cf g n pairs H.next 0 0 rl [] [] T {H with next:=H.next+rl.countP (·.op.fresh)} with
   |some (T',H')=>some (.normal,T',ds,H')
   |none=>none
  |false=>none
 |.seq a b,T,ds,H=>match TF cf g n fuel a T ds H with
  |some (.normal,T',gB,H')=>TF cf g n fuel b T' gB H'
  |r=>r
 |.cond c a b,T,ds,H=>match ZU g T c with
  |.bool true=>TF cf g n fuel a T ds H
  |.bool false=>TF cf g n fuel b T ds H
  |_=>none
 |.block id a,T,ds,H=>match TF cf g n fuel a T ds H with
  |some (.exit i,T',gB,H')=>match Nat.beq i id with
   |true=>some (.normal,T',gB,H')
   |false=>some (.exit i,T',gB,H')
  |r=>r
 |.loop a,T,ds,H=>Ti (TF cf g n fuel a) fuel T ds H
 |.exit id,T,ds,H=>some (.exit id,T,ds,H)
 |.ret,T,ds,H=>some (.ret,T,ds,H)
 |.pT c ps Nr body,T,ds,H=>match ZU g T c with
  |.func (.func fid) fs cs=>match cf (.func (.func fid) fs cs) [.yield (H.next+1)] ((H.alloc .Nu).alloc (.loop ⟨ps,Nr,body⟩ (PQ n T) .ready)) with
   |some (.ret _,He)=>match He.get (H.next+1) with
    |some (.loop _ _ .ready)=>some (.normal,T,.mark H.next::ds,He.set (H.next+1) .dead)
    |some (.loop _ _ (.done .ret))=>some (.ret,T,.mark H.next::ds,He.set (H.next+1) .dead)
    |some (.loop _ _ (.done (.exit i)))=>some (.exit i,T,.mark H.next::ds,He.set (H.next+1) .dead)
    |_=>none
   |_=>none
  |_=>none
def MG(n:Nat)(T:VT):List (Nat×AV)->VT
 |[]=>T
 |(t,v)::r=>MG n (AJ n T (some t) v) r
section
variable {P:Program} {g:bL} {n fuel:Nat} {cf:HF}
theorem Sn.sound{a:AV}{args:List AV}{H H':aA}{out:Out}{p:FuncId×List AV×List AV}(h:Sn P g a args H out H')(m:nH a=some p):Sound P g p.1 (p.2.1++args++p.2.2) H out H':=by
 rcases h with ⟨q,D,h⟩|⟨id,rfl,_⟩
 . grind
 cases m
def IE(P:Program)(g:bL)(cf:HF):Prop:=∀c args H out H',cf c args H=some (out,H')->Sn P g c args H out H'
theorem tA(q:IE P g cf):∀(rl:List bG) (T:VT) (ds:List gX) (H:aA) (l:tw) (j:VT) (V:List gX) (H':aA),Ob n T->Nw cf g n rl T ds H=some (l,j,V,H')->
 Ob n j/\∀Q:AQ,Q l (PQ n j) V H'->vH P g rl (PQ n T) ds H Q
 |[],T,ds,H,l,j,V,H',hb,h=>by simp only[Nw,Aj,Ap] at h;obtain⟨rfl,rfl,rfl,rfl⟩:=h;exact⟨hb,fun Q D=>D⟩
 |o::r,T,ds,H,l,j,V,H',hb,h=>by
  unfold Nw at h;rw[JC hb,Rp hb] at h;unfold vH
  cases L:bU (PQ n T) o with
  |false=>rw[L] at h;dsimp only at h;have z:=tA q r _ ds H l j V H' (hb.put o.dst aB) h;rw[sV] at z;exact⟨z.1,fun Q D=>by simpa using z.2 Q D⟩
  |true=>
   rw[L] at h;dsimp only at h;simp only[if_true];split at h
   . rename_i f K b;split at h
     . rename_i v H1 R;have z:=tA q r _ ds H1 l j V H' (hb.put o.dst v) h;rw[sV] at z;exact⟨z.1,fun Q D=>by rw[b];exact⟨.ret v,H1,q _ _ _ _ _ R,z.2 Q D⟩⟩
     . rename_i v H1 R;simp only[Aj,Ap] at h;obtain⟨rfl,rfl,rfl,rfl⟩:=h;exact⟨hb,fun Q D=>by rw[b];exact⟨.MD v,H1,q _ _ _ _ _ R,D⟩⟩
     cases h
   . rename_i x b;split at h
     . rename_i t v C;simp only[Aj,Ap] at h;obtain⟨rfl,rfl,rfl,rfl⟩:=h;exact⟨hb,fun Q D=>by rw[b];exact⟨t,v,C,D⟩⟩
     cases h
   . rename_i f K b;split at h
     . rename_i p m;have z:=tA q r _ _ H l j V H' (hb.put o.dst aB) h;rw[sV] at z;exact⟨z.1,fun Q D=>by rw[b];exact⟨p,m,z.2 Q D⟩⟩
     cases h
   rename_i n1 n2 u;split at h
   . rename_i v H1 I;have z:=tA q r _ ds H1 l j V H' (hb.put o.dst v) h;rw[sV] at z;refine⟨z.1,fun Q D=>?_⟩;split
     . rename_i f K b;exact absurd b (n1 f K)
     . rename_i x b;exact absurd b (n2 x)
     . rename_i f K b;exact absurd b (u f K)
     . rename_i x b;rw[b] at I;cases I
     . rename_i x b;rw[b] at I;cases I
     . rename_i x b;rw[b] at I;cases I
     exact⟨v,H1,I,z.2 Q D⟩
   cases h
theorem TG(q:IE P g cf){T:VT}(X:Ob n T){H H':aA}{r:bG}{v:AV}(h:exQ cf g T H r.op=some (v,H')):Nq P g r (PQ n T) H v H':=by
 unfold exQ at h;rw[JC X] at h;unfold Nq;split at h
 . rename_i f K b;rw[b];split at h
   . rename_i p m;split at h
     . rename_i D H1 R;obtain⟨rfl,rfl⟩:=h;exact⟨p,m,(q _ _ _ _ _ R).sound m⟩
     grind
   grind
 all_goals grind
theorem Qc{pairs:List (Nat×Nat)}{i id:Nat}{p:List (Nat×aA×aA)}(h:ff pairs i id p=true):∀x∈p,(i,x.1)∈pairs->x.2.1.get id=x.2.2.get id:=by intro x C m;have :=Bh.1 h x C;simp only[Ea,Cx,List.contains_eq_mem,Ce] at this;exact RW (this.resolve_left fun X=>X m)
theorem rY(q:IE P g cf){pairs:List (Nat×Nat)}{base:Nat}:∀(rl:List bG) (i k:Nat) (a:List (Nat×Nat)) (p:List (Nat×aA×aA)) (T:VT) (H:aA) (j:VT) (H':aA),Ob n T->
 Uw cf g n pairs base i k rl a p T H=some (j,H')->Ob n j/\∀Q:List AV->aA->Prop,Q (PQ n j) H'->Wb P g pairs base i k rl a p (PQ n T) H Q
 |[],i,k,a,p,T,H,j,H',hb,h=>by simp only[Uw,Aj,Ap] at h;obtain⟨rfl,rfl⟩:=h;exact⟨hb,fun Q D=>D⟩
 |r::rs,i,k,a,p,T,H,j,H',hb,h=>by
  unfold Uw at h;rw[Rp hb] at h;unfold Wb
  cases L:bU (PQ n T) r with
  |false=>
   rw[L] at h;dsimp only at h;have z:=rY q rs _ _ _ _ _ _ j H' (hb.put r.dst aB) h;rw[sV] at z
   have E:(match r.op.fresh with|true=>k+1|false=>k)=if r.op.fresh then k+1 else k:=(by cases r.op.fresh<;>rfl);rw[E] at z;exact⟨z.1,fun Q D=>by simpa using z.2 Q D⟩
  |true=>
   rw[L] at h;dsimp only at h;simp only[if_true]
   cases N:r.op.fresh with
   |true=>
    rw[N] at h;dsimp only at h;simp only[if_true];rw[JC hb] at h;split at h
    . rename_i l val S;split at h
      . rename_i E;have z:=rY q rs _ _ _ _ _ _ j H' (hb.put r.dst (val (base+k))) h;rw[sV] at z;exact⟨z.1,fun Q D=>⟨l,val,S,Qc E,z.2 Q D⟩⟩
      cases h
    cases h
   |false=>
    rw[N] at h;dsimp only at h;simp only[Bs,Cv]
    cases B:r.op.rR with
    |true=>
     rw[B] at h;dsimp only at h;simp only[if_true];split at h
     . rename_i v H1 c;split at h
       . rename_i E;simp only[Ak] at E;have z:=rY q rs _ _ _ _ _ _ j H' (hb.put r.dst v) h;rw[sV] at z;refine⟨z.1,fun Q D=>⟨v,H1,TG q hb c,by simpa using Ai E.1,fun x C m=>?_,z.2 Q D⟩⟩;have :=Bh.1 E.2 x C;simp only[Ea,Cx,List.contains_eq_mem,Ce] at this;exact RW (this.resolve_left fun X=>X m)
       cases h
     cases h
    |false=>
     rw[B] at h;dsimp only at h;split at h
     . rename_i v H1 c;have e:=TG q hb c
       have A:H1=H:=by
        unfold Nq at e;split at e
        . rename_i b;rw[b] at B;cases B
        . exact e.elim
        . exact e.elim
        exact(Mt (H1:=H) B N e (fun id _=>rfl)).1
       rw[A] at e;rw[JC hb] at h;split at h
       . rename_i id d;split at h
         . rename_i E;have z:=rY q rs _ _ _ _ _ _ j H' (hb.put r.dst v) h;rw[sV] at z;refine⟨z.1,fun Q D=>⟨v,e,fun f u=>?_,?_⟩⟩
           . rw[d] at u;cases u;exact Qc E
           rw[d];exact z.2 Q D
         cases h
       rename_i d;have z:=rY q rs _ _ _ _ _ _ j H' (hb.put r.dst v) h;rw[sV] at z;refine⟨z.1,fun Q D=>⟨v,e,fun f u=>?_,?_⟩⟩
       . rw[d] at u;cases u
       rw[d];exact z.2 Q D
     cases h
theorem Mi{rl:List bG}:∀{s:List AV} {ds:List gX} {H:aA} {Q C:AQ},(∀e s ds H,Q e s ds H->C e s ds H)->vH P g rl s ds H Q->vH P g rl s ds H C:=by
 induction rl with
 |nil=>exact fun D h=>D _ _ _ _ h
 |cons o r z=>
  intro s ds H Q C D h;unfold vH at h ⊢;split
  . rename_i L;rw[if_pos L] at h;split at h
    . obtain⟨out,H',O,W⟩:=h;refine⟨out,H',O,?_⟩
      cases out with
      |ret v=>exact z D W
      |MD v=>exact D _ _ _ _ W
    . obtain⟨t,v,O,Z⟩:=h;exact⟨t,v,O,D _ _ _ _ Z⟩
    . obtain⟨p,O,Z⟩:=h;exact⟨p,O,z D Z⟩
    . exact ZbT
    . exact Za2
    . exact ZbI
    obtain⟨v,H',O,Z⟩:=h;exact⟨v,H',O,z D Z⟩
  rename_i L;rw[if_neg L] at h;exact z D h
theorem Wc{pairs:List (Nat×Nat)}{base:Nat}{rl:List bG}:∀{i k:Nat} {a:List (Nat×Nat)} {p:List (Nat×aA×aA)} {s:List AV} {H:aA} {Q C:List AV->aA->Prop},(∀s H,Q s H->C s H)->
 Wb P g pairs base i k rl a p s H Q->Wb P g pairs base i k rl a p s H C:=by
 induction rl with
 |nil=>exact fun D h=>D _ _ h
 |cons r X z=>grind[Wb]
theorem eW{c:bY}:∀{s:List AV} {ds:List gX} {H:aA} {Q C:AQ},(∀e s ds H,Q e s ds H->C e s ds H)->AC P g c s ds H Q->AC P g c s ds H C:=by
 induction c with
 |skip=>exact fun D h=>D _ _ _ _ h
 |ops rl=>exact fun D h=>Mi D h
 |draw rl pairs=>exact fun D h=>h.imp (fun h=>⟨h.1,Wc (fun s H=>D _ _ _ _) h.2⟩) fun h=>h.imp (fun h=>h.mono fun _ _ _=>D _ _ _ _) fun h=>h.mono fun _ _ h S U q=>D _ _ _ _ (h S U q)
 |seq a b R r=>
  intro s ds H Q C D h;refine R (fun e s ds H h=>?_) h
  cases e with
  |normal=>exact r D h
  |_=>exact D _ _ _ _ h
 |cond c a b R r=>
  intro s ds H Q C D h;exact ZbX
 |block id a z=>
  intro s ds H Q C D h;refine z (fun e s ds H h=>?_) h
  cases e with
  |exit i=>grind[rC]
  |_=>exact D _ _ _ _ h
 |loop a z=>
  intro s ds H Q C D h;obtain⟨I,m,o,J⟩:=h;refine⟨I,m,o,fun m s ds H F=>z (fun e s ds H h=>?_) (J m s ds H F)⟩
  cases e with
  |normal=>exact h
  |_=>exact D _ _ _ _ h
 |exit id=>exact fun D h=>D _ _ _ _ h
 |ret=>exact fun D h=>D _ _ _ _ h
 |pT c ps a b R r=>
  intro s ds H Q C D h;obtain⟨fid,fs,cs,v,B,p,S,y,G,O,Z,W,h4,M⟩:=h;refine⟨fid,fs,cs,v,B,p,S,y,G,O,Z,W,h4,?_⟩
  cases y with
  |ready=>exact D _ _ _ _ M
  |done e=>cases e<;>exact D _ _ _ _ M
  |busy=>assumption
  |over _=>assumption
theorem FN(q:IE P g cf):∀(c:bY) (T:VT) (ds:List gX) (H:aA) (l:tw) (j:VT) (V:List gX) (H':aA),Ob n T->TF cf g n fuel c T ds H=some (l,j,V,H')->
 Ob n j/\∀Q:AQ,Q l (PQ n j) V H'->AC P g c (PQ n T) ds H Q:=by
 intro c
 induction c with
 |skip=>intro T ds H l j V H' X h;simp only[TF,Aj,Ap] at h;obtain⟨rfl,rfl,rfl,rfl⟩:=h;exact⟨X,fun Q D=>D⟩
 |ops rl=>exact fun T ds H l j V H' X h=>tA q rl T ds H l j V H' X h
 |draw rl pairs=>
  intro T ds H l j V H' X h;simp only[TF] at h;split at h
  . rename_i C;split at h
    . rename_i f H1 hd;simp only[Aj,Ap] at h;obtain⟨rfl,rfl,rfl,rfl⟩:=h;have :=rY q rl 0 0 [] [] T _ f H1 X hd;exact⟨this.1,fun Q D=>.inl ⟨C,this.2 _ D⟩⟩
    cases h
  cases h
 |seq a b e r=>
  intro T ds H l j V H' X h;simp only[TF] at h;split at h
  . rename_i f N H1 I;have O:=e T ds H _ f N H1 X I;have Z:=r f N H1 l j V H' O.1 h;exact⟨Z.1,fun Q D=>O.2 _ (Z.2 Q D)⟩
  rename_i A;have O:=e T ds H l j V H' X h;refine⟨O.1,fun Q D=>O.2 _ ?_⟩
  cases l with
  |normal=>exact absurd h (A _ _ _)
  |_=>exact D
 |cond c a b e r=>
  intro T ds H l j V H' X h;simp only[TF] at h;rw[JC X] at h;split at h
  . rename_i R;have O:=e T ds H l j V H' X h;exact⟨O.1,fun Q D=>⟨true,R,O.2 Q D⟩⟩
  . rename_i R;have O:=r T ds H l j V H' X h;exact⟨O.1,fun Q D=>⟨false,R,O.2 Q D⟩⟩
  cases h
 |block id a z=>
  intro T ds H l j V H' X h;simp only[TF] at h;split at h
  . rename_i i f N H1 I;have O:=z T ds H _ f N H1 X I;split at h
    . rename_i F;have o:i=id:=Ch F;simp only[Aj,Ap] at h;obtain⟨rfl,rfl,rfl,rfl⟩:=h;refine⟨O.1,fun Q D=>O.2 _ ?_⟩;simp only[rC];rw[if_pos o];exact D
    rename_i F;have o:i≠id:=Nat.ne_of_beq_eq_false F;simp only[Aj,Ap] at h;obtain⟨rfl,rfl,rfl,rfl⟩:=h;refine⟨O.1,fun Q D=>O.2 _ ?_⟩;simp only[rC];rw[if_neg o];exact D
  rename_i A;have O:=z T ds H l j V H' X h;refine⟨O.1,fun Q D=>O.2 _ ?_⟩
  cases l with
  |exit i=>exact absurd h (A _ _ _ _)
  |_=>exact D
 |loop a z=>
  intro T ds H l j V H' X h;simp only[TF] at h
  have key:∀(m:Nat) (T:VT) (ds:List gX) (H:aA),Ob n T->Ti (TF cf g n fuel a) m T ds H=some (l,j,V,H')->Ob n j:=by
   intro m
   induction m with
   |zero=>intro T ds H _ h;cases h
   |succ m d=>
    intro T ds H X h;simp only[Ti] at h;split at h
    . rename_i f N H1 O;exact d f N H1 (z _ _ _ _ _ _ _ X O).1 h
    exact(z _ _ _ _ _ _ _ X h).1
  refine⟨key fuel T ds H X h,fun Q D=>⟨fun m s ds H=>∃T,s=PQ n T/\Ob n T/\Ti (TF cf g n fuel a) m T ds H=some (l,j,V,H'),fuel,⟨T,rfl,X,h⟩,?_⟩⟩;rintro m s N H1 ⟨f,rfl,y,O⟩
  cases m with
  |zero=>cases O
  |succ m=>
   simp only[Ti] at O;split at O
   . rename_i x G w Z;have :=z _ _ _ _ _ _ _ y Z;exact this.2 _ ⟨m,Fg m,x,rfl,this.1,O⟩
   rename_i A;have :=z _ _ _ _ _ _ _ y O;refine this.2 _ ?_
   cases l with
   |normal=>exact absurd O (A _ _ _)
   |_=>exact D
 |exit id=>intro T ds H l j V H' X h;obtain⟨rfl,rfl,rfl,rfl⟩:=h;exact⟨X,fun Q D=>D⟩
 |ret=>intro T ds H l j V H' X h;obtain⟨rfl,rfl,rfl,rfl⟩:=h;exact⟨X,fun Q D=>D⟩
 |pT c ps a b _ _=>
  intro T ds H l j V H' X h;simp only[TF] at h;rw[JC X] at h;split at h
  . rename_i fid fs cs R;split at h
    . rename_i v B k;have u:=(q _ _ _ _ _ k).sound rfl;have U:AD B (H.next+1) (B.set (H.next+1) .dead):=⟨rfl,fun m=>aA.aH _ _ _ _⟩;split at h
      . rename_i p S t;obtain⟨rfl,rfl,rfl,rfl⟩:=h;exact⟨X,fun Q D=>⟨fid,fs,cs,v,B,p,S,.ready,_,R,u,t,U,D⟩⟩
      . rename_i p S t;obtain⟨rfl,rfl,rfl,rfl⟩:=h;exact⟨X,fun Q D=>⟨fid,fs,cs,v,B,p,S,.done .ret,_,R,u,t,U,D⟩⟩
      . rename_i p S i t;obtain⟨rfl,rfl,rfl,rfl⟩:=h;exact⟨X,fun Q D=>⟨fid,fs,cs,v,B,p,S,.done (.exit i),_,R,u,t,U,D⟩⟩
      cases h
    cases h
  cases h
end
end
def bDt(G:Gh)(w:World):Option AV->FrameMode->Prop
 |none,m=>m=.returning
 |some v,m=>∃x,m=.panicking [{v:=x,recovered:=false}]/\VR G w v x
def IL(P:Program)(g:bL)(f:FuncId)(args:List AV)(a:Option AV)(H H':aA):Prop:=
 DH P f/\∀(G:Gh) (w:World) (vs:List Value) (u:FrameMode),WR g G H w->jH G w args vs->bDt G w a u->
  CallsDIn Fence.wide 0 P f vs.toArray u w fun e y w'=>(∃x,e=.returned x)/\settle y=.returning/\∃E,WR g E H' w'/\Ext G H w E H' w'
def Ze(P:Program)(g:bL):List gX->aA->(aA->Prop)->Prop
 |[],H,Q=>Q H
 |.call f azs::ds,H,Q=>∃H1,IL P g f azs none H H1/\Ze P g ds H1 Q
 |.mark id::ds,H,Q=>H.get id=some .Nu/\Ze P g ds (H.set id .dfx) Q
def aTv(P:Program)(g:bL)(F:DC)(R:Out->aA->Prop):AQ
 |.normal,s,ds,H|.ret,s,ds,H=>Ze P g ds H fun H1=>∃vs,rI s H1 F.results=some vs/\R (.ret (nN vs)) H1
 |.panic v,s,ds,H=>match ds with
  |[]=>R (.MD v) H
  |.mark _::_=>False
  |.call f azs::ds=>∃H1,IL P g f azs (some v) H H1/\Ze P g ds H1 fun w=>∃vs,rI s w F.results=some vs/\R (.ret (nN vs)) w
 |.exit _,_,_,_=>False
theorem wB{P:Program}{g:bL}{fn:Func}{tmps:Array Value}{R:Ending->World->Prop}{Q:aA->Prop}:∀(ds:List gX) (l:List Deferred) (G:Gh) (H:aA) (w:World),
 Ze P g ds H Q->WR g G H w->UQ G w ds l->
 (∀E H' w',Q H'->WR g E H' w'->Ext G H w E H' w'->∃v,(results fn tmps).run P w'=.ok v w'/\R (.returned v) w')->LeavesInM Fence.wide 0 P fn tmps R l .returning w
 |[],[],G,H,w,h,hw,hd,hR=>hR G H w h hw (Ext.refl G H w)
 |[],d::l,G,H,w,h,hw,hd,hR=>hd.elim
 |.call _ _::ds,[],G,H,w,h,hw,hd,hR=>hd.elim
 |.mark _::ds,[],G,H,w,h,hw,hd,hR=>hd.elim
 |.call f azs::ds,d::l,G,H,w,h,hw,hd,hR=>by obtain⟨H1,u,n⟩:=h;obtain⟨⟨cap,q,J⟩,i⟩:=hd;refine⟨by simp,.inr ⟨EN,.func f,cap.toArray,f,d.args++cap.toArray,q,by rw[q];exact pJ u.1 _ _ _,fun _ _=>trivial,?_⟩⟩;have b:=u.2 G w _ .returning hw J rfl;rw[show(d.args.toList++cap).toArray=d.args++cap.toArray by simp] at b;refine b.mono fun e y w' c=>?_;obtain⟨⟨x,rfl⟩,K,E,I,p⟩:=c;show LeavesInM Fence.wide 0 P fn tmps R l (settle y) w';rw[K];exact wB ds l E H1 w' n I (i.ext p) fun G2 a w2 D T s=>hR G2 a w2 D T (p.trans s)
 |.mark id::ds,d::l,G,H,w,h,hw,hd,hR=>by obtain⟨t,n⟩:=h;obtain⟨⟨B,U,q⟩,i⟩:=hd;obtain⟨_,_,X⟩:=hw.jK id B _ U t rfl;have m:=run_takeDeferred (P:=P) X;obtain⟨q1,q2⟩:=hw.JZ (o':=.dfx) (x:=.deferred none) (w':=w.putObj B.dE (.deferred none)) U t rfl rfl rfl .now (fun _ M=>M);exact⟨by simp,.inl ⟨B.dE,_,q,m,wB ds l G _ _ n q1 (i.ext q2) fun G2 a w2 D T s=>hR G2 a w2 D T (q2.trans s)⟩⟩
variable{N:Bool}
theorem qP{P:Program}{g:bL}(hm:Fit P g){f:FuncId}{F:DC}(L:iM P g N f F){args:List AV}{H H':aA}{out:Out}
 (h:AC P g F.body (sK F args) [] H (aTv P g F fun o h=>o=out/\h=H')):Sound P g f args H out H':=by
 refine⟨L.ok,fun G w vs hw J=>?_⟩;obtain⟨fn,c,O,h2,_,W,h4,M⟩:=L;refine callsIn_wide.1 (callsIn_of_wp_marks (n:=0) O h2 trivial (wpIn_mono (DB hm c none F.body W (.inl rfl) _ [] G H w _ _ h hw ?_ trivial) fun e a w' D=>?_))
 . have Q:=J.1;show jH G w _ _;exact ZaU
 obtain⟨ae,S,V,H1,E,q,I,he,b,i,C⟩:=D
 have a6:∀(G2:Gh) (H2:aA) (w2:World),(∃vs,rI S H2 F.results=some vs/\(Out.ret (nN vs)=out/\H2=H'))->WR g G2 H2 w2->Ext E H1 w' G2 H2 w2->
  ∃v,(results fn a.tmps).run P w2=.ok v w2/\(fun(e:Ending) w'=>∃E,WR g E H' w'/\Ext G H w E H' w'/\Zl E w' out e) (.returned v) w2:=by
  rintro G2 H2 w2 ⟨U,z,rfl,rfl⟩ T s;obtain⟨u,K,Oj⟩:=OW T (b.ext s) M z;exact⟨u,K,G2,T,he.trans s,Oj⟩
 cases ae with
 |normal=>
  cases e with
  |normal=>exact wB V a.defers E H1 w' q I i a6
  |_=>exact C.elim
 |ret=>
  cases e with
  |ret=>exact wB V a.defers E H1 w' q I i a6
  |_=>exact C.elim
 |exit id=>exact q.elim
 |panic v=>
  cases e with
  |panic ch=>
   obtain⟨x,rfl,m⟩:=C
   cases t:V with
   |nil=>
    subst t
    cases yg:a.defers with
    |nil=>obtain⟨rfl,rfl⟩:=q;show LeavesInM Fence.wide 0 P fn a.tmps _ a.defers _ w';rw[yg];exact⟨E,I,he,x,rfl,m⟩
    |cons d r=>rw[yg] at i;exact i.elim
   |cons d ds=>
    subst t
    cases d with
    |mark _=>exact q.elim
    |call A a7=>
    cases yg:a.defers with
    |nil=>rw[yg] at i;exact i.elim
    |cons Z l=>rw[yg] at i;obtain⟨⟨cap,ht,EE⟩,B⟩:=i;obtain⟨H2,hS,hA⟩:=q;show LeavesInM Fence.wide 0 P fn a.tmps _ a.defers _ w';rw[yg];refine⟨by simp,.inr ⟨EN,.func A,cap.toArray,A,Z.args++cap.toArray,ht,by rw[ht];exact pJ hS.1 _ _ _,fun _ _=>trivial,?_⟩⟩;have R:=hS.2 E w' _ (.panicking [{v:=x,recovered:=false}]) I EE ⟨x,rfl,m⟩;rw[show(Z.args.toList++cap).toArray=Z.args++cap.toArray by simp] at R;refine R.mono fun e u' w2 s=>?_;obtain⟨⟨y,rfl⟩,K,G2,T,p⟩:=s;show LeavesInM Fence.wide 0 P fn a.tmps _ l (settle u') w2;rw[K];exact wB ds l G2 H2 w2 hA T (B.ext p) fun G3 X w3 D k yh=>a6 G3 X w3 D k (p.trans yh)
  |_=>exact C.elim
def Zq(P:Program)(g:bL)(N:Bool):Code->Option (Option Nat×List bG×bY)
 |.seq (.region _ ops false) rest=>
  match ops.toList with
  |o::l=>match o.op,o.guard,nC P g N ops l,fO P g N rest with
   |.call c,none,some rl,some ac=>match c.callee,c.args.toList with
    |.builtin .recover,[]=>some (o.dst,rl,ac)
    |_,_=>none
   |_,_,_,_=>none
  |[]=>none
 |_=>none
variable{w:World}
theorem ZP{P:Program}{id:Nat}{m:Array Oper}{o:Oper}{Q:Exit->Act->List Frame->World->Prop}{a:Act}{cs I:List Frame}{v:Value}(S:m[0]?=some o)(t:o.guard=none)
 (d:∀a w,(execOp (Act.eval a) o).run P w=.ok .recover w) (J:(recoverD cs=some (v,I))\/(recoverD cs=none/\v=.nilIface/\I=cs))
 (h:wpOpsIn Fence.wide 0 P m (fun e s w'=>Q e s I w') (List.range' 1 (m.size -1)) (a.put o.dst v) w):(Code.region id m false).wpS P Q a cs w:=by
 intro b k X f;obtain⟨e,s,w',D,g⟩:=wp_opsIn _ _ _ h b k I f trivial (room_wide _);rw[arrivesIn_iff (fun _ _=>stepsIn_wide) f,Frame.atR_of_none f] at g;have u:0<m.size:=(Ez.1 S).1
 have j:List.range m.size=0::List.range' 1 (m.size -1):=by rw[Km];obtain⟨n,A⟩:∃n,m.size=n+1:=⟨m.size -1,by omega⟩;simp[A,List.range'_succ]
 have L:Region.wanted o (yielded m a.tmps)=true:=by simp[Region.wanted,t]
 have l:=stepG_op (P:=P) (b:=b) (a:=a) (k:=k) (cs:=cs) (w:=w) (rest:=List.range' 1 (m.size -1)) S L
 have c:∀v,(b.at a (.inRegion m (0::List.range' 1 (m.size -1))::k)).finish v=b.at (a.put o.dst v) (.inRegion m (List.range' 1 (m.size -1))::k):=by simp[Frame.finish_at,S]
 have E:(b.at a (.inRegion m (0::List.range' 1 (m.size -1))::k)).kind=.deferred:=X;have i:=tryRecover_deferred E cs
 have O:step P (lone (b.at a (.code (.region id m false)::k)) cs w)=.next (lone (b.at a (.inRegion m (0::List.range' 1 (m.size -1))::k)) cs w):=by rw[<-j];rfl
 have Z:step P (lone (b.at a (.inRegion m (0::List.range' 1 (m.size -1))::k)) cs w)=.next (lone (b.at (a.put o.dst v) (.inRegion m (List.range' 1 (m.size -1))::k)) I w):=by
  refine step_lone_go ?_;have V:=d a w
  rcases J with J|⟨J,rfl,rfl⟩<;>simp_all[Frame.at,stepG.apply,V,i,J]
 exact⟨e,s,I,w',D,.of_steps (.head O (.one Z)) g⟩
def aCn(P:Program)(g:bL)(mu:Bool)(f:FuncId)(n:Nat)(dst:Option Nat)(rl:List bG)(ac:bY):Prop:=
 ∃fn c,P.funcs[f]?=some fn/\fn.body=some c/\(fn.name== "runtime.NumGoroutine")=false/\Zq P g mu c=some (dst,rl,ac)/\fn.ntmps=n/\fn.results.toList=[]
theorem SG{P:Program}{f:FuncId}{fn:Func}{c:Code}{args:Array Value}{u:FrameMode}{R:Ending->FrameMode->World->Prop}(N:P.funcs[f]?=some fn)(X:fn.body=some c)
 (h:∀(x:Frame) (a:List Frame),x.mode=u->c.wpS P (bodyPostS P fn x a R) {tmps:=args++Array.replicate (fn.ntmps -args.size) undef,defers:=[]} (x::a) w):CallsDIn Fence.wide 0 P f args u w R:=by
 refine⟨trivial,fun x a K _=>?_⟩;obtain⟨b,y⟩:∃b:Frame,b={(default:Frame) with fn:=f,kind:=.deferred}:=⟨_,rfl⟩
 have T:b.at {tmps:=args++Array.replicate (fn.ntmps -args.size) undef,defers:=[]} [.code c]=Frame.enter P f args .deferred:=by simp[y,Frame.enter,Frame.at,N,X]
 obtain⟨e,a1,fs,w1,D,g⟩:=h x a K b [] (by grind) (by rw[y];rfl);rw[T] at g;have E:b.kind=.deferred:=by grind
 have A:b.fn=f:=by grind
 cases e with
 |exit id=>exact D.elim
 |goto l=>exact D.elim
 |outgrown=>exact⟨.outgrown,D.choose,w1,b,D.choose_spec,g.resolve_left (by grind),E,A,trivial⟩
 |normal=>obtain⟨hd,B,rfl,v,V,z⟩:=D;exact⟨.returned v,B,w1,_,z,comesIn_wide.2 (Steps.trans g (.one step_end)),E,A,rfl,hd,fn,by rw[<-A] at N;exact N,V⟩
 |ret=>obtain⟨hd,B,rfl,v,V,z⟩:=D;exact⟨.returned v,B,w1,_,z,comesIn_wide.2 g.choose_spec,E,A,rfl,hd,fn,by rw[<-A] at N;exact N,V⟩
 |panic d=>obtain⟨hd,B,rfl,z⟩:=D;exact⟨.panicked d,B,w1,_,z,comesIn_wide.2 g.choose_spec,E,A,rfl,hd,fn,by rw[<-A] at N;exact N⟩
theorem Ue{P:Program}{g:bL}(p:Fit P g){f:FuncId}{n:Nat}{A:Option Nat}{rl:List bG}{z:bY}(hF:aCn P g N f n A rl z)
 {args:List AV} {md:Option AV} {H H':aA}
 (h:vH P g rl (oR (args++List.replicate (n -args.length) aB) A (md.getD .rE)) [] H (aJy (fun s ds H=>AC P g z s ds H fun e s ds H=>(match e with|.normal=>True|.ret=>True|_=>False)/\ds=[]/\H=H')
   fun _ _ _ _=>False)):IL P g f args md H H':=by
 obtain⟨fn,c,O,Z,h0,W,h4,h5⟩:=hF;refine⟨⟨fn,O,by rw[Z];rfl,h0⟩,fun G w vs u L J ad=>?_⟩;refine SG O Z fun k cs a6=>?_;unfold Zq at W;split at W
 . rename_i id m rest;split at W
   . rename_i o l U;split at W
     . rename_i cl jr an b t Xy aj;split at W
       . rename_i VI LQ;simp only[Aj,Ap] at W;obtain⟨rfl,rfl,rfl⟩:=W
         have ho:m[0]?=some o:=(by rw[<-Array.getElem?_toList,U];rfl);have Q:m.size=l.length+1:=by rw[<-Ef,U];rfl
         have ak:∀a w,(execOp (Act.eval a) o).run P w=.ok .recover w:=fun a w=>by have aq:cl.args= #[]:=(by apply Array.ext';simpa using LQ);simp[execOp,b,resolve,VI,aq,invoke,builtin]
         have key:∃(v:Value) (y:FrameMode),((recoverD (k::cs)=some (v,{k with mode:=y}::cs))\/(recoverD (k::cs)=none/\v=.nilIface/\y=u))/\settle y=.returning/\VR G w (md.getD .rE) v:=by
          cases md with
          |none=>obtain rfl:u=.returning:=ad;exact⟨.nilIface,.returning,.inr ⟨by simp[recoverD,a6],rfl,rfl⟩,rfl,.rE⟩
          |some v=>obtain⟨x,rfl,C⟩:=ad;exact⟨x,.panicking [{v:=x,recovered:=true}],.inl (by simp[recoverD,a6]),rfl,C⟩
         obtain⟨v,y,R,ab,ag⟩:=key
         have F:(recoverD (k::cs)=some (v,{k with mode:=y}::cs))\/(recoverD (k::cs)=none/\v=.nilIface/\({k with mode:=y}::cs:List Frame)=k::cs):=by
          rcases R with X|⟨X,rfl,rfl⟩
          . exact .inl X
          refine .inr ⟨X,rfl,?_⟩;subst a6;rfl
         have M:SR G w (args++List.replicate (n -args.length) aB) {tmps:=vs.toArray++Array.replicate (fn.ntmps -vs.toArray.size) undef,defers:=[]}:=by have Q:=J.1;show jH G w _ _;simp only[Ky,Ka,Gu,Q,h4];refine J.append ⟨by simp,fun j Y=>?_⟩;simp only[Ki] at Y;simp only[Dh,Hw,Y,if_true,By];exact VR.oV G w
         refine wpS_seq (ZP ho t ak F ?_)
         have hA:=ID (ro:=none) l jr 1 Xy (fun j Y=>by
          rw[<-Array.getElem?_toList,U,Iy,Fp]
          exact Af Y) (.inl rfl) _ [] G H w _ _ h L (M.put o.dst ag) (by cases o.dst<;>trivial)
         rw[show m.size -1=l.length by omega];refine Ma (ro:=none) (fun e a1 w1 D=>?_) _ _ _ hA;obtain⟨ae,S,V,H1,E,q,I,B,CV,i,C⟩:=D
         cases ae with
         |normal=>
          cases e with
          |normal=>
           refine wpS_of_wp (wp_mono (wpIn_wide.1 (DB p rest none an aj (.inl rfl) S V E H1 w1 a1 _ q I CV i)) fun e a2 w2 K=>?_);obtain⟨al,s2,Uv,H2,G2,q2,T,WV,ar,af,a7⟩:=K;obtain⟨q3,rfl,rfl⟩:=q2
           have VM:a2.defers=[]:=by
            cases yg:a2.defers with
            |nil=>rfl
            |cons d r=>rw[yg] at af;exact af.elim
           have GU:(results fn a2.tmps).run P w2=.ok (.tuple #[]) w2:=by have :fn.results= #[]:=(by simpa using h5);unfold results;simp[this]
           cases al with
           |normal=>
            cases e with
            |normal=>exact⟨VM,y,rfl,_,GU,⟨_,rfl⟩,ab,G2,T,B.trans WV⟩
            |_=>exact a7.elim
           |ret=>
            cases e with
            |ret=>exact⟨VM,y,rfl,_,GU,⟨_,rfl⟩,ab,G2,T,B.trans WV⟩
            |_=>exact a7.elim
           |exit id=>exact q3.elim
           |panic v=>exact q3.elim
          |_=>exact C.elim
         |exit id=>exact q.elim
         |ret=>exact q.elim
         |panic v=>exact q.elim
       cases W
     cases W
   cases W
 cases W
section
def UA(T:VT)(H:aA):List KK->Option (List AV)
 |[]=>some []
 |x::r=>match (match x with
   |.tmp t=>some (T.get t)
   |.cell a agg n=>match dS (ZU g0 T) H (.load agg n (.tmp a)) with
    |some (v,_)=>some v
    |none=>none),UA T H r with
  |some v,some vs=>some (v::vs)
  |_,_=>none
theorem Yj{n:Nat}{T:VT}(X:Ob n T)(H:aA):∀l,UA T H l=rI (PQ n T) H l
 |[]=>rfl
 |x::r=>by
  have z:=Yj X H r
  cases x with
  |tmp t=>grind[UA,rI,aAu,Ri]
  |cell a e m=>grind[UA,rI,aAu,JC]
def cg(a:FuncId->Nat->Bool):List gX->aA->Option aA
 |[],H=>some H
 |.call f azs::ds,H=>match a f azs.length with
  |true=>cg a ds H
  |false=>none
 |.mark id::ds,H=>match H.get id with
  |some .Nu=>cg a ds (H.set id .dfx)
  |_=>none
def aYw(cf:HF)(g:bL)(fuel:Nat)(a:FuncId->Nat->Bool)(F:DC)(args:List AV)(H:aA):Option (Out×aA):=
 match Nat.ble args.length F.ntmps with
 |true=>match TF cf g F.ntmps fuel F.body (BZ F.ntmps args 0 .nil) [] H with
  |some (.normal,T,ds,H')|some (.ret,T,ds,H')=>match cg a ds H' with
   |some H1=>match UA T H1 F.results with
    |some vs=>some (.ret (nN vs),H1)
    |none=>none
   |none=>none
  |some (.panic v,_,[],H')=>some (.MD v,H')
  |_=>none
 |false=>none
theorem Ob.nil(n:Nat):Ob n .nil:=fun _ _=>rfl
theorem OZ(n:Nat):∀(vs:List AV) (i:Nat) (T:VT),Ob n T->i+vs.length<=n->
 Ob n (BZ n vs i T)/\∀t,(BZ n vs i T).get t=if i<=t/\t<i+vs.length then vs.getD (t -i) aB else T.get t
 |[],i,T,hb,h=>⟨hb,fun t=>by rw[if_neg A2];rfl⟩
 |v::vs,i,T,hb,h=>by
  simp only[Ba] at h;have :=OZ n vs (i+1) (AJ n T (some i) v) (hb.put _ _) A0;refine⟨this.1,fun t=>?_⟩;show(BZ n vs (i+1) (AJ n T (some i) v)).get t=_;have O:Nat.blt i n=true:=by grind[Nat.blt_eq]
  have a:(AJ n T (some i) v).get t=if t=i then v else T.get t:=by simp only[AJ,O];exact VT.aH T i v t
  grind
theorem Re{n:Nat}{args:List AV}(h:args.length<=n):Ob n (BZ n args 0 .nil)/\PQ n (BZ n args 0 .nil)=args++List.replicate (n -args.length) aB:=by
 have :=OZ n args 0 .nil (Ob.nil n) A0;refine⟨this.1,Ga fun t=>?_⟩;unfold PQ;rw[Eg];by_cases q:t<n
 . rw[Kq q,Ct,this.2 t];by_cases O:t<args.length
   . rw[if_pos A0,Jk O];simp[Af O,getD_eq]
   rw[if_neg A0,Jc A0,Hw,if_pos A0];rfl
 rw[Cu Zaf,Cu Zaf];rfl
section
variable {P:Program} {g:bL} {fuel:Nat} {cf:HF}
def PY(P:Program)(g:bL)(a:FuncId->Nat->Bool):Prop:=∀f k,a f k=true->∀(args:List AV) (H:aA),args.length=k->IL P g f args none H H
theorem UL{a:FuncId->Nat->Bool}(A:PY P g a){Q:aA->Prop}:∀(ds:List gX) (H H1:aA),cg a ds H=some H1->Q H1->Ze P g ds H Q
 |[],H,H1,he,h=>by cases he;exact h
 |.mark id::ds,H,H1,he,h=>by
  simp only[cg] at he;split at he
  . rename_i t;exact⟨t,UL A ds _ _ he h⟩
  grind
 |.call f azs::ds,H,H1,he,h=>by
  simp only[cg] at he;split at he
  . rename_i hd;exact⟨H,A f _ hd azs H rfl,UL A ds H _ he h⟩
  grind
theorem cq(p:Fit P g)(q:IE P g cf){a:FuncId->Nat->Bool}(A:PY P g a){N:Bool}{f:FuncId}{F:DC}(L:iM P g N f F){args:List AV}{H H':aA}{out:Out}
 (h:aYw cf g fuel a F args H=some (out,H')):Sound P g f args H out H':=by
 unfold aYw at h;split at h
 . rename_i k;have e:args.length<=F.ntmps:=Ai k;obtain⟨X,M⟩:=Re e
   have y:∀(l:tw) (T:VT) (ds:List gX) (H1:aA),(l=.normal\/l=.ret)->TF cf g F.ntmps fuel F.body (BZ F.ntmps args 0 .nil) [] H=some (l,T,ds,H1)->
    (match cg a ds H1 with
      |some w=>match UA T w F.results with
       |some vs=>some (Out.ret (nN vs),w)
       |none=>none
      |none=>none)=some (out,H')->Sound P g f args H out H':=by
    intro l T ds H1 b B h;obtain⟨c,D⟩:=FN q F.body _ _ _ _ _ _ _ X B;split at h
    . rename_i w W;split at h
      . rename_i vs z;simp only[Aj,Ap] at h;obtain⟨rfl,rfl⟩:=h;refine qP p L ?_;unfold sK;rw[<-M];refine D _ ?_
        have :Ze P g ds H1 fun E=>∃U,rI (PQ F.ntmps T) E F.results=some U/\(Out.ret (nN U)=Out.ret (nN vs)/\E=w):=by refine UL A ds H1 w W ⟨vs,?_,rfl,rfl⟩;rw[<-Yj c];exact z
        rcases b with rfl|rfl<;>exact this
      cases h
    cases h
   split at h
   . rename_i T ds H1 B;exact y .normal T ds H1 (.inl rfl) B h
   . rename_i T ds H1 B;exact y .ret T ds H1 (.inr rfl) B h
   . rename_i v T H1 B;obtain⟨rfl,rfl⟩:=h;obtain⟨c,D⟩:=FN q F.body _ _ _ _ _ _ _ X B;refine qP p L ?_;unfold sK;rw[<-M];exact D _ ⟨rfl,rfl⟩
   cases h
 cases h
inductive FT where
 |leaf (k:Nat) (F:DC)
 |node (m:Nat) (l r:FT)
def FT.get:FT->FuncId->Option DC
 |.leaf k F,f=>match Nat.beq f k with
  |true=>some F
  |false=>none
 |.node m l r,f=>match Nat.blt f m with
  |true=>l.get f
  |false=>r.get f
def FT.All(p:FuncId->DC->Prop):FT->Prop
 |.leaf k F=>p k F
 |.node _ l r=>l.All p/\r.All p
theorem FT.All.get{p:FuncId->DC->Prop}:∀{t:FT},t.All p->∀{f:FuncId} {F:DC},t.get f=some F->p f F
 |.leaf k F',h,f,F,hg=>by
  simp only[FT.get] at hg;split at hg
  . rename_i X;obtain rfl:=Aa hg;rw[Ch X];exact h
  grind
 |.node m l r,h,f,F,hg=>by
  simp only[FT.get] at hg;split at hg
  . exact FT.All.get h.1 hg
  exact FT.All.get h.2 hg
def exY(cf:HF)(g:bL)(fuel:Nat)(id:Nat)(args:List AV)(H:aA):Option (Out×aA):=
 match H.get id with
 |some (.loop k s .ready)=>match Nat.beq args.length k.ps.length with
  |true=>match TF cf g s.length fuel k.Nr (MG s.length (BZ s.length s 0 .nil) (k.ps.zip args)) [] H with
   |some (.normal,T1,[],H1)=>match H1.get id with
    |some (.loop k1 s1 .ready)=>match TF cf g s.length fuel k.body T1 [] (H1.set id (.loop k1 s1 .busy)) with
     |some (e,_,[],H2)=>match H2.get id with
      |some (.loop k2 s2 .busy)=>match e with
       |.normal=>some (.ret (.bool true),H2.set id (.loop k2 s2 .ready))
       |.ret=>some (.ret (.bool false),H2.set id (.loop k2 s2 (.done .ret)))
       |.exit i=>some (.ret (.bool false),H2.set id (.loop k2 s2 (.done (.exit i))))
       |.panic _=>none
      |_=>none
     |_=>none
    |_=>none
   |_=>none
  |false=>none
 |_=>none
theorem OO{n:Nat}:∀(l:List (Nat×AV)) (T:VT),Ob n T->Ob n (MG n T l)/\PQ n (MG n T l)=sF (PQ n T) l
 |[],T,h=>⟨h,rfl⟩
 |(t,v)::r,T,h=>by have z:=OO r (AJ n T (some t) v) (h.put _ _);refine⟨z.1,?_⟩;rw[MG,z.2,sV];rfl
theorem xp(p:Fit P g)(q:IE P g cf){id:Nat}{args:List AV}{H H':aA}{out:Out}(h:exY cf g fuel id args H=some (out,H')):tY P g id args H out H':=by
 unfold exY at h;split at h
 . rename_i k s t;split at h
   . rename_i Q;obtain⟨D,a⟩:=Re (Ae s.length);rw[Nat.sub_self,List.replicate_zero,Bx] at a;obtain⟨d,B⟩:=OO (k.ps.zip args) _ D;rw[a] at B;refine Mq p t (Ch Q) ?_;unfold PV;split at h
     . rename_i f H1 I;obtain⟨o,c⟩:=FN q k.Nr _ _ _ _ _ _ _ d I;rw[<-B];refine c _ ?_;split at h
       . rename_i k1 A b;split at h
         . rename_i e x w y;obtain⟨r,K⟩:=FN q k.body _ _ _ _ _ _ _ o y;refine⟨rfl,k1,A,b,K _ ?_⟩;split at h
           . rename_i k2 Z M;split at h
             . exact ZbD
             . exact ZbD
             . exact ZbD
             cases h
           cases h
         cases h
       cases h
     cases h
   cases h
 cases h
abbrev Ub:=FuncId->List AV->aA->Option (Out×aA)
def PZ(P:Program)(g:bL)(b:Ub):Prop:=∀f args H out H',b f args H=some (out,H')->Sound P g f args H out H'
def exF(b:Ub)(e:FuncId->Option DC)(g:bL)(fuel:Nat)(a:FuncId->Nat->Bool):Nat->HF
 |0=>fun _ _ _=>none
 |d+1=>fun c args H=>match c with
  |.yield id=>exY (exF b e g fuel a d) g fuel id args H
  |.func (.func f) fs cs=>match b f (fs++args++cs) H with
   |some r=>some r
   |none=>match e f with
    |some F=>aYw (exF b e g fuel a d) g fuel a F (fs++args++cs) H
    |none=>none
  |_=>none
theorem NA(p:Fit P g){b:Ub}(S:PZ P g b){e:FuncId->Option DC}{a:FuncId->Nat->Bool}(A:PY P g a)(q:∀f F,e f=some F->∃N,iM P g N f F):∀d,IE P g (exF b e g fuel a d)
 |0=>fun f args H out H' h=>by cases h
 |d+1=>fun c args H out H' h=>by
  simp only[exF] at h;split at h
  . rename_i id;exact .inr ⟨id,rfl,xp p (NA p S A q d) h⟩
  . rename_i f fs cs;refine .inl ⟨(f,fs,cs),rfl,?_⟩;split at h
    . rename_i r V;cases h;exact S _ _ _ _ _ V
    split at h
    . rename_i F L;obtain⟨N,i⟩:=q f F L;exact cq p (NA p S A q d) A i h
    grind
  grind
end
end
section
mutual
def AV.free:AV->Bool
 |.pl cs=>cW cs
 |.bJ tag _ els=>Nat.blt tag 2&&fN els
 |.func _ a b=>cW a&&cW b
 |.iface _ v=>v.free
 |.agg cs=>cW cs
 |.jS vs=>cW vs
 |.ref _ _|.sl _ _ _ _ _|.map _|.yield _=>false
 |_=>true
def cW:List AV->Bool
 |[]=>true
 |x::r=>x.free&&cW r
def fN:List (List AV)->Bool
 |[]=>true
 |x::r=>cW x&&fN r
end
theorem TP:∀{l:List AV},cW l=true->∀x∈l,x.free=true
 |[],_,x,hx=>by grind
 |y::l,h,x,hx=>by
  simp only[cW,Ak] at h
  rcases Bd.1 hx with rfl|hx
  . grind
  exact TP h.2 x hx
theorem mM{a b:List AV}:cW (a++b)=(cW a&&cW b):=by
 induction a with
 |nil=>rfl
 |cons x r z=>grind[cW]
theorem nZ:∀{l:List (List AV)},fN l=true->cW l.flatten=true
 |[],_=>rfl
 |y::l,h=>by simp_all[fN,Ak,Cl,mM,h,nZ]
theorem mN{l:List AV}(h:cW l=true){j:Nat}(Y:j<l.length):(l.getD j aB).free=true:=by
 refine TP h _ ?_
 grind
variable{w':World}
theorem VR.sB{G E:Gh}{w:World}{a:AV}{u:Value}(h:VR G w a u)(N:a.free=true)
 (F:∀b o,G.iZ b o->E.iZ b o/\w'.cell? ⟨b,o,none⟩=w.cell? ⟨b,o,none⟩):VR E w' a u:=by
 induction h with
 |bool b=>exact .bool b
 |int k n=>exact .int k n
 |str s=>exact .str s
 |NX=>exact .NX
 |ref id off l h=>cases N
 |pl cells b o us h J z=>exact .pl cells b o us (fun j Y=>⟨(F _ _ (h j Y).1).1,by grind,(h j Y).2.2⟩) (fun j Y=>z j Y (mN N Y))
 |bE=>exact .bE
 |wY tag sz b o s q=>exact .wY tag sz b o s q
 |bJ tag sz els b o cap us d h J q z=>
  simp only[AV.free,Ak] at N;have i:=nZ N.2;refine .bJ tag sz els b o cap us d (fun j Y=>⟨(F _ _ (h j Y).1).1,by grind,(h j Y).2.2⟩) (fun j Y=>z j Y (mN i Y)) ?_;refine⟨q.1,?_⟩;have Z:=q.2
  grind[Nat.blt_eq]
 |sl id sz off len cap V l h Q T A=>cases N
 |func fn fs cs K f I X c O R r=>simp only[AV.free,Ak] at N;exact .func fn fs cs K f I X (fun j Y=>R j Y (mN N.1 Y)) (fun j Y=>r j Y (mN N.2 Y))
 |EL=>exact .EL
 |iface t a v h z=>exact .iface t a v (z N)
 |rE=>exact .rE
 |agg cs vs L e J z=>exact .agg cs vs L e (fun j Y=>z j Y (mN N Y))
 |jS cs vs L J z=>exact .jS cs vs L (fun j Y=>z j Y (mN N Y))
 |map id l h=>cases N
 |yield id l h=>cases N
 |uD=>exact .uD
theorem jH.sB{G E:Gh}{w:World}{xs:List AV}{vs:List Value}(h:jH G w xs vs)(N:cW xs=true)
 (F:∀b o,G.iZ b o->E.iZ b o/\w'.cell? ⟨b,o,none⟩=w.cell? ⟨b,o,none⟩):jH E w' xs vs:=
 ⟨h.1,fun j Y=>(h.2 j Y).sB (mN N Y) F⟩
def GY(tk:Option Nat)(d tag:Nat):Nat:=
 match tag with
 |0=>0
 |1=>1
 |k+2=>match tk with
  |some p=>match Nat.beq k p with
   |true=>d+2
   |false=>0
  |none=>0
def mJ(H:aA)(tk:Option Nat)(d:Nat):AV->Option AV
 |.bJ tag sz els=>match fN els with
  |true=>some (.bJ (GY tk d tag) sz els)
  |false=>none
 |.sl id sz off len cap=>match H.fP id with
  |some cs=>match Nat.ble (off+len*sz) cs.length&&cW (cs.drop off) with
   |true=>some (.bJ 0 sz (gO sz len (cs.drop off)))
   |false=>none
  |none=>none
 |.ref id off=>match H.fP id with
  |some cs=>match cW (cs.drop off) with
   |true=>some (.pl (cs.drop off))
   |false=>none
  |none=>none
 |v=>match v.free with
  |true=>some v
  |false=>none
def NS(f:AV->Option AV):List AV->Option (List AV)
 |[]=>some []
 |x::r=>match f x,NS f r with
  |some y,some ys=>some (y::ys)
  |_,_=>none
def jB(H:aA)(tk:Option Nat)(d:Nat):Nat->AV->Option AV
 |0,v=>mJ H tk d v
 |n+1,.agg cs=>(NS (jB H tk d n) cs).map .agg
 |n+1,.jS vs=>(NS (jB H tk d n) vs).map .jS
 |_,v=>mJ H tk d v
theorem NT{f:AV->Option AV}:∀{l r:List AV},NS f l=some r->r.length=l.length/\∀j,j<l.length->f (l.getD j aB)=some (r.getD j aB)
 |[],r,h=>by obtain rfl:=Aa h;simp
 |x::l,r,h=>by
  simp only[NS] at h;split at h
  . rename_i y ys Q E;obtain⟨O,Z⟩:=NT E
    grind
  grind
def tZ(tk:Option Nat)(H:aA):aA:=match tk with
 |none=>H
 |some _=>H.alloc .tok
def KS(g:bL):Prop:=∀n cs,g n=some cs->cW cs=true
def Out.av:Out->AV
 |.ret v=>v
 |.MD v=>v
def Out.with:Out->AV->Out
 |.ret _,v=>.ret v
 |.MD _,v=>.MD v
section
variable {P:Program} {g:bL}
def JE(G G2:Gh)(H:aA)(w:aA)(tk:Option Nat):Gh where
 loc:=fun id=>if id=H.next then tk.bind G2.loc else G.loc id
 iZ:=fun b o=>G2.iZ b o\/∃id l cs r,G2.loc id=some l/\w.get id=some (.cells cs r)/\l.dE=b/\l.base<=o/\o<l.base+l.Wa
 mo:=G.mo
theorem Yw{G G2:Gh}{H d:aA}{w2:World}{tk:Option Nat}(hn:∀k,tk=some k->d.get k=some .tok)(T:WR g G2 d w2){v D:AV}{u:Value}(h:VR G2 w2 v u)(M:mJ d tk H.next v=some D):
 VR (JE G G2 H d tk) w2 D u:=by
 have F:∀b o,G2.iZ b o->(JE G G2 H d tk).iZ b o/\w2.cell? ⟨b,o,none⟩=w2.cell? ⟨b,o,none⟩:=fun b o X=>⟨.inl X,rfl⟩
 have frozen:∀{id:Nat} {l:Loc} {cs:List AV} {off:Nat},G2.loc id=some l->d.fP id=some cs->cW (cs.drop off)=true->∀j,j<(cs.drop off).length->
  ∃x,(JE G G2 H d tk).iZ l.dE (l.base+off+j)/\w2.cell? ⟨l.dE,l.base+off+j,none⟩=some x/\((cs.drop off).getD j aB).one=true/\VR (JE G G2 H d tk) w2 ((cs.drop off).getD j aB) x:=by
  intro id l cs off U R N j Y;obtain⟨r,t⟩:=aA.qS R;obtain⟨a1,a2,a3,i,L⟩:=T.cells id l cs r U t;simp only[Gi] at Y;obtain⟨x,C,m⟩:=L (off+j) A0;have e:(cs.drop off).getD j aB=cs.getD (off+j) aB:=by rw[getD_eq,getD_eq,List.getElem?_drop]
  refine⟨x,.inr ⟨id,l,cs,r,U,t,rfl,by omega,by omega⟩,by rw[Bm];exact C,?_,?_⟩
  . rw[e];refine i _ ?_;rw[getD_eq,Af A0];exact Ac _
  have a:=mN N (j:=j) Za0;rw[e] at a ⊢;exact m.sB a F
 unfold mJ at M;split at M
 . rename_i tag sz els;split at M
   . rename_i N;obtain rfl:=Aa M;have P:=nZ N
     cases h with
     |wY _ _ b o s q=>
      refine .wY _ _ _ _ _ ?_
      match tag,q with
      |0,_=>exact Nat.zero_lt_two
      |1,_=>exact Nat.one_lt_two
     |bJ _ _ _ b o cap us K X J q=>
      refine .bJ _ sz els b o cap us K (fun j Y=>⟨(F _ _ (X j Y).1).1,(X j Y).2⟩) (fun j Y=>(J j Y).sB (mN P Y) F) ⟨q.1,?_⟩;have Z:=q.2
      match tag,Z with
      |0,_=>trivial
      |1,Z=>exact Z
      |k+2,⟨l,O,Z⟩=>
       cases tk with
       |none=>trivial
       |some p=>
        simp only[GY]
        cases E:Nat.beq k p with
        |false=>trivial
        |true=>obtain rfl:=Ch E;exact⟨l,by simp only[JE,if_true,Option.bind_some];exact O,Z⟩
   cases M
 . rename_i id sz off len cap;split at M
   . rename_i cs R;split at M
     . rename_i y;obtain rfl:=Aa M;simp only[Ak] at y;have B:off+len*sz<=cs.length:=Ai y.1
       cases h with
       |sl _ _ _ _ _ V l U Q W A=>
        obtain⟨I,z,c⟩:=mH sz len (cs.drop off) Zaf;have f:=frozen U R y.2;have n:len*sz<=cap*sz:=Bf sz Q
        have S:∀j,j<(gO sz len (cs.drop off)).flatten.length->j<(cs.drop off).length/\(gO sz len (cs.drop off)).flatten.getD j aB=(cs.drop off).getD j aB:=fun j Y=>by rw[I] at Y ⊢;simp only[Et,Gi] at Y;refine⟨by simp;omega,?_⟩;rw[getD_take _ _ _ _ A0]
        have key:=VR.bJ (G:=JE G G2 H d tk) (w:=w2) 0 sz (gO sz len (cs.drop off)) l.dE (l.base+off) V (fun j=>(w2.cell? ⟨l.dE,l.base+off+j,none⟩).getD undef) c
         (fun j Y=>by
           obtain⟨O,Z⟩:=S j Y;obtain⟨x,q1,q2,q3,q4⟩:=f j O
           exact⟨q1,by rw[q2];rfl,by rw[Z];exact q3⟩)
         (fun j Y=>by
           obtain⟨O,Z⟩:=S j Y;obtain⟨x,q1,q2,q3,q4⟩:=f j O
           rw[Z,q2];exact q4)
         ⟨by rw[z];rcases A with rfl|⟨_,CT,_⟩<;>omega,trivial⟩
        rw[z] at key;exact key
     cases M
   cases M
 . rename_i id off;split at M
   . rename_i cs R;split at M
     . rename_i N;obtain rfl:=Aa M
       cases h with
       |ref _ _ l U=>
        have f:=frozen U R N
        exact .pl (cs.drop off) l.dE (l.base+off) (fun j=>(w2.cell? ⟨l.dE,l.base+off+j,none⟩).getD undef)
         (fun j Y=>by
           obtain⟨x,q1,q2,q3,q4⟩:=f j Y
           exact⟨q1,by rw[q2];rfl,q3⟩)
         (fun j Y=>by
           obtain⟨x,q1,q2,q3,q4⟩:=f j Y
           rw[q2];exact q4)
     cases M
   cases M
 split at M
 . rename_i N;obtain rfl:=Aa M;exact h.sB N F
 cases M
theorem aJn{G G2:Gh}{H w:aA}{w2:World}{tk:Option Nat}{d n:Nat}{v D:AV}(M:jB w tk d n v=some D)(h:v.one=true):D.one=true:=by
 have O:mJ w tk d v=some D->D.one=true:=fun M=>by
  unfold mJ at M
  repeat' (split at M)
  all_goals first
   |(cases M;done)
   |(obtain rfl:=Aa M;assumption)
 cases n with
 |zero=>exact O M
 |succ n=>
  unfold jB at M;split at M
  . omega
  . cases h
  . cases h
  grind
theorem MM{G G2:Gh}{H w:aA}{w2:World}{tk:Option Nat}(A:∀k,tk=some k->w.get k=some .tok)(T:WR g G2 w w2):∀(n:Nat) {v D:AV} {u:Value},VR G2 w2 v u->jB w tk H.next n v=some D->
 VR (JE G G2 H w tk) w2 D u
 |0,v,D,u,h,hs=>Yw A T h hs
 |n+1,v,D,u,h,hs=>by
  unfold jB at hs;split at hs
  . omega
  . rename_i m cs p;simp only[Ad] at hs;obtain⟨r,V,rfl⟩:=hs;obtain⟨r1,r2⟩:=NT V
    cases h with
    |agg _ vs U O J=>refine .agg r vs A0 (fun c R=>?_) (fun j Y=>MM A T m (J j A0) (r2 j A0));obtain⟨j,Y,rfl⟩:=Gy.1 R;have :=r2 j A0;rw[getD_eq,getD_eq,Af Y,Af A0] at this;exact aJn (G:=G) (G2:=G2) (H:=H) (w2:=w2) this (O _ (Ac _))
  . rename_i m a p;simp only[Ad] at hs;obtain⟨r,V,rfl⟩:=hs;obtain⟨r1,r2⟩:=NT V
    cases h with
    |jS _ vs U J=>exact .jS r vs A0 (fun j Y=>MM A T m (J j A0) (r2 j A0))
  exact Yw A T h hs
theorem Mp.frame(hg:KS g){f:FuncId}{args:List AV}(N:cW args=true){R:Out->aA->Prop}(h:Mp P g f args ⟨0,.nil⟩ R)(H:aA){ae:Out}{H':aA}
 (hR:∀out H2,R out H2->∃tk n D,(∀k,tk=some k->H2.get k=some .tok)/\jB H2 tk H.next n out.av=some D/\out.with D=ae/\tZ tk H=H'):Sound P g f args H ae H':=by
 refine⟨h.1,fun G w vs L J=>?_⟩;let G0:Gh:=⟨fun _=>none,G.iZ,G.mo⟩;have ad:∀b o,G.iZ b o->G0.iZ b o/\w.cell? ⟨b,o,none⟩=w.cell? ⟨b,o,none⟩:=fun b o hh=>⟨hh,rfl⟩
 have ag:WR g G0 ⟨0,.nil⟩ w:={
  cells:=fun id l cs r O=>by cases O
  room:=fun id l O=>by cases O
  mV:=fun id mI l l' _ O=>by cases O
  lV:=fun id l O=>by cases O
  jK:=fun id l es O=>by cases O
  lt:=fun id l O=>by cases O
  jJ:=L.jJ
  kQ:=fun k cs E=>(L.kQ k cs E).sB (hg k cs E) ad
  FV:=L.FV
  mo:=L.mo}
 refine(h.2 G0 w vs ag (J.sB N ad)).mono fun e w2 he=>?_;obtain⟨out,H2,G2,V,T,p,yI⟩:=he;obtain⟨tk,n,D,m,M,rfl,rfl⟩:=hR _ _ V
 have NK:∀id l,G2.loc id=some l->H2.live id->w.heap.size<=l.dE:=fun id l O Z=>by
  rcases p.nM id l O Z with hh|⟨fQ,t,hh,_⟩
  . exact hh
  cases hh
 have a6:∀b,b<w.heap.size->w2.heap[b]?=w.heap[b]?:=fun b X=>p.frame b X fun id l hh=>by cases hh
 have af:∀b o,(JE G G2 H H2 tk).iZ b o->G.iZ b o\/w.heap.size<=b:=fun b o F=>by
  rcases F with F|⟨id,l,cs,r,O,Z,rfl,_⟩
  . rcases p.qG b o F with hh|hh|⟨fQ,t,hh,_⟩
    . exact .inl hh
    . exact .inr hh
    cases hh
  exact .inr (NK id l O ⟨_,Z,rfl⟩)
 have uU:∀id l,G.loc id=some l->(JE G G2 H H2 tk).loc id=some l:=fun id l U=>by have :=L.lt id l U;simp only[JE];rw[if_neg A0];exact U
 have S:∀b o,G.iZ b o->(JE G G2 H H2 tk).iZ b o/\w2.cell? ⟨b,o,none⟩=w.cell? ⟨b,o,none⟩:=fun b o F=>⟨.inl (p.iZ b o F).1,(p.iZ b o F).2⟩;have an:H.next<=(tZ tk H).next:=by cases tk<;>simp[tZ]
 have y:∀id,id≠H.next->(tZ tk H).get id=H.get id:=fun id z=>by
  cases tk with
  |none=>rfl
  |some k=>simp only[tZ,aA.aI,if_neg z]
 have qB:∀id l,(JE G G2 H H2 tk).loc id=some l->(id≠H.next/\G.loc id=some l)\/(id=H.next/\∃k,tk=some k/\G2.loc k=some l/\(tZ tk H).get id=some .tok):=fun id l U=>by
  simp only[JE] at U;by_cases d:id=H.next
  . rw[if_pos d] at U
    cases tk with
    |none=>cases U
    |some k=>exact .inr ⟨d,k,rfl,U,by simp only[tZ,aA.aI,if_pos d]⟩
  rw[if_neg d] at U;exact .inl ⟨d,U⟩
 have rS:∀id,id≠H.next->(tZ tk H).live id->H.live id:=fun id z ⟨o,O,Z⟩=>⟨o,by rw[<-y id z];exact O,Z⟩;have VV:∀k l,tk=some k->G2.loc k=some l->w.heap.size<=l.dE:=fun k l O Z=>NK k l Z ⟨_,m k O,rfl⟩
 have al:WR g (JE G G2 H H2 tk) (tZ tk H) w2:={
  cells:=fun id l cs r O Z=>by
   rcases qB id l O with ⟨z,U⟩|⟨_,k,_,_,q⟩
   . rw[y id z] at Z;obtain⟨a1,Q,s,i,a5⟩:=L.cells id l cs r U Z;have X:=L.oP U ⟨_,Z,rfl⟩;refine⟨a1,Q,s,i,fun j Y=>?_⟩;obtain⟨x,C,aj⟩:=a5 j Y;exact⟨x,by rw[gL (a6 _ X)];exact C,aj.mono uU S⟩
   rw[q] at Z;cases Z
  room:=fun id l O Z=>by
   rcases qB id l O with ⟨z,U⟩|⟨_,k,E,a7,q⟩
   . rw[y id z] at Z
     have X:l.dE<w.heap.size:=L.oP U (by
      rcases Z with ⟨cs,r,hh⟩|hh
      . exact⟨_,hh,rfl⟩
      exact⟨_,hh,rfl⟩)
     obtain⟨c,el,fz,b1,b2,b3⟩:=L.room id l U Z;exact⟨c,el,fz,by rw[a6 _ X];exact b1,b2,fun j Y=>by rw[mY (a6 _ X)];exact b3 j Y⟩
   exact T.room k l a7 (.inr (m k E))
  mV:=fun id mI l l' z O Z W I=>by
   rcases qB id l O with ⟨K,LZ⟩|⟨K,k,E,a,_⟩<;>rcases qB mI l' Z with ⟨Lg,a7⟩|⟨Lg,k',wU,fI,_⟩
   . exact L.mV id mI l l' z LZ a7 (rS id K W) (rS mI Lg I)
   . have :=L.oP LZ (rS id K W);have :=VV k' l' wU fI;exact .inl A0
   . have :=L.oP a7 (rS mI Lg I);have :=VV k l E a;exact .inl A0
   exact absurd (K.trans Lg.symm) z
  lV:=fun id l O W j Y F=>by
   rcases qB id l O with ⟨K,LZ⟩|⟨K,k,E,a,_⟩
   . have X:=L.oP LZ (rS id K W)
     rcases af _ _ F with hh|hh
     . exact L.lV id l LZ (rS id K W) j Y hh
     omega
   rcases F with F|⟨ab,B,cs,r,q1,q2,q3,q4,q5⟩
   . exact T.lV k l a ⟨_,m k E,rfl⟩ j Y F
   have z:ab≠k:=fun hh=>by rw[hh,m k E] at q2;cases q2
   have M:=(T.cells ab B cs r q1 q2).2.1
   rcases T.mV ab k B l z q1 a ⟨_,q2,rfl⟩ ⟨_,m k E,rfl⟩ with hd|hd|hd
   . exact hd q3
   . omega
   omega
  jK:=fun id l o O Z E=>by
   rcases qB id l O with ⟨z,U⟩|⟨_,k,_,_,q⟩
   . rw[y id z] at Z;have X:=L.oP U ⟨_,Z,Qh E⟩;obtain⟨a1,Q,s⟩:=L.jK id l o U Z E;exact⟨a1,Q,s.mono (a6 _ X) fun _ _ h=>h.mono uU S⟩
   rw[q] at Z;cases Z;cases E
  lt:=fun id l O=>by
   rcases qB id l O with ⟨z,U⟩|⟨A,k,E,_,_⟩
   . have :=L.lt id l U;omega
   subst E;simp[tZ,A]
  jJ:=fun b o F=>by
   rcases F with F|⟨id,l,cs,r,q1,q2,rfl,q4,q5⟩
   . exact T.jJ b o F
   obtain⟨a1,_,_,_,a5⟩:=T.cells id l cs r q1 q2;obtain⟨x,C,_⟩:=a5 (o -l.base) A0;exact⟨x,by rw[show o=l.base+(o -l.base) by omega];exact C⟩
  kQ:=fun k cs E=>(L.kQ k cs E).mono uU S
  FV:=T.FV
  mo:=L.mo}
 have ak:Ext G H w (JE G G2 H H2 tk) (tZ tk H) w2:={
  loc:=uU
  iZ:=S
  size:=p.size
  frame:=fun b X _=>a6 b X
  nM:=fun id l O W=>by
   rcases qB id l O with ⟨z,U⟩|⟨_,k,E,a,_⟩
   . exact .inr ⟨id,l,U,rS id z W,rfl⟩
   exact .inl (VV k l E a)
  qG:=fun b o F=>by
   rcases af b o F with hh|hh
   . exact .inl hh
   exact .inr (.inl hh)
  next:=an
  news:=fun id l O Z=>by
   rcases qB id l O with ⟨z,U⟩|⟨A,_⟩
   . rw[Z] at U;cases U
   omega
  dead:=fun id l O W=>rS id (by have :=L.lt id l O;omega) W
  mo:=rfl
  same:=p.same}
 refine⟨_,al,ak,?_⟩
 cases out with
 |ret v=>
  cases e with
  |returned u=>exact MM m T n yI M
  |_=>exact yI.elim
 |MD v=>
  cases e with
  |panicked ch=>obtain⟨u,rfl,Oj⟩:=yI;exact⟨u,rfl,MM m T n Oj M⟩
  |_=>exact yI.elim
theorem Sound.frame(t:KS g){f:FuncId}{args:List AV}(N:cW args=true){out:Out}{w:aA}(h:Sound P g f args ⟨0,.nil⟩ out w){tk:Option Nat}(m:∀k,tk=some k->w.get k=some .tok){n:Nat}
 (H:aA) {D:AV} (M:jB w tk H.next n out.av=some D):Sound P g f args H (out.with D) (tZ tk H):=
 h.open.frame t N H fun o a X=>by grind
end
end
section
abbrev dD:=Nat->AV
abbrev FQ:=tw->dD->List gX->aA->Prop
def oG(g:bL)(f:dD):Arg->AV
 |.tmp t=>f t
 |.const v=>v
 |.kQ n=>match g n with
  |some cs=>.pl cs
  |none=>aB
def kI(f:dD)(d:Nat)(v:AV):dD:=fun t=>if t=d then v else f t
theorem tS(f:dD)(d:Nat)(v:AV):kI f d v d=v:=by simp[kI]
theorem pX(f:dD){d t:Nat}(v:AV)(h:t≠d):kI f d v t=f t:=by grind[kI]
def gK(n:Nat)(f:dD):Option Nat->AV->dD
 |none,_=>f
 |some d,v=>if d<n then kI f d v else f
def lI(f:dD)(o:bG):Bool:=
 match o.guard with
 |none=>true
 |some (d,b)=>match f d with
  |.bool c=>c==b
  |_=>false
def oD(r:Option (AV×aA))(k:AV->aA->Prop):Prop:=
 match r with
 |some (v,H)=>k v H
 |none=>False
def bT(P:Program)(g:bL)(n:Nat):List bG->dD->List gX->aA->FQ->Prop
 |[],f,ds,H,Q=>Q .normal f ds H
 |o::r,f,ds,H,Q=>
  if lI f o then
   match o.op with
   |.call c azs=>∃out H',Sn P g (oG g f c) (azs.map (oG g f)) H out H'/\
     match out with
     |.ret v=>bT P g n r (gK n f o.dst v) ds H' Q
     |.MD v=>Q (.panic v) f ds H'
   |.panic x=>∃t v,oG g f x=.iface t v/\Q (.panic (.iface t v)) f ds H
   |.nD c azs=>∃p,nH (oG g f c)=some p/\bT P g n r (gK n f o.dst aB) (.call p.1 (p.2.1++azs.map (oG g f)++p.2.2)::ds) H Q
   |.yK x=>∃m es,oG g f x=.map m/\H.get m=some (.map es)/\∀N c A,N.length=es.length->N.Nodup->
     bT P g n r (gK n f o.dst (.ref H.next 0)) ds ((H.set m (.uW es N c A)).alloc (.iter m A c [])) Q
   |.HP x=>∃q m A c seen es N,oG g f x=.ref q 0/\H.get q=some (.iter m A c seen)/\H.get m=some (.uW es N c A)/\
     ((∀b∈N,b∈seen)->bT P g n r (gK n f o.dst (.jS [.bool false])) ds H Q)/\
     ∀j,j<N.length->N.getD j 0∉seen->bT P g n r (gK n f o.dst (.jS [.bool true,(es.getD j (aB,aB)).1,(es.getD j (aB,aB)).2])) ds (H.set q (.iter m A c (seen++[N.getD j 0]))) Q
   |.BQ x=>∃q m A c seen es N j,oG g f x=.ref q 0/\H.get q=some (.iter m A c (seen++[N.getD j 0]))/\H.get m=some (.uW es N c A)/\j<N.length/\
     bT P g n r (gK n f o.dst (.jS [(es.getD j (aB,aB)).1,(es.getD j (aB,aB)).2])) ds H Q
   |op=>oD (dS (oG g f) H op) fun v H'=>bT P g n r (gK n f o.dst v) ds H' Q
  else bT P g n r (gK n f o.dst aB) ds H Q
def IH(P:Program)(g:bL)(r:bG)(f:dD)(H:aA)(v:AV)(H':aA):Prop:=
 match r.op with
 |.call c azs=>∃p,nH (oG g f c)=some p/\Sound P g p.1 (p.2.1++azs.map (oG g f)++p.2.2) H (.ret v) H'
 |.panic _|.nD _ _=>False
 |op=>dS (oG g f) H op=some (v,H')
def Zk(P:Program)(g:bL)(n:Nat)(pairs:List (Nat×Nat))(base:Nat):Nat->Nat->List bG->List (Nat×Nat)->List (Nat×aA×aA)->dD->aA->(dD->aA->Prop)->Prop
 |_,_,[],_,_,f,H,Q=>Q f H
 |i,k,r::rs,rd,ef,f,H,Q=>
  if lI f r then
   if r.op.fresh then
    ∃T val,CS (oG g f) r.op=some (T,val)/\(∀x∈ef,(i,x.1)∈pairs->x.2.1.get (base+k)=x.2.2.get (base+k))/\
     Zk P g n pairs base (i+1) (k+1) rs ((i,base+k)::rd) ef (gK n f r.dst (val (base+k))) (H.set (base+k) T) Q
   else if r.op.rR then
    ∃v H',IH P g r f H v H'/\H.next<=H'.next/\(∀x∈rd,(x.1,i)∈pairs->H.get x.2=H'.get x.2)/\
     Zk P g n pairs base (i+1) k rs rd ((i,H,H')::ef) (gK n f r.dst v) H' Q
   else
    ∃v,IH P g r f H v H/\(∀id,r.op.dL (oG g f)=some id->∀x∈ef,(i,x.1)∈pairs->x.2.1.get id=x.2.2.get id)/\
     Zk P g n pairs base (i+1) k rs (match r.op.dL (oG g f) with|some id=>(i,id)::rd|none=>rd) ef (gK n f r.dst v) H Q
  else Zk P g n pairs base (i+1) (if r.op.fresh then k+1 else k) rs rd ef (gK n f r.dst aB) H Q
def iP(next:dD->List gX->aA->Prop)(Q:FQ):FQ
 |.normal,f,ds,H=>next f ds H
 |e,f,ds,H=>Q e f ds H
def dV(id:Nat)(Q:FQ):FQ
 |.exit i,f,ds,H=>if i=id then Q .normal f ds H else Q (.exit i) f ds H
 |e,f,ds,H=>Q e f ds H
def uY(n:Nat)(f:dD):List (Nat×AV)->dD
 |[]=>f
 |(t,v)::r=>uY n (gK n f (some t) v) r
def aAz(id:Nat)(out:Out)(X:aA):FQ
 |.normal,_,ds,H=>ds=[]/\out=.ret (.bool true)/\∃k sn,H.get id=some (.loop k sn .busy)/\X=H.set id (.loop k sn .ready)
 |.ret,_,ds,H=>ds=[]/\out=.ret (.bool false)/\∃k sn,H.get id=some (.loop k sn .busy)/\X=H.set id (.loop k sn (.done .ret))
 |.exit i,_,ds,H=>ds=[]/\out=.ret (.bool false)/\∃k sn,H.get id=some (.loop k sn .busy)/\X=H.set id (.loop k sn (.done (.exit i)))
 |.panic _,_,_,_=>False
def Qi(y:LSt)(f:dD)(ds:List gX)(H:aA)(Q:FQ):Prop:=
 match y with
 |.ready=>Q .normal f ds H
 |.done .ret=>Q .ret f ds H
 |.done (.exit i)=>Q (.exit i) f ds H
 |_=>False
def LF(n:Nat)(f:dD):List AV:=(List.range n).map f
def oO(n:Nat)(f:dD):Prop:=∀t,n<=t->f t=aB
def FC(P:Program)(g:bL)(n:Nat):bY->dD->List gX->aA->FQ->Prop
 |.skip,f,ds,H,Q=>Q .normal f ds H
 |.ops rl,f,ds,H,Q=>bT P g n rl f ds H Q
 |.draw rl pairs,f,ds,H,Q=>(qV H (rl.countP (·.op.fresh))=true/\
   Zk P g n pairs H.next 0 0 rl [] [] f {H with next:=H.next+rl.countP (·.op.fresh)} fun u H'=>Q .normal u ds H')\/
   (oO n f->∃x u H',PU P g rl pairs (LF n f) H (fun D S K=>D=x/\S=LF n u/\K=H')/\oO n u/\(∀t,t∉rl.filterMap (·.dst)->u t=f t)/\Q (.panic x) u ds H')\/
   (oO n f->∃x H',PT P g rl pairs (LF n f) H (fun D K=>D=x/\K=H')/\∀u:dD,oO n u->(∀t,t∉rl.filterMap (·.dst)->u t=f t)->Q (.panic x) u ds H')
 |.seq a b,f,ds,H,Q=>FC P g n a f ds H (iP (fun f ds H=>FC P g n b f ds H Q) Q)
 |.cond c a b,f,ds,H,Q=>∃t,oG g f c=.bool t/\if t then FC P g n a f ds H Q else FC P g n b f ds H Q
 |.block id a,f,ds,H,Q=>FC P g n a f ds H (dV id Q)
 |.loop a,f,ds,H,Q=>∃(I:Nat->dD->List gX->aA->Prop) (m:Nat),I m f ds H/\
   ∀m f ds H,I m f ds H->FC P g n a f ds H (iP (fun f ds H=>∃k,k<m/\I k f ds H) Q)
 |.exit id,f,ds,H,Q=>Q (.exit id) f ds H
 |.ret,f,ds,H,Q=>Q .ret f ds H
 |.pT c ps Nr body,f,ds,H,Q=>∃fid fs cs v B p S y G,oG g f c=.func (.func fid) fs cs/\
   Sound P g fid (fs++[.yield (H.next+1)]++cs) ((H.alloc .Nu).alloc (.loop ⟨ps,Nr,body⟩ (LF n f) .ready)) (.ret v) B/\B.get (H.next+1)=some (.loop p S y)/\AD B (H.next+1) G/\
   Qi y f (.mark H.next::ds) G Q
def UX(P:Program)(g:bL)(n:Nat)(k:Mm)(f:dD)(id:Nat)(args:List AV)(w:aA)(out:Out)(X:aA):Prop:=
 FC P g n k.Nr (uY n f (k.ps.zip args)) [] w fun e b N H1=>match e with
  |.normal=>N=[]/\∃k1 d,H1.get id=some (.loop k1 d .ready)/\FC P g n k.body b [] (H1.set id (.loop k1 d .busy)) (aAz id out X)
  |_=>False
theorem oO.put{n:Nat}{f:dD}(h:oO n f)(A:Option Nat)(v:AV):oO n (gK n f A v):=by
 cases A with
 |none=>exact h
 |some d=>
  simp only[gK];split
  . intro t q;rw[pX f v A0];exact h t q
  omega
theorem Ov{n:Nat}{f:dD}(h:oO n f)(t:Nat):(LF n f).getD t aB=f t:=by
 unfold LF;by_cases q:t<n
 . grind
 rw[h t A0]
 grind
theorem qM{n:Nat}{f:dD}(A:Option Nat)(v:AV):LF n (gK n f A v)=oR (LF n f) A v:=by
 cases A with
 |none=>rfl
 |some d=>
  simp only[gK,oR,LF];apply Ga
  grind[tS,pX]
theorem DX{n:Nat}{f:dD}(h:oO n f)(g:bL):oG g f=Arg.eval g (LF n f):=by
 funext x
 cases x with
 |tmp t=>exact(Ov h t).symm
 |const v=>rfl
 |kQ n=>rfl
theorem Ro{n:Nat}{f:dD}(h:oO n f)(o:bG):lI f o=bU (LF n f) o:=by grind[lI,bU,Ov]
theorem Ml{n:Nat}:∀(l:List (Nat×AV)) (f:dD),sF (LF n f) l=LF n (uY n f l)
 |[],f=>rfl
 |(t,v)::l,f=>by rw[sF,uY,<-Ml l];rw[qM];rfl
theorem oO.sF{n:Nat}:∀(l:List (Nat×AV)) {f:dD},oO n f->oO n (uY n f l)
 |[],_,h=>h
 |(t,v)::l,_,h=>oO.sF l (h.put (some t) v)
def aTq(n:Nat)(Q:FQ):AQ:=fun e s ds H=>∃f,s=LF n f/\oO n f/\Q e f ds H
section
variable {P:Program} {g:bL} {n:Nat}
theorem kW:∀(rl:List bG) (f:dD) (ds:List gX) (H:aA) (Q:FQ),oO n f->bT P g n rl f ds H Q->vH P g rl (LF n f) ds H (aTq n Q)
 |[],f,ds,H,Q,hb,h=>⟨f,rfl,hb,h⟩
 |o::r,f,ds,H,Q,hb,h=>by
  unfold bT at h;unfold vH;rw[Ro hb,DX hb] at h;split at h
  . rename_i L;rw[if_pos L];split at h
    . rename_i c K b;obtain⟨out,H',Z,W⟩:=h;rw[b];refine⟨out,H',Z,?_⟩
      cases out with
      |ret v=>
       have :=kW r _ ds H' Q (hb.put o.dst v) W
       rwa [qM] at this
      |MD v=>exact⟨f,rfl,hb,W⟩
    . rename_i x b;obtain⟨t,v,O,Z⟩:=h;rw[b];exact⟨t,v,O,f,rfl,hb,Z⟩
    . rename_i c K b;obtain⟨p,O,Z⟩:=h;rw[b];refine⟨p,O,?_⟩;have :=kW r _ _ H Q (hb.put o.dst aB) Z
      rwa [qM] at this
    . rename_i x b;obtain⟨m,es,O,Z,W⟩:=h;rw[b];refine⟨m,es,O,Z,fun N c A k1 k2=>?_⟩;have :=kW r _ _ _ Q (hb.put o.dst _) (W N c A k1 k2)
      rwa [qM] at this
    . rename_i x b;obtain⟨q,m,A,c,seen,es,N,O,Z,W,h4,M⟩:=h;rw[b];refine⟨q,m,A,c,seen,es,N,O,Z,W,fun k=>?_,fun j k1 k2=>?_⟩
      . have :=kW r _ _ _ Q (hb.put o.dst _) (h4 k)
        rwa [qM] at this
      have :=kW r _ _ _ Q (hb.put o.dst _) (M j k1 k2)
      rwa [qM] at this
    . rename_i x b;obtain⟨q,m,A,c,seen,es,N,j,O,Z,W,h4,M⟩:=h;rw[b];refine⟨q,m,A,c,seen,es,N,j,O,Z,W,h4,?_⟩;have :=kW r _ _ _ Q (hb.put o.dst _) M
      rwa [qM] at this
    rename_i n1 n2 u a e d;unfold oD at h;split at h
    . rename_i v H' I;have :=kW r _ ds H' Q (hb.put o.dst v) h;rw[qM] at this;split
      . rename_i c K b;exact absurd b (n1 c K)
      . rename_i x b;exact absurd b (n2 x)
      . rename_i c K b;exact absurd b (u c K)
      . rename_i x b;exact absurd b (a x)
      . rename_i x b;exact absurd b (e x)
      . rename_i x b;exact absurd b (d x)
      exact⟨v,H',I,this⟩
    exact h.elim
  rename_i L;rw[if_neg L];have :=kW r _ ds H Q (hb.put o.dst aB) h
  rwa [qM] at this
theorem Ss{f:dD}(X:oO n f){r:bG}{H H':aA}{v:AV}(h:IH P g r f H v H'):Nq P g r (LF n f) H v H':=by
 unfold IH at h
 rwa [DX X] at h
theorem yY{pairs:List (Nat×Nat)}{base:Nat}{Q:dD->aA->Prop}:∀(rl:List bG) (i k:Nat) (a:List (Nat×Nat)) (p:List (Nat×aA×aA)) (f:dD) (H:aA),oO n f->
 Zk P g n pairs base i k rl a p f H Q->Wb P g pairs base i k rl a p (LF n f) H (fun s H=>∃f,s=LF n f/\oO n f/\Q f H)
 |[],i,k,a,p,f,H,hb,h=>⟨f,rfl,hb,h⟩
 |r::rs,i,k,a,p,f,H,hb,h=>by
  unfold Zk at h;unfold Wb;rw[Ro hb] at h;split at h
  . rename_i L;rw[if_pos L];split at h
    . rename_i N;rw[if_pos N];obtain⟨T,val,O,Z,W⟩:=h;rw[DX hb] at O;refine⟨T,val,O,Z,?_⟩;have :=yY rs _ _ _ _ _ _ (hb.put r.dst _) W
      rwa [qM] at this
    rename_i N;rw[if_neg N];split at h
    . rename_i B;rw[if_pos B];obtain⟨v,H',O,Z,W,h4⟩:=h;refine⟨v,H',Ss hb O,Z,W,?_⟩;have :=yY rs _ _ _ _ _ _ (hb.put r.dst _) h4
      rwa [qM] at this
    rename_i B;rw[if_neg B];obtain⟨v,O,Z,W⟩:=h;refine⟨v,Ss hb O,by rw[<-DX hb];exact Z,?_⟩;have :=yY rs _ _ _ _ _ _ (hb.put r.dst _) W;rw[qM] at this;rw[<-DX hb];exact this
  rename_i L;rw[if_neg L];have :=yY rs _ _ _ _ _ _ (hb.put r.dst _) h
  rwa [qM] at this
theorem vI:∀(c:bY) (f:dD) (ds:List gX) (H:aA) (Q:FQ),oO n f->FC P g n c f ds H Q->AC P g c (LF n f) ds H (aTq n Q):=by
 intro c
 induction c with
 |skip=>exact fun f ds H Q X h=>⟨f,rfl,X,h⟩
 |ops rl=>exact fun f ds H Q X h=>kW rl f ds H Q X h
 |draw rl pairs=>
  intro f ds H Q X h;refine h.imp (fun h=>⟨h.1,yY rl 0 0 [] [] f _ X h.2⟩) fun h=>h.imp (fun h=>?_) fun h=>?_
  . obtain⟨x,u,H',O,Z,_,W⟩:=h X;exact O.mono fun j S K ⟨T,w,B⟩=>⟨u,w,Z,by rw[T,B];exact W⟩
  obtain⟨x,H',O,W⟩:=h X;refine O.mono fun j K ⟨T,B⟩ S U q=>?_;have L:S.length=n:=by rw[U];simp[LF]
  refine⟨fun t=>S.getD t aB,?_,fun t q=>?_,?_⟩
  . apply Fh
    all_goals grind[LF]
  . grind
  rw[T,B];exact W _ (fun t q=>by grind) fun t l=>(q t l).trans (Ov X t)
 |seq a b R r=>
  intro f ds H Q X h;show AC P g a (LF n f) ds H _;refine eW (fun e s ds H D=>?_) (R f ds H _ X h);obtain⟨u,rfl,Y,D⟩:=D
  cases e with
  |normal=>exact r u ds H Q Y D
  |_=>exact⟨u,rfl,Y,D⟩
 |cond c a b R r=>
  intro f ds H Q X h;obtain⟨t,O,Z⟩:=h;rw[DX X] at O;refine⟨t,O,?_⟩
  grind
 |block id a z=>
  intro f ds H Q X h;show AC P g a (LF n f) ds H _;refine eW (fun e s ds H D=>?_) (z f ds H _ X h);obtain⟨u,rfl,Y,D⟩:=D
  cases e with
  |exit i=>
   simp only[dV] at D;simp only[rC];split
   . rename_i F;rw[if_pos F] at D;exact⟨u,rfl,Y,D⟩
   rename_i F;rw[if_neg F] at D;exact⟨u,rfl,Y,D⟩
  |_=>exact⟨u,rfl,Y,D⟩
 |loop a z=>
  intro f ds H Q X h;obtain⟨I,m,o,J⟩:=h;refine⟨fun m s ds H=>∃f,s=LF n f/\oO n f/\I m f ds H,m,⟨f,rfl,X,o⟩,?_⟩;rintro m s N H1 ⟨d,rfl,C,O⟩;refine eW (fun e s ds H D=>?_) (z d N H1 _ C (J m d N H1 O));obtain⟨u,rfl,Y,D⟩:=D
  cases e with
  |normal=>obtain⟨k,E,D⟩:=D;exact⟨k,E,u,rfl,Y,D⟩
  |_=>exact⟨u,rfl,Y,D⟩
 |exit id=>exact fun f ds H Q X h=>⟨f,rfl,X,h⟩
 |ret=>exact fun f ds H Q X h=>⟨f,rfl,X,h⟩
 |pT c ps a b R r=>
  intro f ds H Q X h;obtain⟨fid,fs,cs,v,A,p,S,y,G,O,Z,W,h4,M⟩:=h;rw[DX X] at O;refine⟨fid,fs,cs,v,A,p,S,y,G,O,Z,W,h4,?_⟩
  cases y with
  |ready=>exact⟨f,rfl,X,M⟩
  |done e=>cases e<;>exact⟨f,rfl,X,M⟩
  |busy=>exact M.elim
  |over _=>exact M.elim
theorem uk{rl:List bG}:∀{f:dD} {ds:List gX} {H:aA} {Q C:FQ},(∀e f ds H,Q e f ds H->C e f ds H)->bT P g n rl f ds H Q->bT P g n rl f ds H C:=by
 induction rl with
 |nil=>exact fun D h=>D _ _ _ _ h
 |cons o r z=>
  intro f ds H Q C D h;unfold bT at h ⊢;split
  . rename_i L;rw[if_pos L] at h;split at h
    . obtain⟨out,H',O,W⟩:=h;refine⟨out,H',O,?_⟩
      cases out with
      |ret v=>exact z D W
      |MD v=>exact D _ _ _ _ W
    . obtain⟨t,v,O,Z⟩:=h;exact⟨t,v,O,D _ _ _ _ Z⟩
    . obtain⟨p,O,Z⟩:=h;exact⟨p,O,z D Z⟩
    . exact ZbT
    . exact Za2
    . exact ZbI
    unfold oD at h ⊢;split at h
    . exact z D h
    exact h.elim
  rename_i L;rw[if_neg L] at h;exact z D h
theorem Wl{pairs:List (Nat×Nat)}{base:Nat}{rl:List bG}:∀{i k:Nat} {a:List (Nat×Nat)} {p:List (Nat×aA×aA)} {f:dD} {H:aA} {Q C:dD->aA->Prop},(∀f H,Q f H->C f H)->
 Zk P g n pairs base i k rl a p f H Q->Zk P g n pairs base i k rl a p f H C:=by
 induction rl with
 |nil=>exact fun D h=>D _ _ h
 |cons r X z=>grind[Zk]
variable{c:bY}
theorem lE:∀{f:dD} {ds:List gX} {H:aA} {Q C:FQ},(∀e f ds H,Q e f ds H->C e f ds H)->FC P g n c f ds H Q->FC P g n c f ds H C:=by
 induction c with
 |skip=>exact fun D h=>D _ _ _ _ h
 |ops rl=>exact fun D h=>uk D h
 |draw rl pairs=>exact fun D h=>h.imp (fun h=>⟨h.1,Wl (fun s H=>D _ _ _ _) h.2⟩) fun h=>h.imp (fun h X=>let⟨x,u,H',O,Z,W,h4⟩:=h X;⟨x,u,H',O,Z,W,D _ _ _ _ h4⟩) fun h X=>let⟨x,H',O,Z⟩:=h X;⟨x,H',O,fun u Y q=>D _ _ _ _ (Z u Y q)⟩
 |seq a b R r=>
  intro f ds H Q C D h;refine R (fun e f ds H h=>?_) h
  cases e with
  |normal=>exact r D h
  |_=>exact D _ _ _ _ h
 |cond c a b R r=>
  intro f ds H Q C D h;exact ZbX
 |block id a z=>
  intro f ds H Q C D h;refine z (fun e f ds H h=>?_) h
  cases e with
  |exit i=>grind[dV]
  |_=>exact D _ _ _ _ h
 |loop a z=>
  intro f ds H Q C D h;obtain⟨I,m,o,J⟩:=h;refine⟨I,m,o,fun m f ds H F=>z (fun e f ds H h=>?_) (J m f ds H F)⟩
  cases e with
  |normal=>exact h
  |_=>exact D _ _ _ _ h
 |exit id=>exact fun D h=>D _ _ _ _ h
 |ret=>exact fun D h=>D _ _ _ _ h
 |pT c ps a b R r=>
  intro f ds H Q C D h;obtain⟨fid,fs,cs,v,B,p,S,y,G,O,Z,W,h4,M⟩:=h;refine⟨fid,fs,cs,v,B,p,S,y,G,O,Z,W,h4,?_⟩
  cases y with
  |ready=>exact D _ _ _ _ M
  |done e=>cases e<;>exact D _ _ _ _ M
  |busy=>assumption
  |over _=>assumption
def fD(args:List AV):dD:=fun t=>args.getD t aB
def Sf(f:dD)(H:aA):KK->Option AV
 |.tmp t=>some (f t)
 |.cell a agg n=>match dS (oG g0 f) H (.load agg n (.tmp a)) with
  |some (v,_)=>some v
  |none=>none
def uN(f:dD)(H:aA):List KK->Option (List AV)
 |[]=>some []
 |x::r=>match Sf f H x,uN f H r with
  |some v,some vs=>some (v::vs)
  |_,_=>none
theorem MJ{f:dD}(X:oO n f)(H:aA):∀l,uN f H l=rI (LF n f) H l
 |[]=>rfl
 |x::r=>by
  have z:=MJ X H r
  cases x with
  |tmp t=>grind[uN,rI,Sf,aAu,Ov]
  |cell a e m=>grind[uN,rI,Sf,aAu,DX]
theorem AN{args:List AV}(h:args.length<=n):oO n (fD args)/\LF n (fD args)=args++List.replicate (n -args.length) aB:=by
 refine⟨fun t q=>?_,Ga fun t=>?_⟩
 all_goals grind[fD,getD_eq,LF]
def RP(X:List KK)(R:Out->aA->Prop):FQ
 |.normal,f,ds,H|.ret,f,ds,H=>ds=[]/\∃vs,uN f H X=some vs/\R (.ret (nN vs)) H
 |.panic v,_,ds,H=>ds=[]/\R (.MD v) H
 |.exit _,_,_,_=>False
theorem aBz{F:DC}{args:List AV}(I:args.length<=F.ntmps){H:aA}{R:Out->aA->Prop}(h:FC P g F.ntmps F.body (fD args) [] H (RP F.results R)):
 AC P g F.body (sK F args) [] H (aQq F R):=by
 obtain⟨X,U⟩:=AN I;unfold sK;rw[<-U];refine eW (fun e s ds H D=>?_) (vI F.body _ [] H _ X h);obtain⟨f,rfl,Y,D⟩:=D
 cases e with
 |normal=>obtain⟨O,vs,Z,W⟩:=D;exact⟨O,vs,by grind[MJ],W⟩
 |ret=>obtain⟨O,vs,Z,W⟩:=D;exact⟨O,vs,by grind[MJ],W⟩
 |panic v=>exact D
 |exit id=>exact D
def bG.dH(r:bG):Bool:=match r.op with|.yK _|.HP _=>false|_=>true
def bY.dH:bY->Bool
 |.ops rl=>rl.all bG.dH
 |.seq a b|.cond _ a b=>a.dH&&b.dH
 |.block _ a|.loop a=>a.dH
 |_=>true
theorem Zf{rl:List bG}(hd:rl.all bG.dH=true):∀{s:List AV} {ds:List gX} {H:aA} {Q:AQ},vH P g rl s ds H Q->
 ∃l S V H',Q l S V H'/\vH P g rl s ds H (fun e s d h=>e=l/\s=S/\d=V/\h=H'):=by
 induction rl with
 |nil=>exact fun {s ds H Q} h=>⟨.normal,s,ds,H,h,rfl,rfl,rfl,rfl⟩
 |cons o r z=>
  intro s ds H Q h;simp only[List.all_cons,Ak] at hd;have z:=fun {s ds H Q}=> @z hd.2 s ds H Q;unfold vH at h ⊢;by_cases L:bU s o=true
  . simp only[L,if_true] at h ⊢;split at h
    . obtain⟨out,H',O,W⟩:=h
      cases out with
      |ret v=>obtain⟨l,S,V,H1,q,n⟩:=z W;exact⟨l,S,V,H1,q,.ret v,H',O,n⟩
      |MD v=>exact⟨.panic v,s,ds,H',W,.MD v,H',O,rfl,rfl,rfl,rfl⟩
    . obtain⟨t,v,O,Z⟩:=h;exact⟨_,s,ds,H,Z,t,v,O,rfl,rfl,rfl,rfl⟩
    . obtain⟨p,O,Z⟩:=h;obtain⟨l,S,V,H1,q,n⟩:=z Z;exact⟨l,S,V,H1,q,p,O,n⟩
    . rename_i x b;simp[bG.dH,b] at hd
    . rename_i x b;simp[bG.dH,b] at hd
    . obtain⟨a,m,A,c,seen,es,N,j,O,Z,W,h4,M⟩:=h;obtain⟨l,S,V,H1,q,n⟩:=z M;exact⟨l,S,V,H1,q,a,m,A,c,seen,es,N,j,O,Z,W,h4,n⟩
    obtain⟨v,H',O,Z⟩:=h;obtain⟨l,S,V,H1,q,n⟩:=z Z;exact⟨l,S,V,H1,q,v,H',O,n⟩
  simp only[L] at h ⊢;exact z h
theorem tv{pairs:List (Nat×Nat)}{base:Nat}{rl:List bG}:∀{i k:Nat} {a:List (Nat×Nat)} {p:List (Nat×aA×aA)} {s:List AV} {H:aA} {Q:List AV->aA->Prop},
 Wb P g pairs base i k rl a p s H Q->∃S H',Q S H'/\Wb P g pairs base i k rl a p s H (fun s h=>s=S/\h=H'):=by
 induction rl with
 |nil=>exact fun {i k a p s H Q} h=>⟨s,H,h,rfl,rfl⟩
 |cons r X z=>grind[Wb]
def bY.tight:bY->Bool
 |.draw rl pairs=>pairs.all fun p=>decide (p.2<=rl.length)
 |.seq a b|.cond _ a b=>a.tight&&b.tight
 |.block _ a|.loop a=>a.tight
 |_=>true
def UR(b:Bool)(l:tw)(S:List AV)(V:List gX)(H':aA):AQ:=fun e s d h=>e=l/\(s=S\/(b=false/\∃x,l=.panic x))/\d=V/\h=H'
theorem UR.up{b I:Bool}{l:tw}{S:List AV}{V:List gX}{H':aA}(a:b=false->I=false){e:tw}{s:List AV}{d:List gX}{h:aA}(X:UR b l S V H' e s d h):UR I l S V H' e s d h:=
 ⟨X.1,X.2.1.imp id fun h=>⟨a h.1,h.2⟩,X.2.2⟩
theorem KI(hd:c.dH=true):∀{s:List AV} {ds:List gX} {H:aA} {Q:AQ},AC P g c s ds H Q->
 ∃l S V H',Q l S V H'/\AC P g c s ds H (UR c.tight l S V H'):=by
 induction c with
 |skip=>exact fun {s ds H Q} h=>⟨.normal,s,ds,H,h,rfl,.inl rfl,rfl,rfl⟩
 |ops rl=>intro s ds H Q h;obtain⟨l,S,V,H',q,n⟩:=Zf hd h;exact⟨l,S,V,H',q,Mi (fun e s d h X=>⟨X.1,.inl X.2.1,X.2.2⟩) n⟩
 |draw rl pairs=>
  intro s ds H Q h
  rcases h with h|⟨j,o,ss,vs,O,D,r,f,K,p,x,H1,T,e2,B,U,u,q⟩|⟨j,jr,o,ss,vs,O,hl,L,hs,D,r,f,K,p,x,H1,T,e2,B,U,u,q⟩
  . obtain⟨S,H',q,n⟩:=tv h.2;exact⟨.normal,S,ds,H',q,.inl ⟨h.1,Wc (fun s H h=>⟨rfl,.inl h.1,rfl,h.2⟩) n⟩⟩
  . exact⟨.panic x,ss j,ds,H1,q,.inr (.inl ⟨j,o,ss,vs,O,D,r,f,K,p,x,H1,T,e2,B,U,u,rfl,.inl rfl,rfl,rfl⟩)⟩
  have ht:(bY.draw rl pairs).tight=false:=by simp only[bY.tight];rw[Ie];exact⟨_,O,by simp⟩
  exact⟨.panic x,s,ds,H1,q s rfl fun _ _=>rfl,.inr (.inr ⟨j,jr,o,ss,vs,O,hl,L,hs,D,r,f,K,p,x,H1,T,e2,B,U,u,fun S _ _=>⟨rfl,.inr ⟨ht,x,rfl⟩,rfl,rfl⟩⟩)⟩
 |seq a b R BK=>
  simp only[bY.dH,Ak] at hd;have R:=fun {s ds H Q}=> @R hd.1 s ds H Q;have BK:=fun {s ds H Q}=> @BK hd.2 s ds H Q;have la:a.tight=false->(a.seq b).tight=false:=fun h=>by simp[bY.tight,h]
  have lb:b.tight=false->(a.seq b).tight=false:=fun h=>by simp[bY.tight,h]
  intro s ds H Q h;obtain⟨l,A,N,H1,q,n⟩:=R h
  cases l with
  |normal=>
   obtain⟨ab,s2,Uv,w,q2,hB⟩:=BK q;refine⟨ab,s2,Uv,w,q2,?_⟩;show AC P g a s ds H _;refine eW (fun e s d h X=>?_) n;obtain⟨rfl,rfl|⟨_,x,C⟩,rfl,rfl⟩:=X
   . exact eW (fun e s d h X=>X.up lb) hB
   cases C
  |_=>refine⟨_,A,N,H1,q,?_⟩;show AC P g a s ds H _;refine eW (fun e s d h X=>?_) n;have X:=X.up la;obtain⟨rfl,Z⟩:=X;exact⟨rfl,Z⟩
 |cond c a b R BK=>
  simp only[bY.dH,Ak] at hd;have R:=fun {s ds H Q}=> @R hd.1 s ds H Q;have BK:=fun {s ds H Q}=> @BK hd.2 s ds H Q;intro s ds H Q h;obtain⟨t,O,Z⟩:=h
  cases t with
  |true=>obtain⟨l,A,N,H1,q,n⟩:=R Z;exact⟨l,A,N,H1,q,true,O,eW (fun e s d h X=>X.up fun h=>by simp[bY.tight,h]) n⟩
  |false=>obtain⟨l,A,N,H1,q,n⟩:=BK Z;exact⟨l,A,N,H1,q,false,O,eW (fun e s d h X=>X.up fun h=>by simp[bY.tight,h]) n⟩
 |block id a z=>
  have z:=fun {s ds H Q}=> @z hd s ds H Q;intro s ds H Q h;obtain⟨l,A,N,H1,q,n⟩:=z h
  have a6:∀e,(∀i,e≠ .exit i)->Q e A N H1->AC P g a s ds H (UR a.tight e A N H1)->
   ∃l S V H',Q l S V H'/\AC P g (.block id a) s ds H (UR a.tight l S V H'):=fun e cU hq n=>by
   refine⟨e,A,N,H1,hq,?_⟩;show AC P g a s ds H _;refine eW (fun e' s d h X=>?_) n;obtain⟨rfl,Z⟩:=X
   cases e' with
   |exit i=>exact absurd rfl (cU i)
   |_=>exact⟨rfl,Z⟩
  cases l with
  |exit i=>
   simp only[rC] at q;by_cases F:i=id
   . rw[if_pos F] at q;refine⟨.normal,A,N,H1,q,?_⟩;show AC P g a s ds H _;refine eW (fun e s d h X=>?_) n;obtain⟨rfl,rfl|⟨_,x,C⟩,rfl,rfl⟩:=X
     . simp only[rC];rw[if_pos F];exact⟨rfl,.inl rfl,rfl,rfl⟩
     cases C
   rw[if_neg F] at q;refine⟨.exit i,A,N,H1,q,?_⟩;show AC P g a s ds H _;refine eW (fun e s d h X=>?_) n;obtain⟨rfl,Z⟩:=X;simp only[rC];rw[if_neg F];exact⟨rfl,Z⟩
  |normal=>exact a6 _ (fun i X=>by cases X) q n
  |ret=>exact a6 _ (fun i X=>by cases X) q n
  |panic v=>exact a6 _ (fun i X=>by cases X) q n
 |loop a z=>
  have z:=fun {s ds H Q}=> @z hd s ds H Q;intro s ds H Q h;obtain⟨I,m,h0,hI⟩:=h
  have key:∀(m:Nat) (s:List AV) (ds:List gX) (H:aA),I m s ds H->
   ∃l S V H',Q l S V H'/\AC P g (.loop a) s ds H (UR a.tight l S V H'):=by
   intro m
   induction m using Nat.strongRecOn with
   |_ m ad=>
    intro s ds H F;obtain⟨l,A,N,H1,q,n⟩:=z (hI m s ds H F)
    have a7:∀e,e≠ .normal->Q e A N H1->AC P g a s ds H (UR a.tight e A N H1)->
     ∃l S V H',Q l S V H'/\AC P g (.loop a) s ds H (UR a.tight l S V H'):=fun e cU hq n=>by
     refine⟨e,A,N,H1,hq,fun k S d' h'=>S=s/\d'=ds/\h'=H,0,⟨rfl,rfl,rfl⟩,?_⟩;rintro k _ _ _ ⟨rfl,rfl,rfl⟩;refine eW (fun e' s d h X=>?_) n;obtain⟨rfl,Z⟩:=X
     cases e' with
     |normal=>exact absurd rfl cU
     |_=>exact⟨rfl,Z⟩
    cases l with
    |normal=>
     obtain⟨k,E,ZW⟩:=q;obtain⟨ab,s2,Uv,w,q2,J,j,Y,hJ⟩:=ad k E A N H1 ZW;refine⟨ab,s2,Uv,w,q2,fun x S d' h'=>J x S d' h'\/(x=j+1/\S=s/\d'=ds/\h'=H),j+1,.inr ⟨rfl,rfl,rfl,rfl⟩,?_⟩;rintro x S d' h' (C|⟨rfl,rfl,rfl,rfl⟩)
     . refine eW (fun e s d h X=>?_) (hJ x S d' h' C)
       cases e with
       |normal=>obtain⟨y,hy,af⟩:=X;exact⟨y,hy,.inl af⟩
       |_=>exact X
     refine eW (fun e s d h X=>?_) n;obtain⟨rfl,rfl|⟨_,x,C⟩,rfl,rfl⟩:=X
     . exact⟨j,Fg j,.inl Y⟩
     cases C
    |exit i=>exact a7 _ (fun X=>by cases X) q n
    |ret=>exact a7 _ (fun X=>by cases X) q n
    |panic v=>exact a7 _ (fun X=>by cases X) q n
  exact key m s ds H h0
 |exit id=>exact fun {s ds H Q} h=>⟨_,s,ds,H,h,rfl,.inl rfl,rfl,rfl⟩
 |ret=>exact fun {s ds H Q} h=>⟨_,s,ds,H,h,rfl,.inl rfl,rfl,rfl⟩
 |pT c ps a b R BK=>
  intro s ds H Q h;obtain⟨fid,fs,cs,v,He,k',S,st,G,O,Z,W,h4,M⟩:=h
  cases st with
  |ready=>exact⟨_,_,_,G,M,fid,fs,cs,v,He,k',S,.ready,G,O,Z,W,h4,rfl,.inl rfl,rfl,rfl⟩
  |done e=>cases e<;>exact⟨_,_,_,G,M,fid,fs,cs,v,He,k',S,.done _,G,O,Z,W,h4,rfl,.inl rfl,rfl,rfl⟩
  |busy=>exact M.elim
  |over _=>exact M.elim
theorem dM{N:Bool}(p:Fit P g){f:FuncId}{F:DC}(L:iM P g N f F){args:List AV}(I:args.length<=F.ntmps){H:aA}{R:Out->aA->Prop}
 (h:FC P g F.ntmps F.body (fD args) [] H (RP F.results R)) (a:F.body.dH=true:=by first|rfl|decide):∃out H',R out H'/\Sound P g f args H out H':=by
 obtain⟨l,s,ds,H',q,n⟩:=KI a (aBz I h);have y:∀out,R out H'->AC P g F.body (sK F args) [] H (aQq F fun o h=>o=out/\h=H')->∃out H',R out H'/\Sound P g f args H out H':=fun out z n=>⟨out,H',z,Wp p L n⟩
 cases l with
 |exit id=>exact q.elim
 |panic v=>refine y (.MD v) q.2 (eW (fun e s d h X=>?_) n);obtain⟨rfl,_,rfl,rfl⟩:=X;exact⟨q.1,rfl,rfl⟩
 |normal=>
  exact ZaS
 |ret=>
  exact ZaS
end
end
section
theorem eH{a b:Prop}(O:a->b)(Z:b->a):a=b:=propext ⟨O,Z⟩
theorem aQ{r S:Option (AV×aA)}(h:r=S)(k:AV->aA->Prop):oD r k=oD S k:=by rw[h]
theorem bX(v:AV)(H:aA)(k:AV->aA->Prop):oD (some (v,H)) k=k v H:=eH id id
section
variable {P:Program} {g:bL} {n:Nat} {r:List bG} {f:dD} {ds:List gX} {H:aA} {Q:FQ}
theorem yZ:bT P g n [] f ds H Q=Q .normal f ds H:=eH id id
theorem UW(d:Nat)(op:eJ)(m:op.plain=true)(hd:d<n):
 bT P g n (⟨some d,op,none⟩::r) f ds H Q=oD (dS (oG g f) H op) fun v H'=>bT P g n r (kI f d v) ds H' Q:=by
 have :∀v,gK n f (some d) v=kI f d v:=fun v=>by grind[gK]
 conv=>lhs;unfold bT
 simp only[lI,if_true,this]
 cases op<;>first|rfl|cases m
theorem aCm(op:eJ)(m:op.plain=true):
 bT P g n (⟨none,op,none⟩::r) f ds H Q=oD (dS (oG g f) H op) fun v H'=>bT P g n r f ds H' Q:=by
 cases op<;>first|rfl|cases m
theorem KQ(d:Nat)(x:Arg)(hd:d<n):bT P g n (⟨some d,(.wE x),none⟩::r) f ds H Q=oD (dS (oG g f) H (.wE x)) fun v H'=>bT P g n r (kI f d v) ds H' Q:=UW d _ rfl hd
theorem DG(d:Nat)(o:BinOp)(x y:Arg)(hd:d<n):bT P g n (⟨some d,(.bin o x y),none⟩::r) f ds H Q=oD (dS (oG g f) H (.bin o x y)) fun v H'=>bT P g n r (kI f d v) ds H' Q:=UW d _ rfl hd
variable{fid:FuncId}{v:AV}
theorem Sr{d:Nat}{K:List Arg}{args:List AV}{H':aA}(hd:d<n)(I:K.map (oG g f)=args)(u:Sound P g fid args H (.ret v) H')
 (h:bT P g n r (kI f d v) ds H' Q):bT P g n (⟨some d,.call (.const (.func (.func fid) [] [])) K,none⟩::r) f ds H Q:=by
 have :∀v,gK n f (some d) v=kI f d v:=fun v=>by grind[gK]
 unfold bT;simp only[lI,if_true,this];exact⟨.ret v,H',.inl ⟨(fid,[],[]),rfl,by grind⟩,h⟩
variable{c:Arg}
theorem AX{d:Nat}{fs cs:List AV}{K:List Arg}{args:List AV}{H':aA}(hd:d<n)(R:oG g f c=.func (.func fid) fs cs)(I:fs++K.map (oG g f)++cs=args)
 (u:Sound P g fid args H (.ret v) H') (h:bT P g n r (kI f d v) ds H' Q):bT P g n (⟨some d,.call c K,none⟩::r) f ds H Q:=by
 have :∀v,gK n f (some d) v=kI f d v:=fun v=>by grind[gK]
 unfold bT;simp only[lI,if_true,this];exact⟨.ret v,H',.inl ⟨(fid,fs,cs),by rw[R];rfl,by grind⟩,h⟩
theorem jM(t:Nat):oG g f (.tmp t)=f t:=by rfl
theorem zQ(v:AV):oG g f (.const v)=v:=by rfl
theorem Mk(rl:List bG):FC P g n (.ops rl) f ds H Q=bT P g n rl f ds H Q:=eH id id
theorem UU:FC P g n .skip f ds H Q=Q .normal f ds H:=eH id id
theorem aUb:FC P g n .ret f ds H Q=Q .ret f ds H:=eH id id
theorem Ou(id:Nat):FC P g n (.exit id) f ds H Q=Q (.exit id) f ds H:=eH (fun h=>h) (fun h=>h)
variable{a:bY}
theorem aM{b:bY}(h:∀K:dD->List gX->aA->Prop,(∀f ds H,FC P g n b f ds H Q->K f ds H)->FC P g n a f ds H (iP K Q)):FC P g n (.seq a b) f ds H Q:=h _ fun _ _ _ h=>h
theorem aJ{id:Nat}(h:FC P g n a f ds H (dV id Q)):FC P g n (.block id a) f ds H Q:=h
theorem KO{b:bY}(t:Bool)(R:oG g f c=.bool t)(O:t=true->FC P g n a f ds H Q)(Z:t=false->FC P g n b f ds H Q):FC P g n (.cond c a b) f ds H Q:=by
 refine⟨t,R,?_⟩
 grind
theorem UT(I:Nat->dD->List gX->aA->Prop)(m:Nat)(o:I m f ds H)(h:∀m f ds H,I m f ds H->FC P g n a f ds H (iP (fun f ds H=>∃k,k<m/\I k f ds H) Q)):FC P g n (.loop a) f ds H Q:=⟨I,m,o,h⟩
theorem jD(K:dD->List gX->aA->Prop):iP K Q .normal f ds H=K f ds H:=eH id id
theorem aBo(K:dD->List gX->aA->Prop):iP K Q .ret f ds H=Q .ret f ds H:=eH id id
theorem sL(K:dD->List gX->aA->Prop)(i:Nat):iP K Q (.exit i) f ds H=Q (.exit i) f ds H:=eH id id
theorem Om(i:Nat):dV i Q .normal f ds H=Q .normal f ds H:=eH id id
theorem Va(i:Nat):dV i Q .ret f ds H=Q .ret f ds H:=eH id id
theorem sN(i:Nat):dV i Q (.exit i) f ds H=Q .normal f ds H:=by simp[dV]
theorem QW(i j:Nat)(h:j≠i):dV i Q (.exit j) f ds H=Q (.exit j) f ds H:=by grind[dV]
end
class Pl (op:eJ):Prop where h:op.plain=true
instance (x:Arg):Pl (.wE x):=⟨rfl⟩
instance (c a b:Arg):Pl (.pick c a b):=⟨rfl⟩
instance (z:List AV):Pl (.alloc z):=⟨rfl⟩
instance (x:Arg):Pl (.box x):=⟨rfl⟩
instance (z:List AV) (ps:List (Nat×Nat×Arg)):Pl (.build z ps):=⟨rfl⟩
instance (sz:Nat) (xs:List Arg):Pl (.Qs sz xs):=⟨rfl⟩
instance (agg:Bool) (m:Nat) (a:Arg):Pl (.load agg m a):=⟨rfl⟩
instance (m:Nat) (a x:Arg):Pl (.store m a x):=⟨rfl⟩
instance (x:Arg):Pl (.Qv x):=⟨rfl⟩
instance (o:BinOp) (x y:Arg):Pl (.bin o x y):=⟨rfl⟩
instance (neg:Bool) (x y:Arg):Pl (.eqb neg x y):=⟨rfl⟩
instance (neg:Bool) (sh:List Sk) (x y:Arg):Pl (.eqf neg sh x y):=⟨rfl⟩
instance (neg:Bool) (k:Nk) (lit:Bool) (x y:Arg):Pl (.eqn neg k lit x y):=⟨rfl⟩
instance (o:UnOp) (x:Arg):Pl (.un o x):=⟨rfl⟩
instance (k:IntKind) (x:Arg):Pl (.Pw k x):=⟨rfl⟩
instance (x:Arg):Pl (.EY x):=⟨rfl⟩
instance (x:Arg):Pl (.HI x):=⟨rfl⟩
instance (m:Nat) (x:Arg):Pl (.jz m x):=⟨rfl⟩
instance (t:TypeId) (x:Arg):Pl (.h8 t x):=⟨rfl⟩
instance (fn:Fn) (a b:List Arg):Pl (.gq fn a b):=⟨rfl⟩
instance:Pl (.CN):=⟨rfl⟩
instance (sz bytes:Nat) (z:List AV) (l c:Arg):Pl (.mO sz bytes z l c):=⟨rfl⟩
instance (x:Arg) (lo hi:Option Arg):Pl (.RZ x lo hi):=⟨rfl⟩
instance (sz:Nat) (x:Arg) (lo hi mx:Option Arg):Pl (.j9 sz x lo hi mx):=⟨rfl⟩
instance (m sz:Nat) (x:Arg) (lo hi mx:Option Arg):Pl (.HW m sz x lo hi mx):=⟨rfl⟩
instance (off:Nat) (x:Arg):Pl (.VA off x):=⟨rfl⟩
instance (arr:Option Nat) (sz:Nat) (x i:Arg):Pl (.VZ arr sz x i):=⟨rfl⟩
instance (m sz:Nat) (agg:Bool) (x i:Arg):Pl (.idx m sz agg x i):=⟨rfl⟩
instance (x i:Arg):Pl (.idxs x i):=⟨rfl⟩
instance (t:TypeId) (ok:Bool) (z:AV) (x:Arg):Pl (.ki t ok z x):=⟨rfl⟩
instance (x:Arg) (i:Nat):Pl (.QD x i):=⟨rfl⟩
instance (x:Arg):Pl (.lens x):=⟨rfl⟩
instance (x:Arg):Pl (.fh x):=⟨rfl⟩
instance (x y:Arg):Pl (.YP x y):=⟨rfl⟩
instance (x y:Arg):Pl (.YR x y):=⟨rfl⟩
instance (sz bytes:Nat) (mu:Bool) (x y:Arg):Pl (.append sz bytes mu x y):=⟨rfl⟩
instance (sz:Nat) (x y:Arg):Pl (.copy sz x y):=⟨rfl⟩
instance (k:Sk) (z:AV) (ok:Bool) (x i:Arg):Pl (.lookup k z ok x i):=⟨rfl⟩
instance (k:Sk) (m i v:Arg):Pl (.Qm k m i v):=⟨rfl⟩
instance (sz:Nat) (z:List AV) (x:Arg):Pl (.clr sz z x):=⟨rfl⟩
theorem bMy(P:Program)(g:bL)(n:Nat):
 (∀(r:List bG) (f:dD) (ds:List gX) (H:aA) (Q:FQ) (d:Nat) (op:eJ) [Pl op] (hd:d<n),bT P g n (⟨some d,op,none⟩::r) f ds H Q=oD (dS (oG g f) H op) fun v H'=>bT P g n r (kI f d v) ds H' Q)/\
 (∀(r:List bG) (f:dD) (ds:List gX) (H:aA) (Q:FQ) (op:eJ) [Pl op],bT P g n (⟨none,op,none⟩::r) f ds H Q=oD (dS (oG g f) H op) fun v H'=>bT P g n r f ds H' Q)/\
 (∀(f:dD) (ds:List gX) (H:aA) (Q:FQ),bT P g n [] f ds H Q=Q .normal f ds H)/\
 (∀(f:dD) (ds:List gX) (H:aA) (Q:FQ) (rl:List bG),FC P g n (.ops rl) f ds H Q=bT P g n rl f ds H Q)/\
 (∀(f:dD) (ds:List gX) (H:aA) (Q:FQ),FC P g n .skip f ds H Q=Q .normal f ds H)/\
 (∀(f:dD) (ds:List gX) (H:aA) (Q:FQ),FC P g n .ret f ds H Q=Q .ret f ds H)/\
 (∀(f:dD) (ds:List gX) (H:aA) (Q:FQ) (id:Nat),FC P g n (.exit id) f ds H Q=Q (.exit id) f ds H):=
 ⟨fun _ _ _ _ _ d op i hd=>UW d op i.h hd,fun _ _ _ _ _ op i=>aCm op i.h,fun _ _ _ _=>yZ,fun _ _ _ _ rl=>Mk rl,fun _ _ _ _=>UU,fun _ _ _ _=>aUb,fun _ _ _ _ id=>Ou id⟩
theorem Nh:
 (∀(v:AV) (H:aA) (k:AV->aA->Prop),oD (some (v,H)) k=k v H)/\
 (∀(g:bL) (f:dD) (t:Nat),oG g f (.tmp t)=f t)/\
 (∀(g:bL) (f:dD) (v:AV),oG g f (.const v)=v)/\
 (∀(f:dD) (d:Nat) (v:AV),kI f d v d=v)/\
 (∀(f:dD) (d t:Nat) (v:AV),t≠d->kI f d v t=f t)/\
 (∀(f:dD) (ds:List gX) (H:aA) (Q:FQ) (K:dD->List gX->aA->Prop),iP K Q .normal f ds H=K f ds H)/\
 (∀(f:dD) (ds:List gX) (H:aA) (Q:FQ) (K:dD->List gX->aA->Prop),iP K Q .ret f ds H=Q .ret f ds H)/\
 (∀(f:dD) (ds:List gX) (H:aA) (Q:FQ) (K:dD->List gX->aA->Prop) (i:Nat),iP K Q (.exit i) f ds H=Q (.exit i) f ds H)/\
 (∀(f:dD) (ds:List gX) (H:aA) (Q:FQ) (i:Nat),dV i Q .normal f ds H=Q .normal f ds H)/\
 (∀(f:dD) (ds:List gX) (H:aA) (Q:FQ) (i:Nat),dV i Q .ret f ds H=Q .ret f ds H)/\
 (∀(f:dD) (ds:List gX) (H:aA) (Q:FQ) (i:Nat),dV i Q (.exit i) f ds H=Q .normal f ds H)/\
 (∀(f:dD) (ds:List gX) (H:aA) (Q:FQ) (i j:Nat),j≠i->dV i Q (.exit j) f ds H=Q (.exit j) f ds H):=
 ⟨bX,
   (fun g f t=>jM t),
   (fun g f v=>zQ v),
   tS,
   (fun f d t v h=>pX f v h),
   (fun f ds H Q K=>jD K),
   (fun f ds H Q K=>aBo K),
   (fun f ds H Q K i=>sL K i),
   (fun f ds H Q i=>Om i),
   (fun f ds H Q i=>Va i),
   (fun f ds H Q i=>sN i),
   (fun f ds H Q i j h=>QW i j h)⟩
end
def Own(H:aA)(sz:Nat)(v:AV)(els:List (List AV)):Prop:=
 (v=.bE/\els=[])\/∃k,v=.bJ (k+2) sz els/\k<H.next/\H.get k=some .tok
def ZE:AV->Option Nat
 |.bJ (k+2) _ _=>some k
 |_=>none
structure bDn (H H':aA) (v:AV):Prop where
 next:H.next<=H'.next
 get:∀id,ZE v≠some id->id<H.next->H'.get id=H.get id
theorem Own.nil(H:aA)(sz:Nat):Own H sz .bE []:=.inl ⟨rfl,rfl⟩
theorem Own.bJ{H:aA}{sz k:Nat}{els:List (List AV)}(E:k<H.next)(h:H.get k=some .tok):Own H sz (.bJ (k+2) sz els) els:=.inr ⟨k,rfl,E,h⟩
theorem Own.fresh(H:aA)(sz:Nat)(els:List (List AV)):Own (H.alloc .tok) sz (.bJ (H.next+2) sz els) els:=.bJ A2 (by simp[aA.aI])
variable{v:AV}
theorem Own.alloc{H:aA}{sz:Nat}{els:List (List AV)}(h:Own H sz v els)(o:eG):Own (H.alloc o) sz v els:=by
 rcases h with h|⟨k,O,Z,W⟩
 . exact .inl h
 exact .inr ⟨k,O,by simp;omega,by grind[aA.aI]⟩
theorem Own.set{H:aA}{sz:Nat}{els:List (List AV)}(h:Own H sz v els)(id:Nat)(o:eG)(d:ZE v≠some id):Own (H.set id o) sz v els:=by
 rcases h with h|⟨k,rfl,Z,W⟩
 . exact .inl h
 refine .inr ⟨k,rfl,Z,?_⟩
 grind[aA.aH,ZE]
theorem Own.append{H:aA}{sz bytes:Nat}{els ys:List (List AV)}(h:Own H sz v els)(X:(els.length+ys.length)*bytes<=2^40):
 ∃D H',gE H sz bytes false v ys=some (D,H')/\Own H' sz D (els++ys)/\bDn H H' v:=by
 by_cases Q:ys=[]
 . subst Q;refine⟨v,H,?_,by grind,Ae _,fun _ _ _=>rfl⟩
   rcases h with ⟨rfl,rfl⟩|⟨k,rfl,_,E⟩<;>rfl
 rcases h with ⟨rfl,rfl⟩|⟨k,rfl,I,E⟩
 . refine⟨.bJ (H.next+2) sz ys,H.alloc .tok,?_,.inr ⟨H.next,by simp,by simp,by simp[aA.aI]⟩,by simp,fun id _ d=>by grind[aA.aI]⟩
   grind[gE,mQ]
 refine⟨.bJ (H.next+2) sz (els++ys),(H.set k .dead).alloc .tok,?_,.inr ⟨H.next,rfl,by simp,by simp[aA.aI]⟩,by simp,fun id O d=>?_⟩
 . grind[gE]
 rw[aA.aI,if_neg Zaf,aA.aH,if_neg]
 grind[ZE]
def Lj(l:List Int):List (List AV):=l.map fun x=>[AV.int .i64 x]
theorem BL(a:List Int):(Lj a).length=a.length:=by simp[Lj]
theorem LI:∀l,fN (Lj l)=true
 |[]=>rfl
 |x::l=>by exact LI l
theorem FF{P:Program}{g:bL}(t:KS g){f:FuncId}{args:List AV}(I:cW args=true){sz:Nat}{els:List (List AV)}(z:els≠[])(N:fN els=true)
 (h:∃out H',(∃v,out=.ret v/\Own H' sz v els)/\Sound P g f args ⟨0,.nil⟩ out H') (H:aA):Sound P g f args H (.ret (.bJ (H.next+2) sz els)) (H.alloc .tok):=by
 obtain⟨out,H',⟨v,rfl,a⟩,u⟩:=h
 rcases a with ⟨_,B⟩|⟨k,rfl,_,E⟩
 . grind
 refine u.frame t I (tk:=some k) (fun p R=>by grind) (n:=0) H ?_;simp_all[Out.av,jB,mJ,GY]
attribute [local congr] aQ
theorem wrap_i64{x:Int}(o: -2^63<=x)(O:x<2^63):IntKind.i64.wrap x=x:=by simp only[IntKind.wrap,IntKind.bits,IntKind.signed];simp;split<;>omega
def rangeLoop(id cmp ix ln nx:Nat)(B:bY):bY:=
 .block id (.loop (.seq (.ops [⟨some cmp,.bin .lss (.tmp ix) (.tmp ln),none⟩]) (.seq (.cond (.tmp cmp) .skip (.exit id)) (.seq B
  (.ops [⟨some nx,.bin .add (.tmp ix) (.const (.int .i64 1)),none⟩,⟨some ix,.wE (.tmp nx),none⟩])))))
theorem aCj{P:Program}{g:bL}{n:Nat}{id cmp ix ln nx:Nat}{B:bY}{f:dD}{ds:List gX}{H:aA}{Q:FQ}(J:Nat->dD->aA->Prop)(N:Nat)(E:(N:Int)<2^63)
 (M:cmp<n/\ix<n/\nx<n/\cmp≠ix/\cmp≠ln/\nx≠ix/\nx≠ln/\ix≠ln)
 (O:f ix=.int .i64 0) (l:f ln=.int .i64 N) (o:J 0 f H)
 (y:∀(i:Nat) (f:dD) (H:aA) (d:Nat) (v:AV),d=cmp\/d=nx\/d=ix->J i f H->J i (kI f d v) H)
 (body:∀(i:Nat) (f:dD) (H:aA),i<N->f ix=.int .i64 i->f ln=.int .i64 N->J i f H->
   FC P g n B f ds H (iP (fun u V H'=>V=ds/\u ix=.int .i64 i/\u ln=.int .i64 N/\J (i+1) u H') (dV id Q)))
 (done:∀(f:dD) (H:aA),f ln=.int .i64 N->J N f H->Q .normal f ds H):FC P g n (rangeLoop id cmp ix ln nx B) f ds H Q:=by
 obtain⟨A,Z,s3,x,D,W,U,S⟩:=M;refine aJ (UT (fun m u V H'=>V=ds/\∃i:Nat,i<=N/\m=N -i/\u ix=.int .i64 i/\u ln=.int .i64 N/\J i u H') N ⟨rfl,0,Bk _,by omega,O,l,o⟩ ?_);rintro m b z H1 ⟨rfl,i,F,rfl,T,j,p⟩;refine aM fun K hK=>?_;rw[Mk,DG _ _ _ _ A];simp only[dS,jM,T,j,rX,if_true,Ct,bX,yZ,jD];apply hK;clear hK K;have a:=y i b H1 cmp (.bool (decide ((i:Int)<N))) (.inl rfl) p;refine aM fun K hK=>KO (decide ((i:Int)<N)) (by rw[jM,tS]) (fun q=>?_) (fun q=>?_)
 . rw[UU,jD];apply hK;clear hK K;have r:i<N:=by have :=Dv q;omega
   refine aM fun K hK=>?_;have X:=body i _ H1 r (by rw[pX _ _ (Ne.symm x)];exact T) (by rw[pX _ _ (Ne.symm D)];exact j) a;have mono:∀{c:bY} {f:dD} {ds:List gX} {H:aA} {Q C:FQ},(∀e f ds H,Q e f ds H->C e f ds H)->FC P g n c f ds H Q->FC P g n c f ds H C:=fun {c f ds H Q C} hq h=>lE hq h;refine mono (fun e s G w h=>?_) X
   cases e with
   |normal=>
    obtain⟨rfl,R,t,k⟩:=h;show K s G w;apply hK;rw[Mk,DG _ _ _ _ s3];have L:IntKind.i64.wrap ((i:Int)+1)=((i+1:Nat):Int):=(by rw[wrap_i64 A0 A0];rfl);simp only[dS,jM,zQ,R,rX,if_true,Ct,bX];rw[KQ _ _ Z];simp only[dS,jM,bX,yZ,jD,tS,L];refine⟨N -(i+1),by omega,trivial,i+1,by omega,rfl,rfl,?_,?_⟩
    . rw[pX _ _ (Ne.symm S),pX _ _ (Ne.symm U)];exact t
    exact y _ _ _ _ _ (.inr (.inr rfl)) (y _ _ _ _ _ (.inr (.inl rfl)) k)
   |_=>exact h
 rw[Ou,sL,sL,sN];have I:i=N:=by have :=Ei q;omega
 subst I;exact done _ _ (by rw[pX _ _ (Ne.symm D)];exact j) a
theorem vf(ev:Arg->AV)(H:aA)(zero:List AV):dS ev H (.alloc zero)=some (.ref H.next 0,H.alloc (.cells zero false)):=rfl
def bRs:=And.intro vf <| And.intro @dS.eq_1 <| And.intro @dS.eq_2 <| And.intro @dS.eq_4 <| And.intro @dS.eq_5 <| And.intro @dS.eq_6 <| And.intro @dS.eq_7 <| And.intro @dS.eq_8 <| And.intro @dS.eq_9 <| And.intro @dS.eq_10 <| And.intro @dS.eq_11 <| And.intro @dS.eq_12 <| And.intro @dS.eq_13 <| And.intro @dS.eq_14 <| And.intro @dS.eq_15 <| And.intro @dS.eq_16 <| And.intro @dS.eq_17 <| And.intro @dS.eq_18 <| And.intro @dS.eq_19 <| And.intro @dS.eq_20 <| And.intro @dS.eq_21 <| And.intro @dS.eq_22 <| And.intro @dS.eq_23 <| And.intro @dS.eq_24 <| And.intro @dS.eq_25 <| And.intro @dS.eq_26 <| And.intro @dS.eq_27 <| And.intro @dS.eq_28 <| And.intro @dS.eq_29 <| And.intro @dS.eq_30 <| And.intro @dS.eq_31 <| And.intro @dS.eq_32 <| And.intro @dS.eq_33 <| And.intro @dS.eq_34 <| And.intro @dS.eq_35 <| And.intro @dS.eq_36 <| And.intro @dS.eq_37 <| And.intro @dS.eq_38 <| And.intro @dS.eq_39 @dS.eq_40
def bRt:=And.intro @rX.eq_1 <| And.intro @rX.eq_2 <| And.intro @rX.eq_3 <| And.intro @rX.eq_4 <| And.intro @rX.eq_5 <| And.intro @rX.eq_6 <| And.intro @rX.eq_7 <| And.intro @rX.eq_8 <| And.intro @rX.eq_9 <| And.intro @rX.eq_10 <| And.intro @rX.eq_11 <| And.intro @rX.eq_12 <| And.intro @rX.eq_13 <| And.intro @rX.eq_14 <| And.intro @rX.eq_15 <| And.intro @rX.eq_16 @rX.eq_17
section
def zL(v:AV)(A B:Prop):Prop:=
 match v with
 |.bool true=>A
 |.bool false=>B
 |_=>False
def gI(v:AV)(b:Bool)(A B:Prop):Prop:=
 match v with
 |.bool c=>if c=b then A else B
 |_=>B
section
variable {P:Program} {g:bL} {n:Nat} {r:List bG} {f:dD} {ds:List gX} {H:aA} {Q:FQ}
theorem Wi(c:Arg)(a b:bY):FC P g n (.cond c a b) f ds H Q=zL (oG g f c) (FC P g n a f ds H Q) (FC P g n b f ds H Q):=by
 refine eH (fun h=>?_) (fun h=>?_)
 . obtain⟨t,O,Z⟩:=h;rw[O]
   cases t with
   |true=>exact Z
   |false=>exact Z
 unfold zL at h;split at h
 . rename_i J;exact⟨true,J,h⟩
 . rename_i J;exact⟨false,J,h⟩
 grind
theorem IX(A B:Prop):zL (.bool true) A B=A:=eH id id
theorem DQ(A B:Prop):zL (.bool false) A B=B:=eH id id
theorem vz(p:Prop) [Decidable p] (A B:Prop):zL (.bool (decide p)) A B=((p->A)/\(¬p->B)):=by by_cases m:p<;>simp_all[m,IX,DQ]
theorem wa(b:Bool)(A B:Prop):zL (.bool (!b)) A B=zL (.bool b) B A:=by cases b<;>rfl
theorem aR{v D:AV}(h:v=D)(A B:Prop):zL v A B=zL D A B:=by rw[h]
theorem aUc(d x:Nat)(b:Bool)(op:eJ)(hd:d<n):
 bT P g n (⟨some d,op,some (x,b)⟩::r) f ds H Q=gI (f x) b (bT P g n (⟨some d,op,none⟩::r) f ds H Q) (bT P g n r (kI f d aB) ds H Q):=by
 have :∀v,gK n f (some d) v=kI f d v:=fun v=>by grind[gK]
 conv=>lhs;unfold bT
 conv=>rhs;arg 3;unfold bT
 grind[lI,gI]
theorem xz(A B:Prop):gI (.bool true) true A B=A:=eH id id
theorem xw(A B:Prop):gI (.bool false) false A B=A:=eH id id
theorem xy(A B:Prop):gI (.bool true) false A B=B:=eH id id
theorem xx(A B:Prop):gI (.bool false) true A B=B:=eH id id
theorem aL{v D:AV}(h:v=D)(b:Bool)(A B:Prop):gI v b A B=gI D b A B:=by rw[h]
theorem ku(a b:bY):FC P g n (.seq a b) f ds H Q=FC P g n a f ds H (iP (fun f ds H=>FC P g n b f ds H Q) Q):=eH id id
theorem bA{c:bY}{u:dD}(h:f=u):FC P g n c f ds H Q=FC P g n c u ds H Q:=by rw[h]
theorem aW{u:dD}(h:f=u):bT P g n r f ds H Q=bT P g n r u ds H Q:=by rw[h]
variable{e:tw}
theorem aS{K:dD->List gX->aA->Prop}{u:dD}(h:f=u):iP K Q e f ds H=iP K Q e u ds H:=by rw[h]
theorem aG{id:Nat}{u:dD}(h:f=u):dV id Q e f ds H=dV id Q e u ds H:=by rw[h]
end
theorem bMz:
 (∀(P:Program) (g:bL) (n:Nat) (f:dD) (ds:List gX) (H:aA) (Q:FQ) (c:Arg) (a b:bY),FC P g n (.cond c a b) f ds H Q=zL (oG g f c) (FC P g n a f ds H Q) (FC P g n b f ds H Q))/\
 (∀(A B:Prop),zL (.bool true) A B=A)/\
 (∀(A B:Prop),zL (.bool false) A B=B)/\
 (∀(P:Program) (g:bL) (n:Nat) (r:List bG) (f:dD) (ds:List gX) (H:aA) (Q:FQ) (d x:Nat) (b:Bool) (op:eJ) (hd:d<n),
   bT P g n (⟨some d,op,some (x,b)⟩::r) f ds H Q=gI (f x) b (bT P g n (⟨some d,op,none⟩::r) f ds H Q) (bT P g n r (kI f d aB) ds H Q))/\
 (∀(A B:Prop),gI (.bool true) true A B=A)/\
 (∀(A B:Prop),gI (.bool false) false A B=A)/\
 (∀(A B:Prop),gI (.bool true) false A B=B)/\
 (∀(A B:Prop),gI (.bool false) true A B=B)/\
 (∀(P:Program) (g:bL) (n:Nat) (f:dD) (ds:List gX) (H:aA) (Q:FQ) (a b:bY),FC P g n (.seq a b) f ds H Q=FC P g n a f ds H (iP (fun f ds H=>FC P g n b f ds H Q) Q)):=
 ⟨fun _ _ _ _ _ _ _ c a b=>Wi c a b,IX,DQ,fun _ _ _ _ _ _ _ _ d x b op hd=>aUc d x b op hd,xz,xw,xy,xx,fun _ _ _ _ _ _ _ a b=>ku a b⟩
def aNq(id c:Nat)(l:bY)(B:bY)(y:bY):bY:=
 .block id (.loop (.seq (.seq l (.cond (.tmp c) .skip (.exit id))) (.seq B y)))
theorem aUa{P:Program}{g:bL}{n:Nat}{id c:Nat}{l B y:bY}{f:dD}{ds:List gX}{H:aA}{Q:FQ}(J:Nat->dD->aA->Prop)(N:Nat)
 (o:J 0 f H)
 (k:∀(i:Nat) (f:dD) (H:aA),i<=N->J i f H->∀(K:dD->Prop),(∀u,u c=.bool (decide (i<N))->J i u H->K u)->∀C:FQ,FC P g n l f ds H (iP (fun u V H'=>V=ds/\H'=H/\K u) C))
 (body:∀(i:Nat) (f:dD) (H:aA),i<N->J i f H->
   FC P g n B f ds H (iP (fun u V H'=>V=ds/\FC P g n y u ds H' (iP (fun u V H'=>V=ds/\J (i+1) u H') (dV id Q))) (dV id Q)))
 (done:∀(f:dD) (H:aA),J N f H->Q .normal f ds H):FC P g n (aNq id c l B y) f ds H Q:=by
 have mono:∀{c:bY} {f:dD} {ds:List gX} {H:aA} {Q C:FQ},(∀e f ds H,Q e f ds H->C e f ds H)->FC P g n c f ds H Q->FC P g n c f ds H C:=fun {c f ds H Q C} hq h=>lE hq h;refine aJ (UT (fun m u V H'=>V=ds/\∃i:Nat,i<=N/\m=N -i/\J i u H') N ⟨rfl,0,Bk _,by omega,o⟩ ?_);rintro m b j H1 ⟨rfl,i,F,rfl,p⟩;refine aM fun K hK=>?_;refine aM fun D q=>?_;refine mono (fun e s G w h=>?_) (k i b H1 F p (fun u=>D u j H1) (fun u O d=>?_) (iP K (dV id Q) |> fun Z=>Z))
 . cases e with
   |normal=>obtain⟨rfl,rfl,h⟩:=h;exact h
   |_=>exact h
 apply q;rw[Wi,jM,O];by_cases r:i<N
 . rw[Ag r,IX,UU,jD];apply hK;refine aM fun v x=>?_;refine mono (fun e s G w h=>?_) (body i u H1 r d)
   cases e with
   |normal=>
    obtain⟨rfl,h⟩:=h;apply x;refine mono (fun e t a z X=>?_) h
    cases e with
    |normal=>obtain⟨M,R⟩:=X;exact⟨N -(i+1),by omega,M,i+1,by omega,rfl,R⟩
    |_=>exact X
   |_=>exact h
 rw[Ab r,DQ,Ou,sL,sL,sN];obtain rfl:i=N:=by omega
 exact done u H1 d
theorem VR.KD{G:Gh}{w:World}{tag sz:Nat}{els:List (List AV)}{u:Value}(h:VR G w (.bJ tag sz els) u):VR G w (.bJ 0 sz els) u:=by
 cases h with
 |bJ _ _ _ b o cap us K h J q=>exact .bJ 0 sz els b o cap us K h J ⟨q.1,trivial⟩
 |wY _ _ b o s q=>exact .wY _ _ b o s A0
theorem Sound.KD{P:Program}{g:bL}{f:FuncId}{sz:Nat}{els:List (List AV)}{rest:List AV}{H H':aA}{out:Out}(h:Sound P g f (.bJ 0 sz els::rest) H out H')(tag:Nat):
 Sound P g f (.bJ tag sz els::rest) H out H':=by
 refine⟨h.1,fun G w vs L J=>h.2 G w vs L ⟨J.1,fun j Y=>?_⟩⟩;have :=J.2 j Y
 cases j with
 |zero=>exact VR.KD this
 |succ j=>grind
def Pb(H:aA)(sz:Nat)(v:AV)(els:List (List AV)):Prop:=Own H sz v els/\(els=[]->v=.bE)
theorem Pb.nil(H:aA)(sz:Nat):Pb H sz .bE []:=⟨.nil H sz,fun _=>rfl⟩
variable{v:AV}
theorem Pb.alloc{H:aA}{sz:Nat}{els:List (List AV)}(h:Pb H sz v els)(o:eG):Pb (H.alloc o) sz v els:=⟨h.1.alloc o,h.2⟩
theorem Pb.append{H:aA}{sz bytes:Nat}{els:List (List AV)}{e:List AV}(h:Pb H sz v els)(X:(els.length+1)*bytes<=2^40):
 ∃D H',gE H sz bytes false v [e]=some (D,H')/\Pb H' sz D (els++[e])/\bDn H H' v:=by
 obtain⟨D,H',O,Z,W⟩:=h.1.append (bytes:=bytes) (ys:=[e]) A0;exact⟨D,H',O,⟨Z,fun B=>by simp_all⟩,W⟩
def bMn(H:aA)(sz:Nat)(els:List (List AV)):AV:=if els=[] then .bE else .bJ (H.next+2) sz els
def bMm(H:aA)(els:List (List AV)):aA:=if els=[] then H else H.alloc .tok
theorem Pb.out(H:aA)(sz:Nat)(els:List (List AV)):Pb (bMm H els) sz (bMn H sz els) els:=by
 unfold bMm bMn;by_cases h:els=[]
 . subst h;exact Pb.nil _ _
 rw[if_neg h,if_neg h];exact⟨Own.fresh _ _ _,fun B=>absurd B h⟩
theorem bRv:
 (∀{α:Type} (a b:α),(a≠b)=¬(a=b))/\((¬False)=True)/\(∀{α:Type} {_:Decidable True} (a b:α),(if True then a else b)=a)/\((false=true)=False)/\
 (∀{α:Type} {_:Decidable False} (a b:α),(if False then a else b)=b)/\(∀{α i:Type} (f:α->i) (a:α),Option.map f (some a)=some (f a))/\(∀{α:Type} (a:α) (l:List α),(a::l).length=l.length+1)/\
 (∀{α:Type},([]:List α).length=0)/\(∀n:Nat,0+n=n)/\(∀{α:Type} (a d:α) (l:List α),(a::l).getD 0 d=a)/\(∀{α:Type} (a d:α) (l:List α) (n:Nat),(a::l).getD (n+1) d=l.getD n d)/\
 (∀p:Prop,(p/\p)=p)/\(∀n:Nat,(n<=n)=True)/\(∀(p:Prop) [Decidable p] (A B:Prop),zL (.bool (decide p)) A B=((p->A)/\(¬p->B))):=
 ⟨fun a b=>ne_eq a b,Fo,fun a b=>if_true a b,Bs,fun a b=>Cv a b,fun f a=>rfl,fun a l=>rfl,rfl,Em,fun _ _ _=>rfl,fun _ _ _ _=>rfl,and_self,fun n=>eq_true (Ae n),fun p _ A B=>vz p A B⟩
def sy:=And.intro Nh (And.intro bMz (And.intro bRs (And.intro bRt bRv)))
theorem sn:(∀n:Nat,n*1=n)/\(∀n:Nat,1*n=n)/\(∀n:Nat,0*n=0)/\(∀n:Nat,n -0=n)/\(∀n:Nat,n+0=n)/\(∀n:Nat,0+n=n):=
 ⟨Df,Fk,Gp,Hy,Di,Em⟩
theorem sh:(∀n m:Nat,aA.get ⟨n,.nil⟩ m=none)/\(∀(H:aA) (o:eG) (i:Nat),(H.alloc o).get i=if i=H.next then some o else H.get i)/\(∀(H:aA) (j:Nat) (o:eG) (i:Nat),(H.set j o).get i=if i=j then some o else H.get i)/\
 (∀(H:aA) (o:eG),(H.alloc o).next=H.next+1)/\(∀(H:aA) (j:Nat) (o:eG),(H.set j o).next=H.next)/\(∀n:Nat,0+n=n)/\
 (∀{α:Type} {_:Decidable True} (a b:α),(if True then a else b)=a)/\(∀{α:Type} {_:Decidable False} (a b:α),(if False then a else b)=b):=
 ⟨fun _ _=>rfl,fun _ _ _=>aA.aI ..,fun _ _ _ _=>aA.aH ..,fun _ _=>aA.bK ..,fun _ _ _=>aA.aZ ..,Em,fun a b=>if_true a b,fun a b=>Cv a b⟩
theorem sl:
 (∀{α:Type} (a:α) (l:List α) (n:Nat),(a::l).take (n+1)=a::l.take n)/\(∀{α:Type} (a:α) (l:List α) (n:Nat),(a::l).drop (n+1)=l.drop n)/\(∀{α:Type} (l:List α),l.take 0=[])/\(∀{α:Type} (l:List α),l.drop 0=l)/\
 (∀{α:Type} (n:Nat),([]:List α).take n=[])/\(∀{α:Type} (n:Nat),([]:List α).drop n=[])/\(∀{α:Type} (a:α) (l m:List α),a::l++m=a::(l++m))/\(∀{α:Type} (l:List α),[]++l=l)/\(∀{α:Type} (l:List α),l++[]=l)/\
 (∀{α i:Type} (f:α->i) (a:α) (l:List α),(a::l).map f=f a::l.map f)/\(∀{α i:Type} (f:α->i),[].map f=[])/\(∀{α:Type} (a d:α) (l:List α),(a::l).getD 0 d=a)/\
 (∀{α:Type} (a d:α) (l:List α) (n:Nat),(a::l).getD (n+1) d=l.getD n d)/\(∀{α:Type} (a b:α) (l:List α),(a::l).set 0 b=b::l)/\(∀{α:Type} (a b:α) (l:List α) (n:Nat),(a::l).set (n+1) b=a::l.set n b):=
 ⟨fun _ _ _=>rfl,fun _ _ _=>rfl,fun l=>Ia,fun _=>rfl,fun n=>List.take_nil,fun n=>Lc,fun _ _ _=>rfl,fun _=>rfl,fun l=>Bx l,fun _ _ _=>rfl,fun _=>rfl,fun _ _ _=>rfl,fun _ _ _ _=>rfl,fun _ _ _=>rfl,fun _ _ _ _=>rfl⟩
theorem sm:(∀{α i:Type} (f:α->i) (a:α) (l:List α),(a::l).map f=f a::l.map f)/\(∀{α i:Type} (f:α->i),[].map f=[])/\(∀{α:Type} (a b:α),(a≠b)=¬(a=b))/\((¬False)=True)/\
 (∀{α:Type} (a d:α) (l:List α),(a::l).getD 0 d=a)/\(∀{α:Type} (a d:α) (l:List α) (n:Nat),(a::l).getD (n+1) d=l.getD n d):=
 ⟨fun _ _ _=>rfl,fun _=>rfl,fun a b=>ne_eq a b,Fo,fun _ _ _=>rfl,fun _ _ _ _=>rfl⟩
end
end Go.Av
