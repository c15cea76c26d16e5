/-
  Part of the proof of statement 7
-/
import Derived.Test.YtogfcjbgeebfkaaGreatDoorA01
import Derived.Laws.StructEq
import Derived.ChangeKeysEq
import Derived.Laws.BytesArg
set_option linter.unusedVariables false
set_option linter.unusedSimpArgs false
namespace Go.Av
open Go
section
def DR(P:Program)(sh:TypeId->Option (List Sk)):Nat->List Field->Option (List Sk)
 |_,[]=>some []
 |off,f::fs=>
  if f.name≠ "_" /\f.offset=off then
   match sh f.type with
   |some k=>if jY P f.type=some k.length then(DR P sh (off+k.length) fs).map (k++ ·) else none
   |none=>none
  else none
def oM(P:Program):Nat->TypeId->Option (List Sk)
 |0,_=>none
 |d+1,t=>
  match P.underlying t with
  |some .bool=>some [.b]
  |some (.int _)=>some [.i]
  |some .string=>some [.s]
  |some (.struct fs)=>if P.stoodInHeld t then none else DR P (oM P d) 0 fs.toList
  |some (.array n e)=>
   match oM P d e with
   |some k=>if jY P e=some k.length then some (List.replicate n k).flatten else none
   |none=>none
  |_=>none
theorem vM:∀(k1 k2:List Sk) (xs ys:List AV) (r:Bool),cT (k1++k2) xs ys=some r->
 ∃r1 r2,cT k1 (xs.take k1.length) (ys.take k1.length)=some r1/\cT k2 (xs.drop k1.length) (ys.drop k1.length)=some r2/\r=(r1&&r2)
 |[],k2,xs,ys,r,h=>⟨true,r,rfl,by simpa using h,by simp⟩
 |k::k1,k2,xs,ys,r,h=>by
  have step:∀{x y:AV} {xs' ys':List AV} {c:Bool},xs=x::xs'->ys=y::ys'->(cT (k1++k2) xs' ys').map (c&& ·)=some r->
   (∀l m,cT (k::k1) (x::l) (y::m)=(cT k1 l m).map (c&& ·))->
   ∃r1 r2,cT (k::k1) (xs.take (k::k1).length) (ys.take (k::k1).length)=some r1/\cT k2 (xs.drop (k::k1).length) (ys.drop (k::k1).length)=some r2/\r=(r1&&r2):=by
   intro x y xs' ys' c hx hy hm hc;simp only[Ae] at hm;obtain⟨r',hr',rfl⟩:=hm;obtain⟨r1,r2,h1,h2,h3⟩:=vM k1 k2 xs' ys' r' hr';subst hx hy;refine⟨c&&r1,r2,?_,by simpa using h2,by rw[h3,Bool.and_assoc]⟩;simp only[As,Ds];rw[hc,h1];rfl
  cases k<;>cases xs with
  |nil=>simp[cT] at h
  |cons x xs'=>
   cases ys with
   |nil=>cases x<;>simp[cT] at h
   |cons y ys'=>
    cases x<;>cases y<;>simp only[Ge,cT] at h<;>first
     |(cases h;done)
     |exact step rfl rfl h (fun l m=>rfl)
     |(split at h
       . rename_i ZC;subst ZC;exact step rfl rfl h (fun l m=>by simp[cT])
       cases h)
def valOf(agg:Bool)(us:List Value):Value:=if agg then .agg us.toArray else us.getD 0 undef
theorem mV{P:Program}{t:TypeId}{n:Nat}{b:Bool}(hn:jY P t=some n)(hb:fS P t=some b)(w:World){us:List Value}{off:Nat}(iE:off+n<=us.length)(AD:b=false->n=1):
 (part t us.toArray off).run P w=.ok (valOf b ((us.drop off).take n)) w:=by
 cases b with
 |true=>simp only[part,Sem.run_bind,qO hb w,Result.andThen_ok,if_true,eE hn w,Sem.run_pure,valOf];congr 2;apply Fh;simp[Ic]
 |false=>have :=AD rfl;simp only[part,Sem.run_bind,qO hb w,Result.andThen_ok,Au,Ca,Em,qJ us undef off A0,valOf];rw[eZ _ _ _ _ _ A0];rfl
theorem gW.take_drop{G:Gh}{w:World}{xs:List AV}{us:List Value}(h:gW G w xs us)(off n:Nat)(iE:off+n<=xs.length):gW G w ((xs.drop off).take n) ((us.drop off).take n):=by have hl:=h.1;refine⟨by simp;omega,fun j hj=>?_⟩;simp at hj;rw[eZ _ _ _ _ _ A0,eZ _ _ _ _ _ A0];exact h.2 _ A0
theorem EK:∀{ks:List Sk} {xs ys:List AV} {r:Bool},cT ks xs ys=some r->xs.length=ks.length/\ys.length=ks.length
 |[],[],[],_,_=>⟨rfl,rfl⟩
 |[],_::_,ys,r,h=>by cases ys<;>simp[cT] at h
 |[],[],_::_,r,h=>by simp[cT] at h
 |k::ks,[],ys,r,h=>by cases k<;>simp[cT] at h
 |k::ks,x::xs,[],r,h=>by cases k<;>cases x<;>simp[cT] at h
 |k::ks,x::xs,y::ys,r,h=>by
  have :∃r',cT ks xs ys=some r':=by
   cases k<;>cases x<;>cases y<;>simp only[cT] at h<;>first
    |(cases h;done)
    |(simp only[Ae] at h;obtain⟨r',h,_⟩:=h;exact⟨r',h⟩)
    |(split at h
      . simp only[Ae] at h;obtain⟨r',h,_⟩:=h;exact⟨r',h⟩
      cases h)
  obtain⟨r',h'⟩:=this;have :=EK h';simp[this.1,this.2]
theorem zA{P:Program}{d:Nat}{t:TypeId}{ks:List Sk}(h:oM P d t=some ks):∃b,fS P t=some b/\(b=false->ks.length=1):=by
 cases d with
 |zero=>cases h
 |succ d=>
  simp only[oM] at h;unfold fS
  split at h<;>rename_i hu<;>first
   |(cases h;done)
   |(obtain rfl:=Aa h;exact⟨false,by rw[hu],fun _=>rfl⟩)
   |exact⟨true,by rw[hu],fun hf=>by cases hf⟩
theorem Qr{P:Program}{e:TypeId}{n:Nat}(h:jY P e=some n):P.cellsOf e=n/\∃i,P.info? e=some i:=by simp only[jY,Ae] at h;obtain⟨i,hi,rfl⟩:=h;exact⟨by simp[Program.cellsOf,hi],i,hi⟩
theorem Vk{P:Program}:∀(f:Nat) (t:TypeId) (ks:List Sk),oM P f t=some ks->∀(b:Bool),fS P t=some b->∀(d:Nat) (G:Gh) (w:World) (xs ys:List AV) (us vs:List Value) (r:Bool),
 cT ks xs ys=some r->gW G w xs us->gW G w ys vs->(Op.equalIn (d+f) t (valOf b us) (valOf b vs)).run P w=.ok r w:=by
 intro f
 induction f with
 |zero=>intro t ks h;cases h
 |succ f ih=>
  intro t ks h b hb d G w xs ys us vs r hr hx hy;have hlen:=EK hr
  have scalar:∀{k:Sk},ks=[k]->∃x y,xs=[x]/\ys=[y]/\VR G w x (us.getD 0 undef)/\VR G w y (vs.getD 0 undef):=fun {k} hk=>by
   subst hk
   match xs,ys,hlen with
   |[x],[y],_=>exact⟨x,y,rfl,rfl,by simpa using hx.2 0 A2,by simpa using hy.2 0 A2⟩
  rw[show d+(f+1)=(d+f)+1 from rfl];simp only[oM] at h;split at h
  . rename_i hu;obtain rfl:=Aa h;have Tl:b=false:=by simp only[fS,hu,Ab] at hb;exact hb.symm
    subst Tl;obtain⟨x,y,rfl,rfl,h1,h2⟩:=scalar rfl;simp only[valOf,Au,Ca]
    cases x<;>cases y<;>simp only[cT] at hr<;>first|(cases hr;done)|skip
    rename_i p q;rw[h1.jR,h2.jR,IF _ hu w];simp at hr;rw[<-hr]
  . rename_i k hu;obtain rfl:=Aa h;have Tl:b=false:=by simp only[fS,hu,Ab] at hb;exact hb.symm
    subst Tl;obtain⟨x,y,rfl,rfl,h1,h2⟩:=scalar rfl;simp only[valOf,Au,Ca]
    cases x<;>cases y<;>simp only[cT] at hr<;>first|(cases hr;done)|skip
    rename_i j p j' q;split at hr
    . rename_i hj;subst hj;rw[h1.iK,h2.iK,run_equalIn_int w _ t j k p q hu];simp at hr;rw[<-hr]
    cases hr
  . rename_i hu;obtain rfl:=Aa h;have Tl:b=false:=by simp only[fS,hu,Ab] at hb;exact hb.symm
    subst Tl;obtain⟨x,y,rfl,rfl,h1,h2⟩:=scalar rfl;simp only[valOf,Au,Ca]
    cases x<;>cases y<;>simp only[cT] at hr<;>first|(cases hr;done)|skip
    rename_i p q;rw[h1.iM,h2.iM,run_equalIn_string w _ t _ _ hu,ByteArray.toList_mk,ByteArray.toList_mk];simp at hr;rw[<-hr]
  . rename_i fs hu;split at h
    . cases h
    rename_i AF;have vo:b=true:=(by simp only[fS,hu,Ab] at hb;exact hb.symm);subst vo;simp only[valOf,if_true];have hfo:P.fieldsOf t=fs:=(by simp[Program.fieldsOf,hu]);rw[run_equalIn_struct w _ t _ _ (by rw[hfo];exact hu) (by simpa using AF),hfo];have hux:=hx.1;have huy:=hy.1
    have key:∀(l:List Field) (off:Nat) (pr:List Sk),DR P (oM P f) off l=some pr->off+pr.length<=xs.length->off+pr.length<=ys.length->∀r,cT pr ((xs.drop off).take pr.length) ((ys.drop off).take pr.length)=some r->
     (Op.eqFields (d+f) us.toArray vs.toArray l).run P w=.ok r w:=by
     intro l
     induction l with
     |nil=>intro off pr hs _ _ r hr;obtain rfl:=Aa hs;simp[cT] at hr;subst hr;simp[Op.eqFields]
     |cons fd l ihl=>
      intro off pr hs Xm Vz r hr;simp only[DR] at hs;split at hs
      . rename_i hc;obtain⟨Xi,yA⟩:=hc;split at hs
        . rename_i k hk;split at hs
          . rename_i lF;simp only[Ae] at hs;obtain⟨ks2,hs2,rfl⟩:=hs;simp only[Ap] at Xm Vz hr;obtain⟨r1,r2,e1,e2,rfl⟩:=vM _ _ _ _ _ hr;obtain⟨bf,Tl,Tm⟩:=zA hk
            have t1:∀(z:List AV),off+(k.length+ks2.length)<=z.length->List.take k.length (List.take (k.length+ks2.length) (z.drop off))=(z.drop off).take k.length:=fun z hz=>by rw[List.take_take];congr 1;omega
            have t2:∀(z:List AV),off+(k.length+ks2.length)<=z.length->List.drop k.length (List.take (k.length+ks2.length) (z.drop off))=(z.drop (off+k.length)).take ks2.length:=fun z hz=>by rw[List.drop_take,Jt];congr 1;omega
            rw[t1 _ Xm,t1 _ Vz] at e1;rw[t2 _ Xm,t2 _ Vz] at e2;have p1:=mV lF Tl w (us:=us) (off:=fd.offset) A0 Tm;have p2:=mV lF Tl w (us:=vs) (off:=fd.offset) A0 Tm;have p3:=ih fd.type k hk bf Tl d G w _ _ _ _ r1 e1 (hx.take_drop off k.length A0) (hy.take_drop off k.length A0);rw[<-yA] at p3;simp only[Op.eqFields,if_pos Xi,Sem.run_bind,p1,p2,p3,Result.andThen_ok]
            cases r1 with
            |false=>simp
            |true=>simp only[Ih,Au,Ca,Ct];exact ihl (off+k.length) ks2 hs2 A0 A0 r2 e2
          cases hs
        cases hs
      cases hs
    have :=key fs.toList 0 ks h A0 A0 r (by
     simp only[Ej];rw[Bb A0,Bb A0]
     exact hr)
    exact this
  . rename_i n e hu;have vo:b=true:=by simp only[fS,hu,Ab] at hb;exact hb.symm
    subst vo;simp only[valOf,if_true];split at h
    . rename_i k hk;split at h
      . rename_i lF;obtain rfl:=Aa h;obtain⟨mL,i,hi⟩:=Qr lF;rw[run_equalIn_array w (d+f) _ _ hu hi,mL];obtain⟨bf,Tl,Tm⟩:=zA hk;have hux:=hx.1;have huy:=hy.1;have hlk:∀m,((List.replicate m k).flatten).length=m*k.length:=fun m=>by simp
        have key:∀(m j:Nat),(j+m)*k.length<=xs.length->(j+m)*k.length<=ys.length->∀r,cT (List.replicate m k).flatten ((xs.drop (j*k.length)).take (m*k.length)) ((ys.drop (j*k.length)).take (m*k.length))=some r->
         (Op.eqItems (d+f) e k.length us.toArray vs.toArray (List.range' j m)).run P w=.ok r w:=by
         intro m
         induction m with
         |zero=>intro j _ _ r hr;simp[cT] at hr;subst hr;simp[Op.eqItems]
         |succ m ihm=>
          intro j Xm Vz r hr;have hm1:(m+1)*k.length=k.length+m*k.length:=(by rw[Fc];omega);have LX:(j+(m+1))*k.length=j*k.length+(k.length+m*k.length):=(by rw[Bi,hm1]);have IX:(j+1)*k.length=j*k.length+k.length:=(by rw[Fc]);rw[LX] at Xm Vz;rw[hm1] at hr;rw[Fj,Cd] at hr;obtain⟨r1,r2,e1,e2,rfl⟩:=vM _ _ _ _ _ hr
          have t1:∀(z:List AV),List.take k.length (List.take (k.length+m*k.length) (z.drop (j*k.length)))=(z.drop (j*k.length)).take k.length:=fun z=>by rw[List.take_take];congr 1;omega
          have t2:∀(z:List AV),List.drop k.length (List.take (k.length+m*k.length) (z.drop (j*k.length)))=(z.drop ((j+1)*k.length)).take (m*k.length):=fun z=>by rw[List.drop_take,Jt,IX];congr 1;omega
          rw[t1,t1] at e1;rw[t2,t2] at e2;have p1:=mV lF Tl w (us:=us) (off:=j*k.length) A0 Tm;have p2:=mV lF Tl w (us:=vs) (off:=j*k.length) A0 Tm;have p3:=ih e k hk bf Tl d G w _ _ _ _ r1 e1 (hx.take_drop (j*k.length) k.length A0) (hy.take_drop (j*k.length) k.length A0);simp only[List.range'_succ,Op.eqItems,Sem.run_bind,p1,p2,p3,Result.andThen_ok]
          cases r1 with
          |false=>simp
          |true=>simp only[Ih,Au,Ca,Ct];have hj3:(j+1+m)*k.length=j*k.length+(k.length+m*k.length):=(by rw[Bi,IX];omega);exact ihm (j+1) (by rw[hj3];exact Xm) (by rw[hj3];exact Vz) r2 e2
        have :=key n 0 (by rw[Dg];rw[hlk] at hlen;omega) (by rw[Dg];rw[hlk] at hlen;omega) r (by
         rw[hlk] at hlen;simp only[Hk,Ej];rw[Bb A0,Bb A0]
         exact hr)
        rw[Kz];exact this
      cases h
    cases h
  cases h
section
variable {P:Program} {g:bF} {o:Oper}
theorem aWr{op:BinOp}{neg:Bool}{t t2:TypeId}{f:Nat}{ks:List Sk}{x y:Operand}{x' y':Arg}(ho:o.op=.binOp op t x y t2)(fP:op=if neg then .neq else .eql)(hf:f<=9999)
 (hk:oM P f t=some ks) (hb:fS P t=some true) (hg:P.eqGuardType P.depth t=false) (hx:bJ g x=some x') (hy:bJ g y=some y'):cN P g o (.eqf neg ks x' y'):=by
 intro s a G H w v H' hw hs h;have vx:=bG hw hs hx;have vy:=bG hw hs hy;simp only[dE] at h;split at h
 . rename_i xs ys h1 h2;rw[h1] at vx;rw[h2] at vy;obtain⟨us,e1,l1,_,v1⟩:=vx.uN;obtain⟨vs,e2,l2,_,v2⟩:=vy.uN;simp only[Ae,Af] at h;obtain⟨r,hr,rfl,rfl⟩:=h;refine cN.pure' hw (u:=.bool (if neg then !r else r)) ?_ (.bool _);have SI:=run_eqGuard_agg (P:=P) w op t x y us.toArray vs.toArray hg;have heq:=Vk f t ks hk true hb (10000 -f) G w xs ys us vs r hr ⟨l1,v1⟩ ⟨l2,v2⟩;rw[show 10000 -f+f=10000 by omega] at heq;simp only[valOf,if_true] at heq;have bHp:(Op.equal t (.agg us.toArray) (.agg vs.toArray)).run P w=.ok r w:=heq;subst fP;cases neg<;>simp only[Au,Ca,if_true] at ho SI<;>simp[execOp,ho,e1,e2,SI,Go.binOp,bHp]
 cases h
def nkP(P:Program)(t:TypeId):Option Nk:=
 match P.underlying t with
 |some (.pointer _)=>some .ptr
 |some (.interface _)=>some .ifc
 |some (.slice _)=>some .sli
 |some (.map _ _)=>some .mp
 |some (.func _ _ _)=>some .fn
 |_=>none
def BP:Value->Bool
 |.pointer none|.nilIface|.slice none _ _|.map none|.nilFunc=>true
 |_=>false
theorem WJ{G:Gh}{w:World}{k:Nk}{a:AV}{u:Value}{b:Bool}(h:GJ k a=some b)(hv:VR G w a u):BP u=b:=by
 cases hv<;>simp only[GJ] at h<;>first
  |(cases h;done)
  |(split at h
    . obtain rfl:=Aa h;rfl
    cases h)
def Yr:Nk->Value->Prop
 |.ptr,.pointer _=>True
 |.ifc,.nilIface|.ifc,.iface _ _=>True
 |.sli,.slice _ _ _=>True
 |.mp,.map _=>True
 |.fn,.nilFunc|.fn,.func _ _ _=>True
 |_,_=>False
theorem Mk{G:Gh}{w:World}{k:Nk}{a:AV}{u:Value}{b:Bool}(h:GJ k a=some b)(hv:VR G w a u):Yr k u:=by
 cases hv<;>simp only[GJ] at h<;>first
  |(cases h;done)
  |(split at h
    . rename_i hk;subst hk;trivial
    cases h)
theorem NU(d:Nat){t:TypeId}{k:Nk}(hk:nkP P t=some k)(w:World){u v:Value}(hu:Yr k u)(hv:Yr k v)(h:(BP u||BP v)=true):
 (Op.equalIn (d+1) t u v).run P w=.ok (BP u&&BP v) w:=by
 unfold nkP at hk;rw[Op.equalIn]
 split at hk<;>rename_i Uv<;>first
  |(cases hk;done)
  |(obtain rfl:=Aa hk
    simp only[Sem.run_bind,run_underlying Uv w,Result.andThen_ok]
    cases u<;>first|exact hu.elim|skip
    all_goals (cases v<;>first|exact hv.elim|skip)
    all_goals first
     |rfl
     |(rename_i p q;cases p<;>cases q<;>first|rfl|(simp[BP] at h;done))
     |(rename_i p _ _ q _ _;cases p<;>cases q<;>first|rfl|(simp[BP] at h;done))
     |(simp[BP] at h;done))
theorem aWs{op:BinOp}{neg:Bool}{t t2:TypeId}{k:Nk}{lit:Bool}{x y:Operand}{x' y':Arg}(ho:o.op=.binOp op t x y t2)(fP:op=if neg then .neq else .eql)
 (hk:nkP P t=some k) (aBm:lit=true->(∃c,x=.const c)\/∃c,y=.const c) (hx:bJ g x=some x') (hy:bJ g y=some y'):cN P g o (.eqn neg k lit x' y'):=by
 intro s a G H w v H' hw hs h;have vx:=bG hw hs hx;have vy:=bG hw hs hy;simp only[dE] at h;split at h
 . rename_i p q h1 h2;have f1:=Mk h1 vx;have f2:=Mk h2 vy;have n1:=WJ h1 vx;have n2:=WJ h2 vy;split at h
   . rename_i hc;simp only[Ab,Af] at h;obtain⟨rfl,rfl⟩:=h;simp only[Ak] at hc;obtain⟨Xi,yA⟩:=hc;refine cN.pure' hw (u:=.bool (if neg then !(p&&q) else(p&&q))) ?_ (.bool _);generalize e1:a.eval x=u1 at *;generalize e2:a.eval y=u2 at *
     have heq:(Op.equal t u1 u2).run P w=.ok (p&&q) w:=by have :=NU (P:=P) 9999 hk w f1 f2 (by rw[n1,n2];exact Xi);rw[n1,n2] at this;exact this
     have SI:(eqGuard op t x y u1 u2).run P w=.ok () w:=by
      unfold eqGuard;by_cases aMl:u1=.nilIface/\u2=.nilIface
      . obtain⟨rfl,rfl⟩:=aMl
        have hki:k=.ifc:=(by cases k<;>first|rfl|exact f1.elim);have hp:p=true:=n1.symm;have hq:q=true:=n2.symm;subst hki hp hq;simp at yA
        rcases aBm yA with ⟨c,rfl⟩|⟨c,rfl⟩
        . cases op<;>simp
        cases op<;>simp
      cases u1<;>first
       |(cases k<;>exact f1.elim)
       |(cases op<;>rfl)
       |(cases u2<;>first|exact absurd ⟨rfl,rfl⟩ aMl|(cases op<;>rfl))
     have bGy:(Go.binOp op t u1 u2).run P w=.ok (.bool (if neg then !(p&&q) else(p&&q))) w:=by
      subst fP
      cases neg with
      |false=>
       simp only[Au,Ca]
       cases u1<;>first
        |(cases k<;>exact f1.elim)
        |(cases u2<;>first
           |(cases k<;>first|exact f1.elim|exact f2.elim)
           |simp[Go.binOp,heq])
      |true=>
       simp only[if_true]
       cases u1<;>first
        |(cases k<;>exact f1.elim)
        |(cases u2<;>first
           |(cases k<;>first|exact f1.elim|exact f2.elim)
           |simp[Go.binOp,heq])
     simp only[execOp,ho,e1,e2,Sem.run_bind,SI,bGy,Result.andThen_ok];rfl
   cases h
 cases h
end
end
section
theorem BF(off:Nat):∀(l:List Value) (k:Nat) (cells:Array Value),
 ((l.zipIdx k).foldl (fun(cs:Array Value) (p:Value×Nat)=>cs.setIfInBounds (off+p.2) p.1) cells).size=cells.size/\
 ∀i,((l.zipIdx k).foldl (fun(cs:Array Value) (p:Value×Nat)=>cs.setIfInBounds (off+p.2) p.1) cells)[i]?=
  if off+k<=i/\i<off+k+l.length/\i<cells.size then l[i -(off+k)]? else cells[i]?
 |[],k,cells=>⟨rfl,fun i=>by
    rw[if_neg]
    . rfl
    simp only[Bw];omega⟩
 |v::r,k,cells=>by
  have ih:=BF off r (k+1) (cells.setIfInBounds (off+k) v);simp only[List.zipIdx_cons,Kr];refine⟨by rw[ih.1];simp,fun i=>?_⟩;rw[ih.2 i];simp only[As,Array.size_setIfInBounds];by_cases h1:off+(k+1)<=i/\i<off+(k+1)+r.length/\i<cells.size
  . rw[if_pos h1,if_pos A0];rw[show i -(off+k)=(i -(off+(k+1)))+1 by omega];simp
  rw[if_neg h1,Gc];by_cases h2:off+k=i
  . subst h2;by_cases h3:off+k<cells.size
    . simp[h3]
    rw[if_pos rfl,if_neg h3,if_neg A0,Ko A0]
  have lF:(cells.setIfInBounds (off+k) v).size=cells.size:=by simp
  rw[if_neg h2,if_neg A0]
theorem gU(a:Array Value)(j:Nat)(d:Value):a.toList.getD j d=(a[j]?).getD d:=by rw[getD_eq,Ky]
theorem SA(off:Nat)(arr cells:Array Value):
 (arr.zipIdx.foldl (fun(cs:Array Value) (p:Value×Nat)=>cs.setIfInBounds (off+p.2) p.1) cells).size=cells.size/\
 ∀i,(arr.zipIdx.foldl (fun(cs:Array Value) (p:Value×Nat)=>cs.setIfInBounds (off+p.2) p.1) cells)[i]?=
  if off<=i/\i<off+arr.size/\i<cells.size then arr[i -off]? else cells[i]?:=by
 have h:=BF off arr.toList 0 cells;rw[<-Array.foldl_toList];simp only[Array.toList_zipIdx];simpa using h
theorem aAw{G:Gh}{w:World}{cs vs:List AV}{cells arr:Array Value}{off:Nat}(h:gW G w cs cells.toList)(hv:gW G w vs arr.toList)(iE:off+vs.length<=cs.length):
 gW G w (gK cs off vs) (arr.zipIdx.foldl (fun(cs:Array Value) (p:Value×Nat)=>cs.setIfInBounds (off+p.2) p.1) cells).toList:=by
 obtain⟨h1,h2⟩:=SA off arr cells;have l1:=h.1;have l2:=hv.1;simp only[Cz] at l1 l2;refine⟨by rw[qW _ _ _ iE,Cz,h1,l1],fun j hj=>?_⟩;rw[qW _ _ _ iE] at hj;rw[Md _ _ _ _ iE,gU,h2 j];by_cases hc:off<=j/\j<off+vs.length
 . rw[if_pos hc,if_pos A0];have :=hv.2 (j -off) A0
   rwa [gU] at this
 rw[if_neg hc,if_neg A0];have :=h.2 j hj
 rwa [gU] at this
def vT(g:bF)(place:Nat->Option (Nat×Nat)):List (Nat×Operand)->Option (List (Nat×Nat×Arg))
 |[]=>some []
 |(i,x)::r=>match place i,bJ g x,vT g place r with
  |some (off,n),some y,some ys=>some ((off,n,y)::ys)
  |_,_,_=>none
theorem Oi{g:bF}{G:Gh}{H:aA}{w:World}{s:List AV}{a:Act}(hw:WR g G H w)(hs:SR G w s a){place place':Nat->Option (Nat×Nat)}(hp:∀i p,place i=some p->place' i=some p):
 ∀(parts:List (Nat×Operand)) (ps:List (Nat×Nat×Arg)) (cs DT:List AV) (cells:Array Value),vT g place parts=some ps->IG (Arg.eval g s) cs ps=some DT->gW G w cs cells.toList->(∀c∈cs,c.one=true)->
  ∃iC,Instr.fill place' cells (parts.map fun(i,x)=>(i,a.eval x))=some iC/\gW G w DT iC.toList/\∀c∈DT,c.one=true
 |[],ps,cs,DT,cells,h1,h2,hc,h3=>by obtain rfl:=Aa h1;obtain rfl:=Aa h2;exact⟨cells,rfl,hc,h3⟩
 |(i,x)::r,ps,cs,DT,cells,h1,h2,hc,h3=>by
  unfold vT at h1;split at h1
  . rename_i off n y ys DY hy Ln;obtain rfl:=Aa h1;simp only[IG] at h2;split at h2
    . rename_i eU;obtain⟨c1,c2,c3⟩:=eU;have vx:=(bG hw hs hy).cellsOf c3;have hlen:=hc.1;have hlx:=vx.1.1;simp only[Cz] at hlen hlx;have fA:=aAw hc vx.1 (by omega:off+_<=cs.length);obtain⟨iC,hf,hr⟩:=Oi hw hs hp r ys _ DT _ Ln h2 fA (fun c hc'=>(PY hc').elim (h3 c) (vx.2 c));refine⟨iC,?_,hr⟩;simp only[Cq,Instr.fill,hp _ _ DY]
      have aTp:(decide ((a.eval x).cells.size≠n)||decide (off+(a.eval x).cells.size>cells.size))=false:=by simp;omega
      rw[aTp];exact hf
    cases h2
  cases h1
def JV(P:Program):List Field->Option (List (Nat×Nat))
 |[]=>some []
 |f::r=>match jY P f.type,JV P r with
  |some n,some l=>some ((f.offset,n)::l)
  |_,_=>none
theorem run_places{P:Program}(w:World):∀{fs:List Field} {l:List (Nat×Nat)},JV P fs=some l->
 (fs.mapM (fun f=>do pure (f.offset,<-sizeOf f.type):Field->Sem (Nat×Nat))).run P w=.ok l w
 |[],l,h=>by obtain rfl:=Aa h;rfl
 |f::r,l,h=>by
  unfold JV at h;split at h
  . rename_i n l' hn hl;obtain rfl:=Aa h;have ih:=run_places w hl;simp only[List.mapM_cons,Sem.run_bind,eE hn w,Result.andThen_ok,Sem.run_pure,ih]
  cases h
section
variable {P:Program} {g:bF} {o:Oper}
theorem NS{t:TypeId}{parts:Array (Nat×Operand)}{fs:Array Field}{l:List (Nat×Nat)}{z:Value}{zs:List AV}{ps:List (Nat×Nat×Arg)}(ho:o.op=.build t parts)(hu:P.underlying t=some (.struct fs))
 (hz:lX P t=some z) (EB:jJ z.cells.toList=some zs) (hl:JV P fs.toList=some l) (hp:vT g (l[·]?) parts.toList=some ps):cN P g o (.build zs ps):=by
 intro s a G H w v H' hw hs h;simp only[dE,Ae,Af] at h;obtain⟨cs,Mf,rfl,rfl⟩:=h;have hc:=mE EB G w;obtain⟨iC,hf,hv,h1⟩:=Oi hw hs (place':=(l.toArray[·]?)) (fun i p hp=>by simpa using hp) parts.toList ps zs cs z.cells hp Mf hc.1 hc.2;refine cN.pure' hw (u:=.agg iC) ?_ (by simpa using VR.YM hv h1);have DY:=run_places w hl;simp only[execOp,ho,Instr.build,Sem.run_bind,lL hz w,run_underlying hu w,Result.andThen_ok,Array.mapM_eq_mapM_toList,Sem.run_map,DY,Jb,hf];rfl
theorem Pk{t e:TypeId}{n sz:Nat}{parts:Array (Nat×Operand)}{z:Value}{zs:List AV}{ps:List (Nat×Nat×Arg)}(ho:o.op=.build t parts)(hu:P.underlying t=some (.array n e))
 (lF:jY P e=some sz) (hz:lX P t=some z) (EB:jJ z.cells.toList=some zs) (hp:vT g (fun i=>some (i*sz,sz)) parts.toList=some ps):cN P g o (.build zs ps):=by
 intro s a G H w v H' hw hs h;simp only[dE,Ae,Af] at h;obtain⟨cs,Mf,rfl,rfl⟩:=h;have hc:=mE EB G w;obtain⟨iC,hf,hv,h1⟩:=Oi hw hs (place':=fun i=>some (i*sz,sz)) (fun i p hp=>hp) parts.toList ps zs cs z.cells hp Mf hc.1 hc.2;refine cN.pure' hw (u:=.agg iC) ?_ (by simpa using VR.YM hv h1);simp only[execOp,ho,Instr.build,Sem.run_bind,lL hz w,run_underlying hu w,Result.andThen_ok,eE lF w,Jb,hf];rfl
def JI(g:bF):Nat->List (Nat×Operand)->Option (List Arg)
 |_,[]=>some []
 |k,(i,x)::r=>if i=k then match bJ g x,JI g (k+1) r with
  |some y,some ys=>some (y::ys)
  |_,_=>none
  else none
theorem SY{ev:Arg->AV}{sz:Nat}:∀{ys:List Arg} {els:List (List AV)},Lr ev sz ys=some els->∀e∈els,e.length=sz
 |[],els,h=>by obtain rfl:=Aa h;intro e he;cases he
 |y::ys,els,h=>by
  simp only[Lr] at h;split at h
  . rename_i hc;simp only[Ae] at h;obtain⟨BB,h',rfl⟩:=h;intro e he
    rcases Am.1 he with rfl|he
    . exact hc.1
    exact SY h' e he
  cases h
theorem Oh{G:Gh}{H:aA}{w:World}{s:List AV}{a:Act}(hw:WR g G H w)(hs:SR G w s a)(sz:Nat):
 ∀(parts:List (Nat×Operand)) (ys:List Arg) (k:Nat) (els:List (List AV)) (pre:List AV) (cells:Array Value),JI g k parts=some ys->Lr (Arg.eval g s) sz ys=some els->
  pre.length=k*sz->cells.size=(k+parts.length)*sz->(∀j,j<k*sz->VR G w (pre.getD j aB) (cells.toList.getD j undef))->(∀c∈pre,c.one=true)->
  ∃iC,Instr.fill (fun i=>some (i*sz,sz)) cells (parts.map fun(i,x)=>(i,a.eval x))=some iC/\gW G w (pre++els.flatten) iC.toList/\∀c∈pre++els.flatten,c.one=true
 |[],ys,k,els,pre,cells,h1,h2,hp,hc,hv,h3=>by obtain rfl:=Aa h1;obtain rfl:=Aa h2;refine⟨cells,rfl,⟨by simp at hc ⊢;omega,fun j hj=>?_⟩,by simpa using h3⟩;simp only[List.flatten_nil,Cr] at hj ⊢;exact hv j A0
 |(i,x)::r,ys,k,els,pre,cells,h1,h2,hp,hc,hv,h3=>by
  simp only[JI] at h1;split at h1
  . rename_i hi;subst hi;split at h1
    . rename_i y ys' hy Ln;obtain rfl:=Aa h1;simp only[Lr] at h2;split at h2
      . rename_i eU;simp only[Ae] at h2;obtain⟨BB,h2,rfl⟩:=h2;obtain⟨c1,c3⟩:=eU;have vx:=(bG hw hs hy).cellsOf c3;have hlx:=vx.1.1;simp only[Cz] at hlx;have hm:(i+(r.length+1))*sz=i*sz+sz+r.length*sz:=(by rw[Bi,Fc];omega);have hm1:(i+1)*sz=i*sz+sz:=Fc i sz;simp only[As] at hc;obtain⟨f1,f2⟩:=SA (i*sz) (a.eval x).cells cells
        obtain⟨iC,hf,hr,ho⟩:=Oh hw hs sz r ys' (i+1) BB (pre++(Arg.eval g s y).cells) ((a.eval x).cells.zipIdx.foldl (fun(cs:Array Value) (p:Value×Nat)=>cs.setIfInBounds (i*sz+p.2) p.1) cells) Ln h2
         (by simp[hp,c1,hm1]) (by rw[f1,hc];congr 1;omega) (fun j hj=>by
           rw[gU,f2 j,getD_eq,Dl];by_cases LX:j<pre.length
           . rw[if_pos LX,if_neg A0];have :=hv j A0
             rwa [getD_eq,gU] at this
           . rw[if_neg LX,if_pos A0];have :=vx.1.2 (j -pre.length) A0;rw[getD_eq,gU] at this;rw[<-hp]
             exact this) (fun c hc=>by
           rcases Aq.1 hc with hc|hc
           . exact h3 c hc
           exact vx.2 c hc)
        refine⟨iC,?_,by simpa [Dx] using hr,by simpa [Dx] using ho⟩;simp only[Cq,Instr.fill]
        have aTp:(decide ((a.eval x).cells.size≠sz)||decide (i*sz+(a.eval x).cells.size>cells.size))=false:=by simp;omega
        rw[aTp];exact hf
      cases h2
    cases h1
  cases h1
theorem aDc{t e:TypeId}{sz len:Nat}{z:Value}{parts:Array (Nat×Operand)}{ys:List Arg}(ho:o.op=.buildSlice t len parts)(ht:nK P t=some (e,sz))(hz:lX P e=some z)
 (hlen:len=parts.size) (GB:len*sz<=2^24) (hp:JI g 0 parts.toList=some ys):cN P g o (.Pb sz ys):=by
 intro s a G H w v H' hw hs h;obtain⟨hu,lF⟩:=kV ht;simp only[dE,Ae,Af] at h;obtain⟨els,sM,rfl,rfl⟩:=h;have Uv:=SY sM
 have IY:els.length=parts.size:=by
  have k1:∀{l:List (Nat×Operand)} {k:Nat} {ys:List Arg},JI g k l=some ys->ys.length=l.length:=by
   intro l
   induction l with
   |nil=>intro k ys h;obtain rfl:=Aa h;rfl
   |cons p r ih=>
    intro k ys h;exact Za7
  have k2:∀{ys:List Arg} {els:List (List AV)},Lr (Arg.eval g s) sz ys=some els->els.length=ys.length:=by
   intro ys
   induction ys with
   |nil=>intro els h;obtain rfl:=Aa h;rfl
   |cons y r ih=>
    intro els h;simp only[Lr] at h;split at h
    . simp only[Ae] at h;obtain⟨BB,h',rfl⟩:=h;simp[ih h']
    cases h
  rw[k2 sM,k1 hp];simp
 let zr:Array Value:=if len*sz=0 then #[] else z.cells
 obtain⟨iC,hf,hv,h1⟩:=Oh hw hs sz parts.toList ys 0 els [] ((Array.range (len*sz)).map (zr[· %zr.size]!)) hp sM A2 (by simp[hlen]) (fun j hj=>by simp at hj) (fun c hc=>by cases hc);simp only[Er] at hv h1;have hp':iB w {w with heap:=w.heap.push (.cells iC e)} (.cells (iC.toList++[]).toArray e (0,0)):=⟨by simp,.now⟩;obtain⟨r1,r2,r3⟩:=hw.ji els.flatten iC.toList [] hv hp';refine⟨.value (.slice (some ⟨w.heap.size,0,none⟩) len len),_,_,_,?_,.inl rfl,r1,r2,?_⟩
 . have hb:¬len*sz>2^24:=by omega
   by_cases h0:len*sz=0
   . simp only[zr,if_pos h0] at hf;simp only[execOp,ho,Instr.buildSlice,Sem.run_bind,run_underlying hu w,eE lF w,Result.andThen_ok,if_neg hb,if_pos h0,Sem.run_pure,Jb,hf];rfl
   simp only[zr,if_neg h0] at hf;simp only[execOp,ho,Instr.buildSlice,Sem.run_bind,run_underlying hu w,eE lF w,Result.andThen_ok,if_neg hb,if_neg h0,lL hz w,Sem.run_pure,Jb,hf];rfl
 rw[hlen,<-IY];exact VR.bC 1 sz els w.heap.size 0 els.length (fun j=>iC.toList.getD j undef) Uv (fun j hj=>⟨(r3 j hj).1,(r3 j hj).2.1,h1 _ (JN hj)⟩) (fun j hj=>(r3 j hj).2.2) ⟨Ag _,rfl⟩
def OV:Option Value->Option Nat->Prop
 |none,none=>True
 |some u,some m=>∃k,u=.int k (m:Int)
 |_,_=>False
theorem oW{G:Gh}{H:aA}{w:World}{s:List AV}{a:Act}(hw:WR g G H w)(hs:SR G w s a){x:Option Operand}{y:Option Arg}{n:Option Nat}(hx:nJ g x=some y)
 (hn:dV (Arg.eval g s) y=some n):OV (x.map a.eval) n:=by
 cases x with
 |none=>obtain rfl:=Aa hx;obtain rfl:=Aa hn;trivial
 |some x=>simp only[nJ,Ae] at hx;obtain⟨y',hy,rfl⟩:=hx;simp only[dV,Ae] at hn;obtain⟨m,hm,rfl⟩:=hn;obtain⟨k,_,hk⟩:=tL hm (bG hw hs hy);exact⟨k,hk⟩
theorem run_sliceBound{k:IntKind}{m y:Nat}{c:BoundsCode}(h:m<=y)(w:World):(Instr.sliceBound (.int k (m:Int)) y c).run P w=.ok m w:=by
 have h0:(0:Int)<=(m:Int)/\(m:Int)<=(y:Int):=by omega
 simp only[Instr.sliceBound,asIntOf,Sem.run_bind,Sem.run_pure,Result.andThen_ok,if_pos h0,Int.toNat_natCast]
theorem sC{isS:Bool}{len cap:Nat}{low high max:Option Value}{lo hi mx:Option Nat}(h1:OV low lo)(h2:OV high hi)(h3:OV max mx)(h4:mx.isSome->hi.isSome)
 (hl:lo.getD 0<=hi.getD len) (hh:hi.isSome->hi.getD len<=mx.getD cap) (hm:mx.getD cap<=cap) (w:World):
 (Instr.sliceBounds isS len cap low high max).run P w=.ok (lo.getD 0,hi.getD len,mx.getD cap) w:=by
 cases max<;>cases mx<;>first|exact h3.elim|skip
 . cases high<;>cases hi<;>first|exact h2.elim|skip
   . cases low<;>cases lo<;>first|exact h1.elim|skip
     . simp[Instr.sliceBounds]
     obtain⟨k1,rfl⟩:=h1;simp only[Bl,Eb] at hl;simp[Instr.sliceBounds,run_sliceBound hl w]
   obtain⟨k2,rfl⟩:=h2;have hh:=hh rfl;simp only[Bl,Eb] at hh hl
   cases low<;>cases lo<;>first|exact h1.elim|skip
   . simp[Instr.sliceBounds,run_sliceBound hh w]
   obtain⟨k1,rfl⟩:=h1;simp only[Bl] at hl;simp[Instr.sliceBounds,run_sliceBound hl w,run_sliceBound hh w]
 obtain⟨k3,rfl⟩:=h3
 cases high<;>cases hi<;>first|exact h2.elim|skip
 . simp at h4
 obtain⟨k2,rfl⟩:=h2;have hh:=hh rfl;simp only[Bl] at hh hm hl
 cases low<;>cases lo<;>first|exact h1.elim|skip
 . simp[Instr.sliceBounds,run_sliceBound hh w,run_sliceBound hm w]
 obtain⟨k1,rfl⟩:=h1;simp only[Bl] at hl;simp[Instr.sliceBounds,run_sliceBound hl w,run_sliceBound hh w,run_sliceBound hm w]
theorem aDf{t:TypeId}{x:Operand}{lo hi:Option Operand}{x':Arg}{p9 pB:Option Arg}(ho:o.op=.slice t x lo hi none)(hx:bJ g x=some x')(Qj:nJ g lo=some p9)
 (o5:nJ g hi=some pB) (ht:P.underlying t=some .string):cN P g o (.QM x' p9 pB):=by
 intro s a G H w v H' hw hs h;have vx:=bG hw hs hx;simp only[dE] at h;split at h
 . rename_i str l r h1 h2 h3;rw[h1] at vx;have e1:=vx.iM;have o1:=oW hw hs Qj h2;have o2:=oW hw hs o5 h3;split at h
   . rename_i hc;obtain⟨c1,c2⟩:=hc;simp only[Ab,Af] at h;obtain⟨rfl,rfl⟩:=h;have lF:(⟨str.toArray⟩:ByteArray).size=str.length:=(by simp[ByteArray.size]);have hb:=sC (P:=P) (isS:=false) (len:=str.length) (cap:=str.length) (max:=none) (mx:=none) o1 o2 trivial A2 c1 (fun _=>by simpa using c2) A2 w;refine cN.pure' hw (u:=.string ((⟨str.toArray⟩:ByteArray).extract (l.getD 0) (r.getD str.length))) ?_ ?_
     . simp only[execOp,ho,Instr.sliceAt,Sem.run_bind,run_underlying ht w,Result.andThen_ok,Instr.slice,e1,lF,Option.map_none,hb,Br,Au,Ca];rfl
     have :(⟨str.toArray⟩:ByteArray).extract (l.getD 0) (r.getD str.length)=⟨((str.drop (l.getD 0)).take (r.getD str.length -l.getD 0)).toArray⟩:=by apply ByteArray.ext;simp[ByteArray.data_extract,Ic]
     rw[this];exact VR.Uf _ _ _
   cases h
 cases h
theorem Tk{els:List (List AV)}{sz:Nat}(hu:∀e∈els,e.length=sz)(l:Nat):(els.drop l).flatten=els.flatten.drop (l*sz):=by
 induction els generalizing l with
 |nil=>simp
 |cons e r ih=>
  cases l with
  |zero=>simp
  |succ l=>have he:e.length=sz:=hu e A2;rw[Ig,ih (fun e he=>hu e (by simp[he])),Cd,Fc,Hq,<-he,List.drop_length_add_append]
theorem IH{els:List (List AV)}{sz:Nat}(hu:∀e∈els,e.length=sz)(l:Nat):(els.take l).flatten=els.flatten.take (l*sz):=by
 induction els generalizing l with
 |nil=>simp
 |cons e r ih=>
  cases l with
  |zero=>simp
  |succ l=>have he:e.length=sz:=hu e A2;rw[Ds,Cd,ih (fun e he=>hu e (by simp[he])),Cd,Fc,Hq,<-he,List.take_length_add_append]
theorem VR.WT{G:Gh}{w:World}{sz:Nat}{els:List (List AV)}{b o':Nat}{us:Nat->Value}(hu:∀e∈els,e.length=sz)
 (h:∀j,j<els.flatten.length->G.gM b (o'+j)/\w.cell? ⟨b,o'+j,none⟩=some (us j)/\(els.flatten.getD j aB).one=true)
 (hv:∀j,j<els.flatten.length->VR G w (els.flatten.getD j aB) (us j)) (l n:Nat) (hn:l+n<=els.length) {tag cap:Nat}
 (ht:aMa G tag b (o'+l*sz+n*sz) sz n cap):VR G w (.bC tag sz ((els.drop l).take n)) (.slice (some ⟨b,o'+l*sz,none⟩) n cap):=by
 have hu1:∀e∈els.drop l,e.length=sz:=fun e he=>hu e (Gr he);have hu2:∀e∈(els.drop l).take n,e.length=sz:=fun e he=>hu1 e (De he);have zQ:((els.drop l).take n).flatten=(els.flatten.drop (l*sz)).take (n*sz):=by rw[IH hu1,Tk hu]
 have hlen:((els.drop l).take n).length=n:=by simp;omega
 have bJf:=length_flatten hu;have hb:l*sz+n*sz<=els.flatten.length:=by rw[bJf,<-Bi];exact Bq _ hn
 have :=VR.bC (G:=G) (w:=w) tag sz ((els.drop l).take n) b (o'+l*sz) cap (fun j=>us (l*sz+j)) hu2 (fun j hj=>by
  rw[zQ] at hj ⊢;simp only[Dp,Ib] at hj;rw[eZ _ _ _ _ _ A0,Bh]
  exact h _ A0) (fun j hj=>by
  rw[zQ] at hj ⊢;simp only[Dp,Ib] at hj;rw[eZ _ _ _ _ _ A0]
  exact hv _ A0) (by rw[hlen];exact ht)
 rwa [hlen] at this
theorem VR.qL{G:Gh}{w:World}(sz b o' cap:Nat)(tag:Nat)(ht:tag=0\/(tag=1/\cap=0)):VR G w (.bC tag sz []) (.slice (some ⟨b,o',none⟩) 0 cap):=
 VR.bC tag sz [] b o' cap (fun _=>undef) (fun e he=>by cases he) (fun j hj=>by simp at hj) (fun j hj=>by simp at hj) (by
  refine⟨Bp _,?_⟩
  rcases ht with rfl|⟨rfl,rfl⟩
  . trivial
  rfl)
theorem aKd{t e:TypeId}{sz:Nat}{x:Operand}{lo hi mx:Option Operand}{x':Arg}{p9 pB mx':Option Arg}(ho:o.op=.slice t x lo hi mx)(hx:bJ g x=some x')(Qj:nJ g lo=some p9)
 (o5:nJ g hi=some pB) (hmx:nJ g mx=some mx') (ht:nK P t=some (e,sz)):cN P g o (.al sz x' p9 pB mx'):=by
 intro s a G H w v H' hw hs h;have vx:=bG hw hs hx;obtain⟨hu,lF⟩:=kV ht;simp only[dE] at h;split at h
 . rename_i l r m h1 h2 h3;have o1:=oW hw hs Qj h1;have o2:=oW hw hs o5 h2;have o3:=oW hw hs hmx h3;split at h
   . rename_i hms;simp only[Ae,Af] at h;obtain⟨v',h,rfl,rfl⟩:=h
     have iX:∀(p:Option Addr) (len cap:Nat),a.eval x=.slice p len cap->l.getD 0<=r.getD len->(r.isSome->r.getD len<=m.getD cap)->m.getD cap<=cap->
      (execOp a.eval o).run P w=.ok (.value (.slice (if m.getD cap=l.getD 0 then p else p.map (·.add (l.getD 0*sz))) (r.getD len -l.getD 0) (m.getD cap -l.getD 0))) w:=by
      intro p len cap eA c1 c2 c3;have hb:=sC (P:=P) (isS:=true) (len:=len) (cap:=cap) o1 o2 o3 hms c1 c2 c3 w;simp only[execOp,ho,Instr.sliceAt,Sem.run_bind,run_underlying hu w,Result.andThen_ok,Instr.slice,eA,hb,eE lF w];rfl
     unfold pX at h;split at h
     . rename_i hid;rw[hid] at vx;generalize eA:a.eval x=u at vx;cases vx;split at h
       . rename_i hc;obtain⟨c1,c2,c3⟩:=hc;obtain rfl:=Aa h;have :=iX none 0 0 eA A0 (fun _=>by rw[c2,c3];exact Ag _) (by rw[c3];exact Ag _);rw[c1,c2,c3] at this;exact cN.pure' hw this .bB
       cases h
     . rename_i tag eO els hid;rw[hid] at vx;generalize eA:a.eval x=u at vx
       cases vx with
       |bC _ _ _ b o' cap us Uv hh hv rZ=>
        have htl:=rZ.1;simp only at h;split at h
        . rename_i hc;obtain⟨rfl,c1,c2⟩:=hc;have aBr:=VR.WT Uv hh hv;split at h
          . rename_i m';split at h
            . rename_i yA;obtain⟨c3,c4⟩:=yA;obtain rfl:=Aa h;have :=iX _ _ _ eA c1 (fun _=>by simpa using c3) Zaf;simp only[Bl,Cf,jQ] at this;refine cN.pure' hw this ?_;by_cases SM:m'=l.getD 0
              . rw[if_pos SM];have h0:r.getD els.length -l.getD 0=0:=A0;have Yu:m' -l.getD 0=0:=A0;rw[h0,Yu,Fe];exact VR.qL _ _ _ _ _ (by by_cases hmr:m'=r.getD els.length<;>simp[hmr])
              rw[if_neg SM];refine aBr _ _ A0 ⟨by omega,?_⟩;by_cases hmr:m'=r.getD els.length
              . rw[if_pos hmr];omega
              rw[if_neg hmr];trivial
            cases h
          have RI:=iX _ _ _ eA c1 (fun _=>by simp;omega) A2;simp only[Eb,Cf,jQ] at RI;split at h
          . rename_i yA;obtain⟨c3,c4⟩:=yA;obtain rfl:=Aa h;rw[c3] at RI;refine cN.pure' hw RI ?_;by_cases SH:cap=l.getD 0
            . rw[if_pos SH];have h0:els.length -l.getD 0=0:=A0;have hd:els.drop (l.getD 0)=[]:=List.drop_eq_nil_of_le A0;rw[h0,hd]
              rcases c4 with c4|c4
              . omega
              match tag,c4,rZ with
              |0,_,_=>exact VR.qL _ _ _ _ _ (.inl rfl)
              |1,_,rZ=>exact VR.qL _ _ _ _ _ (.inr ⟨rfl,by omega⟩)
            rw[if_neg SH];have hd:els.drop (l.getD 0)=(els.drop (l.getD 0)).take (els.length -l.getD 0):=(by rw[Bb];simp);rw[hd];refine aBr _ _ A0 ⟨by omega,?_⟩;have h2:=rZ.2
            have hmul:o'+l.getD 0*eO+(els.length -l.getD 0)*eO=o'+els.length*eO:=by rw[Bh,<-Bi];congr 2;omega
            match tag,h2,c4 with
            |0,_,_=>trivial
            |1,h2,_=>show cap -l.getD 0=els.length -l.getD 0;rw[h2]
            |k+2,⟨lc,h2,h3,h4,h5,h6⟩,_=>refine⟨lc,h2,h3,by rw[hmul];exact h4,h5,?_⟩;rw[h6];congr 1;omega
          obtain rfl:=Aa h;refine cN.pure' hw RI ?_;by_cases SH:cap=l.getD 0
          . rw[if_pos SH];have h0:r.getD els.length -l.getD 0=0:=A0;rw[h0,Fe];exact VR.qL _ _ _ _ _ (.inl rfl)
          rw[if_neg SH];exact aBr _ _ A0 ⟨by omega,trivial⟩
        cases h
       |uJ _ _ b o' s' rZ=>
        simp only[Bw] at h;split at h
        . rename_i hc;obtain⟨rfl,c1,c2⟩:=hc;have KN:l.getD 0=0:=A0;have RI:r.getD 0=0:=A0;split at h
          . rename_i m';split at h
            . rename_i yA;obtain⟨c3,c4⟩:=yA;obtain rfl:=Aa h;have SL:m'=0:=A0;subst SL;have :=iX _ _ _ eA A0 (fun _=>by simpa using c3) A2;simp only[Bl,KN,RI,if_true,Is] at this;refine cN.pure' hw this ?_;rw[Lk,List.take_nil];exact .uJ _ _ _ _ _ ZaC
            cases h
          have hr1:=iX _ _ _ eA A0 (fun _=>by simp;omega) A2;simp only[Eb,KN,RI,if_true,Is] at hr1;split at h
          . obtain rfl:=Aa h;refine cN.pure' hw hr1 ?_;rw[Lk];exact .uJ _ _ _ _ _ rZ
          obtain rfl:=Aa h;refine cN.pure' hw hr1 ?_;rw[Lk,List.take_nil];exact .uJ _ _ _ _ _ A0
        cases h
     . rename_i id eO off len cap hid;rw[hid] at vx;generalize eA:a.eval x=u at vx
       cases vx with
       |sl _ _ _ _ _ jS lc hl hlen iE oY=>
        simp only at h;split at h
        . rename_i hc;obtain⟨rfl,c1⟩:=hc;have hcc:cap<=jS:=A0;split at h
          . rename_i m';split at h
            . rename_i yA;obtain⟨c3,c4⟩:=yA;have :=iX _ _ _ eA c1 (fun _=>by simpa using c3) Zaf;simp only[Bl,Cf,jQ] at this;split at h
              . rename_i SM;obtain rfl:=Aa h;rw[if_pos SM] at this;have h0:r.getD len -l.getD 0=0:=A0;have Yu:m' -l.getD 0=0:=A0;rw[h0,Yu] at this;exact cN.pure' hw this (.sl id eO off 0 0 0 lc hl (Ag _) (by have :off+cap*eO<=lc.Uy:=iE;omega) (.inl rfl))
              rename_i SM;obtain rfl:=Aa h;rw[if_neg SM,Bh] at this;refine cN.pure' hw this (.sl id eO (off+l.getD 0*eO) _ _ _ lc hl A0 ?_ (.inl rfl));have e1:off+l.getD 0*eO+(m' -l.getD 0)*eO=off+m'*eO:=(by rw[Bh,<-Bi];congr 2;omega);have e2:m'*eO<=cap*eO:=Bq _ c4;omega
            cases h
          split at h
          . rename_i c3;have :=iX _ _ _ eA c1 (fun _=>by simp;omega) A2;simp only[Eb,Cf,jQ] at this;split at h
            . rename_i hlc;obtain rfl:=Aa h;have h0:r.getD len -l.getD 0=0:=A0;rw[h0] at this;refine cN.pure' hw this ?_;split
              . exact VR.qL _ _ _ _ _ (.inl rfl)
              exact VR.qL _ _ _ _ _ (.inl rfl)
            rename_i hlc;obtain rfl:=Aa h;rw[if_neg A0,Bh] at this;have e1:off+l.getD 0*eO+(cap -l.getD 0)*eO=off+cap*eO:=(by rw[Bh,<-Bi];congr 2;omega);have e2:off+l.getD 0*eO+(jS -l.getD 0)*eO=off+jS*eO:=(by rw[Bh,<-Bi];congr 2;omega);refine cN.pure' hw this (.sl id eO (off+l.getD 0*eO) _ _ _ lc hl A0 A0 ?_)
            rcases oY with oY|⟨q1,q2,q3⟩
            . exact .inl A0
            exact .inr ⟨by omega,by omega,by omega⟩
          cases h
        cases h
     cases h
   cases h
 cases h
theorem kQ(sz:Nat):∀(n:Nat) (cs:List AV),n*sz<=cs.length->(fK sz n cs).flatten=cs.take (n*sz)/\(fK sz n cs).length=n/\∀e∈fK sz n cs,e.length=sz
 |0,cs,_=>⟨by simp[fK],rfl,fun e he=>by cases he⟩
 |n+1,cs,h=>by
  have hm:(n+1)*sz=sz+n*sz:=by rw[Fc];omega
  obtain⟨h1,h2,h3⟩:=kQ sz n (cs.drop sz) Zaf;refine⟨?_,by simp[fK,h2],fun e he=>?_⟩
  . rw[fK,Cd,h1,hm,List.take_add]
  rcases Am.1 he with rfl|he
  . simp;omega
  exact h3 e he
theorem aDe{t:TypeId}{n sz:Nat}{b:Bool}{x:Operand}{lo hi mx:Option Operand}{x':Arg}{p9 pB mx':Option Arg}(ho:o.op=.slice t x lo hi mx)(hx:bJ g x=some x')(Qj:nJ g lo=some p9)
 (o5:nJ g hi=some pB) (hmx:nJ g mx=some mx') (ht:AN P t=some (n,sz,b)):cN P g o (.EW n sz x' p9 pB mx'):=by
 intro s a G H w v H' hw hs h;have vx:=bG hw hs hx;obtain⟨e,hu,lF,hb⟩:=AO ht;simp only[dE] at h;split at h
 . rename_i l r m h1 h2 h3;have o1:=oW hw hs Qj h1;have o2:=oW hw hs o5 h2;have o3:=oW hw hs hmx h3;simp only[Ae,Af] at h;obtain⟨v',h,rfl,rfl⟩:=h;unfold iT at h;simp only at h;split at h
   . rename_i hc;obtain⟨c1,c2,c3,c4⟩:=hc;have Xh:=sC (P:=P) (isS:=false) (len:=n) (cap:=n) o1 o2 o3 c4 c1 (fun _=>c2) c3 w
     have iX:∀bl o',a.eval x=.pointer (some ⟨bl,o',none⟩)->
      (execOp a.eval o).run P w=.ok (.value (.slice (some (if m.getD n=l.getD 0 then⟨bl,o',none⟩ else⟨bl,o'+l.getD 0*sz,none⟩)) (r.getD n -l.getD 0) (m.getD n -l.getD 0))) w:=by
      intro bl o' eA;simp only[execOp,ho,Instr.sliceAt,Sem.run_bind,run_underlying hu w,Result.andThen_ok,eA,Instr.sureAddr,Sem.run_pure,Xh,eE lF w,jQ]
     split at h
     . rename_i id off hid;rw[hid] at vx;split at h
       . rename_i cs Mf;obtain⟨eB,hg⟩:=aA.pH Mf;split at h
         . rename_i iE;generalize eA:a.eval x=u at vx
           cases vx with
           |ref _ _ lc hl=>
            have bMg:=(hw.cells id lc cs eB hl hg).1;have RI:=iX _ _ eA;split at h
            . rename_i SM;obtain rfl:=Aa h;rw[if_pos SM] at RI;have h0:r.getD n -l.getD 0=0:=A0;have Yu:m.getD n -l.getD 0=0:=A0;rw[h0,Yu] at RI;exact cN.pure' hw RI (.sl id sz off 0 0 0 lc hl (Ag _) A0 (.inl rfl))
            rename_i SM;obtain rfl:=Aa h;rw[if_neg SM,Bh] at RI;refine cN.pure' hw RI (.sl id sz (off+l.getD 0*sz) _ _ _ lc hl A0 ?_ (.inl rfl));have e1:off+l.getD 0*sz+(m.getD n -l.getD 0)*sz=off+m.getD n*sz:=(by rw[Bh,<-Bi];congr 2;omega);have e2:m.getD n*sz<=n*sz:=Bq _ c3;omega
         cases h
       cases h
     . rename_i cs hid;rw[hid] at vx;split at h
       . rename_i iE;obtain rfl:=Aa h;generalize eA:a.eval x=u at vx
         cases vx with
         |pl _ b' o' us hh hv=>
          have RI:=iX _ _ eA;refine cN.pure' hw RI ?_;obtain⟨f1,f2,f3⟩:=kQ sz n cs iE;by_cases SM:m.getD n=l.getD 0
          . rw[if_pos SM];have h0:r.getD n -l.getD 0=0:=A0;have Yu:m.getD n -l.getD 0=0:=A0;rw[h0,Yu,Fe];exact VR.qL _ _ _ _ _ (by by_cases hmr:m.getD n=r.getD n<;>simp[hmr])
          rw[if_neg SM];refine VR.WT (us:=us) f3 (fun j hj=>?_) (fun j hj=>?_) _ _ A0 ⟨by omega,?_⟩
          . rw[f1] at hj ⊢;simp at hj;rw[getD_take _ _ _ _ A0];exact hh j A0
          . rw[f1] at hj ⊢;simp at hj;rw[getD_take _ _ _ _ A0];exact hv j A0
          by_cases hmr:m.getD n=r.getD n
          . rw[if_pos hmr];omega
          rw[if_neg hmr];trivial
       cases h
     cases h
   cases h
 cases h
theorem aKc{t e:TypeId}{n:Nat}{x:Operand}{x':Arg}(ho:o.op=.sliceToArrayPointer t x)(hx:bJ g x=some x')(ht:P.underlying t=some (.array n e)):cN P g o (.ai n x'):=by
 intro s a G H w v H' hw hs h;have vx:=bG hw hs hx
 have iX:∀(p:Option Addr) (len cap:Nat),a.eval x=.slice p len cap->n<=len->(execOp a.eval o).run P w=.ok (.value (.pointer p)) w:=by
  intro p len cap eA hle;have :¬len<n:=by omega
  simp[execOp,ho,Instr.arrayAt,run_underlying ht w,eA,this]
 simp only[dE] at h;split at h
 . rename_i tag sz els hid;rw[hid] at vx;generalize eA:a.eval x=u at vx
   cases vx with
   |bC _ _ _ b o' cap us Uv hh hv rZ=>
    split at h
    . rename_i hle;simp only[Ab,Af] at h;obtain⟨rfl,rfl⟩:=h;exact cN.pure' hw (iX _ _ _ eA hle.1) (.pl _ b o' us hh hv)
    cases h
   |uJ=>simp at h
 . rename_i id sz off len cap hid;rw[hid] at vx;generalize eA:a.eval x=u at vx
   cases vx with
   |sl _ _ _ _ _ jS lc hl hlen iE oY=>
    split at h
    . rename_i hle;simp only[Ab,Af] at h;obtain⟨rfl,rfl⟩:=h;exact cN.pure' hw (iX _ _ _ eA hle) (.ref id off lc hl)
    cases h
 cases h
end
end
section
theorem gW.append{G:Gh}{w:World}{xs ys:List AV}{us vs:List Value}(h1:gW G w xs us)(h2:gW G w ys vs):gW G w (xs++ys) (us++vs):=by
 have l1:=h1.1;have l2:=h2.1;refine⟨by simp[l1,l2],fun j hj=>?_⟩;simp at hj;rw[getD_eq,getD_eq,Dl,Dl];by_cases hc:j<xs.length
 . rw[if_pos hc,if_pos A0];exact h1.2 j hc
 rw[if_neg hc,if_neg A0];have :=h2.2 (j -xs.length) A0;rw[getD_eq,getD_eq] at this;rw[l1];exact this
theorem gW.take{G:Gh}{w:World}{xs:List AV}{us:List Value}(h:gW G w xs us)(n:Nat):gW G w (xs.take n) (us.take n):=by have l:=h.1;refine⟨by simp[l],fun j hj=>?_⟩;simp only[Dp] at hj;rw[getD_take _ _ _ _ A0,getD_take _ _ _ _ A0];exact h.2 j A0
theorem oR(P:Program){g:bF}{G:Gh}{H:aA}{w:World}(hw:WR g G H w){sz:Nat}{x:AV}{u:Value}{ys:List (List AV)}(h:dI H sz x=some ys)(hv:VR G w x u):
 (∀e∈ys,e.length=sz)/\(∀c∈ys.flatten,c.one=true)/\(Builtin.lenOf u).run P w=.ok ys.length w/\
 ∃vs:List Value,gW G w ys.flatten vs/\∀n,n<=ys.length->(Builtin.firstCells sz n u).run P w=.ok (vs.take (n*sz)).toArray w:=by
 have aWu:∀{l:List AV},(∀j,j<l.length->(l.getD j aB).one=true)->∀c∈l,c.one=true:=fun {l} hl c hc=>by obtain⟨j,hj,rfl⟩:=Hy.1 hc;have :=hl j hj;simpa [getD_eq,Ac hj] using this
 have cells:∀{b o':Nat} {l:List AV},(∀j,j<l.length->∃v,w.cell? ⟨b,o'+j,none⟩=some v/\VR G w (l.getD j aB) v)->
  ∃vs:List Value,gW G w l vs/\∀m,m<=l.length->(loadCells ⟨b,o',none⟩ m).run P w=.ok (vs.take m).toArray w:=fun {b o' l} hc=>by
  obtain⟨us,h1,h2,h3⟩:=OR hc;refine⟨us,⟨h1,h3⟩,fun m hm=>?_⟩
  have :=vA P w b o' (us.take m) (fun j hj=>by
   simp at hj;rw[getD_take _ _ _ _ A0]
   exact h2 j A0)
  rwa [show(us.take m).length=m by simp;omega] at this
 cases hv with
 |bB=>obtain rfl:=Aa h;refine⟨fun e he=>(by cases he),fun c hc=>(by simp at hc),rfl,[],gW.nil G w,fun n hn=>?_⟩;simp[Builtin.firstCells]
 |bC tag eO els b o' cap us Uv hh hvv rZ=>
  simp only[dI] at h;split at h
  . rename_i hs;subst hs;obtain rfl:=Aa h;obtain⟨vs,h1,h2⟩:=cells (l:=els.flatten) (b:=b) (o':=o') (fun j hj=>⟨us j,(hh j hj).2.1,hvv j hj⟩);refine⟨Uv,aWu fun j hj=>(hh j hj).2.2,rfl,vs,h1,fun n hn=>?_⟩;have :=h2 (n*eO) (by rw[length_flatten Uv];exact Bq _ hn);simpa [Builtin.firstCells] using this
  cases h
 |uJ tag eO b o' s' rZ=>
  simp only[dI] at h;split at h
  . obtain rfl:=Aa h;refine⟨fun e he=>(by cases he),fun c hc=>(by simp at hc),rfl,[],gW.nil G w,fun n hn=>?_⟩;obtain rfl:n=0:=by simpa using hn
    simp[Builtin.firstCells,loadCells,loadCellsFrom]
  cases h
 |str str=>
  simp only[dI] at h;split at h
  . rename_i hs;subst hs;obtain rfl:=Aa h
    have zQ:(Sz str.data.toList).flatten=str.data.toList.map fun b=>AV.int .u8 b.toNat:=by
     unfold Sz
     induction str.data.toList with
     |nil=>rfl
     |cons b r ih=>simp[ih]
    refine⟨fun e he=>?_,fun c hc=>?_,?_,str.data.toList.map fun b=>.int .u8 b.toNat,?_,fun n hn=>?_⟩
    . simp only[Sz,Bm] at he;obtain⟨b,_,rfl⟩:=he;rfl
    . rw[zQ] at hc;simp only[Bm] at hc;obtain⟨b,_,rfl⟩:=hc;rfl
    . have :str.size=(Sz str.data.toList).length:=(by rw[Sz,Ai,Cz];rfl);simp only[Builtin.lenOf,this];rfl
    . rw[zQ];refine⟨by simp,fun j hj=>?_⟩;simp at hj;simp only[getD_eq,Ci,Ac (show j<str.data.toList.length by simpa using hj),Cf,Bl];exact .int _ _
    simp only[Builtin.firstCells,Dc]
    have :((str.extract 0 n).data.map fun b=>(Value.int .u8 b.toNat))=((str.data.toList.map fun b=>Value.int .u8 b.toNat).take n).toArray:=by apply Fh;simp[ByteArray.data_extract,Ic]
    rw[<-this];rfl
  cases h
 |sl id eO off len cap jS l hl hlen iE oY=>
  simp only[dI] at h;split at h
  . rename_i hs;subst hs;split at h
    . rename_i cs Mf;obtain⟨eB,hg⟩:=aA.pH Mf;split at h
      . rename_i hle;obtain rfl:=Aa h;obtain⟨f1,f2,f3⟩:=kQ eO len (cs.drop off) Zaf;have yK:=(hw.cells id l cs eB hl hg).2.2.2.1
        obtain⟨vs,h1,h2⟩:=cells (l:=(cs.drop off).take (len*eO)) (b:=l.cV) (o':=l.base+off) (fun j hj=>by
         simp at hj
         exact MB hw hl hg hle j A0)
        refine⟨f3,?_,by simp[Builtin.lenOf,f2],vs,by rw[f1];exact h1,fun n hn=>?_⟩
        . rw[f1];exact fun c hc=>yK c (Gr (De hc))
        rw[f2] at hn;have e2:n*eO<=len*eO:=Bq _ hn;have :=h2 (n*eO) Zaf;simpa [Builtin.firstCells] using this
      cases h
    cases h
  cases h
 |_=>simp[dI] at h
theorem SF(UI:Nat):∀(r c:Nat),Builtin.growBy UI r c<=max c (UI+(UI+768) / 4)
 |0,c=>Nat.le_max_left _ _
 |r+1,c=>by
  simp only[Builtin.growBy];split
  . exact Nat.le_max_left _ _
  have :=SF UI r (c+(c+768) / 4);omega
theorem nextslicecap_le{need cap:Nat}(h:cap<need):Builtin.nextslicecap need cap<=2*need+192:=by
 unfold Builtin.nextslicecap;split
 . omega
 split
 . omega
 have :=SF need 4 cap;omega
def LS(w:World)(o:Go.Obj):World:={w with heap:=w.heap.push o,drawn:=w.drawn+1}
section
variable {P:Program}
theorem vY{elem:TypeId}{i:TypeInfo}(h:P.info? elem=some i)(w:World):(typeInfo elem).run P w=.ok i w:=by simp[typeInfo,program,Sem.run,h]
theorem pW{w:World}{t t2 elem ty:TypeId}{d:TypeDesc}{sz n sLen sCap:Nat}{base:Option Addr}{u:Value}{vs:List Value}(ht:P.underlying t=some (.slice elem))(lF:jY P elem=some sz)
 (h2:P.underlying t2=some d) (hd:∀k,d≠ .int k) (hlen:(Builtin.lenOf u).run P w=.ok n w) (hf:(Builtin.firstCells sz n u).run P w=.ok vs.toArray w) (aBi:sLen+n<=sCap):
 (Builtin.append_ #[t,t2] ty #[.slice base sLen sCap,u]).run P w=
   ((match base with|some a=>storeCells (a.add (sLen*sz)) vs|none=>pure ():Sem Unit).run P w).andThen fun _ w'=>.ok (.slice base (sLen+n) sCap) w':=by
 have hz:(match d with|.int _=>true|_=>false)=false:=by cases d<;>first|rfl|exact absurd rfl (hd _)
 unfold Builtin.append_;simp only[Em,Hc,Gb,Sem.run_bind,run_underlying ht w,run_underlying h2 w,eE lF w,Result.andThen_ok,Sem.run_pure,hz,Au,Ca,hlen,if_pos aBi,Fy,if_true,hf];cases base<;>simp
theorem CG{need Uw:Nat}{e:TypeId}(w:World):∃c,need<=c/\(choose (.appendCap need Uw e)).run P w=.ok c {w with drawn:=w.drawn+1}:=
 ⟨need+(w.tape w.drawn (.appendCap need Uw e))%(2^63 -need),by omega,by simp[choose,Sem.run,Question.forced,Question.cut]⟩
theorem run_askRoom(n:Nat)(w:World):(askRoom n).run P w=.ok () w:=by unfold askRoom;split<;>rfl
theorem run_append_grow{w:World}{t t2 elem ty:TypeId}{d:TypeDesc}{i:TypeInfo}{sz n sLen sCap:Nat}{base:Option Addr}{u z:Value}{os vs:List Value}(ht:P.underlying t=some (.slice elem))(lF:jY P elem=some sz)
 (h2:P.underlying t2=some d) (hd:∀k,d≠ .int k) (hi:P.info? elem=some i) (rP:1<=i.bytes) (hz:lX P elem=some z) (EB:z.cells.size=sz) (hlen:(Builtin.lenOf u).run P w=.ok n w)
 (ho:(Builtin.firstCells sz sLen (.slice base sLen sCap)).run P {w with drawn:=w.drawn+1}=.ok os.toArray {w with drawn:=w.drawn+1})
 (hf:(Builtin.firstCells sz n u).run P {w with drawn:=w.drawn+1}=.ok vs.toArray {w with drawn:=w.drawn+1}) (aBi:¬sLen+n<=sCap) (GB:(sLen+n)*i.bytes<=2^40):
 ∃cap rest,sLen+n<=cap/\rest.length=(cap -(sLen+n))*sz/\
  (Builtin.append_ #[t,t2] ty #[.slice base sLen sCap,u]).run P w=.ok (.slice (some ⟨w.heap.size,0,none⟩) (sLen+n) cap) (LS w (.cells (os++vs++rest).toArray elem)):=by
 have hz':(match d with|.int _=>true|_=>false)=false:=by cases d<;>first|rfl|exact absurd rfl (hd _)
 obtain⟨cap,Xi,yA⟩:=CG (P:=P) (need:=sLen+n) (Uw:=sCap) (e:=elem) w;have AD:¬((((sLen+n:Nat):Int)>IntKind.i64.max)/\(False\/i.bytes=0)):=fun hh=>hh.2.elim id (fun h0=>by omega);have hns:=nextslicecap_le (need:=sLen+n) (cap:=sCap) A0
 have Ut:sLen+n<=2^40:=by have :(sLen+n)*1<=(sLen+n)*i.bytes:=Dj _ rP;omega
 have hmul:Builtin.nextslicecap (sLen+n) sCap*i.bytes<=(2*(sLen+n)+192)*i.bytes:=Bq _ hns;have bLs:(2*(sLen+n)+192)*i.bytes=2*((sLen+n)*i.bytes)+192*i.bytes:=by rw[Bi,Bv]
 have hib:i.bytes<=(sLen+n)*i.bytes:=Hn _ A0;have JA:¬Builtin.nextslicecap (sLen+n) sCap*i.bytes>2^48:=by omega
 refine⟨cap,(Builtin.zeroCells z.cells (cap -(sLen+n))).toList,Xi,by simp[Builtin.zeroCells,EB],?_⟩;unfold Builtin.append_;simp only[Em,Hc,Gb,Sem.run_bind,run_underlying ht w,run_underlying h2 w,eE lF w,Result.andThen_ok,Sem.run_pure,hz',Au,Ca,hlen,if_neg aBi,Fy,if_true,vY hi w,if_neg AD,if_neg JA,yA,vY hi {w with drawn:=w.drawn+1},run_askRoom,ho,hf,lL hz {w with drawn:=w.drawn+1}]
 have he:os.toArray++vs.toArray++Builtin.zeroCells z.cells (cap -(sLen+n))=(os++vs++(Builtin.zeroCells z.cells (cap -(sLen+n))).toList).toArray:=by apply Fh;simp
 rw[he];rfl
theorem RC(w:World)(o:Go.Obj):iB w (LS w o) o:=⟨rfl,.now⟩
theorem ZZ{g:bF}{G:Gh}{H:aA}{w:World}(hw:WR g G H w)(mu:Bool){sz:Nat}{els:List (List AV)}{vs rest:List Value}{e:TypeId}{cap:Nat}
 (hu:∀x∈els,x.length=sz) (h1:∀c∈els.flatten,c.one=true) (hv:gW G w els.flatten vs) (oY:els.length<=cap) (aMw:rest.length=(cap -els.length)*sz):
 ∃G',WR g G' (lV H mu sz els).2 (LS w (.cells (vs++rest).toArray e))/\Ext G H w G' (lV H mu sz els).2 (LS w (.cells (vs++rest).toArray e))/\
  VR G' (LS w (.cells (vs++rest).toArray e)) (lV H mu sz els).1 (.slice (some ⟨w.heap.size,0,none⟩) els.length cap):=by
 have hp:=RC w (.cells (vs++rest).toArray e);have zQ:=length_flatten hu;have hvl:=hv.1;have hmul:els.length*sz+(cap -els.length)*sz=cap*sz:=by rw[<-Bi];congr 1;omega
 cases mu with
 |true=>
  obtain⟨r1,r2⟩:=hw.aKt els.flatten vs rest hv h1 true (fun h=>by cases h) (Clear.zero _) hp;refine⟨_,r1,r2,?_⟩
  have :=VR.sl (G:=G.dW H.next ⟨w.heap.size,0,els.flatten.length,(vs++rest).length⟩) (w:=LS w (.cells (vs++rest).toArray e)) H.next sz 0 els.length els.length cap
   ⟨w.heap.size,0,els.flatten.length,(vs++rest).length⟩ (by simp only[Gh.dW,if_true]) (Ag _) (by simp only[zQ];omega)
   (.inr ⟨by simp only[zQ];omega,oY,by simp only[Ap,hvl,zQ,aMw];omega⟩)
  exact this
 |false=>obtain⟨G',hl,r1,r2,r3⟩:=hw.aKu els.flatten vs rest hv (Clear.zero _) hp;refine⟨G',r1,r2,?_⟩;refine VR.bC (H.next+2) sz els w.heap.size 0 cap (fun j=>vs.getD j undef) hu (fun j hj=>⟨(r3 j hj).1,(r3 j hj).2.1,h1 _ (JN hj)⟩) (fun j hj=>(r3 j hj).2.2) ⟨oY,?_⟩;exact⟨_,hl,rfl,by simp only[zQ];omega,rfl,aMw⟩
theorem WR.drew{g:bF}{G:Gh}{H:aA}{w:World}(h:WR g G H w):WR g G H {w with drawn:=w.drawn+1}:=h.of_heap rfl
theorem VR.drew{G:Gh}{w:World}{a:AV}{u:Value}(h:VR G w a u):VR G {w with drawn:=w.drawn+1} a u:=
 h.mono (fun _ _ h=>h) (fun b o hi=>⟨hi,rfl⟩)
theorem qm{g:bF}{o:Oper}{c:Call}{x y:Operand}{x' y':Arg}{t t2 elem:TypeId}{d:TypeDesc}{i:TypeInfo}{z:Value}{sz:Nat}{mu:Bool}(ho:o.op=.call c)(hc:c.callee=.builtin .append)(ha:c.args= #[x,y])
 (hx:bJ g x=some x') (hy:bJ g y=some y') (RE:c.argTypes= #[t,t2]) (ht:P.underlying t=some (.slice elem)) (lF:jY P elem=some sz) (h2:P.underlying t2=some d) (hd:∀k,d≠ .int k)
 (hi:P.info? elem=some i) (rP:1<=i.bytes) (hz:lX P elem=some z) (EB:z.cells.size=sz):cN P g o (.append sz i.bytes mu x' y'):=by
 intro s a G H w v H' hw hs h;have vx:=bG hw hs hx;have vy:=bG hw hs hy;simp only[dE] at h;split at h
 . rename_i ys Ln;obtain⟨yu,y1,Up,EY,yv,yf⟩:=oR P hw Ln vy;have yf0:=yf ys.length (Ag _);obtain⟨_,_,_,aLx,yv',yf'⟩:=oR P hw.drew Ln vy.drew;have yfl:=length_flatten yu;have ye:∀{m:Nat} {l:List Value},l.length=m->l.take m=l:=fun {m l} hl=>by rw[Bb A0]
   have aLw:(Builtin.firstCells sz ys.length (a.eval y)).run P w=.ok EY.toArray w:=by rw[yf0,ye (by rw[yv.1,yfl])]
   have bLq:(Builtin.firstCells sz ys.length (a.eval y)).run P {w with drawn:=w.drawn+1}=.ok aLx.toArray {w with drawn:=w.drawn+1}:=by rw[yf' ys.length (Ag _),ye (by rw[yv'.1,yfl])]
   have yvw:gW G w ys.flatten aLx:=⟨yv'.1,fun j hj=>(yv'.2 j hj).mono (fun _ _ h=>h) (fun b o hi=>⟨hi,rfl⟩)⟩
   have fP:∀{p:Option Addr} {sl sc:Nat} {r:Value} {w':World},a.eval x=.slice p sl sc->(Builtin.append_ #[t,t2] o.type #[.slice p sl sc,a.eval y]).run P w=.ok r w'->(execOp a.eval o).run P w=.ok (.value r) w':=by intro p sl sc r w' eA hr;simp[execOp,ho,resolve,hc,ha,RE,invoke,builtin,eA,hr]
   have fk:ys=[]->∀{p:Option Addr} {sl sc:Nat},a.eval x=.slice p sl sc->sl<=sc->(execOp a.eval o).run P w=.ok (.value (.slice p sl sc)) w:=by intro To p sl sc eA hle;subst To;have PE:EY=[]:=(by have :=yv.1;simpa using this);subst PE;refine fP eA ?_;have :=pW (P:=P) (ty:=o.type) (base:=p) (sLen:=sl) (sCap:=sc) ht lF h2 hd Up aLw (by simpa using hle);rw[this];cases p<;>rfl
   have SJ:∀(mu:Bool) {p:Option Addr} {sl sc:Nat} {els:List (List AV)} {os:List Value} {G0:Gh} {H0:aA},WR g G0 H0 w->Ext G H w G0 H0 w->a.eval x=.slice p sl sc->els.length=sl->(∀e∈els,e.length=sz)->(∀c∈els.flatten,c.one=true)->
    gW G0 w els.flatten os->(Builtin.firstCells sz sl (.slice p sl sc)).run P {w with drawn:=w.drawn+1}=.ok os.toArray {w with drawn:=w.drawn+1}->¬sl+ys.length<=sc->(sl+ys.length)*i.bytes<=2^40->
    ∃n u w' G',(execOp a.eval o).run P w=.ok n w'/\Re n u/\WR g G' (lV H0 mu sz (els++ys)).2 w'/\Ext G H w G' (lV H0 mu sz (els++ys)).2 w'/\VR G' w' (lV H0 mu sz (els++ys)).1 u:=by
    intro mu p sl sc els os G0 H0 hw0 he0 eA hl hu h1 hv hf BJ GB;obtain⟨cap,rest,c1,c2,hr⟩:=run_append_grow (P:=P) (ty:=o.type) ht lF h2 hd hi rP hz EB Up hf bLq BJ GB;have bJl:gW G0 w ys.flatten aLx:=yvw.ext he0
    obtain⟨G',r1,r2,r3⟩:=ZZ hw0 mu (sz:=sz) (els:=els++ys) (vs:=os++aLx) (rest:=rest) (e:=elem) (cap:=cap)
     (fun e he=>(Aq.1 he).elim (hu e) (yu e)) (fun c hc=>by rw[Gd] at hc;exact(Aq.1 hc).elim (h1 c) (y1 c)) (by rw[Gd];exact hv.append bJl)
     (by simp[hl];exact c1) (by simp[hl];exact c2)
    refine⟨_,_,_,G',fP eA hr,.inl rfl,r1,he0.trans r2,?_⟩;have hlen:(els++ys).length=sl+ys.length:=(by simp[hl]);rw[hlen] at r3;exact r3
   unfold fZ at h;split at h
   . rename_i aTw;have To:ys=[]:=by simpa using aTw
     have fin:∀{p:Option Addr} {sl sc:Nat} {va:AV},a.eval x=.slice p sl sc->sl<=sc->VR G w va (.slice p sl sc)->
      ∃n u w' G',(execOp a.eval o).run P w=.ok n w'/\Re n u/\WR g G' H w'/\Ext G H w G' H w'/\VR G' w' va u:=
      fun eA hle hva=>cN.pure' hw (fk To eA hle) hva
     have vx0:=vx;split at h
     . rename_i hid;simp only[Ab,Af] at h;obtain⟨rfl,rfl⟩:=h;rw[hid] at vx;generalize eA:a.eval x=u at vx vx0;cases vx;exact fin eA (Ag _) vx0
     . rename_i hid;simp only[Ab,Af] at h;obtain⟨rfl,rfl⟩:=h;rw[hid] at vx;generalize eA:a.eval x=u at vx vx0
       cases vx with
       |bC _ _ _ _ _ _ _ _ _ _ rZ=>exact fin eA rZ.1 vx0
       |uJ=>exact fin eA (Ag _) vx0
     . rename_i hid;simp only[Ab,Af] at h;obtain⟨rfl,rfl⟩:=h;rw[hid] at vx;generalize eA:a.eval x=u at vx vx0
       cases vx with
       |sl _ _ _ _ _ _ _ _ hlen _ oY=>exact fin eA A0 vx0
     cases h
   rename_i aTw
   have bLt:1<=ys.length:=by
    cases ys with
    |nil=>simp at aTw
    |cons _ _=>simp
   split at h
   . rename_i hid;rw[hid] at vx;generalize eA:a.eval x=u at vx;cases vx;split at h
     . rename_i GB;simp only[Ab] at h;have :=SJ mu (els:=[]) (os:=[]) hw (Ext.refl G H w) eA rfl (fun e he=>by cases he) (fun c hc=>by simp at hc) (gW.nil G w) (by simp[Builtin.firstCells]) A0 (by simpa using GB);simp only[Er] at this;rw[h] at this;exact this
     cases h
   . rename_i tag eO els hid;rw[hid] at vx;split at h
     . rename_i hc;obtain⟨rfl,GB⟩:=hc;generalize eA:a.eval x=u at vx;obtain⟨eu,e1,_,LM,ev',ef'⟩:=oR P hw.drew (sz:=eO) (x:=.bC tag eO els) (ys:=els) (by simp[dI]) vx.drew;have evw:gW G w els.flatten LM:=⟨ev'.1,fun j hj=>(ev'.2 j hj).mono (fun _ _ h=>h) (fun b o hi=>⟨hi,rfl⟩)⟩;have efl:=length_flatten eu
       have ef1:∀{q:Value},q=u->(Builtin.firstCells eO els.length q).run P {w with drawn:=w.drawn+1}=.ok LM.toArray {w with drawn:=w.drawn+1}:=fun hq=>by rw[hq,ef' els.length (Ag _),ye (by rw[ev'.1,efl])]
       cases vx with
       |uJ _ _ b o' s' rZ=>
        match tag,h,rZ with
        |0,h,_=>cases h
        |1,h,_=>simp only[Ab] at h;have :=SJ mu (els:=[]) (os:=LM) hw (Ext.refl G H w) eA rfl eu e1 evw (ef1 rfl) A0 GB;rw[h] at this;exact this
       |bC _ _ _ b o' cap us Uv hh hv rZ=>
        match tag,h,rZ with
        |0,h,_=>cases h
        |1,h,rZ=>simp only[Ab] at h;have SH:cap=els.length:=rZ.2;have :=SJ mu (els:=els) (os:=LM) hw (Ext.refl G H w) eA rfl eu e1 evw (ef1 rfl) A0 GB;rw[h] at this;exact this
        |k+2,h,rZ=>
         obtain⟨l,t1,xc,t3,t4,t5⟩:=rZ.2;have hle:=rZ.1;simp only at h;split at h
         . rename_i ff;simp only[Ab,Af] at h;obtain⟨rfl,rfl⟩:=h;have lS:H.live k:=⟨_,ff,rfl⟩;have hk:=hw.kill k;have Xk:=(Ext.refl G H w).kill k;by_cases wY:els.length+ys.length<=cap
           ·
            obtain⟨ca,el,fz,q1,q2,q3⟩:=hw.room k l t1 (.inr ff)
            have SM:ys.length*eO+(cap -els.length -ys.length)*eO=l.ext:=by rw[t5,<-Bi];congr 1;omega
            have yvl:EY.length=ys.length*eO:=(by rw[yv.1,yfl]);have BM:∀j,j<EY.length->j<l.ext:=fun j hj=>by omega
            obtain⟨w',hr,hu⟩:=fF P b (o'+els.length*eO) EY 0 w ⟨ca,el,fz,by rw[<-xc];exact q1,by omega⟩
             (fun j hj=>by rw[Dd,<-t3,<-xc];exact q3 j (BM j hj)) (oV yv y1)
            rw[Dd] at hu
            have oI:∀j,j<EY.length->¬G.gM b (o'+els.length*eO+j):=fun j hj=>by rw[<-t3,<-xc];exact hw.jV k l t1 lS j (BM j hj)
            have tQ:∀id l',G.loc id=some l'->(H.set k .dead).live id->l.cV≠l'.cV\/l.base+l.ext<=l'.base\/l'.base+l'.ext<=l.base:=fun id l' nB lB=>by
             rcases aA.lG.1 lB with ⟨_,hh⟩|⟨cG,lB⟩
             . cases hh
             exact hw.lD k id l l' (Ne.symm cG) t1 nB lS lB
            have PC:=hk.write hu oI (fun id l' nB lB=>by
             rcases tQ id l' nB lB with rE|rE|rE
             . exact .inl (by rw[<-xc];exact Ne.symm rE)
             . exact .inr (.inr A0)
             exact .inr (.inl A0)) ⟨ca,el,fz,by rw[<-xc];exact q1⟩
            have hblk:w.heap.size<=b\/∃eV l0,G.loc eV=some l0/\H.live eV/\l0.cV=b:=.inr ⟨k,l,t1,lS,xc⟩;have Ur:=Xk.write hu oI hw.iF hblk;obtain⟨ca',u1,u2,u3,u4⟩:=hu.row ca el fz (by rw[<-xc];exact q1)
            have fh:∀j,j<EY.length->w'.cell? ⟨b,o'+els.length*eO+j,none⟩=some (EY.getD j undef):=fun j hj=>by rw[mD u1];exact u4 j hj (by have :=BM j hj;omega)
            have zZ:=PC.oD b (o'+els.length*eO) EY.length (fun j hj=>⟨_,fh j hj⟩) (fun id l' nB lB=>by
             rcases tQ id l' nB lB with rE|rE|rE
             . exact .inl (by rw[<-xc];exact Ne.symm rE)
             . exact .inr (.inr A0)
             exact .inr (.inl A0))
            have Qh:=Ur.oD b (o'+els.length*eO) EY.length hblk;have ow:=Qh.OK .tok ⟨b,o'+els.length*eO+EY.length,0,l.ext -EY.length⟩ zZ.lt hblk
            have hw3:=zZ.OK .tok ⟨b,o'+els.length*eO+EY.length,0,l.ext -EY.length⟩ (fun id l' nB lB=>by
             rcases tQ id l' nB lB with rE|rE|rE
             . exact .inl (by rw[<-xc];exact rE)
             . exact .inr (.inl (by simp only;omega))
             . exact .inr (.inr (by simp only;omega))) (fun j hj hi=>by
             simp only at hj hi
             rcases hi with hi|⟨_,_,hi⟩
             . have :=hw.jV k l t1 lS (EY.length+j) A0;rw[xc,t3,<-Bh] at this;exact this hi
             . omega) (fun DT aDk wX=>by cases wX) (fun _=>⟨ca',el,fz,u1,by simp only;omega,fun j hj=>by
             simp only at hj ⊢;rw[hu.frozen (by rw[<-xc];exact q1)];have :=q3 (EY.length+j) A0;rw[xc,t3,<-Bh] at this
             exact this⟩) (fun wX=>by cases wX)
            refine⟨.value (.slice (some ⟨b,o',none⟩) (els.length+ys.length) cap),.slice (some ⟨b,o',none⟩) (els.length+ys.length) cap,w',_,fP eA ?_,.inl rfl,hw3,ow,?_⟩
            . have :=pW (P:=P) (ty:=o.type) (base:=some ⟨b,o',none⟩) (sLen:=els.length) (sCap:=cap) ht lF h2 hd Up aLw wY;rw[this];simp only[jQ,hr,Result.andThen_ok]
            have hlen:(els++ys).length=els.length+ys.length:=A2;rw[<-hlen]
            have hga:∀j,(els.flatten++ys.flatten).getD j aB=if j<els.flatten.length then els.flatten.getD j aB else ys.flatten.getD (j -els.flatten.length) aB:=fun j=>by rw[getD_eq,Dl];split<;>rfl
            refine VR.bC (H.next+2) eO (els++ys) b o' cap (fun j=>if j<els.flatten.length then us j else EY.getD (j -els.flatten.length) undef)
             (fun e he=>(Aq.1 he).elim (eu e) (yu e)) (fun j hj=>?_) (fun j hj=>?_) ⟨by simp;exact wY,?_⟩
            . rw[Gd] at hj ⊢;rw[hga];by_cases LX:j<els.flatten.length
              . rw[if_pos LX,if_pos LX];have :=hh j LX;refine⟨(ow.gM _ _ this.1).1,by rw[(ow.gM _ _ this.1).2];exact this.2.1,this.2.2⟩
              rw[if_neg LX,if_neg LX];simp only[Ap] at hj;have IX:j -els.flatten.length<EY.length:=(by rw[yv.1];omega);have rG:o'+j=o'+els.length*eO+(j -els.flatten.length):=(by rw[efl] at LX ⊢;omega);refine⟨.inr ⟨rfl,by omega,by omega⟩,by rw[rG];exact fh _ IX,?_⟩;exact y1 _ (JN (by rw[<-yv.1];exact IX))
            . rw[Gd] at hj ⊢;rw[hga];by_cases LX:j<els.flatten.length
              . rw[if_pos LX,if_pos LX];exact(hv j LX).ext ow
              rw[if_neg LX,if_neg LX];simp only[Ap] at hj;exact(yv.2 (j -els.flatten.length) A0).ext ow
            refine⟨⟨b,o'+els.length*eO+EY.length,0,l.ext -EY.length⟩,by simp only[Gh.dW,aA.bA,if_true],rfl,?_,rfl,?_⟩
            . simp only[hlen,Bi];omega
            simp only[hlen];rw[yvl,<-SM,Nat.add_sub_cancel_left];congr 1;omega
           exact SJ false (els:=els) (os:=LM) hk Xk eA rfl eu e1 evw (ef1 rfl) wY GB
         cases h
     cases h
   . rename_i id eO off len cap hid;rw[hid] at vx;split at h
     . rename_i hc;obtain⟨rfl,GB,aUm⟩:=hc;split at h
       . rename_i cs eB hg;generalize eA:a.eval x=u at vx
         cases vx with
         |sl _ _ _ _ _ jS l hl hlen iE oY=>
          obtain⟨a1,a2,a3,a4,a5⟩:=hw.cells id l cs eB hl hg;obtain⟨ca,el,fz,b1,b2,b3⟩:=hw.room id l hl (.inl ⟨cs,eB,hg⟩);split at h
          . rename_i wY;split at h
            . rename_i bLz;simp only[Ab,Af] at h;obtain⟨rfl,rfl⟩:=h;have yvl:EY.length=ys.length*eO:=(by rw[yv.1,yfl]);have hm1:len*eO+ys.length*eO<=cap*eO:=by rw[<-Bi];exact Bq _ wY
              obtain⟨w',hr,hu⟩:=fF P l.cV (l.base+off+len*eO) EY 0 w ⟨ca,el,fz,b1,by omega⟩
               (fun j hj=>by rw[Dd,Bh,Bh];exact b3 (off+(len*eO+j)) A0) (oV yv y1)
              rw[Dd,Bh] at hu;obtain⟨r1,r2⟩:=hw.store hl hg yv y1 (by rw[yfl];omega) hu;refine⟨.value (.slice (some ⟨l.cV,l.base+off,none⟩) (len+ys.length) jS),.slice (some ⟨l.cV,l.base+off,none⟩) (len+ys.length) jS,w',G,fP eA ?_,.inl rfl,r1,r2,VR.sl id eO off (len+ys.length) cap jS l hl wY iE oY⟩;have :=pW (P:=P) (ty:=o.type) (base:=some ⟨l.cV,l.base+off,none⟩) (sLen:=len) (sCap:=jS) ht lF h2 hd Up aLw A0;rw[this];simp only[jQ,hr,Result.andThen_ok]
            cases h
          rename_i wY;split at h
          . rename_i yA;obtain⟨c1,c2⟩:=yA
            have aTx:jS=cap:=by
             rcases oY with oY|⟨p1,p2,p3⟩
             . exact oY
             rcases c2 with c2|c2
             . have :=a3 c2;have hms:jS*eO=cap*eO:=A0;exact Nat.eq_of_mul_eq_mul_right aUm hms
             omega
            subst aTx
            obtain⟨eu,e1,_,LM,ev',ef'⟩:=oR P hw.drew (sz:=eO) (x:=.sl id eO off len jS) (ys:=fK eO len (cs.drop off)) (by
             have hca:H.eG id=some cs:=by simp[aA.eG,hg]
             simp[dI,hca,c1]) (VR.sl id eO off len jS jS l hl hlen iE oY:VR G w _ _).drew
            have evw:gW G w (fK eO len (cs.drop off)).flatten LM:=⟨ev'.1,fun j hj=>(ev'.2 j hj).mono (fun _ _ h=>h) (fun b o hi=>⟨hi,rfl⟩)⟩;obtain⟨f1,f2,f3⟩:=kQ eO len (cs.drop off) Zaf;have efl:=length_flatten eu
            have ef1:(Builtin.firstCells eO len (.slice (some ⟨l.cV,l.base+off,none⟩) len jS)).run P {w with drawn:=w.drawn+1}=.ok LM.toArray {w with drawn:=w.drawn+1}:=by rw[ef' len A0,ye (by rw[ev'.1,efl,f2])]
            simp only[Ab] at h;have :=SJ mu (els:=fK eO len (cs.drop off)) (os:=LM) hw (Ext.refl G H w) eA f2 eu e1 evw ef1 A0 GB;rw[h] at this;exact this
          split at h
          . rename_i hc3;obtain⟨hmu,bIo,hlc,Mf⟩:=hc3;subst hmu bIo hlc;simp only[Ab,Af] at h;obtain⟨rfl,rfl⟩:=h
            obtain⟨eu,e1,_,LM,ev',ef'⟩:=oR P hw.drew (sz:=eO) (x:=.sl id eO 0 len len) (ys:=fK eO len (cs.drop 0)) (by
             have hca:H.eG id=some cs:=by simp[aA.eG,hg]
             simp[dI,hca,Mf]) (VR.sl id eO 0 len len jS l hl hlen iE oY:VR G w _ _).drew
            have evw:gW G w (fK eO len (cs.drop 0)).flatten LM:=⟨ev'.1,fun j hj=>(ev'.2 j hj).mono (fun _ _ h=>h) (fun b o hi=>⟨hi,rfl⟩)⟩;obtain⟨f1,f2,f3⟩:=kQ eO len (cs.drop 0) Zaf;have efl:=length_flatten eu
            have ef1:(Builtin.firstCells eO len (.slice (some ⟨l.cV,l.base+0,none⟩) len jS)).run P {w with drawn:=w.drawn+1}=.ok LM.toArray {w with drawn:=w.drawn+1}:=by rw[ef' len A0,ye (by rw[ev'.1,efl,f2])]
            have fcs:(fK eO len (cs.drop 0)).flatten=cs:=(by rw[f1,Ej,Bb A0]);have lS:H.live id:=⟨_,hg,rfl⟩;have hk:=hw.kill id;have Xk:=(Ext.refl G H w).kill id;by_cases Ts:len+ys.length<=jS
            ·
             have aYu:len*eO=l.Uy/\len<=jS/\jS*eO=l.ext:=by
              rcases oY with hh|⟨p1,p2,p3⟩
              . omega
              exact⟨by omega,p2,by omega⟩
             obtain⟨g1,g2,g3⟩:=aYu;have yvl:EY.length=ys.length*eO:=(by rw[yv.1,yfl]);have hm1:len*eO+ys.length*eO<=jS*eO:=by rw[<-Bi];exact Bq _ Ts
             obtain⟨w',hr,hu⟩:=fF P l.cV (l.base+0+len*eO) EY 0 w ⟨ca,el,fz,b1,by omega⟩
              (fun j hj=>by rw[Dd,Dd,Bh];exact b3 (len*eO+j) A0) (oV yv y1)
             rw[Dd,Dd] at hu
             have oI:∀j,j<EY.length->¬G.gM l.cV (l.base+len*eO+j):=fun j hj=>by rw[Bh];exact hw.jV id l hl lS _ A0
             have tQ:∀kS l',G.loc kS=some l'->(H.set id .dead).live kS->l.cV≠l'.cV\/l.base+l.ext<=l'.base\/l'.base+l'.ext<=l.base:=fun kS l' nB lB=>by
              rcases aA.lG.1 lB with ⟨_,hh⟩|⟨cG,lB⟩
              . cases hh
              exact hw.lD id kS l l' (Ne.symm cG) hl nB lS lB
             have PC:=hk.write hu oI (fun kS l' nB lB=>by
              rcases tQ kS l' nB lB with rE|rE|rE
              . exact .inl (Ne.symm rE)
              . exact .inr (.inr A0)
              exact .inr (.inl A0)) ⟨ca,el,fz,b1⟩
             have hblk:w.heap.size<=l.cV\/∃eV l0,G.loc eV=some l0/\H.live eV/\l0.cV=l.cV:=.inr ⟨id,l,hl,lS,rfl⟩;have Ur:=Xk.write hu oI hw.iF hblk;obtain⟨ca',u1,u2,u3,u4⟩:=hu.row ca el fz b1
             have fh:∀j,j<EY.length->w'.cell? ⟨l.cV,l.base+len*eO+j,none⟩=some (EY.getD j undef):=fun j hj=>by rw[mD u1];exact u4 j hj A0
             have IY:(cs++ys.flatten).length=(len+ys.length)*eO:=by rw[Ap,Mf,yfl,Bi]
             have hga:∀j,(cs++ys.flatten).getD j aB=if j<cs.length then cs.getD j aB else ys.flatten.getD (j -cs.length) aB:=fun j=>by rw[getD_eq,Dl];split<;>rfl
             have ow:=Ur.OK (.cells (cs++ys.flatten) true) ⟨l.cV,l.base,(cs++ys.flatten).length,l.ext⟩ PC.lt hblk
             have hw3:=PC.OK (.cells (cs++ys.flatten) true) ⟨l.cV,l.base,(cs++ys.flatten).length,l.ext⟩ tQ
              (fun j hj hi=>hw.jV id l hl lS j hj hi)
              (fun DT aDk wX=>by
                simp only[eY.cells.injEq] at wX;obtain⟨rfl,rfl⟩:=wX;refine⟨rfl,(by simp only;rw[IY,Bi];omega),(fun hh=>(by cases hh)),fun c hc=>(Aq.1 hc).elim (a4 c) (y1 c),fun j hj=>?_⟩;rw[hga];by_cases LX:j<cs.length
                . rw[if_pos LX];obtain⟨u,v1,v2⟩:=a5 j LX;exact⟨u,(show w'.cell? ⟨l.cV,l.base+j,none⟩=some u from hu.cell (.inr (.inl A0)) v1),v2.ext Ur⟩
                rw[if_neg LX];simp only[Ap] at hj;have IX:j -cs.length<EY.length:=(by rw[yv.1];omega);have rG:l.base+j=l.base+len*eO+(j -cs.length):=A0;refine⟨_,(show w'.cell? ⟨l.cV,l.base+j,none⟩=_ from ?_),(yv.2 (j -cs.length) A0).ext Ur⟩;rw[rG]
                exact fh _ IX)
              (fun _=>⟨ca',el,fz,u1,by simp only;omega,fun j hj=>by
                simp only at hj ⊢;rw[hu.frozen b1]
                exact b3 j hj⟩) (fun wX=>by cases wX)
             refine⟨.value (.slice (some ⟨l.cV,l.base+0,none⟩) (len+ys.length) jS),.slice (some ⟨l.cV,l.base+0,none⟩) (len+ys.length) jS,w',_,fP eA ?_,.inl rfl,hw3,ow,?_⟩
             . have :=pW (P:=P) (ty:=o.type) (base:=some ⟨l.cV,l.base+0,none⟩) (sLen:=len) (sCap:=jS) ht lF h2 hd Up aLw Ts;rw[this];simp only[jQ,hr,Result.andThen_ok]
             exact VR.sl H.next eO 0 (len+ys.length) (len+ys.length) jS ⟨l.cV,l.base,(cs++ys.flatten).length,l.ext⟩ (by simp only[Gh.dW,aA.bA,if_true]) (Ag _)
              (by simp only;rw[IY];omega) (.inr ⟨by simp only;rw[IY];omega,Ts,by simp only;omega⟩)
            have hn:=SJ true (els:=fK eO len (cs.drop 0)) (os:=LM) hk Xk eA f2 eu e1 evw ef1 Ts GB
            have e0:lV (H.set id .dead) true eO (fK eO len (cs.drop 0)++ys)=(.sl H.next eO 0 (len+ys.length) (len+ys.length),(H.set id .dead).alloc (.cells (cs++ys.flatten) true)):=by simp only[lV,if_true,Ap,f2,Gd,fcs,aA.bA]
            rw[e0] at hn;exact hn
          cases h
       cases h
     cases h
   cases h
 cases h
end
end
section
theorem pL(zs:List AV):∀(n k:Nat),k<n*zs.length->(List.replicate n zs).flatten.getD k aB=zs.getD (k%zs.length) aB
 |0,k,h=>by simp at h
 |n+1,k,h=>by
  rw[Fj,Cd,getD_eq,Dl];rw[Fc] at h;by_cases hk:k<zs.length
  . rw[if_pos hk,Bn hk];rfl
  rw[if_neg hk];have :=pL zs n (k -zs.length) A0;rw[getD_eq] at this;rw[this,<-Nat.mod_eq_sub_mod A0]
theorem TD{G:Gh}{w:World}{zs:List AV}{z:Array Value}(h:gW G w zs z.toList)(rG:1<=zs.length)(n m:Nat)(hm:m=n*zs.length):
 gW G w (List.replicate n zs).flatten ((Array.range m).map fun i=>z[i%z.size]!).toList:=by
 have hl:=h.1;simp only[Cz] at hl;refine⟨by simp[hm],fun k hk=>?_⟩;have rF:k<n*zs.length:=by simpa using hk
 rw[pL zs n k rF,gU];have hkm:k<m:=by omega
 have bIg:k%zs.length<zs.length:=Bz _ rG;have :=h.2 (k%zs.length) bIg;rw[gU] at this
 have e:((Array.range m).map fun i=>z[i%z.size]!)[k]?=some (z[k%z.size]!):=by simp[hkm]
 rw[e]
 have e2:z[k%z.size]! =(z[k%zs.length]?).getD undef:=by
  rw[hl];have :k%zs.length<z.size:=by omega
  simp[getElem!_pos,this]
 simp only[Bl];rw[e2];exact this
section
variable {P:Program} {g:bF} {o:Oper}
theorem ES{zs:List AV}(h1:∀c∈zs,c.one=true)(n:Nat):∀c∈(List.replicate n zs).flatten,c.one=true:=fun c hc=>by simp only[List.mem_flatten,List.mem_replicate] at hc;obtain⟨l,⟨_,rfl⟩,hc⟩:=hc;exact h1 c hc
theorem XZ(n:Nat)(h:n<=2^40):IntKind.i64.wrap (n:Int)=(n:Int):=by
 have hs:IntKind.i64.signed=true:=rfl;have hb:IntKind.i64.bits=64:=rfl;unfold IntKind.wrap;simp only[hs,hb,Ct];have e:((n:Int)%2^64)=n:=by omega
 rw[e];have :¬((n:Int)≥2^(64 -1)):=by omega
 rw[Ad this];rfl
theorem Mb{t e:TypeId}{sz:Nat}{i:TypeInfo}{z:Value}{zs:List AV}{x y:Operand}{x' y':Arg}(ho:o.op=.makeSlice t x y)(hx:bJ g x=some x')(hy:bJ g y=some y')(ht:nK P t=some (e,sz))
 (hi:P.info? e=some i) (hz:lX P e=some z) (EB:jJ z.cells.toList=some zs) (rG:1<=sz) (rP:1<=i.bytes):EG P g o (.jM sz i.bytes zs x' y'):=by
 intro s a G H H' w ob val eV hw hs h hid cS BK dT;have vx:=bG hw hs hx;have vy:=bG hw hs hy;obtain⟨hu,lF⟩:=kV ht;simp only[yH] at h;split at h
 . rename_i l c hl hc;obtain⟨k1,e1,f1⟩:=tL hl vx;obtain⟨k2,e2,f2⟩:=tL hc vy;split at h
   . rename_i eU;obtain⟨c1,c2,c3⟩:=eU;simp only[Ab,Af] at h;obtain⟨rfl,rfl⟩:=h;have oo:=mE EB G w
     have bGz:c<=2^40:=by have :1*c<=i.bytes*c:=Bq _ rP;omega
     have w1:=XZ l A0;have w2:=XZ c bGz;have aUo:z.cells.size=zs.length:=(by simpa using oo.1.1);have aZk:1<=zs.length:=A0;have hz1:=TD oo.1 aZk c (c*sz) (by rw[c3]);have hp:iB w {w with heap:=w.heap.push (.cells ((Array.range (c*sz)).map fun i=>z.cells[i%z.cells.size]!) e)} (.cells (((Array.range (c*sz)).map fun i=>z.cells[i%z.cells.size]!).toList++[]).toArray e (0,0)):=⟨by rw[Cr,Array.toArray_toList],.now⟩;have hm:=hw.xM eV hid _ _ [] hz1 (ES oo.2 c) false (fun _=>rfl) cS BK dT (Clear.zero _) hp;refine⟨.slice (some ⟨w.heap.size,0,none⟩) l c,_,_,?_,hm,?_⟩
     . have t1:(decide ((c:Int)<0)||decide ((i.bytes:Int)*(c:Int)>2^48))=false:=by
        have :(i.bytes:Int)*(c:Int)<=2^40:=(by exact_mod_cast c2);simp;omega
       have t2:¬((l:Int)<0):=A0;have t3:¬((l:Int)>(c:Int)):=A0;simp only[execOp,ho,Instr.makeSlice,Sem.run_bind,run_underlying hu w,Result.andThen_ok,f1,f2,asInt,asIntOf,Sem.run_pure,vY hi w,w1,w2,t1,Ad t2,Ad t3,Lm,Au,Ca,run_askRoom,Int.toNat_natCast,eE lF w];by_cases h0:c*sz=0
       . have hA:∀f:Nat->Value,(Array.range 0).map f= #[]:=fun f=>by simp
         simp only[h0,if_true,Sem.run_bind,Sem.run_pure,Result.andThen_ok,hA];rfl
       simp only[h0,Ca,Sem.run_bind,lL hz w,Sem.run_pure,Result.andThen_ok];rfl
     have hlen:(List.replicate c zs).flatten.length=c*sz:=(by simp[c3]);refine VR.sl eV sz 0 l c c ⟨w.heap.size,0,(List.replicate c zs).flatten.length,(((Array.range (c*sz)).map fun i=>z.cells[i%z.cells.size]!).toList++[]).length⟩ (by simp only[Gh.dW,if_true]) c1 (by simp only[hlen];omega) (.inl rfl)
   cases h
 cases h
theorem Ze{t e:TypeId}{sz:Nat}{i:TypeInfo}{z:Value}{zs:List AV}{x y:Operand}{x' y':Arg}(ho:o.op=.makeSlice t x y)(hx:bJ g x=some x')(hy:bJ g y=some y')(ht:nK P t=some (e,sz))
 (hi:P.info? e=some i) (hz:lX P e=some z) (EB:jJ z.cells.toList=some zs) (rG:1<=sz) (rP:1<=i.bytes):cN P g o (.jM sz i.bytes zs x' y'):=
 (Mb ho hx hy ht hi hz EB rG rP).op fun _ _=>rfl
theorem aCg:∀{l:List (Nat×Operand)} {k:Nat} {ys:List Arg},JI g k l=some ys->ys.length=l.length:=by
 intro l
 induction l with
 |nil=>intro k ys h;obtain rfl:=Aa h;rfl
 |cons p r ih=>
  intro k ys h;exact Za7
def UX(mu:Bool)(sz:Nat)(ys:List Arg):Bool:=mu&&Nat.beq sz 1&&(match ys with|[.const (.str [])]=>true|_=>false)
theorem Ol{mu:Bool}{t e:TypeId}{sz len:Nat}{z:Value}{parts:Array (Nat×Operand)}{ys:List Arg}(ho:o.op=.buildSlice t len parts)(ht:nK P t=some (e,sz))(hz:lX P e=some z)
 (hlen:len=parts.size) (GB:len*sz<=2^24) (hp:JI g 0 parts.toList=some ys) (hr:UX mu sz ys=true):EG P g o (.jM 1 1 [.str []] (.const (.int .i64 1)) (.const (.int .i64 1))):=by
 intro s a G H H' w ob val eV hw hs h hid cS BK dT;obtain⟨hu,lF⟩:=kV ht;simp only[UX,Ak] at hr;obtain⟨⟨_,aUm⟩,Ln⟩:=hr;obtain rfl:sz=1:=Bd aUm
 have Ln:ys=[.const (.str [])]:=by
  split at Ln
  . rfl
  cases Ln
 subst Ln;have SO:parts.size=1:=by have :=aCg hp;simpa using this.symm
 obtain rfl:len=1:=by omega
 have fP:ob=.cells [.str []] false/\val=fun id=>.sl id 1 0 1 1:=by
  have e:yH (Arg.eval g s) (.jM 1 1 [.str []] (.const (.int .i64 1)) (.const (.int .i64 1)))=some (.cells [.str []] false,fun id=>.sl id 1 0 1 1):=by simp[yH,Arg.eval,asNat]
  rw[e] at h;simp only[Ab,Af] at h;exact⟨h.1.symm,h.2.symm⟩
 obtain⟨rfl,rfl⟩:=fP;obtain⟨iC,hf,hv,h1⟩:=Oh hw hs 1 parts.toList [.const (.str [])] 0 [[.str []]] [] ((Array.range (1*1)).map (z.cells[· %z.cells.size]!)) hp rfl A2 (by simp[SO]) (fun j hj=>by simp at hj) (fun c hc=>by cases hc);have hp':iB w {w with heap:=w.heap.push (.cells iC e)} (.cells (iC.toList++[]).toArray e (0,0)):=⟨by simp,.now⟩;have hm:=hw.xM eV hid [.str []] iC.toList [] hv h1 false (fun _=>rfl) cS BK dT (Clear.zero _) hp';refine⟨.slice (some ⟨w.heap.size,0,none⟩) 1 1,_,_,?_,hm,?_⟩
 . simp only[execOp,ho,Instr.buildSlice,Sem.run_bind,run_underlying hu w,eE lF w,Result.andThen_ok,if_neg (show ¬1*1>2^24 by omega),if_neg (show ¬1*1=0 by omega),lL hz w,Sem.run_pure,Jb,hf];rfl
 exact VR.sl eV 1 0 1 1 1 ⟨w.heap.size,0,1,(iC.toList++[]).length⟩ (by simp only[Gh.dW,if_true];rfl) (Ag _) A2 (.inl rfl)
theorem qt{mu:Bool}{t e:TypeId}{sz len:Nat}{z:Value}{parts:Array (Nat×Operand)}{ys:List Arg}(ho:o.op=.buildSlice t len parts)(ht:nK P t=some (e,sz))(hz:lX P e=some z)
 (hlen:len=parts.size) (GB:len*sz<=2^24) (hp:JI g 0 parts.toList=some ys) (hr:UX mu sz ys=true):cN P g o (.jM 1 1 [.str []] (.const (.int .i64 1)) (.const (.int .i64 1))):=
 (Ol ho ht hz hlen GB hp hr).op fun _ _=>rfl
theorem aJq{c:Call}{x y:Operand}{x' y':Arg}{t elem:TypeId}{sz:Nat}(ho:o.op=.call c)(hc:c.callee=.builtin .copy)(ha:c.args= #[x,y])
 (hx:bJ g x=some x') (hy:bJ g y=some y') (RE:c.argTypes[0]?=some t) (ht:P.underlying t=some (.slice elem)) (lF:jY P elem=some sz):cN P g o (.copy sz x' y'):=by
 intro s a G H w v H' hw hs h;have vx:=bG hw hs hx;have vy:=bG hw hs hy;simp only[dE] at h
 have fP:∀{p:Option Addr} {dl dc:Nat} {n:Nat} {vs:List Value},a.eval x=.slice p dl dc->(Builtin.lenOf (a.eval y)).run P w=.ok n w->(Builtin.firstCells sz (Nat.min n dl) (a.eval y)).run P w=.ok vs.toArray w->
  ∀{w':World},((match p with|some q=>storeCells q vs|none=>pure ():Sem Unit).run P w=.ok () w')->(execOp a.eval o).run P w=.ok (.value (.int .i64 (Nat.min n dl:Nat))) w':=by
  intro p dl dc n vs eA hl hf w' hr;simp only[execOp,ho,resolve,hc,ha,List.map_toArray,Cq,Jo,eA,Sem.run_bind,Sem.run_pure,Result.andThen_ok,invoke,builtin,Builtin.copy_,RE,Em,Hc,Gb,run_underlying ht w,hl,eE lF w,hf]
  cases p with
  |none=>simp at hr;subst hr;simp[goInt]
  |some q=>simp only at hr;simp[hr,goInt]
 split at h
 . rename_i ys Ln hid;rw[hid] at vx;generalize eA:a.eval x=u at vx;cases vx;simp only[Ab,Af] at h;obtain⟨rfl,rfl⟩:=h;obtain⟨yu,y1,Up,EY,yv,yf⟩:=oR P hw Ln vy
   have :=fP eA Up (vs:=[]) (by
    have :=yf 0 (Bp _);rw[show Nat.min ys.length 0=0 from Nat.min_zero _]
    simpa using this) (w':=w) rfl
   exact cN.pure' hw this (.int _ _)
 . rename_i ys id eO off len cap Ln hid;rw[hid] at vx;obtain⟨yu,y1,Up,EY,yv,yf⟩:=oR P hw Ln vy;split at h
   . rename_i aBu;subst aBu;split at h
     . rename_i cs eB hg;split at h
       . rename_i iE;simp only[Ab,Af] at h;obtain⟨rfl,rfl⟩:=h;generalize eA:a.eval x=u at vx
         cases vx with
         |sl _ _ _ _ _ jS l hl hlen bHv oY=>
          obtain⟨a1,a2,a3,a4,a5⟩:=hw.cells id l cs eB hl hg;obtain⟨ca,el,fz,b1,b2,b3⟩:=hw.room id l hl (.inl ⟨cs,eB,hg⟩);have yfl:=length_flatten yu;have hmn:min ys.length len<=ys.length:=Jh _ _;have hmul:min ys.length len*eO<=ys.length*eO:=Bq _ hmn;have hyl:=yv.1;have hft:(ys.take (min ys.length len)).flatten=ys.flatten.take (min ys.length len*eO):=IH yu _;have yvt:=yv.take (min ys.length len*eO);rw[<-hft] at yvt;have hvl:(EY.take (min ys.length len*eO)).length=min ys.length len*eO:=by simp;omega
          obtain⟨w',hr,hu⟩:=fF P l.cV (l.base+off) (EY.take (min ys.length len*eO)) 0 w ⟨ca,el,fz,b1,by omega⟩
           (fun j hj=>by rw[Dd,Bh];exact b3 (off+j) A0) (oV yvt (fun c hc=>by
             rw[hft] at hc
             exact y1 c (De hc)))
          rw[Dd] at hu;obtain⟨r1,r2⟩:=hw.store hl hg yvt (fun c hc=>by rw[hft] at hc;exact y1 c (De hc)) (by rw[hft];simp;omega) hu;refine⟨_,_,w',G,fP eA Up (yf _ hmn) hr,.inl rfl,r1,r2,.int _ _⟩
       cases h
     cases h
   cases h
 cases h
theorem aWp{c:Call}{x:Operand}{x':Arg}{t elem:TypeId}{sz:Nat}{z:Value}{zs:List AV}(ho:o.op=.call c)(hc:c.callee=.builtin .clear)(ha:c.args= #[x])
 (hx:bJ g x=some x') (RE:c.argTypes[0]?=some t) (ht:P.underlying t=some (.slice elem)) (hz:lX P elem=some z) (EB:jJ z.cells.toList=some zs):cN P g o (.clr sz zs x'):=by
 intro s a G H w v H' hw hs h;have vx:=bG hw hs hx
 have fP:∀{u:Value} {w':World},a.eval x=u->(Builtin.clear_ c.argTypes o.type #[u]).run P w=.ok (.tuple #[]) w'->(execOp a.eval o).run P w=.ok (.value (.tuple #[])) w':=by intro u w' eA hr;simp[execOp,ho,resolve,hc,ha,invoke,builtin,eA,hr]
 simp only[dE] at h;split at h
 . exact ZaD
 . rename_i hid;rw[hid] at vx;generalize eA:a.eval x=u at vx;simp only[Ab,Af] at h;obtain⟨rfl,rfl⟩:=h;cases vx<;>exact cN.pure' hw (fP eA (by simp[Builtin.clear_,RE,run_underlying ht w])) (VR.nL G w)
 . exact ZaD
 . rename_i id eO off len cap hnz hid;rw[hid] at vx;split at h
   . rename_i aBu;obtain⟨aBu,hzl⟩:=aBu;subst aBu;split at h
     . rename_i cs eB hg;split at h
       . rename_i iE;simp only[Ab,Af] at h;obtain⟨rfl,rfl⟩:=h;generalize eA:a.eval x=u at vx
         cases vx with
         |sl _ _ _ _ _ jS l hl hlen bHv oY=>
          obtain⟨a1,a2,a3,a4,a5⟩:=hw.cells id l cs eB hl hg;obtain⟨ca,el,fz,b1,b2,b3⟩:=hw.room id l hl (.inl ⟨cs,eB,hg⟩);have oo:=mE EB G w;have aUo:z.cells.size=zs.length:=(by simpa using oo.1.1);have zQ:(List.replicate len zs).flatten.length=len*eO:=by simp[hzl]
          have hvz:gW G w (List.replicate len zs).flatten (Builtin.zeroCells z.cells len).toList:=by
           by_cases bMh:0<eO
           . exact TD oo.1 A0 len (len*z.cells.size) (by rw[aUo])
           have h0:eO=0:=A0;have Lo:zs=[]:=Ip.1 A0;refine⟨?_,fun j hj=>?_⟩
           . rw[zQ];simp[Builtin.zeroCells,aUo,hzl]
           rw[zQ,h0,Nat.mul_zero] at hj;omega
          have yK:=ES oo.2 len;have hvl:=hvz.1
          obtain⟨w',hr,hu⟩:=fF P l.cV (l.base+off) (Builtin.zeroCells z.cells len).toList 0 w ⟨ca,el,fz,b1,by omega⟩
           (fun j hj=>by rw[Dd,Bh];exact b3 (off+j) A0) (oV hvz yK)
          rw[Dd] at hu;obtain⟨r1,r2⟩:=hw.store hl hg hvz yK (by rw[zQ];exact iE) hu;have Qk:len≠0:=fun e=>hnz e;refine⟨_,_,w',G,fP eA ?_,.inl rfl,r1,r2,VR.nL G w'⟩
          cases len with
          |zero=>exact absurd rfl Qk
          |succ n=>simp only[Builtin.clear_,RE,Em,Hc,Sem.run_bind,run_underlying ht w,Result.andThen_ok,lL hz w,hr,Sem.run_pure]
       cases h
     cases h
   cases h
 cases h
theorem aCz{src dst e:TypeId}{x:Operand}{x':Arg}(ho:o.op=.convert src dst x)(hx:bJ g x=some x')(ZJ:P.underlying src=some (.slice e))(DW:P.underlying dst=some .string)
 (he:P.underlying e=some (.int .u8)):cN P g o (.EI x'):=by
 intro s a G H w v H' hw hs h;have vx:=bG hw hs hx;simp only[dE] at h;generalize hva:Arg.eval g s x'=va at vx h;split at h
 . cases h
 rename_i aZj;split at h
 . rename_i els sM;simp only[Ae,Af] at h;obtain⟨bs,eo,rfl,rfl⟩:=h;obtain⟨eu,e1,bLu,evs,ev,ef⟩:=oR P hw sM vx;have efl:=length_flatten eu;have hev:evs.length=els.length:=by rw[ev.1,efl,Dc]
   have ef0:=ef els.length (Ag _);rw[Dc,Bb A0] at ef0
   have key:∀(els:List (List AV)) (bs:List UInt8),bytesOf els=some bs->∃ns:List Int,els.flatten=ns.map (fun n=>AV.int .u8 n)/\bs=ns.map fun n=>UInt8.ofNat n.toNat:=by
    intro els
    induction els with
    |nil=>intro bs hb;obtain rfl:=Aa hb;exact⟨[],rfl,rfl⟩
    |cons e r ih=>
     intro bs hb
     match e,hb with
     |[.int .u8 n],hb=>simp only[bytesOf,Ae] at hb;obtain⟨bs',zY,rfl⟩:=hb;obtain⟨ns,h1,h2⟩:=ih bs' zY;exact⟨n::ns,by simp[h1],by simp[h2]⟩
   obtain⟨ns,k1,k2⟩:=key els bs eo
   have hns:evs=ns.map (fun n=>Value.int .u8 n):=by
    apply Gt;intro j;have hl2:els.flatten.length=ns.length:=(by rw[k1];simp);by_cases hj:j<ns.length
    . have :=ev.2 j A0;rw[k1] at this;have e2:(ns.map fun n=>AV.int .u8 n).getD j aB=.int .u8 (ns[j]):=(by simp[getD_eq,hj]);rw[e2] at this;have :=this.iK;rw[qJ evs undef j (by rw[ev.1];omega),this];simp[hj]
    rw[Bt (by rw[ev.1];omega),Bt Zaf]
   have bJc:VR G w (.str bs) (.string ⟨bs.toArray⟩):=VR.Uf _ _ _
   have fin:∀u:Value,a.eval x=u->(convert src dst u).run P w=.ok (.string ⟨bs.toArray⟩) w->∃n u w' G',(execOp a.eval o).run P w=.ok n w'/\Re n u/\WR g G' H w'/\Ext G H w G' H w'/\VR G' w' (.str bs) u:=fun u hu hr=>cN.pure' hw (by simp[execOp,ho,hu,hr]) bJc
   generalize eA:a.eval x=u at vx ef0
   have slc:∀{b o' len cap:Nat},u=.slice (some ⟨b,o',none⟩) len cap->len=els.length->(convert src dst u).run P w=.ok (.string ⟨bs.toArray⟩) w:=by
    intro b o' len cap hu' nB;subst hu' nB
    have hld:(loadCells ⟨b,o',none⟩ els.length).run P w=.ok (ns.map (Value.int .u8)).toArray w:=by rw[hns] at ef0;simpa [Builtin.firstCells] using ef0
    rw[run_convert_bytes_string w src dst e _ els.length cap ZJ he DW,run_bytesToString w _ els.length cap ns hld,foldl_push_bytes,k2];simp[ByteArray.empty,ByteArray.emptyWithCapacity];rfl
   cases vx with
   |bB=>simp[dI] at sM;subst sM;simp[bytesOf] at eo;subst eo;refine fin _ eA ?_;simp only[convert,Sem.run_bind,run_underlying ZJ w,run_underlying DW w,Result.andThen_ok,run_underlying he w,Conv.bytesToString];rfl
   |bC tag eO BB b o' cap us Uv hh hv rZ=>
    simp only[dI] at sM;split at sM
    . obtain rfl:=Aa sM;exact fin _ eA (slc rfl rfl)
    cases sM
   |uJ tag eO b o' s' rZ=>
    simp only[dI] at sM;split at sM
    . obtain rfl:=Aa sM;simp[bytesOf] at eo;subst eo;refine fin _ eA ?_;rw[run_convert_bytes_string w src dst e _ 0 0 ZJ he DW,run_bytesToString w _ 0 0 [] (by simp[loadCells,loadCellsFrom])];rfl
    cases sM
   |sl id eO off len cap jS l hl hlen iE oY=>
    refine fin _ eA (slc rfl ?_);simp only[dI] at sM;split at sM
    . split at sM
      . split at sM
        . rename_i Mf hle;obtain rfl:=Aa sM;rename_i hs1 cs;have :=(kQ 1 len (cs.drop off) Zaf).2.1;omega
        cases sM
      cases sM
    cases sM
   |str s=>exact absurd rfl (aZj _)
   |_=>simp[dI] at sM
 cases h
end
end
section
section
variable {P:Program} {g:bF} {o:Oper}
theorem Wp(h:Array Go.Obj)(x:Go.Obj)(f:Go.Obj->Go.Obj):(h.push x).modify h.size f=h.push (f x):=by
 apply Array.ext
 . simp
 intro i h1 h2;simp only[Array.size_push] at h2;rw[Array.getElem_modify];by_cases hi:i=h.size
 . subst hi;simp
 have :i<h.size:=by omega
 rw[if_neg (Ne.symm hi)];simp[Array.getElem_push,this]
theorem Ry{src dst e:TypeId}{x:Operand}{x':Arg}(ho:o.op=.convert src dst x)(hx:bJ g x=some x')(ZJ:P.underlying src=some .string)(DW:P.underlying dst=some (.slice e))
 (he:P.underlying e=some (.int .u8)):EG P g o (.CJ x'):=by
 intro s a G H H' w ob val eV hw hs h hid cS BK dT;have vx:=bG hw hs hx;simp only[yH] at h;split at h
 . rename_i str aZc;rw[aZc] at vx;have eA:=vx.iM;simp only[Ab,Af] at h;obtain⟨rfl,rfl⟩:=h;have lF:(⟨str.toArray⟩:ByteArray).size=str.length:=by simp[ByteArray.size]
   obtain⟨cap,Xi,yA⟩:=CG (P:=P) (need:=str.length) (Uw:=0) (e:=e) w
   let vs:List Value:=str.map fun b=>.int .u8 b.toNat
   let rest:List Value:=List.replicate (cap -str.length) (.int .u8 0);let w':World:={w with heap:=w.heap.push (.cells (vs++rest).toArray e (cap,cap+1)),drawn:=w.drawn+1}
   have zQ:(Sz str).flatten=str.map fun b=>AV.int .u8 b.toNat:=by
    unfold Sz;clear aZc vx eA lF Xi yA
    induction str with
    |nil=>rfl
    |cons b r ih=>simp[ih]
   have hvl:vs.length=str.length:=(by simp[vs]);have Tq:rest.length=cap -str.length:=by simp[rest]
   have hv:gW G w (Sz str).flatten vs:=by rw[zQ];refine⟨by simp[vs],fun j hj=>?_⟩;simp at hj;simp only[vs,getD_eq,Ci,Ac hj,Cf,Bl];exact .int _ _
   have hp:iB w w' (.cells (vs++rest).toArray e (cap,cap+1)):=⟨rfl,.now⟩
   obtain⟨G',hl,hm,r3⟩:=hw.Sl eV hid _ vs rest hv cS BK dT (fz:=(cap,cap+1)) (fun o' ZF=>by
    simp only[Gq,Ap,hvl,Tq] at ZF
    simp;omega) hp
   have Uv:∀x∈Sz str,x.length=1:=fun x hx=>by simp only[Sz,Bm] at hx;obtain⟨b,_,rfl⟩:=hx;rfl
   have hlen:(Sz str).length=str.length:=(by simp[Sz]);have bHr:(Sz str).flatten.length=str.length:=(by rw[zQ];simp);refine⟨.slice (some ⟨w.heap.size,0,none⟩) str.length cap,w',G',?_,hm,?_⟩
   . have aYx:(convert src dst (.string ⟨str.toArray⟩)).run P w=(Conv.stringToBytes e ⟨str.toArray⟩).run P w:=by
      simp only[convert,Sem.run_bind,run_underlying ZJ w,run_underlying DW w,Result.andThen_ok,run_underlying he w]
     have rY:(((⟨str.toArray⟩:ByteArray).data.map fun b=>(Value.int .u8 b.toNat))++Array.replicate (cap -str.length) (.int .u8 0))=(vs++rest).toArray:=by apply Fh;simp[vs,rest]
     have hsb:(Conv.stringToBytes e ⟨str.toArray⟩).run P w=.ok (.slice (some ⟨w.heap.size,0,none⟩) str.length cap) w':=by simp only[Conv.stringToBytes,lF,Sem.run_bind,yA,Result.andThen_ok,rY];simp only[newRow,newObj,markStringish,shape,freeze,Sem.run_bind,Sem.run,Result.andThen_ok,World.shape?,Array.getElem?_push_size,World.freeze,Nat.one_ne_zero,Ca,Sem.run_pure];rw[Wp];simp only[Gq,Ap,hvl,Tq];have :str.length+(cap -str.length)=cap:=A0;simp[this,w']
     simp[execOp,ho,eA,aYx,hsb]
   have :=VR.bC (G:=G') (w:=w') (eV+2) 1 (Sz str) w.heap.size 0 cap (fun j=>vs.getD j undef) Uv (fun j hj=>⟨(r3 j hj).1,(r3 j hj).2.1,by
    rw[zQ] at hj ⊢;simp at hj;simp only[getD_eq,Ci,Ac hj,Cf,Bl]
    rfl⟩) (fun j hj=>(r3 j hj).2.2) ⟨by omega,⟨_,hl,rfl,by simp only[bHr,hlen];omega,rfl,by simp only[Tq,hlen,Dc]⟩⟩
   rw[hlen] at this;exact this
 cases h
theorem aDh{src dst e:TypeId}{x:Operand}{x':Arg}(ho:o.op=.convert src dst x)(hx:bJ g x=some x')(ZJ:P.underlying src=some .string)(DW:P.underlying dst=some (.slice e))
 (he:P.underlying e=some (.int .u8)):cN P g o (.CJ x'):=
 (Ry ho hx ZJ DW he).op fun _ _=>rfl
theorem WR.DM{G:Gh}{H H':aA}{w w':World}(h:WR g G H w)(eV:Nat)(o:eY)(x:Go.Obj)(ho:o.cV=true)(hid:G.loc eV=none)(cS:∀m,H'.get m=if m=eV then some o else H.get m)(BK:H.next<=H'.next)(GG:eV<H'.next)
 (p:iB w w' x) (Tp:(∀a u,VR G w a u->VR G w' a u)->KU g G w' ⟨w.heap.size,0,0,1⟩ o):Made g G H w eV o (G.dW eV ⟨w.heap.size,0,0,1⟩) H' w':=by
 have hp:=h.GQ p;have he:=Ext.GQ h p
 refine⟨hp.HY eV _ _ hid cS BK GG (fun id l' hl hv=>.inl (Ne.symm (Nat.ne_of_lt (h.nF hl hv)))) (fun j _ hi=>?_) (fun DT aDk wX=>by rw[wX] at ho;cases ho) (fun hh=>?_) (fun _=>?_),
  ⟨⟨w.heap.size,0,0,1⟩,rfl,by simp only[Gh.dW,if_true],fun id cG=>by simp only[Gh.dW];rw[if_neg cG]⟩,fun {G0 H0 w0} e0 KM=>(e0.trans he).HY eV _ _ hid cS BK KM (.inl e0.size),fun b o hi=>.inl hi,fun b o hi=>hi,p.size,p.Uw⟩
 . obtain⟨v,hv⟩:=h.iF _ _ hi;have :=rB hv;simp at this
 . rcases hh with ⟨_,_,hh⟩|hh<;>rw[hh] at ho<;>cases ho
 exact⟨rfl,rfl,Tp fun a u hv=>hv.mono he.loc he.gM⟩
theorem WR.rq{G:Gh}{H H':aA}{w w':World}(h:WR g G H w)(eV:Nat)(hid:G.loc eV=none)(cS:∀m,H'.get m=if m=eV then some (.map []) else H.get m)(BK:H.next<=H'.next)(GG:eV<H'.next)
 (p:iB w w' (.map #[] 0)):Made g G H w eV (.map []) (G.dW eV ⟨w.heap.size,0,0,1⟩) H' w':=
 h.DM eV _ _ rfl hid cS BK GG p fun _=>⟨#[],0,p.new,rfl,⟨fun i hi=>absurd hi (Ar i),fun i j hi=>absurd hi (Ar i)⟩,fun j hj=>absurd hj (Ar j)⟩
theorem LR{t:TypeId}{r:Option Operand}{kt vt:TypeId}(ho:o.op=.makeMap t r)(ht:P.underlying t=some (.map kt vt))(hr:r=none\/∃k n,r=some (.const (.int k n))):EG P g o .zT:=by
 intro s a G H H' w ob val eV hw hs h hid cS BK dT;simp only[yH,Ab,Af] at h;obtain⟨rfl,rfl⟩:=h;have hp:iB w {w with heap:=w.heap.push (.map #[] 0)} (.map #[] 0):=⟨rfl,.now⟩;have hm:=hw.rq eV hid cS BK dT hp;refine⟨.map (some w.heap.size),_,_,?_,hm,?_⟩
 . rcases hr with rfl|⟨k,n,rfl⟩
   . simp[execOp,ho,Instr.makeMap,newObj,Sem.run]
   simp[execOp,ho,Instr.makeMap,run_underlying ht w,Act.eval,asInt,asIntOf,newObj,Sem.run]
 exact VR.map eV ⟨w.heap.size,0,0,1⟩ (by simp only[Gh.dW,if_true])
theorem Wh{t:TypeId}{r:Option Operand}{kt vt:TypeId}(ho:o.op=.makeMap t r)(ht:P.underlying t=some (.map kt vt))(hr:r=none\/∃k n,r=some (.const (.int k n))):cN P g o .zT:=
 (LR ho ht hr).op fun _ _=>rfl
def JD(P:Program)(t:TypeId):Option Sk:=
 match P.underlying t with
 |some .bool=>some .b
 |some (.int _)=>some .i
 |some .string=>some .s
 |some (.struct _)|some (.array _ _)=>(oM P 60 t).map .f
 |_=>none
def Nq:Sk->Bool
 |.f _=>false
 |_=>true
theorem NC{G:Gh}{w:World}{kt:TypeId}{k:Sk}{d:TypeDesc}(hk:JD P kt=some k)(hp:Nq k=true)(hd:P.underlying kt=some d){x y:AV}{u v:Value}{b:Bool}(h:sameKey k x y=some b)(hx:VR G w x u)(hy:VR G w y v):
 Instr.sameNow d u v=some b:=by
 unfold JD at hk;rw[hd] at hk
 cases x<;>cases y<;>simp only[sameKey] at h<;>first
  |(cases h;done)
  |skip
 . cases k<;>simp only[] at h<;>first|(cases h;done)|skip
   obtain rfl:=Aa h;rw[hx.jR,hy.jR];cases d<;>simp at hk<;>rfl
 . cases k<;>simp only[] at h<;>first|(cases h;done)|skip
   split at h
   . rename_i vr;obtain rfl:=Aa h;subst vr;rw[hx.iK,hy.iK];cases d<;>simp at hk<;>simp[Instr.sameNow]
   cases h
 . cases k<;>simp only[] at h<;>first|(cases h;done)|skip
   obtain rfl:=Aa h;rw[hx.iM,hy.iM];cases d<;>simp at hk;simp only[Instr.sameNow,Ab];rw[beq_toListBytes,ByteArray.toList_mk,ByteArray.toList_mk]
 cases k<;>simp only[] at h<;>first|(cases h;done)|(cases hp;done)
theorem yY{α:Type}(P:Program)(w:World)(f:α->PUnit->Sem (ForInStep PUnit)):∀(l:List α),(∀x∈l,∀r,(f x r).run P w=.ok (.yield PUnit.unit) w)->(forIn l PUnit.unit f:Sem PUnit).run P w=.ok PUnit.unit w
 |[],_=>by simp
 |x::l,h=>by simp only[List.forIn_cons,Sem.run_bind,h x A2,Result.andThen_ok];exact yY P w f l fun y hy=>h y (by simp[hy])
theorem GW{P:Program}(w:World)(em:Bool):∀(f:Nat) (t:TypeId) (ks:List Sk),oM P f t=some ks->∀(d:Nat) (b:Bool) (us:List Value),fS P t=some b->us.length=ks.length->
 (Instr.checkKey em (d+f) t (valOf b us)).run P w=.ok () w:=by
 intro f
 induction f with
 |zero=>intro t ks h;cases h
 |succ f ih=>
  intro t ks h d b us hb hl;rw[show d+(f+1)=(d+f)+1 from rfl,Instr.checkKey];simp only[oM] at h;split at h
  . rename_i hu;exact ZaJ
  . rename_i hu;exact ZaJ
  . rename_i hu;exact ZaJ
  . rename_i fs hu;split at h
    . cases h
    have vo:b=true:=(by simp only[fS,hu,Ab] at hb;exact hb.symm);subst vo;simp only[valOf,if_true,Sem.run_bind,run_underlying hu w,Result.andThen_ok]
    have key:∀(l:List Field) (off:Nat) (pr:List Sk),DR P (oM P f) off l=some pr->off+pr.length<=us.length->
     ∀x∈l,(if x.name≠ "_" then(do Instr.checkKey em (d+f) x.type (←part x.type us.toArray x.offset)) else pure ():Sem Unit).run P w=.ok () w:=by
     intro l
     induction l with
     |nil=>intro off pr _ _ x hx;cases hx
     |cons fd l ihl=>
      intro off pr hs hi x hx;simp only[DR] at hs;split at hs
      . rename_i hc;split at hs
        . rename_i k hk;split at hs
          . rename_i lF;simp only[Ae] at hs;obtain⟨ks2,hs2,rfl⟩:=hs;simp only[Ap] at hi
            rcases Am.1 hx with rfl|hx
            . obtain⟨bf,Tl,Tm⟩:=zA hk;have p1:=mV lF Tl w (us:=us) (off:=x.offset) A0 Tm;simp only[ne_eq,if_pos hc.1,Sem.run_bind,p1,Result.andThen_ok];exact ih x.type k hk d bf _ Tl Zaf
            exact ihl (off+k.length) ks2 hs2 A0 x hx
          cases hs
        cases hs
      cases hs
    have h1:=key fs.toList 0 ks h A0
    rw[<-Array.forIn_toList,yY P w _ fs.toList (fun x hx r=>by
     have :=h1 x hx;split at this
     . rename_i hn;rw[if_pos hn];simp only[Sem.run_bind] at this ⊢;generalize (part x.type us.toArray x.offset).run P w=rr at this ⊢
       cases rr with
       |ok p w1=>simp only[Result.andThen_ok] at this ⊢;rw[this];simp
       |halt q w1=>cases this
     rename_i hn;rw[if_neg hn]
     simp)]
    simp
  . rename_i n e hu;have vo:b=true:=by simp only[fS,hu,Ab] at hb;exact hb.symm
    subst vo;split at h
    . rename_i k hk;split at h
      . rename_i lF;obtain rfl:=Aa h;obtain⟨bf,Tl,Tm⟩:=zA hk;simp only[valOf,if_true,Sem.run_bind,run_underlying hu w,Result.andThen_ok];have hlk:((List.replicate n k).flatten).length=n*k.length:=A2;rw[hlk] at hl;simp only[Std.Legacy.Range.forIn_eq_forIn_range',Std.Legacy.Range.size,Is,Nat.add_one_sub_one,Im]
        rw[yY P w _ (List.range' 0 n) (fun i hi r=>by
         have pB:i<n:=by have :=List.mem_range'_1.1 hi;omega
         have iE:i*k.length+k.length<=us.length:=by rw[hl,<-Fc];exact Bq _ pB
         have p1:=mV lF Tl w (us:=us) (off:=i*k.length) iE Tm
         simp only[Sem.run_bind,eE lF w,Result.andThen_ok,p1,ih e k hk d bf _ Tl (show((us.drop (i*k.length)).take k.length).length=k.length by simp;omega),Sem.run_pure])]
        simp
      cases h
    cases h
  cases h
theorem ZN{kt:TypeId}{sh:List Sk}(hk:JD P kt=some (.f sh)):oM P 60 kt=some sh/\fS P kt=some true/\∃d,P.underlying kt=some d/\(∀u v,Instr.sameNow d u v=none):=by
 unfold JD at hk
 split at hk<;>rename_i hu<;>first
  |(cases hk;done)
  |(simp only[Ae,Sk.f.injEq] at hk
    obtain⟨_,h1,rfl⟩:=hk;refine⟨h1,by simp[fS,hu],_,hu,fun u v=>?_⟩
    cases u<;>cases v<;>rfl)
theorem run_checkKey{G:Gh}{kt:TypeId}{k:Sk}(hk:JD P kt=some k)(b:Bool)(d:Nat){x:AV}{u:Value}{w:World}(hx:VR G w x u)(NO:PN k x=true):
 (Instr.checkKey b (d+60) kt u).run P w=.ok () w:=by
 by_cases hp:Nq k=true
 . have rF:=hk;unfold JD at hk;rw[show d+60=(d+59)+1 from rfl,Instr.checkKey]
   split at hk<;>rename_i hu<;>first
    |(cases hk;done)
    |(simp only[Ae] at hk;obtain⟨_,_,rfl⟩:=hk;cases hp;done)
    |(simp only[Sem.run_bind,run_underlying hu w,Result.andThen_ok]
      rfl)
 cases k with
 |f sh=>
  obtain⟨h1,h2,_⟩:=ZN hk
  cases x<;>simp only[PN] at NO<;>first|(cases NO;done)|skip
  rename_i xs;obtain⟨us,e1,l1,_,_⟩:=hx.uN;subst e1;have :=GW w b 60 kt sh h1 d true us h2 (by rw[l1];exact Ed NO);simpa [valOf] using this
 |_=>exact absurd rfl hp
theorem Ma{G:Gh}{w:World}{kt:TypeId}{k:Sk}{d:TypeDesc}(hk:JD P kt=some k)(hp:Nq k=true)(hd:P.underlying kt=some d){x:AV}{u:Value}(hx:VR G w x u):
 ∀(es:List (AV×AV)) (ents:List MapEntry) (i:Nat) (r:Option (Nat×AV)),mI k x es i=some r->ents.length=es.length->
  (∀j,j<es.length->VR G w (es.getD j (aB,aB)).1 (ents.getD j default).key/\VR G w (es.getD j (aB,aB)).2 (ents.getD j default).val)->
  ∃r',Instr.findNow d u ents i=some r'/\((r=none/\r'=none)\/∃j av vv,r=some (j,av)/\r'=some (j,vv)/\VR G w av vv/\i<=j/\j<i+es.length/\sameKey k x (es.getD (j -i) (aB,aB)).1=some true)
 |[],[],i,r,h,hl,hv=>by obtain rfl:=Aa h;exact⟨none,rfl,.inl ⟨rfl,rfl⟩⟩
 |[],_::_,i,r,h,hl,hv=>by simp at hl
 |(y,z)::es,[],i,r,h,hl,hv=>by simp at hl
 |(y,z)::es,e::ents,i,r,h,hl,hv=>by
  have h0:=hv 0 A2;simp only[Dk] at h0;simp only[mI] at h;split at h
  . rename_i hs;obtain rfl:=Aa h;have hn:=NC hk hp hd hs hx h0.1;refine⟨some (i,e.val),by simp[Instr.findNow,hn],.inr ⟨i,z,e.val,rfl,rfl,h0.2,Ag _,by simp,by simpa using hs⟩⟩
  . rename_i hs;have hn:=NC hk hp hd hs hx h0.1
    obtain⟨r',h1,h2⟩:=Ma hk hp hd hx es ents (i+1) r h (by simpa using hl) (fun j hj=>by
     have :=hv (j+1) Zas
     simpa using this)
    refine⟨r',by simp only[Instr.findNow,hn];exact h1,?_⟩
    exact ZaM
  cases h
theorem MZ{G:Gh}{w:World}{kt:TypeId}{sh:List Sk}(hk:JD P kt=some (.f sh)){x:AV}{u:Value}(hx:VR G w x u):
 ∀(es:List (AV×AV)) (ents:List MapEntry) (i:Nat) (r:Option (Nat×AV)),mI (.f sh) x es i=some r->ents.length=es.length->
  (∀j,j<es.length->VR G w (es.getD j (aB,aB)).1 (ents.getD j default).key/\VR G w (es.getD j (aB,aB)).2 (ents.getD j default).val)->
  ∃r',(Instr.findAsking kt u ents i).run P w=.ok r' w/\((r=none/\r'=none)\/∃j av vv,r=some (j,av)/\r'=some (j,vv)/\VR G w av vv/\i<=j/\j<i+es.length/\sameKey (.f sh) x (es.getD (j -i) (aB,aB)).1=some true)
 |[],[],i,r,h,hl,hv=>by obtain rfl:=Aa h;exact⟨none,by simp[Instr.findAsking],.inl ⟨rfl,rfl⟩⟩
 |[],_::_,i,r,h,hl,hv=>by simp at hl
 |(y,z)::es,[],i,r,h,hl,hv=>by simp at hl
 |(y,z)::es,e::ents,i,r,h,hl,hv=>by
  obtain⟨h1,h2,_⟩:=ZN hk;have h0:=hv 0 A2;simp only[Dk] at h0;simp only[mI] at h
  have heq:∀b,sameKey (.f sh) x y=some b->(Op.equal kt u e.key).run P w=.ok b w:=by
   intro b hs
   cases x<;>cases y<;>simp only[sameKey] at hs<;>first|(cases hs;done)|skip
   rename_i xs ys;obtain⟨us,e1,l1,_,v1⟩:=hx.uN;obtain⟨vs,e2,l2,_,v2⟩:=h0.1.uN;rw[e1,e2];have :=Vk 60 kt sh h1 true h2 (10000 -60) G w xs ys us vs b hs ⟨l1,v1⟩ ⟨l2,v2⟩;have h3:(Op.equalIn 10000 kt (.agg us.toArray) (.agg vs.toArray)).run P w=.ok b w:=(by simpa [valOf] using this);exact h3
  split at h
  . rename_i hs;obtain rfl:=Aa h;refine⟨some (i,e.val),by simp[Instr.findAsking,heq _ hs],.inr ⟨i,z,e.val,rfl,rfl,h0.2,Ag _,by simp,by simpa using hs⟩⟩
  . rename_i hs
    obtain⟨r',h1,h2⟩:=MZ hk hx es ents (i+1) r h (by simpa using hl) (fun j hj=>by
     have :=hv (j+1) Zas
     simpa using this)
    refine⟨r',by simp[Instr.findAsking,heq _ hs];exact h1,?_⟩
    exact ZaM
  cases h
theorem run_findKey{G:Gh}{w:World}{kt:TypeId}{k:Sk}(hk:JD P kt=some k){x:AV}{u:Value}(hx:VR G w x u){es:List (AV×AV)}{ents:Array MapEntry}{r:Option (Nat×AV)}(h:mI k x es 0=some r)(hl:ents.size=es.length)
 (hv:∀j,j<es.length->VR G w (es.getD j (aB,aB)).1 (ents.getD j default).key/\VR G w (es.getD j (aB,aB)).2 (ents.getD j default).val):
 ∃r',(Instr.findKey kt u ents.toList).run P w=.ok r' w/\((r=none/\r'=none)\/∃j av vv,r=some (j,av)/\r'=some (j,vv)/\VR G w av vv/\j<es.length/\sameKey k x (es.getD j (aB,aB)).1=some true):=by
 have lB:∀j,j<es.length->VR G w (es.getD j (aB,aB)).1 (ents.toList.getD j default).key/\VR G w (es.getD j (aB,aB)).2 (ents.toList.getD j default).val:=fun j hj=>by
  have :=hv j hj
  have e:ents.toList.getD j default=ents.getD j default:=by simp[List.getD,Bs]
  rw[e];exact this
 have fin:∀{r':Option (Nat×Value)},((r=none/\r'=none)\/∃j av vv,r=some (j,av)/\r'=some (j,vv)/\VR G w av vv/\0<=j/\j<0+es.length/\sameKey k x (es.getD (j -0) (aB,aB)).1=some true)->
  ((r=none/\r'=none)\/∃j av vv,r=some (j,av)/\r'=some (j,vv)/\VR G w av vv/\j<es.length/\sameKey k x (es.getD j (aB,aB)).1=some true):=by
  intro r' h2
  rcases h2 with h2|⟨j,av,vv,a1,a2,a3,a4,a5,a6⟩
  . exact .inl h2
  exact .inr ⟨j,av,vv,a1,a2,a3,by omega,by simpa using a6⟩
 by_cases hp:Nq k=true
 . obtain⟨d,hd⟩:∃d,P.underlying kt=some d:=by
    unfold JD at hk
    split at hk<;>rename_i hu<;>first|(cases hk;done)|exact⟨_,hu⟩
   obtain⟨r',h1,h2⟩:=Ma hk hp hd hx es ents.toList 0 r h (by simpa using hl) lB;refine⟨r',?_,fin h2⟩;simp only[Instr.findKey,Sem.run_bind,run_underlying hd w,Result.andThen_ok,h1];rfl
 cases k with
 |f sh=>
  obtain⟨_,_,d,hd,hn⟩:=ZN hk;obtain⟨r',h1,h2⟩:=MZ hk hx es ents.toList 0 r h (by simpa using hl) lB;refine⟨r',?_,fin h2⟩;simp only[Instr.findKey,Sem.run_bind,run_underlying hd w,Result.andThen_ok]
  cases Xl:ents.toList with
  |nil=>rw[Xl] at h1;simp only[Instr.findAsking,Sem.run_pure,Result.ok.injEq,Ki] at h1;subst h1;simp[Instr.findNow]
  |cons e l=>rw[Xl] at h1;simp only[Instr.findNow,hn];exact h1
 |_=>exact absurd rfl hp
theorem run_getObj_map{w:World}{r:Nat}{ents:Array MapEntry}{clock:Nat}(h:w.heap[r]?=some (.map ents clock)):(getObj r).run P w=.ok (.map ents clock) w:=by simp[getObj,Sem.run,h]
theorem qu{t kt vt:TypeId}{k:Sk}{zv:Value}{z:AV}{ok:Bool}{x i:Operand}{x' i':Arg}(ho:o.op=.lookup t x i ok)(hx:bJ g x=some x')(hi:bJ g i=some i')(ht:P.underlying t=some (.map kt vt))
 (hk:JD P kt=some k) (hz:lX P vt=some zv) (hzc:ofConst zv=some z):cN P g o (.lookup k z ok x' i'):=by
 intro s a G H w v H' hw hs h;have vx:=bG hw hs hx;have vi:=bG hw hs hi;have hzero:=lL hz w;have fx:=GO hzc G w
 have two:∀{p q:AV} {u1 u2:Value},VR G w p u1->VR G w q u2->VR G w (.jZ [p,q]) (.tuple #[u1,u2]):=fun h1 h2=>.jZ [_,_] [_,_] rfl (h1.cons (h2.cons (gW.nil G w))).2
 simp only[dE] at h;split at h
 . rename_i Us;have aTo:∀b,(Instr.checkKey b 10000 kt (a.eval i)).run P w=.ok () w:=fun b=>run_checkKey hk b 9940 vi Us;split at h
   . rename_i hid;rw[hid] at vx;generalize eA:a.eval x=u at vx;cases vx;simp only[Ab,Af] at h;obtain⟨rfl,rfl⟩:=h
     have vp:(Instr.findKey kt (a.eval i) []).run P w=.ok none w:=by
      obtain⟨r',h1,h2⟩:=run_findKey (P:=P) hk vi (es:=[]) (ents:= #[]) (r:=none) rfl rfl (fun j hj=>absurd hj (Ar j))
      rcases h2 with ⟨_,rfl⟩|⟨j,av,vv,hh,_⟩
      . exact h1
      cases hh
     refine cN.pure' hw (u:=if ok then .tuple #[zv,.bool false] else zv) ?_ (by cases ok<;>simp <;>first|exact fx|exact two fx (.bool false));simp only[execOp,ho,eA,Instr.lookup,Sem.run_bind,run_underlying ht w,Result.andThen_ok,Sem.run_pure,aTo,vp,hzero]
   . rename_i id hid;rw[hid] at vx;generalize eA:a.eval x=u at vx
     cases vx with
     |map _ l hl=>
      split at h
      . rename_i es hg;obtain⟨_,_,ents,clock,m1,m2,mb,m3⟩:=hw.iG id l _ hl hg rfl;have hgo:=run_getObj_map (P:=P) m1;split at h
        . rename_i j av hf;simp only[Ab,Af] at h;obtain⟨rfl,rfl⟩:=h;obtain⟨r',h1,h2⟩:=run_findKey (P:=P) hk vi hf m2 m3
          rcases h2 with ⟨hh,_⟩|⟨j',av',vv,e1,e2,e3,_⟩
          . cases hh
          cases e1;subst e2;refine cN.pure' hw (u:=if ok then .tuple #[vv,.bool true] else vv) ?_ (by cases ok<;>simp <;>first|exact e3|exact two e3 (.bool true));simp only[execOp,ho,eA,Instr.lookup,Sem.run_bind,run_underlying ht w,Result.andThen_ok,hgo,Sem.run_pure,aTo,h1]
        . rename_i hf;simp only[Ab,Af] at h;obtain⟨rfl,rfl⟩:=h;obtain⟨r',h1,h2⟩:=run_findKey (P:=P) hk vi hf m2 m3
          rcases h2 with ⟨_,e2⟩|⟨j',av',vv,e1,_⟩
          . subst e2;refine cN.pure' hw (u:=if ok then .tuple #[zv,.bool false] else zv) ?_ (by cases ok<;>simp <;>first|exact fx|exact two fx (.bool false));simp only[execOp,ho,eA,Instr.lookup,Sem.run_bind,run_underlying ht w,Result.andThen_ok,hgo,Sem.run_pure,aTo,h1,hzero]
          cases e1
        cases h
      cases h
   cases h
 cases h
theorem WR.GX{G:Gh}{H:aA}{w w':World}(h:WR g G H w){id:Nat}{l:Loc}{o o':eY}{x:Go.Obj}(hl:G.loc id=some l)(hg:H.get id=some o)(ho:o.cV=true)(ZF:o'.cV=true)
 (lT:w'.heap=w.heap.setIfInBounds l.cV x) (wZ:AK w w') (Tp:(∀a u,VR G w a u->VR G w' a u)->w'.heap[l.cV]?=some x->KU g G w' l o'):
 WR g G (H.set id o') w'/\Ext G H w G (H.set id o') w':=by
 have lS:H.live id:=⟨_,hg,PS ho⟩;obtain⟨m1,m2,m3⟩:=h.iG id l _ hl hg ho;have dT:=m3.lt ho
 have GH:∀b,b≠l.cV->w'.heap[b]?=w.heap[b]?:=fun b hb=>by rw[lT,Array.getElem?_setIfInBounds_ne];exact Ne.symm hb
 have xA:w'.heap[l.cV]?=some x:=by rw[lT];simp[dT]
 have oI:∀b o,G.gM b o->b≠l.cV:=fun b o hi hb=>by obtain⟨v,hv⟩:=h.iF b o hi;obtain⟨c,el,fz,hc,_⟩:=AP hv;rw[hb] at hc;exact m3.BU ho hc
 have hic:∀b o,G.gM b o->w'.cell? ⟨b,o,none⟩=w.cell? ⟨b,o,none⟩:=fun b o hi=>fQ (GH b (oI b o hi));have zS:∀{a u},VR G w a u->VR G w' a u:=fun hv=>hv.mono (fun _ _ h=>h) (fun b o hi=>⟨hi,hic b o hi⟩)
 have cG:∀{i l'},i≠id->G.loc i=some l'->H.live i->l'.cV≠l.cV:=fun {i l'} hi BI uB hb=>by
  obtain⟨ob,Tp,hov⟩:=uB
  cases ob with
  |cells cs eB=>obtain⟨c,el,fz,hc,_⟩:=h.room i l' BI (.inl ⟨cs,eB,Tp⟩);rw[hb] at hc;exact m3.BU ho hc
  |tok=>obtain⟨c,el,fz,hc,_⟩:=h.room i l' BI (.inr Tp);rw[hb] at hc;exact m3.BU ho hc
  |dead=>cases hov
  |_=>
   obtain⟨n1,n2,_⟩:=h.iG i l' _ BI Tp rfl
   rcases h.lD i id l' l hi BI hl ⟨_,Tp,rfl⟩ lS with hd|hd|hd
   . exact hd hb
   . omega
   omega
 have cS:∀{m},m≠id->(H.set id o').get m=H.get m:=fun hm=>by rw[aA.aC,if_neg hm]
 have aUa:(H.set id o').get id=some o':=by rw[aA.aC,if_pos rfl]
 have qA:∀{m},(H.set id o').live m->H.live m:=fun {m} hv=>by
  rcases aA.lG.1 hv with ⟨rfl,_⟩|⟨_,hv⟩
  . exact lS
  exact hv
 refine⟨{
  cells:=fun i l' cs eB h1 h2=>by
   have hi:i≠id:=fun e=>by rw[e,aUa] at h2;cases h2;cases ZF
   rw[cS hi] at h2;obtain⟨a1,a2,a3,a4,a5⟩:=h.cells i l' cs eB h1 h2;refine⟨a1,a2,a3,a4,fun j hj=>?_⟩;obtain⟨u,hu,NP⟩:=a5 j hj;exact⟨u,by rw[fQ (GH _ (cG hi h1 ⟨_,h2,rfl⟩))];exact hu,zS NP⟩
  room:=fun i l' h1 h2=>by
   have hi:i≠id:=fun e=>by rw[e,aUa] at h2;rcases h2 with ⟨_,_,h2⟩|h2<;>cases h2<;>cases ZF
   rw[cS hi] at h2;obtain⟨c,el,fz,a1,a2,a3⟩:=h.room i l' h1 h2;have hb:=cG hi h1 (by rcases h2 with ⟨cs,eB,h2⟩|h2<;>exact⟨_,h2,rfl⟩);exact⟨c,el,fz,by rw[GH _ hb];exact a1,a2,fun j hj=>by rw[lJ (GH _ hb)];exact a3 j hj⟩
  lD:=fun i i' l1 l2 hn h1 h2 uB qK=>h.lD i i' l1 l2 hn h1 h2 (qA uB) (qA qK)
  jV:=fun i l' h1 uB=>h.jV i l' h1 (qA uB)
  iG:=fun i l' ob h1 h2 hk=>by
   by_cases hi:i=id
   . subst hi;obtain rfl:=Aa (h1.symm.trans hl);rw[aUa] at h2;cases h2;exact⟨m1,m2,Tp (fun _ _=>zS) xA⟩
   rw[cS hi] at h2;obtain⟨a1,a2,a3⟩:=h.iG i l' ob h1 h2 hk;exact⟨a1,a2,a3.mono (GH _ (cG hi h1 ⟨_,h2,PS hk⟩)) fun _ _=>zS⟩
  lt:=h.lt
  iF:=fun b o hi=>by rw[hic b o hi];exact h.iF b o hi
  iW:=fun n cs hn=>zS (h.iW n cs hn)
  DH:=fun n cs hn h0=>let⟨c,el,fz,a1,a2⟩:=h.DH n cs hn h0;⟨c,el,fz,by rw[GH n (fun e=>m3.BU ho (e▸a1))];exact a1,a2⟩
  mo:=h.mo},?_⟩
 have e0:=Ext.refl G H w
 exact {
  loc:=fun _ _ h=>h
  gM:=fun b o hi=>⟨hi,hic b o hi⟩
  size:=by rw[lT];simp
  frame:=fun b hb hn=>GH b (fun e=>hn id l hl lS e.symm)
  lY:=fun i l' h1 uB=>.inr ⟨i,l',h1,qA uB,rfl⟩
  oZ:=fun _ _ h=>.inl h
  next:=Ag _
  news:=fun _ _ h h'=>by rw[h] at h';cases h'
  dead:=fun _ _ _ hv=>qA hv
  mo:=rfl
  same:=wZ.toB _}
theorem WR.aEn{G:Gh}{H:aA}{w w':World}(h:WR g G H w){id:Nat}{l:Loc}{es es':List (AV×AV)}{ents ents':Array MapEntry}{clock clock':Nat}(hl:G.loc id=some l)(hg:H.get id=some (.map es))
 (hm:w.heap[l.cV]?=some (.map ents clock)) (lT:w'.heap=w.heap.setIfInBounds l.cV (.map ents' clock')) (wZ:AK w w') (nB:ents'.size=es'.length) (hbn:VB ents' clock')
 (hv:∀j,j<es'.length->VR G w (es'.getD j (aB,aB)).1 (ents'.getD j default).key/\VR G w (es'.getD j (aB,aB)).2 (ents'.getD j default).val):
 WR g G (H.set id (.map es')) w'/\Ext G H w G (H.set id (.map es')) w':=
 h.GX hl hg rfl rfl lT wZ fun zS xA=>⟨ents',clock',xA,nB,hbn,fun j hj=>⟨zS _ _ (hv j hj).1,zS _ _ (hv j hj).2⟩⟩
theorem wS(ents:Array MapEntry)(i:Nat)(f:MapEntry->MapEntry)(j:Nat)(hj:j<ents.size):(ents.modify i f).getD j default=if i=j then f (ents.getD j default) else ents.getD j default:=by
 simp only[Bs,Hu];split
 . simp[hj]
 rfl
theorem VB.modify{ents:Array MapEntry}{clock:Nat}(h:VB ents clock)(i:Nat)(f:MapEntry->MapEntry)(hf:∀e,(f e).born=e.born):VB (ents.modify i f) clock:=by
 have hb:∀j,j<ents.size->((ents.modify i f).getD j default).born=(ents.getD j default).born:=fun j hj=>by
  rw[wS _ _ _ _ hj];split
  . rw[hf]
  rfl
 refine⟨fun j hj=>?_,fun j k hj hk he=>?_⟩
 . rw[Array.size_modify] at hj;rw[hb j hj];exact h.1 j hj
 rw[Array.size_modify] at hj hk;rw[hb j hj,hb k hk] at he;exact h.2 j k hj hk he
theorem VB.push{ents:Array MapEntry}{clock:Nat}(h:VB ents clock)(e:MapEntry)(he:e.born=clock):VB (ents.push e) (clock+1):=by
 have hb:∀j,j<(ents.push e).size->((ents.push e).getD j default).born=if j<ents.size then(ents.getD j default).born else clock:=fun j hj=>by
  rw[Array.size_push] at hj;simp only[Bs,Lj];by_cases h1:j<ents.size
  . rw[if_neg A0,if_pos h1]
  rw[if_pos A0,if_neg h1];exact he
 refine⟨fun j hj=>?_,fun j k hj hk ZC=>?_⟩
 . rw[hb j hj];by_cases h1:j<ents.size
   . rw[if_pos h1];have :=h.1 j h1;omega
   rw[if_neg h1];omega
 rw[hb j hj,hb k hk] at ZC;rw[Array.size_push] at hj hk;by_cases h1:j<ents.size<;>by_cases h2:k<ents.size
 . rw[if_pos h1,if_pos h2] at ZC;exact h.2 j k h1 h2 ZC
 . rw[if_pos h1,if_neg h2] at ZC;have :=h.1 j h1;omega
 . rw[if_neg h1,if_pos h2] at ZC;have :=h.1 k h2;omega
 omega
theorem MW{G:Gh}{w:World}(d:Nat):∀(sh:List Sk) (xs ys:List AV) (us vs:List Value),cT sh xs ys=some true->gW G w xs us->gW G w ys vs->
 us.length=vs.length/\(vs.zip us).all (fun p=>Instr.sameBits d p.1 p.2)=true
 |[],xs,ys,us,vs,h,hx,hy=>by
  cases xs<;>cases ys<;>simp only[cT] at h<;>first|(cases h;done)|skip
  have h1:=hx.1;have h2:=hy.1;simp only[Bw,Ip] at h1 h2;subst h1 h2;simp
 |k::sh,xs,ys,us,vs,h,hx,hy=>by
  cases xs with
  |nil=>cases k<;>simp[cT] at h
  |cons x xs=>
   cases ys with
   |nil=>cases k<;>cases x<;>simp[cT] at h
   |cons y ys=>
    have h1:=hx.1;have h2:=hy.1
    cases us with
    |nil=>simp at h1
    |cons u us=>
     cases vs with
     |nil=>simp at h2
     |cons v vs=>
      have hxu:=hx.2 0 A2;have hyv:=hy.2 0 A2;simp only[Dk] at hxu hyv;have tx:gW G w xs us:=⟨by simpa using h1,fun j hj=>by have :=hx.2 (j+1) Zas;simpa using this⟩;have ty:gW G w ys vs:=⟨by simpa using h2,fun j hj=>by have :=hy.2 (j+1) Zas;simpa using this⟩
      have fin:∀{b:Bool},(cT sh xs ys).map (b&& ·)=some true->(b=true->Instr.sameBits d v u=true)->(u::us).length=(v::vs).length/\((v::vs).zip (u::us)).all (fun p=>Instr.sameBits d p.1 p.2)=true:=by intro b hm hb;simp only[Ae,Ak] at hm;obtain⟨r,hr,zY,rfl⟩:=hm;obtain⟨g1,g2⟩:=MW d sh xs ys us vs hr tx ty;refine⟨by simp[g1],?_⟩;simp only[List.zip_cons_cons,Ll,hb zY,Ct];exact g2
      cases k<;>cases x<;>cases y<;>simp only[cT] at h<;>first|(cases h;done)|skip
      . refine fin h fun hb=>?_;simp only[Dh] at hb;subst hb;rw[hxu.jR,hyv.jR];cases d<;>simp[Instr.sameBits]
      . split at h
        . rename_i ZC;refine fin h fun hb=>?_;simp only[Dh] at hb;subst hb ZC;rw[hxu.iK,hyv.iK];cases d<;>simp[Instr.sameBits]
        cases h
      refine fin h fun hb=>?_;simp only[Dh] at hb;subst hb;rw[hxu.iM,hyv.iM];cases d<;>simp only[Instr.sameBits]<;>rw[beq_toListBytes]<;>simp
theorem Ua{G:Gh}{w:World}{k:Sk}{x y:AV}{u v:Value}(d:Nat)(h:sameKey k x y=some true)(hx:VR G w x u)(hy:VR G w y v):Instr.sameBits (d+1) v u=true:=by
 cases x<;>cases y<;>simp only[sameKey] at h<;>first
  |(cases h;done)
  |skip
 . cases k<;>simp only[] at h<;>first|(cases h;done)|skip
   simp at h;subst h;rw[hx.jR,hy.jR];simp[Instr.sameBits]
 . cases k<;>simp only[] at h<;>first|(cases h;done)|skip
   split at h
   . rename_i hc;simp at h;subst hc;subst h;rw[hx.iK,hy.iK];simp[Instr.sameBits]
   cases h
 . cases k<;>simp only[] at h<;>first|(cases h;done)|skip
   simp at h;subst h;rw[hx.iM,hy.iM];simp only[Instr.sameBits];rw[beq_toListBytes];simp
 cases k<;>simp only[] at h<;>first|(cases h;done)|skip
 rename_i xs ys sh;obtain⟨us,e1,l1,_,v1⟩:=hx.uN;obtain⟨vs,e2,l2,_,v2⟩:=hy.uN;obtain⟨g1,g2⟩:=MW d sh xs ys us vs h ⟨l1,v1⟩ ⟨l2,v2⟩;rw[e1,e2];simp only[Instr.sameBits,Gq,g1,Iy,Ct];exact g2
theorem Wg{t kt vt:TypeId}{k:Sk}{x i y:Operand}{x' i' y':Arg}(ho:o.op=.mapUpdate t x i y\/o.op=.insert t x i y)(hx:bJ g x=some x')(hi:bJ g i=some i')(hy:bJ g y=some y')
 (ht:P.underlying t=some (.map kt vt)) (hk:JD P kt=some k):cN P g o (.PX k x' i' y'):=by
 intro s a G H w v H' hw hs h;have vx:=bG hw hs hx;have vi:=bG hw hs hi;have vy:=bG hw hs hy;have bHe:PN k (Arg.eval g s i')=true->(Instr.checkKey false 10000 kt (a.eval i)).run P w=.ok () w:=fun Us=>run_checkKey hk false 9940 vi Us;simp only[dE] at h;split at h
 . rename_i Us;have hck:=bHe Us;split at h
   . rename_i id hid;rw[hid] at vx;generalize eA:a.eval x=u at vx
     cases vx with
     |map _ l hl=>
      split at h
      . rename_i es hg;obtain⟨_,_,ents,clock,m1,m2,mb,m3⟩:=hw.iG id l _ hl hg rfl;have hgo:=run_getObj_map (P:=P) m1
        have iX:∀{w':World},(Instr.mapUpdate t (.map (some l.cV)) (a.eval i) (a.eval y)).run P w=.ok () w'->(execOp a.eval o).run P w=.ok .skip w':=fun hr=>by rcases ho with ho|ho<;>simp[execOp,ho,eA,hr]
        have EA:∀(en:Array MapEntry) (cl:Nat),(setObj l.cV (.map en cl)).run P w=.ok () {w with heap:=w.heap.setIfInBounds l.cV (.map en cl)}:=fun en cl=>by simp[setObj,Sem.run,m1]
        split at h
        . rename_i j av hf;simp only[Ab,Af] at h;obtain⟨rfl,rfl⟩:=h;obtain⟨r',h1,h2⟩:=run_findKey (P:=P) hk vi hf m2 m3
          rcases h2 with ⟨hh,_⟩|⟨j',av',vv,e1,e2,e3,e4,e5⟩
          . cases hh
          cases e1;subst e2;have hsb:=Ua 9999 e5 vi (m3 j e4).1
          obtain⟨r1,r2⟩:=hw.aEn (es':=es.set j (Arg.eval g s i',Arg.eval g s y')) (ents':=ents.modify j fun e=>{e with key:=a.eval i,val:=a.eval y}) (clock':=clock) (w':={w with heap:=w.heap.setIfInBounds l.cV (.map (ents.modify j fun e=>{e with key:=a.eval i,val:=a.eval y}) clock)}) hl hg m1 rfl .now (by simp[m2]) (mb.modify _ _ fun _=>rfl) (fun q hq=>by
           simp only[Ii] at hq;rw[wS _ _ _ _ A0,getD_eq,Hw];by_cases hjq:j=q
           . rw[if_pos hjq,if_pos hjq];subst hjq;rw[if_pos e4];exact⟨vi,vy⟩
           rw[if_neg hjq,if_neg hjq]
           exact m3 q hq)
          refine⟨.skip,undef,_,G,iX ?_,.inr ⟨rfl,rfl⟩,r1,r2,VR.nL G _⟩
          have Ov:((ents[j]?).map (·.key)).getD (a.eval i)=(ents.getD j default).key:=by have hjs:j<ents.size:=A0;simp[Array.getD,hjs]
          simp only[Instr.mapUpdate,Sem.run_bind,run_underlying ht w,Result.andThen_ok,hgo,hck,h1,Instr.keyThatStays,Ov,hsb,if_true,Sem.run_pure,EA]
        . rename_i hf;simp only[Ab,Af] at h;obtain⟨rfl,rfl⟩:=h;obtain⟨r',h1,h2⟩:=run_findKey (P:=P) hk vi hf m2 m3
          rcases h2 with ⟨_,e2⟩|⟨j',av',vv,e1,_⟩
          . subst e2
            obtain⟨r1,r2⟩:=hw.aEn (es':=es++[(Arg.eval g s i',Arg.eval g s y')]) (ents':=ents.push {key:=a.eval i,val:=a.eval y,born:=clock}) (clock':=clock+1) (w':={w with heap:=w.heap.setIfInBounds l.cV (.map (ents.push {key:=a.eval i,val:=a.eval y,born:=clock}) (clock+1))}) hl hg m1 rfl .now (by simp[m2]) (mb.push _ rfl) (fun q hq=>by
             simp only[Ap,As,Bw] at hq;rw[getD_eq,Dl,Bs,Lj];by_cases hjq:q<es.length
             . rw[if_pos hjq,if_neg A0];have :=m3 q hjq
               rwa [Bs] at this
             rw[if_neg hjq,if_pos A0];have hq0:q -es.length=0:=A0;rw[hq0]
             exact⟨vi,vy⟩)
            refine⟨.skip,undef,_,G,iX ?_,.inr ⟨rfl,rfl⟩,r1,r2,VR.nL G _⟩;simp only[Instr.mapUpdate,Sem.run_bind,run_underlying ht w,Result.andThen_ok,hgo,hck,h1,EA]
          cases e1
        cases h
      cases h
   cases h
 cases h
end
end
end Go.Av
