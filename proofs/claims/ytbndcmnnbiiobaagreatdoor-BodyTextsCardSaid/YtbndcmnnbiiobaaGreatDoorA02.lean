/-
  Part of the proof of statement 5
-/
import Derived.Test.YtbndcmnnbiiobaaGreatDoorA01
import Derived.Laws.StructEq
import Derived.ChangeKeysEq
import Derived.Laws.BytesArg
set_option linter.unusedVariables false
set_option linter.unusedSimpArgs false
namespace Go.Av
open Go
section
def DU (P:Program) (sh:TypeId->Option (List Sk)):Nat->List Field->Option (List Sk)
 |_,[]=>some []
 |off,f::fs=>
  if f.name≠ "_" /\f.offset=off then
   match sh f.type with
   |some k=>if jV P f.type=some k.length then(DU P sh (off+k.length) fs).map (k++ ·) else none
   |none=>none
  else none
def oG (P:Program):Nat->TypeId->Option (List Sk)
 |0,_=>none
 |d+1,t=>
  match P.underlying t with
  |some .bool=>some [.b]
  |some (.int _)=>some [.i]
  |some .string=>some [.s]
  |some (.struct fs)=>if P.stoodInHeld t then none else DU P (oG P d) 0 fs.toList
  |some (.array n e)=>
   match oG P d e with
   |some k=>if jV P e=some k.length then some (List.replicate n k).flatten else none
   |none=>none
  |_=>none
theorem vX:∀(k1 k2:List Sk) (xs ys:List AV) (r:Bool),cP (k1++k2) xs ys=some r->
 ∃r1 r2,cP k1 (xs.take k1.length) (ys.take k1.length)=some r1/\cP k2 (xs.drop k1.length) (ys.drop k1.length)=some r2/\r=(r1&&r2)
 |[],k2,xs,ys,r,h=>⟨true,r,rfl,by simpa using h,by simp⟩
 |k::k1,k2,xs,ys,r,h=>by
  have step:∀{x y:AV} {xs' ys':List AV} {c:Bool},xs=x::xs'->ys=y::ys'->(cP (k1++k2) xs' ys').map (c&& ·)=some r->
   (∀l m,cP (k::k1) (x::l) (y::m)=(cP k1 l m).map (c&& ·))->
   ∃r1 r2,cP (k::k1) (xs.take (k::k1).length) (ys.take (k::k1).length)=some r1/\cP k2 (xs.drop (k::k1).length) (ys.drop (k::k1).length)=some r2/\r=(r1&&r2):=by
   intro x y xs' ys' c hx hy hm hc;simp only[Ag] at hm;obtain⟨r',hr',rfl⟩:=hm;obtain⟨r1,r2,h1,h2,h3⟩:=vX k1 k2 xs' ys' r' hr';subst hx hy;refine⟨c&&r1,r2,?_,by simpa using h2,by rw[h3,Bool.and_assoc]⟩;simp only[Ah,Dn];rw[hc,h1];rfl
  cases k<;>cases xs with
  |nil=>simp[cP] at h
  |cons x xs'=>
   cases ys with
   |nil=>cases x<;>simp[cP] at h
   |cons y ys'=>
    cases x<;>cases y<;>simp only[Ei,cP] at h<;>first
     |(cases h;done)
     |exact step rfl rfl h (fun l m=>rfl)
     |(split at h
       · rename_i hjk;subst hjk;exact step rfl rfl h (fun l m=>by simp[cP])
       cases h)
def valOf (agg:Bool) (us:List Value):Value:=if agg then .agg us.toArray else us.getD 0 undef
theorem mN {P:Program} {t:TypeId} {n:Nat} {b:Bool} (hn:jV P t=some n) (hb:fG P t=some b) (w:World) {us:List Value} {off:Nat} (gD:off+n<=us.length) (DJ:b=false->n=1):
 (part t us.toArray off).run P w=.ok (valOf b ((us.drop off).take n)) w:=by
 cases b with
 |true=>simp only[part,Sem.run_bind,rC hb w,Result.andThen_ok,if_true,eG hn w,Sem.run_pure,valOf];congr 2;apply Fq;simp[Ii]
 |false=>have :=DJ rfl;simp only[part,Sem.run_bind,rC hb w,Result.andThen_ok,Bj,Cm,Fc,qS us undef off (by omega),valOf];rw[eM _ _ _ _ _ (by omega)];rfl
theorem gI.take_drop {G:Gh} {w:World} {xs:List AV} {us:List Value} (h:gI G w xs us) (off n:Nat) (gD:off+n<=xs.length):gI G w ((xs.drop off).take n) ((us.drop off).take n):=by have hl:=h.1;refine⟨by simp;omega,fun j hj=>?_⟩;simp at hj;rw[eM _ _ _ _ _ (by omega),eM _ _ _ _ _ (by omega)];exact h.2 _ (by omega)
theorem EO:∀{ks:List Sk} {xs ys:List AV} {r:Bool},cP ks xs ys=some r->xs.length=ks.length/\ys.length=ks.length
 |[],[],[],_,_=>⟨rfl,rfl⟩
 |[],_::_,ys,r,h=>by cases ys<;>simp[cP] at h
 |[],[],_::_,r,h=>by simp[cP] at h
 |k::ks,[],ys,r,h=>by cases k<;>simp[cP] at h
 |k::ks,x::xs,[],r,h=>by cases k<;>cases x<;>simp[cP] at h
 |k::ks,x::xs,y::ys,r,h=>by
  have :∃r',cP ks xs ys=some r':=by
   cases k<;>cases x<;>cases y<;>simp only[cP] at h<;>first
    |(cases h;done)
    |(simp only[Ag] at h;obtain⟨r',h,_⟩:=h;exact⟨r',h⟩)
    |(split at h
      · simp only[Ag] at h;obtain⟨r',h,_⟩:=h;exact⟨r',h⟩
      cases h)
  obtain⟨r',h'⟩:=this;have :=EO h';simp[this.1,this.2]
theorem zS {P:Program} {d:Nat} {t:TypeId} {ks:List Sk} (h:oG P d t=some ks):∃b,fG P t=some b/\(b=false->ks.length=1):=by
 cases d with
 |zero=>cases h
 |succ d=>
  simp only[oG] at h;unfold fG
  split at h<;>rename_i hu<;>first
   |(cases h;done)
   |(obtain rfl:=Aa h;exact⟨false,by rw[hu],fun _=>rfl⟩)
   |exact⟨true,by rw[hu],fun hf=>by cases hf⟩
theorem Qx {P:Program} {e:TypeId} {n:Nat} (h:jV P e=some n):P.cellsOf e=n/\∃i,P.info? e=some i:=by simp only[jV,Ag] at h;obtain⟨i,hi,rfl⟩:=h;exact⟨by simp[Program.cellsOf,hi],i,hi⟩
theorem WJ {P:Program}:∀(f:Nat) (t:TypeId) (ks:List Sk),oG P f t=some ks->∀(b:Bool),fG P t=some b->∀(d:Nat) (G:Gh) (w:World) (xs ys:List AV) (us vs:List Value) (r:Bool),
 cP ks xs ys=some r->gI G w xs us->gI G w ys vs->(Op.equalIn (d+f) t (valOf b us) (valOf b vs)).run P w=.ok r w:=by
 intro f
 induction f with
 |zero=>intro t ks h;cases h
 |succ f ih=>
  intro t ks h b hb d G w xs ys us vs r hr hx hy;have hlen:=EO hr
  have scalar:∀{k:Sk},ks=[k]->∃x y,xs=[x]/\ys=[y]/\VR G w x (us.getD 0 undef)/\VR G w y (vs.getD 0 undef):=fun {k} hk=>by
   subst hk
   match xs,ys,hlen with
   |[x],[y],_=>exact⟨x,y,rfl,rfl,by simpa using hx.2 0 (by simp),by simpa using hy.2 0 (by simp)⟩
  rw[show d+(f+1)=(d+f)+1 from rfl];simp only[oG] at h;split at h
  · rename_i hu;obtain rfl:=Aa h;have Tq:b=false:=by simp only[fG,hu,Ac] at hb;exact hb.symm
    subst Tq;obtain⟨x,y,rfl,rfl,h1,h2⟩:=scalar rfl;simp only[valOf,Bj,Cm]
    cases x<;>cases y<;>simp only[cP] at hr<;>first|(cases hr;done)|skip
    rename_i p q;rw[h1.jJ,h2.jJ,IH _ hu w];simp at hr;rw[<-hr]
  · rename_i k hu;obtain rfl:=Aa h;have Tq:b=false:=by simp only[fG,hu,Ac] at hb;exact hb.symm
    subst Tq;obtain⟨x,y,rfl,rfl,h1,h2⟩:=scalar rfl;simp only[valOf,Bj,Cm]
    cases x<;>cases y<;>simp only[cP] at hr<;>first|(cases hr;done)|skip
    rename_i j p j' q;split at hr
    · rename_i hj;subst hj;rw[h1.fV,h2.fV,run_equalIn_int w _ t j k p q hu];simp at hr;rw[<-hr]
    cases hr
  · rename_i hu;obtain rfl:=Aa h;have Tq:b=false:=by simp only[fG,hu,Ac] at hb;exact hb.symm
    subst Tq;obtain⟨x,y,rfl,rfl,h1,h2⟩:=scalar rfl;simp only[valOf,Bj,Cm]
    cases x<;>cases y<;>simp only[cP] at hr<;>first|(cases hr;done)|skip
    rename_i p q;rw[h1.fB,h2.fB,run_equalIn_string w _ t _ _ hu,ByteArray.toList_mk,ByteArray.toList_mk];simp at hr;rw[<-hr]
  · rename_i fs hu;split at h
    · cases h
    rename_i HJ;have Ma:b=true:=(by simp only[fG,hu,Ac] at hb;exact hb.symm);subst Ma;simp only[valOf,if_true];have hfo:P.fieldsOf t=fs:=(by simp[Program.fieldsOf,hu]);rw[run_equalIn_struct w _ t _ _ (by rw[hfo];exact hu) (by simpa using HJ),hfo];have hux:=hx.1;have huy:=hy.1
    have key:∀(l:List Field) (off:Nat) (qi:List Sk),DU P (oG P f) off l=some qi->off+qi.length<=xs.length->off+qi.length<=ys.length->∀r,cP qi ((xs.drop off).take qi.length) ((ys.drop off).take qi.length)=some r->
     (Op.eqFields (d+f) us.toArray vs.toArray l).run P w=.ok r w:=by
     intro l
     induction l with
     |nil=>intro off qi hs _ _ r hr;obtain rfl:=Aa hs;simp[cP] at hr;subst hr;simp[Op.eqFields]
     |cons fd l ihl=>
      intro off qi hs VJ o9 r hr;simp only[DU] at hs;split at hs
      · rename_i hc;obtain⟨wb,AB⟩:=hc;split at hs
        · rename_i k hk;split at hs
          · rename_i jA;simp only[Ag] at hs;obtain⟨ks2,hs2,rfl⟩:=hs;simp only[An] at VJ o9 hr;obtain⟨r1,r2,e1,e2,rfl⟩:=vX _ _ _ _ _ hr;obtain⟨bf,Tq,Ts⟩:=zS hk
            have t1:∀(z:List AV),off+(k.length+ks2.length)<=z.length->List.take k.length (List.take (k.length+ks2.length) (z.drop off))=(z.drop off).take k.length:=fun z hz=>by rw[List.take_take];congr 1;omega
            have t2:∀(z:List AV),off+(k.length+ks2.length)<=z.length->List.drop k.length (List.take (k.length+ks2.length) (z.drop off))=(z.drop (off+k.length)).take ks2.length:=fun z hz=>by rw[List.drop_take,Ix];congr 1;omega
            rw[t1 _ VJ,t1 _ o9] at e1;rw[t2 _ VJ,t2 _ o9] at e2;have p1:=mN jA Tq w (us:=us) (off:=fd.offset) (by omega) Ts;have p2:=mN jA Tq w (us:=vs) (off:=fd.offset) (by omega) Ts;have p3:=ih fd.type k hk bf Tq d G w _ _ _ _ r1 e1 (hx.take_drop off k.length (by omega)) (hy.take_drop off k.length (by omega));rw[<-AB] at p3;simp only[Op.eqFields,if_pos wb,Sem.run_bind,p1,p2,p3,Result.andThen_ok]
            cases r1 with
            |false=>simp
            |true=>simp only[Hq,Bj,Cm,Cq];exact ihl (off+k.length) ks2 hs2 (by omega) (by omega) r2 e2
          cases hs
        cases hs
      cases hs
    have :=key fs.toList 0 ks h (by omega) (by omega) r (by
     simp only[Cy];rw[Bk (by omega),Bk (by omega)]
     exact hr)
    exact this
  · rename_i n e hu;have Ma:b=true:=by simp only[fG,hu,Ac] at hb;exact hb.symm
    subst Ma;simp only[valOf,if_true];split at h
    · rename_i k hk;split at h
      · rename_i jA;obtain rfl:=Aa h;obtain⟨iB,i,hi⟩:=Qx jA;rw[run_equalIn_array w (d+f) _ _ hu hi,iB];obtain⟨bf,Tq,Ts⟩:=zS hk;have hux:=hx.1;have huy:=hy.1;have hlk:∀m,((List.replicate m k).flatten).length=m*k.length:=fun m=>by simp
        have key:∀(m j:Nat),(j+m)*k.length<=xs.length->(j+m)*k.length<=ys.length->∀r,cP (List.replicate m k).flatten ((xs.drop (j*k.length)).take (m*k.length)) ((ys.drop (j*k.length)).take (m*k.length))=some r->
         (Op.eqItems (d+f) e k.length us.toArray vs.toArray (List.range' j m)).run P w=.ok r w:=by
         intro m
         induction m with
         |zero=>intro j _ _ r hr;simp[cP] at hr;subst hr;simp[Op.eqItems]
         |succ m ihm=>
          intro j VJ o9 r hr;have hm1:(m+1)*k.length=k.length+m*k.length:=(by rw[Fg];omega);have EE:(j+(m+1))*k.length=j*k.length+(k.length+m*k.length):=(by rw[Ce,hm1]);have EF:(j+1)*k.length=j*k.length+k.length:=(by rw[Fg]);rw[EE] at VJ o9;rw[hm1] at hr;rw[Dv,Bp] at hr;obtain⟨r1,r2,e1,e2,rfl⟩:=vX _ _ _ _ _ hr
          have t1:∀(z:List AV),List.take k.length (List.take (k.length+m*k.length) (z.drop (j*k.length)))=(z.drop (j*k.length)).take k.length:=fun z=>by rw[List.take_take];congr 1;omega
          have t2:∀(z:List AV),List.drop k.length (List.take (k.length+m*k.length) (z.drop (j*k.length)))=(z.drop ((j+1)*k.length)).take (m*k.length):=fun z=>by rw[List.drop_take,Ix,EF];congr 1;omega
          rw[t1,t1] at e1;rw[t2,t2] at e2;have p1:=mN jA Tq w (us:=us) (off:=j*k.length) (by omega) Ts;have p2:=mN jA Tq w (us:=vs) (off:=j*k.length) (by omega) Ts;have p3:=ih e k hk bf Tq d G w _ _ _ _ r1 e1 (hx.take_drop (j*k.length) k.length (by omega)) (hy.take_drop (j*k.length) k.length (by omega));simp only[List.range'_succ,Op.eqItems,Sem.run_bind,p1,p2,p3,Result.andThen_ok]
          cases r1 with
          |false=>simp
          |true=>simp only[Hq,Bj,Cm,Cq];have hj3:(j+1+m)*k.length=j*k.length+(k.length+m*k.length):=(by rw[Ce,EF];omega);exact ihm (j+1) (by rw[hj3];exact VJ) (by rw[hj3];exact o9) r2 e2
        have :=key n 0 (by rw[Df];rw[hlk] at hlen;omega) (by rw[Df];rw[hlk] at hlen;omega) r (by
         rw[hlk] at hlen;simp only[Ic,Cy];rw[Bk (by omega),Bk (by omega)]
         exact hr)
        rw[Kv];exact this
      cases h
    cases h
  cases h
section
variable {P:Program} {g:bB} {o:Oper}
theorem aUm {op:BinOp} {neg:Bool} {t t2:TypeId} {f:Nat} {ks:List Sk} {x y:Operand} {x' y':Arg} (ho:o.op=.binOp op t x y t2) (fF:op=if neg then .neq else .eql) (hf:f<=9999)
 (hk:oG P f t=some ks) (hb:fG P t=some true) (hg:P.eqGuardType P.depth t=false) (hx:bE g x=some x') (hy:bE g y=some y'):cJ P g o (.eqf neg ks x' y'):=by
 intro s a G H w v H' hw hs h;have vx:=bD hw hs hx;have vy:=bD hw hs hy;simp only[dK] at h;split at h
 · rename_i xs ys h1 h2;rw[h1] at vx;rw[h2] at vy;obtain⟨us,e1,l1,_,v1⟩:=vx.vD;obtain⟨vs,e2,l2,_,v2⟩:=vy.vD;simp only[Ag,Aj] at h;obtain⟨r,hr,rfl,rfl⟩:=h;refine cJ.pure' hw (u:=.bool (if neg then !r else r)) ?_ (.bool _);have Mf:=run_eqGuard_agg (P:=P) w op t x y us.toArray vs.toArray hg;have heq:=WJ f t ks hk true hb (10000 -f) G w xs ys us vs r hr ⟨l1,v1⟩ ⟨l2,v2⟩;rw[show 10000 -f+f=10000 by omega] at heq;simp only[valOf,if_true] at heq;have bEu:(Op.equal t (.agg us.toArray) (.agg vs.toArray)).run P w=.ok r w:=heq;subst fF;cases neg<;>simp only[Bj,Cm,if_true] at ho Mf<;>simp[execOp,ho,e1,e2,Mf,Go.binOp,bEu]
 cases h
def nkP (P:Program) (t:TypeId):Option Nk:=
 match P.underlying t with
 |some (.pointer _)=>some .ptr
 |some (.interface _)=>some .ifc
 |some (.slice _)=>some .sli
 |some (.map _ _)=>some .mp
 |some (.func _ _ _)=>some .fn
 |_=>none
def BT:Value->Bool
 |.pointer none|.nilIface|.slice none _ _|.map none|.nilFunc=>true
 |_=>false
theorem Wp {G:Gh} {w:World} {k:Nk} {a:AV} {u:Value} {b:Bool} (h:BS k a=some b) (hv:VR G w a u):BT u=b:=by
 cases hv<;>simp only[BS] at h<;>first
  |(cases h;done)
  |(split at h
    · obtain rfl:=Aa h;rfl
    cases h)
def ZI:Nk->Value->Prop
 |.ptr,.pointer _=>True
 |.ifc,.nilIface|.ifc,.iface _ _=>True
 |.sli,.slice _ _ _=>True
 |.mp,.map _=>True
 |.fn,.nilFunc|.fn,.func _ _ _=>True
 |_,_=>False
theorem Mn {G:Gh} {w:World} {k:Nk} {a:AV} {u:Value} {b:Bool} (h:BS k a=some b) (hv:VR G w a u):ZI k u:=by
 cases hv<;>simp only[BS] at h<;>first
  |(cases h;done)
  |(split at h
    · rename_i hk;subst hk;trivial
    cases h)
theorem NU (d:Nat) {t:TypeId} {k:Nk} (hk:nkP P t=some k) (w:World) {u v:Value} (hu:ZI k u) (hv:ZI k v) (h:(BT u||BT v)=true):
 (Op.equalIn (d+1) t u v).run P w=.ok (BT u&&BT v) w:=by
 unfold nkP at hk;rw[Op.equalIn]
 split at hk<;>rename_i PE<;>first
  |(cases hk;done)
  |(obtain rfl:=Aa hk
    simp only[Sem.run_bind,run_underlying PE w,Result.andThen_ok]
    cases u<;>first|exact hu.elim|skip
    all_goals (cases v<;>first|exact hv.elim|skip)
    all_goals first
     |rfl
     |(rename_i p q;cases p<;>cases q<;>first|rfl|(simp[BT] at h;done))
     |(rename_i p _ _ q _ _;cases p<;>cases q<;>first|rfl|(simp[BT] at h;done))
     |(simp[BT] at h;done))
theorem aUn {op:BinOp} {neg:Bool} {t t2:TypeId} {k:Nk} {lit:Bool} {x y:Operand} {x' y':Arg} (ho:o.op=.binOp op t x y t2) (fF:op=if neg then .neq else .eql)
 (hk:nkP P t=some k) (aBh:lit=true->(∃c,x=.const c)\/∃c,y=.const c) (hx:bE g x=some x') (hy:bE g y=some y'):cJ P g o (.eqn neg k lit x' y'):=by
 intro s a G H w v H' hw hs h;have vx:=bD hw hs hx;have vy:=bD hw hs hy;simp only[dK] at h;split at h
 · rename_i p q h1 h2;have f1:=Mn h1 vx;have f2:=Mn h2 vy;have n1:=Wp h1 vx;have n2:=Wp h2 vy;split at h
   · rename_i hc;simp only[Ac,Aj] at h;obtain⟨rfl,rfl⟩:=h;simp only[Am] at hc;obtain⟨wb,AB⟩:=hc;refine cJ.pure' hw (u:=.bool (if neg then !(p&&q) else(p&&q))) ?_ (.bool _);generalize e1:a.eval x=u1 at *;generalize e2:a.eval y=u2 at *
     have heq:(Op.equal t u1 u2).run P w=.ok (p&&q) w:=by have :=NU (P:=P) 9999 hk w f1 f2 (by rw[n1,n2];exact wb);rw[n1,n2] at this;exact this
     have Mf:(eqGuard op t x y u1 u2).run P w=.ok () w:=by
      unfold eqGuard;by_cases aKz:u1=.nilIface/\u2=.nilIface
      · obtain⟨rfl,rfl⟩:=aKz
        have ZS:k=.ifc:=(by cases k<;>first|rfl|exact f1.elim);have hp:p=true:=n1.symm;have hq:q=true:=n2.symm;subst ZS hp hq;simp at AB
        rcases aBh AB with ⟨c,rfl⟩|⟨c,rfl⟩
        · cases op<;>simp
        cases op<;>simp
      cases u1<;>first
       |(cases k<;>exact f1.elim)
       |(cases op<;>rfl)
       |(cases u2<;>first|exact absurd ⟨rfl,rfl⟩ aKz|(cases op<;>rfl))
     have bEi:(Go.binOp op t u1 u2).run P w=.ok (.bool (if neg then !(p&&q) else(p&&q))) w:=by
      subst fF
      cases neg with
      |false=>
       simp only[Bj,Cm]
       cases u1<;>first
        |(cases k<;>exact f1.elim)
        |(cases u2<;>first
           |(cases k<;>first|exact f1.elim|exact f2.elim)
           |simp[Go.binOp,heq])
      |true=>
       simp only[if_true]
       cases u1<;>first
        |(cases k<;>exact f1.elim)
        |(cases u2<;>first
           |(cases k<;>first|exact f1.elim|exact f2.elim)
           |simp[Go.binOp,heq])
     simp only[execOp,ho,e1,e2,Sem.run_bind,Mf,bEi,Result.andThen_ok];rfl
   cases h
 cases h
end
end
section
theorem BJ (off:Nat):∀(l:List Value) (k:Nat) (cells:Array Value),
 ((l.zipIdx k).foldl (fun(cs:Array Value) (p:Value×Nat)=>cs.setIfInBounds (off+p.2) p.1) cells).size=cells.size/\
 ∀i,((l.zipIdx k).foldl (fun(cs:Array Value) (p:Value×Nat)=>cs.setIfInBounds (off+p.2) p.1) cells)[i]?=
  if off+k<=i/\i<off+k+l.length/\i<cells.size then l[i -(off+k)]? else cells[i]?
 |[],k,cells=>⟨rfl,fun i=>by
    rw[if_neg]
    · rfl
    simp only[Ay];omega⟩
 |v::r,k,cells=>by
  have ih:=BJ off r (k+1) (cells.setIfInBounds (off+k) v);simp only[List.zipIdx_cons,Jm];refine⟨by rw[ih.1];simp,fun i=>?_⟩;rw[ih.2 i];simp only[Ah,Array.size_setIfInBounds];by_cases h1:off+(k+1)<=i/\i<off+(k+1)+r.length/\i<cells.size
  · rw[if_pos h1,if_pos (by omega)];rw[show i -(off+k)=(i -(off+(k+1)))+1 by omega];simp
  rw[if_neg h1,Gb];by_cases h2:off+k=i
  · subst h2;by_cases h3:off+k<cells.size
    · simp[h3]
    rw[if_pos rfl,if_neg h3,if_neg (by omega),Ki (by omega)]
  have jA:(cells.setIfInBounds (off+k) v).size=cells.size:=by simp
  rw[if_neg h2,if_neg (by omega)]
theorem gR (a:Array Value) (j:Nat) (d:Value):a.toList.getD j d=(a[j]?).getD d:=by rw[getD_eq,Ko]
theorem SE (off:Nat) (arr cells:Array Value):
 (arr.zipIdx.foldl (fun(cs:Array Value) (p:Value×Nat)=>cs.setIfInBounds (off+p.2) p.1) cells).size=cells.size/\
 ∀i,(arr.zipIdx.foldl (fun(cs:Array Value) (p:Value×Nat)=>cs.setIfInBounds (off+p.2) p.1) cells)[i]?=
  if off<=i/\i<off+arr.size/\i<cells.size then arr[i -off]? else cells[i]?:=by
 have h:=BJ off arr.toList 0 cells;rw[<-Array.foldl_toList];simp only[Array.toList_zipIdx];simpa using h
theorem aAp {G:Gh} {w:World} {cs vs:List AV} {cells arr:Array Value} {off:Nat} (h:gI G w cs cells.toList) (hv:gI G w vs arr.toList) (gD:off+vs.length<=cs.length):
 gI G w (gO cs off vs) (arr.zipIdx.foldl (fun(cs:Array Value) (p:Value×Nat)=>cs.setIfInBounds (off+p.2) p.1) cells).toList:=by
 obtain⟨h1,h2⟩:=SE off arr cells;have l1:=h.1;have l2:=hv.1;simp only[Dh] at l1 l2;refine⟨by rw[rI _ _ _ gD,Dh,h1,l1],fun j hj=>?_⟩;rw[rI _ _ _ gD] at hj;rw[MY _ _ _ _ gD,gR,h2 j];by_cases hc:off<=j/\j<off+vs.length
 · rw[if_pos hc,if_pos (by omega)];have :=hv.2 (j -off) (by omega)
   rwa [gR] at this
 rw[if_neg hc,if_neg (by omega)];have :=h.2 j hj
 rwa [gR] at this
def wH (g:bB) (place:Nat->Option (Nat×Nat)):List (Nat×Operand)->Option (List (Nat×Nat×Arg))
 |[]=>some []
 |(i,x)::r=>match place i,bE g x,wH g place r with
  |some (off,n),some y,some ys=>some ((off,n,y)::ys)
  |_,_,_=>none
theorem Ol {g:bB} {G:Gh} {H:aA} {w:World} {s:List AV} {a:Act} (hw:WR g G H w) (hs:SR G w s a) {place place':Nat->Option (Nat×Nat)} (hp:∀i p,place i=some p->place' i=some p):
 ∀(parts:List (Nat×Operand)) (ps:List (Nat×Nat×Arg)) (cs CY:List AV) (cells:Array Value),wH g place parts=some ps->IK (Arg.eval g s) cs ps=some CY->gI G w cs cells.toList->(∀c∈cs,c.one=true)->
  ∃gX,Instr.fill place' cells (parts.map fun(i,x)=>(i,a.eval x))=some gX/\gI G w CY gX.toList/\∀c∈CY,c.one=true
 |[],ps,cs,CY,cells,h1,h2,hc,h3=>by obtain rfl:=Aa h1;obtain rfl:=Aa h2;exact⟨cells,rfl,hc,h3⟩
 |(i,x)::r,ps,cs,CY,cells,h1,h2,hc,h3=>by
  unfold wH at h1;split at h1
  · rename_i off n y ys nP hy Ml;obtain rfl:=Aa h1;simp only[IK] at h2;split at h2
    · rename_i eK;obtain⟨c1,c2,c3⟩:=eK;have vx:=(bD hw hs hy).cellsOf c3;have hlen:=hc.1;have pq:=vx.1.1;simp only[Dh] at hlen pq;have eF:=aAp hc vx.1 (by omega:off+_<=cs.length);obtain⟨gX,hf,hr⟩:=Ol hw hs hp r ys _ CY _ Ml h2 eF (fun c hc'=>(Pe hc').elim (h3 c) (vx.2 c));refine⟨gX,?_,hr⟩;simp only[By,Instr.fill,hp _ _ nP]
      have aRn:(decide ((a.eval x).cells.size≠n)||decide (off+(a.eval x).cells.size>cells.size))=false:=by simp;omega
      rw[aRn];exact hf
    cases h2
  cases h1
def JZ (P:Program):List Field->Option (List (Nat×Nat))
 |[]=>some []
 |f::r=>match jV P f.type,JZ P r with
  |some n,some l=>some ((f.offset,n)::l)
  |_,_=>none
theorem run_places {P:Program} (w:World):∀{fs:List Field} {l:List (Nat×Nat)},JZ P fs=some l->
 (fs.mapM (fun f=>do pure (f.offset,<-sizeOf f.type):Field->Sem (Nat×Nat))).run P w=.ok l w
 |[],l,h=>by obtain rfl:=Aa h;rfl
 |f::r,l,h=>by
  unfold JZ at h;split at h
  · rename_i n l' hn hl;obtain rfl:=Aa h;have ih:=run_places w hl;simp only[List.mapM_cons,Sem.run_bind,eG hn w,Result.andThen_ok,Sem.run_pure,ih]
  cases h
section
variable {P:Program} {g:bB} {o:Oper}
theorem NR {t:TypeId} {parts:Array (Nat×Operand)} {fs:Array Field} {l:List (Nat×Nat)} {z:Value} {zs:List AV} {ps:List (Nat×Nat×Arg)} (ho:o.op=.build t parts) (hu:P.underlying t=some (.struct fs))
 (hz:lN P t=some z) (DL:jC z.cells.toList=some zs) (hl:JZ P fs.toList=some l) (hp:wH g (l[·]?) parts.toList=some ps):cJ P g o (.build zs ps):=by
 intro s a G H w v H' hw hs h;simp only[dK,Ag,Aj] at h;obtain⟨cs,KT,rfl,rfl⟩:=h;have hc:=lV DL G w;obtain⟨gX,hf,hv,h1⟩:=Ol hw hs (place':=(l.toArray[·]?)) (fun i p hp=>by simpa using hp) parts.toList ps zs cs z.cells hp KT hc.1 hc.2;refine cJ.pure' hw (u:=.agg gX) ?_ (by simpa using VR.Yc hv h1);have nP:=run_places w hl;simp only[execOp,ho,Instr.build,Sem.run_bind,lH hz w,run_underlying hu w,Result.andThen_ok,Array.mapM_eq_mapM_toList,Sem.run_map,nP,Jf,hf];rfl
theorem Pm {t e:TypeId} {n sz:Nat} {parts:Array (Nat×Operand)} {z:Value} {zs:List AV} {ps:List (Nat×Nat×Arg)} (ho:o.op=.build t parts) (hu:P.underlying t=some (.array n e))
 (jA:jV P e=some sz) (hz:lN P t=some z) (DL:jC z.cells.toList=some zs) (hp:wH g (fun i=>some (i*sz,sz)) parts.toList=some ps):cJ P g o (.build zs ps):=by
 intro s a G H w v H' hw hs h;simp only[dK,Ag,Aj] at h;obtain⟨cs,KT,rfl,rfl⟩:=h;have hc:=lV DL G w;obtain⟨gX,hf,hv,h1⟩:=Ol hw hs (place':=fun i=>some (i*sz,sz)) (fun i p hp=>hp) parts.toList ps zs cs z.cells hp KT hc.1 hc.2;refine cJ.pure' hw (u:=.agg gX) ?_ (by simpa using VR.Yc hv h1);simp only[execOp,ho,Instr.build,Sem.run_bind,lH hz w,run_underlying hu w,Result.andThen_ok,eG jA w,Jf,hf];rfl
def JK (g:bB):Nat->List (Nat×Operand)->Option (List Arg)
 |_,[]=>some []
 |k,(i,x)::r=>if i=k then match bE g x,JK g (k+1) r with
  |some y,some ys=>some (y::ys)
  |_,_=>none
  else none
theorem Se {ev:Arg->AV} {sz:Nat}:∀{ys:List Arg} {els:List (List AV)},Lt ev sz ys=some els->∀e∈els,e.length=sz
 |[],els,h=>by obtain rfl:=Aa h;intro e he;cases he
 |y::ys,els,h=>by
  simp only[Lt] at h;split at h
  · rename_i hc;simp only[Ag] at h;obtain⟨BG,h',rfl⟩:=h;intro e he
    rcases Aq.1 he with rfl|he
    · exact hc.1
    exact Se h' e he
  cases h
theorem Oj {G:Gh} {H:aA} {w:World} {s:List AV} {a:Act} (hw:WR g G H w) (hs:SR G w s a) (sz:Nat):
 ∀(parts:List (Nat×Operand)) (ys:List Arg) (k:Nat) (els:List (List AV)) (pre:List AV) (cells:Array Value),JK g k parts=some ys->Lt (Arg.eval g s) sz ys=some els->
  pre.length=k*sz->cells.size=(k+parts.length)*sz->(∀j,j<k*sz->VR G w (pre.getD j aD) (cells.toList.getD j undef))->(∀c∈pre,c.one=true)->
  ∃gX,Instr.fill (fun i=>some (i*sz,sz)) cells (parts.map fun(i,x)=>(i,a.eval x))=some gX/\gI G w (pre++els.flatten) gX.toList/\∀c∈pre++els.flatten,c.one=true
 |[],ys,k,els,pre,cells,h1,h2,hp,hc,hv,h3=>by obtain rfl:=Aa h1;obtain rfl:=Aa h2;refine⟨cells,rfl,⟨by simp at hc ⊢;omega,fun j hj=>?_⟩,by simpa using h3⟩;simp only[List.flatten_nil,Bz] at hj ⊢;exact hv j (by omega)
 |(i,x)::r,ys,k,els,pre,cells,h1,h2,hp,hc,hv,h3=>by
  simp only[JK] at h1;split at h1
  · rename_i hi;subst hi;split at h1
    · rename_i y ys' hy Ml;obtain rfl:=Aa h1;simp only[Lt] at h2;split at h2
      · rename_i eK;simp only[Ag] at h2;obtain⟨BG,h2,rfl⟩:=h2;obtain⟨c1,c3⟩:=eK;have vx:=(bD hw hs hy).cellsOf c3;have pq:=vx.1.1;simp only[Dh] at pq;have hm:(i+(r.length+1))*sz=i*sz+sz+r.length*sz:=(by rw[Ce,Fg];omega);have hm1:(i+1)*sz=i*sz+sz:=Fg i sz;simp only[Ah] at hc;obtain⟨f1,f2⟩:=SE (i*sz) (a.eval x).cells cells
        obtain⟨gX,hf,hr,ho⟩:=Oj hw hs sz r ys' (i+1) BG (pre++(Arg.eval g s y).cells) ((a.eval x).cells.zipIdx.foldl (fun(cs:Array Value) (p:Value×Nat)=>cs.setIfInBounds (i*sz+p.2) p.1) cells) Ml h2
         (by simp[hp,c1,hm1]) (by rw[f1,hc];congr 1;omega) (fun j hj=>by
           rw[gR,f2 j,getD_eq,Dr];by_cases EE:j<pre.length
           · rw[if_pos EE,if_neg (by omega)];have :=hv j (by omega)
             rwa [getD_eq,gR] at this
           · rw[if_neg EE,if_pos (by omega)];have :=vx.1.2 (j -pre.length) (by omega);rw[getD_eq,gR] at this;rw[<-hp]
             exact this) (fun c hc=>by
           rcases As.1 hc with hc|hc
           · exact h3 c hc
           exact vx.2 c hc)
        refine⟨gX,?_,by simpa [Cw] using hr,by simpa [Cw] using ho⟩;simp only[By,Instr.fill]
        have aRn:(decide ((a.eval x).cells.size≠sz)||decide (i*sz+(a.eval x).cells.size>cells.size))=false:=by simp;omega
        rw[aRn];exact hf
      cases h2
    cases h1
  cases h1
theorem aCw {t e:TypeId} {sz len:Nat} {z:Value} {parts:Array (Nat×Operand)} {ys:List Arg} (ho:o.op=.buildSlice t len parts) (ht:oI P t=some (e,sz)) (hz:lN P e=some z)
 (hlen:len=parts.size) (yS:len*sz<=2^24) (hp:JK g 0 parts.toList=some ys):cJ P g o (.Pg sz ys):=by
 intro s a G H w v H' hw hs h;obtain⟨hu,jA⟩:=mH ht;simp only[dK,Ag,Aj] at h;obtain⟨els,tH,rfl,rfl⟩:=h;have PE:=Se tH
 have wO:els.length=parts.size:=by
  have k1:∀{l:List (Nat×Operand)} {k:Nat} {ys:List Arg},JK g k l=some ys->ys.length=l.length:=by
   intro l
   induction l with
   |nil=>intro k ys h;obtain rfl:=Aa h;rfl
   |cons p r ih=>
    intro k ys h;obtain⟨i,x⟩:=p;simp only[JK] at h;split at h
    · split at h
      · rename_i y ys' _ h';obtain rfl:=Aa h;simp[ih h']
      cases h
    cases h
  have k2:∀{ys:List Arg} {els:List (List AV)},Lt (Arg.eval g s) sz ys=some els->els.length=ys.length:=by
   intro ys
   induction ys with
   |nil=>intro els h;obtain rfl:=Aa h;rfl
   |cons y r ih=>
    intro els h;simp only[Lt] at h;split at h
    · simp only[Ag] at h;obtain⟨BG,h',rfl⟩:=h;simp[ih h']
    cases h
  rw[k2 tH,k1 hp];simp
 let zr:Array Value:=if len*sz=0 then #[] else z.cells
 obtain⟨gX,hf,hv,h1⟩:=Oj hw hs sz parts.toList ys 0 els [] ((Array.range (len*sz)).map (zr[· %zr.size]!)) hp tH (by simp) (by simp[hlen]) (fun j hj=>by simp at hj) (fun c hc=>by cases hc);simp only[Dk] at hv h1;have hp':gV w {w with heap:=w.heap.push (.cells gX e)} (.cells (gX.toList++[]).toArray e (0,0)):=⟨by simp,.now⟩;obtain⟨r1,r2,r3⟩:=hw.ju els.flatten gX.toList [] hv hp';refine⟨.value (.slice (some ⟨w.heap.size,0,none⟩) len len),_,_,_,?_,.inl rfl,r1,r2,?_⟩
 · have hb:¬len*sz>2^24:=by omega
   by_cases h0:len*sz=0
   · simp only[zr,if_pos h0] at hf;simp only[execOp,ho,Instr.buildSlice,Sem.run_bind,run_underlying hu w,eG jA w,Result.andThen_ok,if_neg hb,if_pos h0,Sem.run_pure,Jf,hf];rfl
   simp only[zr,if_neg h0] at hf;simp only[execOp,ho,Instr.buildSlice,Sem.run_bind,run_underlying hu w,eG jA w,Result.andThen_ok,if_neg hb,if_neg h0,lH hz w,Sem.run_pure,Jf,hf];rfl
 rw[hlen,<-wO];exact VR.aV 1 sz els w.heap.size 0 els.length (fun j=>gX.toList.getD j undef) PE (fun j hj=>⟨(r3 j hj).1,(r3 j hj).2.1,h1 _ (JO hj)⟩) (fun j hj=>(r3 j hj).2.2) ⟨Ak _,rfl⟩
def OV:Option Value->Option Nat->Prop
 |none,none=>True
 |some u,some m=>∃k,u=.int k (m:Int)
 |_,_=>False
theorem oT {G:Gh} {H:aA} {w:World} {s:List AV} {a:Act} (hw:WR g G H w) (hs:SR G w s a) {x:Option Operand} {y:Option Arg} {n:Option Nat} (hx:nB g x=some y)
 (hn:cZ (Arg.eval g s) y=some n):OV (x.map a.eval) n:=by
 cases x with
 |none=>obtain rfl:=Aa hx;obtain rfl:=Aa hn;trivial
 |some x=>simp only[nB,Ag] at hx;obtain⟨y',hy,rfl⟩:=hx;simp only[cZ,Ag] at hn;obtain⟨m,hm,rfl⟩:=hn;obtain⟨k,_,hk⟩:=uC hm (bD hw hs hy);exact⟨k,hk⟩
theorem run_sliceBound {k:IntKind} {m y:Nat} {c:BoundsCode} (h:m<=y) (w:World):(Instr.sliceBound (.int k (m:Int)) y c).run P w=.ok m w:=by
 have h0:(0:Int)<=(m:Int)/\(m:Int)<=(y:Int):=by omega
 simp only[Instr.sliceBound,asIntOf,Sem.run_bind,Sem.run_pure,Result.andThen_ok,if_pos h0,Int.toNat_natCast]
theorem sV {isS:Bool} {len cap:Nat} {low high max:Option Value} {lo hi mx:Option Nat} (h1:OV low lo) (h2:OV high hi) (h3:OV max mx) (h4:mx.isSome->hi.isSome)
 (hl:lo.getD 0<=hi.getD len) (hh:hi.isSome->hi.getD len<=mx.getD cap) (hm:mx.getD cap<=cap) (w:World):
 (Instr.sliceBounds isS len cap low high max).run P w=.ok (lo.getD 0,hi.getD len,mx.getD cap) w:=by
 cases max<;>cases mx<;>first|exact h3.elim|skip
 · cases high<;>cases hi<;>first|exact h2.elim|skip
   · cases low<;>cases lo<;>first|exact h1.elim|skip
     · simp[Instr.sliceBounds]
     obtain⟨k1,rfl⟩:=h1;simp only[Bc,Dg] at hl;simp[Instr.sliceBounds,run_sliceBound hl w]
   obtain⟨k2,rfl⟩:=h2;have hh:=hh rfl;simp only[Bc,Dg] at hh hl
   cases low<;>cases lo<;>first|exact h1.elim|skip
   · simp[Instr.sliceBounds,run_sliceBound hh w]
   obtain⟨k1,rfl⟩:=h1;simp only[Bc] at hl;simp[Instr.sliceBounds,run_sliceBound hl w,run_sliceBound hh w]
 obtain⟨k3,rfl⟩:=h3
 cases high<;>cases hi<;>first|exact h2.elim|skip
 · simp at h4
 obtain⟨k2,rfl⟩:=h2;have hh:=hh rfl;simp only[Bc] at hh hm hl
 cases low<;>cases lo<;>first|exact h1.elim|skip
 · simp[Instr.sliceBounds,run_sliceBound hh w,run_sliceBound hm w]
 obtain⟨k1,rfl⟩:=h1;simp only[Bc] at hl;simp[Instr.sliceBounds,run_sliceBound hl w,run_sliceBound hh w,run_sliceBound hm w]
theorem aCy {t:TypeId} {x:Operand} {lo hi:Option Operand} {x':Arg} {qk oY:Option Arg} (ho:o.op=.slice t x lo hi none) (hx:bE g x=some x') (AK:nB g lo=some qk)
 (o8:nB g hi=some oY) (ht:P.underlying t=some .string):cJ P g o (.QQ x' qk oY):=by
 intro s a G H w v H' hw hs h;have vx:=bD hw hs hx;simp only[dK] at h;split at h
 · rename_i str l r h1 h2 h3;rw[h1] at vx;have e1:=vx.fB;have o1:=oT hw hs AK h2;have o2:=oT hw hs o8 h3;split at h
   · rename_i hc;obtain⟨c1,c2⟩:=hc;simp only[Ac,Aj] at h;obtain⟨rfl,rfl⟩:=h;have jA:(⟨str.toArray⟩:ByteArray).size=str.length:=(by simp[ByteArray.size]);have hb:=sV (P:=P) (isS:=false) (len:=str.length) (cap:=str.length) (max:=none) (mx:=none) o1 o2 trivial (by simp) c1 (fun _=>by simpa using c2) (by simp) w;refine cJ.pure' hw (u:=.string ((⟨str.toArray⟩:ByteArray).extract (l.getD 0) (r.getD str.length))) ?_ ?_
     · simp only[execOp,ho,Instr.sliceAt,Sem.run_bind,run_underlying ht w,Result.andThen_ok,Instr.slice,e1,jA,Option.map_none,hb,Bu,Bj,Cm];rfl
     have :(⟨str.toArray⟩:ByteArray).extract (l.getD 0) (r.getD str.length)=⟨((str.drop (l.getD 0)).take (r.getD str.length -l.getD 0)).toArray⟩:=by apply ByteArray.ext;simp[ByteArray.data_extract,Ii]
     rw[this];exact VR.MF _ _ _
   cases h
 cases h
theorem Tm {els:List (List AV)} {sz:Nat} (hu:∀e∈els,e.length=sz) (l:Nat):(els.drop l).flatten=els.flatten.drop (l*sz):=by
 induction els generalizing l with
 |nil=>simp
 |cons e r ih=>
  cases l with
  |zero=>simp
  |succ l=>have he:e.length=sz:=hu e (by simp);rw[Gx,ih (fun e he=>hu e (by simp[he])),Bp,Fg,Hh,<-he,List.drop_length_add_append]
theorem Tn {els:List (List AV)} {sz:Nat} (hu:∀e∈els,e.length=sz) (l:Nat):(els.take l).flatten=els.flatten.take (l*sz):=by
 induction els generalizing l with
 |nil=>simp
 |cons e r ih=>
  cases l with
  |zero=>simp
  |succ l=>have he:e.length=sz:=hu e (by simp);rw[Dn,Bp,ih (fun e he=>hu e (by simp[he])),Bp,Fg,Hh,<-he,List.take_length_add_append]
theorem VR.Wx {G:Gh} {w:World} {sz:Nat} {els:List (List AV)} {b o':Nat} {us:Nat->Value} (hu:∀e∈els,e.length=sz)
 (h:∀j,j<els.flatten.length->G.gJ b (o'+j)/\w.cell? ⟨b,o'+j,none⟩=some (us j)/\(els.flatten.getD j aD).one=true)
 (hv:∀j,j<els.flatten.length->VR G w (els.flatten.getD j aD) (us j)) (l n:Nat) (hn:l+n<=els.length) {tag cap:Nat}
 (ht:aKn G tag b (o'+l*sz+n*sz) sz n cap):VR G w (.aV tag sz ((els.drop l).take n)) (.slice (some ⟨b,o'+l*sz,none⟩) n cap):=by
 have hu1:∀e∈els.drop l,e.length=sz:=fun e he=>hu e (Es he);have hu2:∀e∈(els.drop l).take n,e.length=sz:=fun e he=>hu1 e (Cx he);have tS:((els.drop l).take n).flatten=(els.flatten.drop (l*sz)).take (n*sz):=by rw[Tn hu1,Tm hu]
 have hlen:((els.drop l).take n).length=n:=by simp;omega
 have bGi:=length_flatten hu;have hb:l*sz+n*sz<=els.flatten.length:=by rw[bGi,<-Ce];exact Cj _ hn
 have :=VR.aV (G:=G) (w:=w) tag sz ((els.drop l).take n) b (o'+l*sz) cap (fun j=>us (l*sz+j)) hu2 (fun j hj=>by
  rw[tS] at hj ⊢;simp only[Cb,Dy] at hj;rw[eM _ _ _ _ _ (by omega),Bm]
  exact h _ (by omega)) (fun j hj=>by
  rw[tS] at hj ⊢;simp only[Cb,Dy] at hj;rw[eM _ _ _ _ _ (by omega)]
  exact hv _ (by omega)) (by rw[hlen];exact ht)
 rwa [hlen] at this
theorem VR.qU {G:Gh} {w:World} (sz b o' cap:Nat) (tag:Nat) (ht:tag=0\/(tag=1/\cap=0)):VR G w (.aV tag sz []) (.slice (some ⟨b,o',none⟩) 0 cap):=
 VR.aV tag sz [] b o' cap (fun _=>undef) (fun e he=>by cases he) (fun j hj=>by simp at hj) (fun j hj=>by simp at hj) (by
  refine⟨Bb _,?_⟩
  rcases ht with rfl|⟨rfl,rfl⟩
  · trivial
  rfl)
theorem aIn {t e:TypeId} {sz:Nat} {x:Operand} {lo hi mx:Option Operand} {x':Arg} {qk oY mx':Option Arg} (ho:o.op=.slice t x lo hi mx) (hx:bE g x=some x') (AK:nB g lo=some qk)
 (o8:nB g hi=some oY) (hmx:nB g mx=some mx') (ht:oI P t=some (e,sz)):cJ P g o (.cm sz x' qk oY mx'):=by
 intro s a G H w v H' hw hs h;have vx:=bD hw hs hx;obtain⟨hu,jA⟩:=mH ht;simp only[dK] at h;split at h
 · rename_i l r m h1 h2 h3;have o1:=oT hw hs AK h1;have o2:=oT hw hs o8 h2;have o3:=oT hw hs hmx h3;split at h
   · rename_i hms;simp only[Ag,Aj] at h;obtain⟨v',h,rfl,rfl⟩:=h
     have iK:∀(p:Option Addr) (len cap:Nat),a.eval x=.slice p len cap->l.getD 0<=r.getD len->(r.isSome->r.getD len<=m.getD cap)->m.getD cap<=cap->
      (execOp a.eval o).run P w=.ok (.value (.slice (if m.getD cap=l.getD 0 then p else p.map (·.add (l.getD 0*sz))) (r.getD len -l.getD 0) (m.getD cap -l.getD 0))) w:=by
      intro p len cap eB c1 c2 c3;have hb:=sV (P:=P) (isS:=true) (len:=len) (cap:=cap) o1 o2 o3 hms c1 c2 c3 w;simp only[execOp,ho,Instr.sliceAt,Sem.run_bind,run_underlying hu w,Result.andThen_ok,Instr.slice,eB,hb,eG jA w];rfl
     unfold iY at h;split at h
     · rename_i hid;rw[hid] at vx;generalize eB:a.eval x=u at vx;cases vx;split at h
       · rename_i hc;obtain⟨c1,c2,c3⟩:=hc;obtain rfl:=Aa h;have :=iK none 0 0 eB (by omega) (fun _=>by rw[c2,c3];exact Ak _) (by rw[c3];exact Ak _);rw[c1,c2,c3] at this;exact cJ.pure' hw this .aS
       cases h
     · rename_i tag eO els hid;rw[hid] at vx;generalize eB:a.eval x=u at vx
       cases vx with
       |aV _ _ _ b o' cap us PE hh hv sQ=>
        have htl:=sQ.1;simp only at h;split at h
        · rename_i hc;obtain⟨rfl,c1,c2⟩:=hc;have aBm:=VR.Wx PE hh hv;split at h
          · rename_i m';split at h
            · rename_i AB;obtain⟨c3,c4⟩:=AB;obtain rfl:=Aa h;have :=iK _ _ _ eB c1 (fun _=>by simpa using c3) (by simp;omega);simp only[Bc,Bt,jH] at this;refine cJ.pure' hw this ?_;by_cases Wa:m'=l.getD 0
              · rw[if_pos Wa];have h0:r.getD els.length -l.getD 0=0:=(by omega);have WT:m' -l.getD 0=0:=(by omega);rw[h0,WT,Eb];exact VR.qU _ _ _ _ _ (by by_cases hmr:m'=r.getD els.length<;>simp[hmr])
              rw[if_neg Wa];refine aBm _ _ (by omega) ⟨by omega,?_⟩;by_cases hmr:m'=r.getD els.length
              · rw[if_pos hmr];omega
              rw[if_neg hmr];trivial
            cases h
          have Za:=iK _ _ _ eB c1 (fun _=>by simp;omega) (by simp);simp only[Dg,Bt,jH] at Za;split at h
          · rename_i AB;obtain⟨c3,c4⟩:=AB;obtain rfl:=Aa h;rw[c3] at Za;refine cJ.pure' hw Za ?_;by_cases IW:cap=l.getD 0
            · rw[if_pos IW];have h0:els.length -l.getD 0=0:=(by omega);have hd:els.drop (l.getD 0)=[]:=List.drop_eq_nil_of_le (by omega);rw[h0,hd]
              rcases c4 with c4|c4
              · omega
              match tag,c4,sQ with
              |0,_,_=>exact VR.qU _ _ _ _ _ (.inl rfl)
              |1,_,sQ=>exact VR.qU _ _ _ _ _ (.inr ⟨rfl,by omega⟩)
            rw[if_neg IW];have hd:els.drop (l.getD 0)=(els.drop (l.getD 0)).take (els.length -l.getD 0):=(by rw[Bk];simp);rw[hd];refine aBm _ _ (by omega) ⟨by omega,?_⟩;have h2:=sQ.2
            have hmul:o'+l.getD 0*eO+(els.length -l.getD 0)*eO=o'+els.length*eO:=by rw[Bm,<-Ce];congr 2;omega
            match tag,h2,c4 with
            |0,_,_=>trivial
            |1,h2,_=>show cap -l.getD 0=els.length -l.getD 0;rw[h2]
            |k+2,⟨lc,h2,h3,h4,h5,h6⟩,_=>refine⟨lc,h2,h3,by rw[hmul];exact h4,h5,?_⟩;rw[h6];congr 1;omega
          obtain rfl:=Aa h;refine cJ.pure' hw Za ?_;by_cases IW:cap=l.getD 0
          · rw[if_pos IW];have h0:r.getD els.length -l.getD 0=0:=(by omega);rw[h0,Eb];exact VR.qU _ _ _ _ _ (.inl rfl)
          rw[if_neg IW];exact aBm _ _ (by omega) ⟨by omega,trivial⟩
        cases h
       |vA _ _ b o' s' sQ=>
        simp only[Ay] at h;split at h
        · rename_i hc;obtain⟨rfl,c1,c2⟩:=hc;have NN:l.getD 0=0:=(by omega);have Za:r.getD 0=0:=(by omega);split at h
          · rename_i m';split at h
            · rename_i AB;obtain⟨c3,c4⟩:=AB;obtain rfl:=Aa h;have JA:m'=0:=(by omega);subst JA;have :=iK _ _ _ eB (by omega) (fun _=>by simpa using c3) (by simp);simp only[Bc,NN,Za,if_true,Ie] at this;refine cJ.pure' hw this ?_;rw[Li,List.take_nil];exact .vA _ _ _ _ _ (by split<;>omega)
            cases h
          have hr1:=iK _ _ _ eB (by omega) (fun _=>by simp;omega) (by simp);simp only[Dg,NN,Za,if_true,Ie] at hr1;split at h
          · obtain rfl:=Aa h;refine cJ.pure' hw hr1 ?_;rw[Li];exact .vA _ _ _ _ _ sQ
          obtain rfl:=Aa h;refine cJ.pure' hw hr1 ?_;rw[Li,List.take_nil];exact .vA _ _ _ _ _ (by omega)
        cases h
     · rename_i id eO off len cap hid;rw[hid] at vx;generalize eB:a.eval x=u at vx
       cases vx with
       |sl _ _ _ _ _ iT lc hl hlen gD mY=>
        simp only at h;split at h
        · rename_i hc;obtain⟨rfl,c1⟩:=hc;have wc:cap<=iT:=(by omega);split at h
          · rename_i m';split at h
            · rename_i AB;obtain⟨c3,c4⟩:=AB;have :=iK _ _ _ eB c1 (fun _=>by simpa using c3) (by simp;omega);simp only[Bc,Bt,jH] at this;split at h
              · rename_i Wa;obtain rfl:=Aa h;rw[if_pos Wa] at this;have h0:r.getD len -l.getD 0=0:=(by omega);have WT:m' -l.getD 0=0:=(by omega);rw[h0,WT] at this;exact cJ.pure' hw this (.sl id eO off 0 0 0 lc hl (Ak _) (by have :off+cap*eO<=lc.VP:=gD;omega) (.inl rfl))
              rename_i Wa;obtain rfl:=Aa h;rw[if_neg Wa,Bm] at this;refine cJ.pure' hw this (.sl id eO (off+l.getD 0*eO) _ _ _ lc hl (by omega) ?_ (.inl rfl));have e1:off+l.getD 0*eO+(m' -l.getD 0)*eO=off+m'*eO:=(by rw[Bm,<-Ce];congr 2;omega);have e2:m'*eO<=cap*eO:=Cj _ c4;omega
            cases h
          split at h
          · rename_i c3;have :=iK _ _ _ eB c1 (fun _=>by simp;omega) (by simp);simp only[Dg,Bt,jH] at this;split at h
            · rename_i hlc;obtain rfl:=Aa h;have h0:r.getD len -l.getD 0=0:=(by omega);rw[h0] at this;refine cJ.pure' hw this ?_;split
              · exact VR.qU _ _ _ _ _ (.inl rfl)
              exact VR.qU _ _ _ _ _ (.inl rfl)
            rename_i hlc;obtain rfl:=Aa h;rw[if_neg (by omega),Bm] at this;have e1:off+l.getD 0*eO+(cap -l.getD 0)*eO=off+cap*eO:=(by rw[Bm,<-Ce];congr 2;omega);have e2:off+l.getD 0*eO+(iT -l.getD 0)*eO=off+iT*eO:=(by rw[Bm,<-Ce];congr 2;omega);refine cJ.pure' hw this (.sl id eO (off+l.getD 0*eO) _ _ _ lc hl (by omega) (by omega) ?_)
            rcases mY with mY|⟨q1,q2,q3⟩
            · exact .inl (by omega)
            exact .inr ⟨by omega,by omega,by omega⟩
          cases h
        cases h
     cases h
   cases h
 cases h
theorem lT (sz:Nat):∀(n:Nat) (cs:List AV),n*sz<=cs.length->(eR sz n cs).flatten=cs.take (n*sz)/\(eR sz n cs).length=n/\∀e∈eR sz n cs,e.length=sz
 |0,cs,_=>⟨by simp[eR],rfl,fun e he=>by cases he⟩
 |n+1,cs,h=>by
  have hm:(n+1)*sz=sz+n*sz:=by rw[Fg];omega
  obtain⟨h1,h2,h3⟩:=lT sz n (cs.drop sz) (by simp;omega);refine⟨?_,by simp[eR,h2],fun e he=>?_⟩
  · rw[eR,Bp,h1,hm,List.take_add]
  rcases Aq.1 he with rfl|he
  · simp;omega
  exact h3 e he
theorem aCx {t:TypeId} {n sz:Nat} {b:Bool} {x:Operand} {lo hi mx:Option Operand} {x':Arg} {qk oY mx':Option Arg} (ho:o.op=.slice t x lo hi mx) (hx:bE g x=some x') (AK:nB g lo=some qk)
 (o8:nB g hi=some oY) (hmx:nB g mx=some mx') (ht:AY P t=some (n,sz,b)):cJ P g o (.FD n sz x' qk oY mx'):=by
 intro s a G H w v H' hw hs h;have vx:=bD hw hs hx;obtain⟨e,hu,jA,hb⟩:=AZ ht;simp only[dK] at h;split at h
 · rename_i l r m h1 h2 h3;have o1:=oT hw hs AK h1;have o2:=oT hw hs o8 h2;have o3:=oT hw hs hmx h3;simp only[Ag,Aj] at h;obtain⟨v',h,rfl,rfl⟩:=h;unfold tU at h;simp only at h;split at h
   · rename_i hc;obtain⟨c1,c2,c3,c4⟩:=hc;have ER:=sV (P:=P) (isS:=false) (len:=n) (cap:=n) o1 o2 o3 c4 c1 (fun _=>c2) c3 w
     have iK:∀bl o',a.eval x=.pointer (some ⟨bl,o',none⟩)->
      (execOp a.eval o).run P w=.ok (.value (.slice (some (if m.getD n=l.getD 0 then⟨bl,o',none⟩ else⟨bl,o'+l.getD 0*sz,none⟩)) (r.getD n -l.getD 0) (m.getD n -l.getD 0))) w:=by
      intro bl o' eB;simp only[execOp,ho,Instr.sliceAt,Sem.run_bind,run_underlying hu w,Result.andThen_ok,eB,Instr.sureAddr,Sem.run_pure,ER,eG jA w,jH]
     split at h
     · rename_i id off hid;rw[hid] at vx;split at h
       · rename_i cs KT;obtain⟨opn,hg⟩:=aA.pK KT;split at h
         · rename_i gD;generalize eB:a.eval x=u at vx
           cases vx with
           |ref _ _ lc hl=>
            have bKe:=(hw.cells id lc cs opn hl hg).1;have Za:=iK _ _ eB;split at h
            · rename_i Wa;obtain rfl:=Aa h;rw[if_pos Wa] at Za;have h0:r.getD n -l.getD 0=0:=(by omega);have WT:m.getD n -l.getD 0=0:=(by omega);rw[h0,WT] at Za;exact cJ.pure' hw Za (.sl id sz off 0 0 0 lc hl (Ak _) (by omega) (.inl rfl))
            rename_i Wa;obtain rfl:=Aa h;rw[if_neg Wa,Bm] at Za;refine cJ.pure' hw Za (.sl id sz (off+l.getD 0*sz) _ _ _ lc hl (by omega) ?_ (.inl rfl));have e1:off+l.getD 0*sz+(m.getD n -l.getD 0)*sz=off+m.getD n*sz:=(by rw[Bm,<-Ce];congr 2;omega);have e2:m.getD n*sz<=n*sz:=Cj _ c3;omega
         cases h
       cases h
     · rename_i cs hid;rw[hid] at vx;split at h
       · rename_i gD;obtain rfl:=Aa h;generalize eB:a.eval x=u at vx
         cases vx with
         |pl _ b' o' us hh hv=>
          have Za:=iK _ _ eB;refine cJ.pure' hw Za ?_;obtain⟨f1,f2,f3⟩:=lT sz n cs gD;by_cases Wa:m.getD n=l.getD 0
          · rw[if_pos Wa];have h0:r.getD n -l.getD 0=0:=(by omega);have WT:m.getD n -l.getD 0=0:=(by omega);rw[h0,WT,Eb];exact VR.qU _ _ _ _ _ (by by_cases hmr:m.getD n=r.getD n<;>simp[hmr])
          rw[if_neg Wa];refine VR.Wx (us:=us) f3 (fun j hj=>?_) (fun j hj=>?_) _ _ (by omega) ⟨by omega,?_⟩
          · rw[f1] at hj ⊢;simp at hj;rw[getD_take _ _ _ _ (by omega)];exact hh j (by omega)
          · rw[f1] at hj ⊢;simp at hj;rw[getD_take _ _ _ _ (by omega)];exact hv j (by omega)
          by_cases hmr:m.getD n=r.getD n
          · rw[if_pos hmr];omega
          rw[if_neg hmr];trivial
       cases h
     cases h
   cases h
 cases h
theorem aIm {t e:TypeId} {n:Nat} {x:Operand} {x':Arg} (ho:o.op=.sliceToArrayPointer t x) (hx:bE g x=some x') (ht:P.underlying t=some (.array n e)):cJ P g o (.cj n x'):=by
 intro s a G H w v H' hw hs h;have vx:=bD hw hs hx
 have iK:∀(p:Option Addr) (len cap:Nat),a.eval x=.slice p len cap->n<=len->(execOp a.eval o).run P w=.ok (.value (.pointer p)) w:=by
  intro p len cap eB hle;have :¬len<n:=by omega
  simp[execOp,ho,Instr.arrayAt,run_underlying ht w,eB,this]
 simp only[dK] at h;split at h
 · rename_i tag sz els hid;rw[hid] at vx;generalize eB:a.eval x=u at vx
   cases vx with
   |aV _ _ _ b o' cap us PE hh hv sQ=>
    split at h
    · rename_i hle;simp only[Ac,Aj] at h;obtain⟨rfl,rfl⟩:=h;exact cJ.pure' hw (iK _ _ _ eB hle.1) (.pl _ b o' us hh hv)
    cases h
   |vA=>simp at h
 · rename_i id sz off len cap hid;rw[hid] at vx;generalize eB:a.eval x=u at vx
   cases vx with
   |sl _ _ _ _ _ iT lc hl hlen gD mY=>
    split at h
    · rename_i hle;simp only[Ac,Aj] at h;obtain⟨rfl,rfl⟩:=h;exact cJ.pure' hw (iK _ _ _ eB hle) (.ref id off lc hl)
    cases h
 cases h
end
end
section
theorem gI.append {G:Gh} {w:World} {xs ys:List AV} {us vs:List Value} (h1:gI G w xs us) (h2:gI G w ys vs):gI G w (xs++ys) (us++vs):=by
 have l1:=h1.1;have l2:=h2.1;refine⟨by simp[l1,l2],fun j hj=>?_⟩;simp at hj;rw[getD_eq,getD_eq,Dr,Dr];by_cases hc:j<xs.length
 · rw[if_pos hc,if_pos (by omega)];exact h1.2 j hc
 rw[if_neg hc,if_neg (by omega)];have :=h2.2 (j -xs.length) (by omega);rw[getD_eq,getD_eq] at this;rw[l1];exact this
theorem gI.take {G:Gh} {w:World} {xs:List AV} {us:List Value} (h:gI G w xs us) (n:Nat):gI G w (xs.take n) (us.take n):=by have l:=h.1;refine⟨by simp[l],fun j hj=>?_⟩;simp only[Cb] at hj;rw[getD_take _ _ _ _ (by omega),getD_take _ _ _ _ (by omega)];exact h.2 j (by omega)
theorem tO (P:Program) {g:bB} {G:Gh} {H:aA} {w:World} (hw:WR g G H w) {sz:Nat} {x:AV} {u:Value} {ys:List (List AV)} (h:dM H sz x=some ys) (hv:VR G w x u):
 (∀e∈ys,e.length=sz)/\(∀c∈ys.flatten,c.one=true)/\(Builtin.lenOf u).run P w=.ok ys.length w/\
 ∃vs:List Value,gI G w ys.flatten vs/\∀n,n<=ys.length->(Builtin.firstCells sz n u).run P w=.ok (vs.take (n*sz)).toArray w:=by
 have aUp:∀{l:List AV},(∀j,j<l.length->(l.getD j aD).one=true)->∀c∈l,c.one=true:=fun {l} hl c hc=>by obtain⟨j,hj,rfl⟩:=Ia.1 hc;have :=hl j hj;simpa [getD_eq,Ab hj] using this
 have cells:∀{b o':Nat} {l:List AV},(∀j,j<l.length->∃v,w.cell? ⟨b,o'+j,none⟩=some v/\VR G w (l.getD j aD) v)->
  ∃vs:List Value,gI G w l vs/\∀m,m<=l.length->(loadCells ⟨b,o',none⟩ m).run P w=.ok (vs.take m).toArray w:=fun {b o' l} hc=>by
  obtain⟨us,h1,h2,h3⟩:=OR hc;refine⟨us,⟨h1,h3⟩,fun m hm=>?_⟩
  have :=vN P w b o' (us.take m) (fun j hj=>by
   simp at hj;rw[getD_take _ _ _ _ (by omega)]
   exact h2 j (by omega))
  rwa [show(us.take m).length=m by simp;omega] at this
 cases hv with
 |aS=>obtain rfl:=Aa h;refine⟨fun e he=>(by cases he),fun c hc=>(by simp at hc),rfl,[],gI.nil G w,fun n hn=>?_⟩;simp[Builtin.firstCells]
 |aV tag eO els b o' cap us PE hh hvv sQ=>
  simp only[dM] at h;split at h
  · rename_i hs;subst hs;obtain rfl:=Aa h;obtain⟨vs,h1,h2⟩:=cells (l:=els.flatten) (b:=b) (o':=o') (fun j hj=>⟨us j,(hh j hj).2.1,hvv j hj⟩);refine⟨PE,aUp fun j hj=>(hh j hj).2.2,rfl,vs,h1,fun n hn=>?_⟩;have :=h2 (n*eO) (by rw[length_flatten PE];exact Cj _ hn);simpa [Builtin.firstCells] using this
  cases h
 |vA tag eO b o' s' sQ=>
  simp only[dM] at h;split at h
  · obtain rfl:=Aa h;refine⟨fun e he=>(by cases he),fun c hc=>(by simp at hc),rfl,[],gI.nil G w,fun n hn=>?_⟩;obtain rfl:n=0:=by simpa using hn
    simp[Builtin.firstCells,loadCells,loadCellsFrom]
  cases h
 |str str=>
  simp only[dM] at h;split at h
  · rename_i hs;subst hs;obtain rfl:=Aa h
    have tS:(Qs str.data.toList).flatten=str.data.toList.map fun b=>AV.int .u8 b.toNat:=by
     unfold Qs
     induction str.data.toList with
     |nil=>rfl
     |cons b r ih=>simp[ih]
    refine⟨fun e he=>?_,fun c hc=>?_,?_,str.data.toList.map fun b=>.int .u8 b.toNat,?_,fun n hn=>?_⟩
    · simp only[Qs,Bf] at he;obtain⟨b,_,rfl⟩:=he;rfl
    · rw[tS] at hc;simp only[Bf] at hc;obtain⟨b,_,rfl⟩:=hc;rfl
    · have :str.size=(Qs str.data.toList).length:=(by rw[Qs,Ad,Dh];rfl);simp only[Builtin.lenOf,this];rfl
    · rw[tS];refine⟨by simp,fun j hj=>?_⟩;simp at hj;simp only[getD_eq,Bo,Ab (show j<str.data.toList.length by simpa using hj),Bt,Bc];exact .int _ _
    simp only[Builtin.firstCells,Dl]
    have :((str.extract 0 n).data.map fun b=>(Value.int .u8 b.toNat))=((str.data.toList.map fun b=>Value.int .u8 b.toNat).take n).toArray:=by apply Fq;simp[ByteArray.data_extract,Ii]
    rw[<-this];rfl
  cases h
 |sl id eO off len cap iT l hl hlen gD mY=>
  simp only[dM] at h;split at h
  · rename_i hs;subst hs;split at h
    · rename_i cs KT;obtain⟨opn,hg⟩:=aA.pK KT;split at h
      · rename_i hle;obtain rfl:=Aa h;obtain⟨f1,f2,f3⟩:=lT eO len (cs.drop off) (by simp;omega);have sP:=(hw.cells id l cs opn hl hg).2.2.2.1
        obtain⟨vs,h1,h2⟩:=cells (l:=(cs.drop off).take (len*eO)) (b:=l.cS) (o':=l.base+off) (fun j hj=>by
         simp at hj
         exact Lz hw hl hg hle j (by omega))
        refine⟨f3,?_,by simp[Builtin.lenOf,f2],vs,by rw[f1];exact h1,fun n hn=>?_⟩
        · rw[f1];exact fun c hc=>sP c (Es (Cx hc))
        rw[f2] at hn;have e2:n*eO<=len*eO:=Cj _ hn;have :=h2 (n*eO) (by simp;omega);simpa [Builtin.firstCells] using this
      cases h
    cases h
  cases h
 |_=>simp[dM] at h
theorem SI (UQ:Nat):∀(r c:Nat),Builtin.growBy UQ r c<=max c (UQ+(UQ+768) / 4)
 |0,c=>Nat.le_max_left _ _
 |r+1,c=>by
  simp only[Builtin.growBy];split
  · exact Nat.le_max_left _ _
  have :=SI UQ r (c+(c+768) / 4);omega
theorem nextslicecap_le {need cap:Nat} (h:cap<need):Builtin.nextslicecap need cap<=2*need+192:=by
 unfold Builtin.nextslicecap;split
 · omega
 split
 · omega
 have :=SI need 4 cap;omega
def Lm (w:World) (o:Go.Obj):World:={w with heap:=w.heap.push o,drawn:=w.drawn+1}
section
variable {P:Program}
theorem wK {elem:TypeId} {i:TypeInfo} (h:P.info? elem=some i) (w:World):(typeInfo elem).run P w=.ok i w:=by simp[typeInfo,program,Sem.run,h]
theorem qA {w:World} {t t2 elem ty:TypeId} {d:TypeDesc} {sz n sLen sCap:Nat} {base:Option Addr} {u:Value} {vs:List Value} (ht:P.underlying t=some (.slice elem)) (jA:jV P elem=some sz)
 (h2:P.underlying t2=some d) (hd:∀k,d≠ .int k) (hlen:(Builtin.lenOf u).run P w=.ok n w) (hf:(Builtin.firstCells sz n u).run P w=.ok vs.toArray w) (sO:sLen+n<=sCap):
 (Builtin.append_ #[t,t2] ty #[.slice base sLen sCap,u]).run P w=
   ((match base with|some a=>storeCells (a.add (sLen*sz)) vs|none=>pure ():Sem Unit).run P w).andThen fun _ w'=>.ok (.slice base (sLen+n) sCap) w':=by
 have hz:(match d with|.int _=>true|_=>false)=false:=by cases d<;>first|rfl|exact absurd rfl (hd _)
 unfold Builtin.append_;simp only[Fc,Ep,Gy,Sem.run_bind,run_underlying ht w,run_underlying h2 w,eG jA w,Result.andThen_ok,Sem.run_pure,hz,Bj,Cm,hlen,if_pos sO,Fv,if_true,hf];cases base<;>simp
theorem CJ {need VN:Nat} {e:TypeId} (w:World):∃c,need<=c/\(choose (.appendCap need VN e)).run P w=.ok c {w with drawn:=w.drawn+1}:=
 ⟨need+(w.tape w.drawn (.appendCap need VN e))%(2^63 -need),by omega,by simp[choose,Sem.run,Question.forced,Question.cut]⟩
theorem run_askRoom (n:Nat) (w:World):(askRoom n).run P w=.ok () w:=by unfold askRoom;split<;>rfl
theorem run_append_grow {w:World} {t t2 elem ty:TypeId} {d:TypeDesc} {i:TypeInfo} {sz n sLen sCap:Nat} {base:Option Addr} {u z:Value} {os vs:List Value} (ht:P.underlying t=some (.slice elem)) (jA:jV P elem=some sz)
 (h2:P.underlying t2=some d) (hd:∀k,d≠ .int k) (hi:P.info? elem=some i) (tR:1<=i.bytes) (hz:lN P elem=some z) (DL:z.cells.size=sz) (hlen:(Builtin.lenOf u).run P w=.ok n w)
 (ho:(Builtin.firstCells sz sLen (.slice base sLen sCap)).run P {w with drawn:=w.drawn+1}=.ok os.toArray {w with drawn:=w.drawn+1})
 (hf:(Builtin.firstCells sz n u).run P {w with drawn:=w.drawn+1}=.ok vs.toArray {w with drawn:=w.drawn+1}) (sO:¬sLen+n<=sCap) (yS:(sLen+n)*i.bytes<=2^40):
 ∃cap rest,sLen+n<=cap/\rest.length=(cap -(sLen+n))*sz/\
  (Builtin.append_ #[t,t2] ty #[.slice base sLen sCap,u]).run P w=.ok (.slice (some ⟨w.heap.size,0,none⟩) (sLen+n) cap) (Lm w (.cells (os++vs++rest).toArray elem)):=by
 have hz':(match d with|.int _=>true|_=>false)=false:=by cases d<;>first|rfl|exact absurd rfl (hd _)
 obtain⟨cap,wb,AB⟩:=CJ (P:=P) (need:=sLen+n) (VN:=sCap) (e:=elem) w;have DJ:¬((((sLen+n:Nat):Int)>IntKind.i64.max)/\(False\/i.bytes=0)):=fun hh=>hh.2.elim id (fun h0=>by omega);have pz:=nextslicecap_le (need:=sLen+n) (cap:=sCap) (by omega)
 have Mk:sLen+n<=2^40:=by have :(sLen+n)*1<=(sLen+n)*i.bytes:=Ey _ tR;omega
 have hmul:Builtin.nextslicecap (sLen+n) sCap*i.bytes<=(2*(sLen+n)+192)*i.bytes:=Cj _ pz;have bJo:(2*(sLen+n)+192)*i.bytes=2*((sLen+n)*i.bytes)+192*i.bytes:=by rw[Ce,Ev]
 have hib:i.bytes<=(sLen+n)*i.bytes:=Iu _ (by omega);have DK:¬Builtin.nextslicecap (sLen+n) sCap*i.bytes>2^48:=by omega
 refine⟨cap,(Builtin.zeroCells z.cells (cap -(sLen+n))).toList,wb,by simp[Builtin.zeroCells,DL],?_⟩;unfold Builtin.append_;simp only[Fc,Ep,Gy,Sem.run_bind,run_underlying ht w,run_underlying h2 w,eG jA w,Result.andThen_ok,Sem.run_pure,hz',Bj,Cm,hlen,if_neg sO,Fv,if_true,wK hi w,if_neg DJ,if_neg DK,AB,wK hi {w with drawn:=w.drawn+1},run_askRoom,ho,hf,lH hz {w with drawn:=w.drawn+1}]
 have he:os.toArray++vs.toArray++Builtin.zeroCells z.cells (cap -(sLen+n))=(os++vs++(Builtin.zeroCells z.cells (cap -(sLen+n))).toList).toArray:=by apply Fq;simp
 rw[he];rfl
theorem RF (w:World) (o:Go.Obj):gV w (Lm w o) o:=⟨rfl,.now⟩
theorem Zs {g:bB} {G:Gh} {H:aA} {w:World} (hw:WR g G H w) (mu:Bool) {sz:Nat} {els:List (List AV)} {vs rest:List Value} {e:TypeId} {cap:Nat}
 (hu:∀x∈els,x.length=sz) (h1:∀c∈els.flatten,c.one=true) (hv:gI G w els.flatten vs) (mY:els.length<=cap) (aLk:rest.length=(cap -els.length)*sz):
 ∃G',WR g G' (iO H mu sz els).2 (Lm w (.cells (vs++rest).toArray e))/\Ext G H w G' (iO H mu sz els).2 (Lm w (.cells (vs++rest).toArray e))/\
  VR G' (Lm w (.cells (vs++rest).toArray e)) (iO H mu sz els).1 (.slice (some ⟨w.heap.size,0,none⟩) els.length cap):=by
 have hp:=RF w (.cells (vs++rest).toArray e);have tS:=length_flatten hu;have p9:=hv.1;have hmul:els.length*sz+(cap -els.length)*sz=cap*sz:=by rw[<-Ce];congr 1;omega
 cases mu with
 |true=>
  obtain⟨r1,r2⟩:=hw.aJe els.flatten vs rest hv h1 true (fun h=>by cases h) (Clear.zero _) hp;refine⟨_,r1,r2,?_⟩
  have :=VR.sl (G:=G.dS H.next ⟨w.heap.size,0,els.flatten.length,(vs++rest).length⟩) (w:=Lm w (.cells (vs++rest).toArray e)) H.next sz 0 els.length els.length cap
   ⟨w.heap.size,0,els.flatten.length,(vs++rest).length⟩ (by simp only[Gh.dS,if_true]) (Ak _) (by simp only[tS];omega)
   (.inr ⟨by simp only[tS];omega,mY,by simp only[An,p9,tS,aLk];omega⟩)
  exact this
 |false=>obtain⟨G',hl,r1,r2,r3⟩:=hw.aJf els.flatten vs rest hv (Clear.zero _) hp;refine⟨G',r1,r2,?_⟩;refine VR.aV (H.next+2) sz els w.heap.size 0 cap (fun j=>vs.getD j undef) hu (fun j hj=>⟨(r3 j hj).1,(r3 j hj).2.1,h1 _ (JO hj)⟩) (fun j hj=>(r3 j hj).2.2) ⟨mY,?_⟩;exact⟨_,hl,rfl,by simp only[tS];omega,rfl,aLk⟩
theorem WR.drew {g:bB} {G:Gh} {H:aA} {w:World} (h:WR g G H w):WR g G H {w with drawn:=w.drawn+1}:=h.of_heap rfl
theorem VR.drew {G:Gh} {w:World} {a:AV} {u:Value} (h:VR G w a u):VR G {w with drawn:=w.drawn+1} a u:=
 h.mono (fun _ _ h=>h) (fun b o hi=>⟨hi,rfl⟩)
theorem rf {g:bB} {o:Oper} {c:Call} {x y:Operand} {x' y':Arg} {t t2 elem:TypeId} {d:TypeDesc} {i:TypeInfo} {z:Value} {sz:Nat} {mu:Bool} (ho:o.op=.call c) (hc:c.callee=.builtin .append) (ha:c.args= #[x,y])
 (hx:bE g x=some x') (hy:bE g y=some y') (MZ:c.argTypes= #[t,t2]) (ht:P.underlying t=some (.slice elem)) (jA:jV P elem=some sz) (h2:P.underlying t2=some d) (hd:∀k,d≠ .int k)
 (hi:P.info? elem=some i) (tR:1<=i.bytes) (hz:lN P elem=some z) (DL:z.cells.size=sz):cJ P g o (.append sz i.bytes mu x' y'):=by
 intro s a G H w v H' hw hs h;have vx:=bD hw hs hx;have vy:=bD hw hs hy;simp only[dK] at h;split at h
 · rename_i ys Ml;obtain⟨yu,y1,aFd,KV,yv,yf⟩:=tO P hw Ml vy;have yf0:=yf ys.length (Ak _);obtain⟨_,_,_,aKk,yv',yf'⟩:=tO P hw.drew Ml vy.drew;have yfl:=length_flatten yu;have ye:∀{m:Nat} {l:List Value},l.length=m->l.take m=l:=fun {m l} hl=>by rw[Bk (by omega)]
   have aKj:(Builtin.firstCells sz ys.length (a.eval y)).run P w=.ok KV.toArray w:=by rw[yf0,ye (by rw[yv.1,yfl])]
   have bJm:(Builtin.firstCells sz ys.length (a.eval y)).run P {w with drawn:=w.drawn+1}=.ok aKk.toArray {w with drawn:=w.drawn+1}:=by rw[yf' ys.length (Ak _),ye (by rw[yv'.1,yfl])]
   have yvw:gI G w ys.flatten aKk:=⟨yv'.1,fun j hj=>(yv'.2 j hj).mono (fun _ _ h=>h) (fun b o hi=>⟨hi,rfl⟩)⟩
   have fF:∀{p:Option Addr} {sl sc:Nat} {r:Value} {w':World},a.eval x=.slice p sl sc->(Builtin.append_ #[t,t2] o.type #[.slice p sl sc,a.eval y]).run P w=.ok r w'->(execOp a.eval o).run P w=.ok (.value r) w':=by intro p sl sc r w' eB hr;simp[execOp,ho,resolve,hc,ha,MZ,invoke,builtin,eB,hr]
   have gl:ys=[]->∀{p:Option Addr} {sl sc:Nat},a.eval x=.slice p sl sc->sl<=sc->(execOp a.eval o).run P w=.ok (.value (.slice p sl sc)) w:=by intro Tu p sl sc eB hle;subst Tu;have SV:KV=[]:=(by have :=yv.1;simpa using this);subst SV;refine fF eB ?_;have :=qA (P:=P) (ty:=o.type) (base:=p) (sLen:=sl) (sCap:=sc) ht jA h2 hd aFd aKj (by simpa using hle);rw[this];cases p<;>rfl
   have SN:∀(mu:Bool) {p:Option Addr} {sl sc:Nat} {els:List (List AV)} {os:List Value} {G0:Gh} {H0:aA},WR g G0 H0 w->Ext G H w G0 H0 w->a.eval x=.slice p sl sc->els.length=sl->(∀e∈els,e.length=sz)->(∀c∈els.flatten,c.one=true)->
    gI G0 w els.flatten os->(Builtin.firstCells sz sl (.slice p sl sc)).run P {w with drawn:=w.drawn+1}=.ok os.toArray {w with drawn:=w.drawn+1}->¬sl+ys.length<=sc->(sl+ys.length)*i.bytes<=2^40->
    ∃n u w' G',(execOp a.eval o).run P w=.ok n w'/\Rf n u/\WR g G' (iO H0 mu sz (els++ys)).2 w'/\Ext G H w G' (iO H0 mu sz (els++ys)).2 w'/\VR G' w' (iO H0 mu sz (els++ys)).1 u:=by
    intro mu p sl sc els os G0 H0 hw0 he0 eB hl hu h1 hv hf vJ yS;obtain⟨cap,rest,c1,c2,hr⟩:=run_append_grow (P:=P) (ty:=o.type) ht jA h2 hd hi tR hz DL aFd hf bJm vJ yS;have bGo:gI G0 w ys.flatten aKk:=yvw.ext he0
    obtain⟨G',r1,r2,r3⟩:=Zs hw0 mu (sz:=sz) (els:=els++ys) (vs:=os++aKk) (rest:=rest) (e:=elem) (cap:=cap)
     (fun e he=>(As.1 he).elim (hu e) (yu e)) (fun c hc=>by rw[Ez] at hc;exact(As.1 hc).elim (h1 c) (y1 c)) (by rw[Ez];exact hv.append bGo)
     (by simp[hl];exact c1) (by simp[hl];exact c2)
    refine⟨_,_,_,G',fF eB hr,.inl rfl,r1,he0.trans r2,?_⟩;have hlen:(els++ys).length=sl+ys.length:=(by simp[hl]);rw[hlen] at r3;exact r3
   unfold dU at h;split at h
   · rename_i aRt;have Tu:ys=[]:=by simpa using aRt
     have fin:∀{p:Option Addr} {sl sc:Nat} {va:AV},a.eval x=.slice p sl sc->sl<=sc->VR G w va (.slice p sl sc)->
      ∃n u w' G',(execOp a.eval o).run P w=.ok n w'/\Rf n u/\WR g G' H w'/\Ext G H w G' H w'/\VR G' w' va u:=
      fun eB hle hva=>cJ.pure' hw (gl Tu eB hle) hva
     have vx0:=vx;split at h
     · rename_i hid;simp only[Ac,Aj] at h;obtain⟨rfl,rfl⟩:=h;rw[hid] at vx;generalize eB:a.eval x=u at vx vx0;cases vx;exact fin eB (Ak _) vx0
     · rename_i hid;simp only[Ac,Aj] at h;obtain⟨rfl,rfl⟩:=h;rw[hid] at vx;generalize eB:a.eval x=u at vx vx0
       cases vx with
       |aV _ _ _ _ _ _ _ _ _ _ sQ=>exact fin eB sQ.1 vx0
       |vA=>exact fin eB (Ak _) vx0
     · rename_i hid;simp only[Ac,Aj] at h;obtain⟨rfl,rfl⟩:=h;rw[hid] at vx;generalize eB:a.eval x=u at vx vx0
       cases vx with
       |sl _ _ _ _ _ _ _ _ hlen _ mY=>exact fin eB (by omega) vx0
     cases h
   rename_i aRt
   have bJq:1<=ys.length:=by
    cases ys with
    |nil=>simp at aRt
    |cons _ _=>simp
   split at h
   · rename_i hid;rw[hid] at vx;generalize eB:a.eval x=u at vx;cases vx;split at h
     · rename_i yS;simp only[Ac] at h;have :=SN mu (els:=[]) (os:=[]) hw (Ext.refl G H w) eB rfl (fun e he=>by cases he) (fun c hc=>by simp at hc) (gI.nil G w) (by simp[Builtin.firstCells]) (by omega) (by simpa using yS);simp only[Dk] at this;rw[h] at this;exact this
     cases h
   · rename_i tag eO els hid;rw[hid] at vx;split at h
     · rename_i hc;obtain⟨rfl,yS⟩:=hc;generalize eB:a.eval x=u at vx;obtain⟨eu,e1,_,LV,ev',ef'⟩:=tO P hw.drew (sz:=eO) (x:=.aV tag eO els) (ys:=els) (by simp[dM]) vx.drew;have evw:gI G w els.flatten LV:=⟨ev'.1,fun j hj=>(ev'.2 j hj).mono (fun _ _ h=>h) (fun b o hi=>⟨hi,rfl⟩)⟩;have efl:=length_flatten eu
       have ef1:∀{q:Value},q=u->(Builtin.firstCells eO els.length q).run P {w with drawn:=w.drawn+1}=.ok LV.toArray {w with drawn:=w.drawn+1}:=fun hq=>by rw[hq,ef' els.length (Ak _),ye (by rw[ev'.1,efl])]
       cases vx with
       |vA _ _ b o' s' sQ=>
        match tag,h,sQ with
        |0,h,_=>cases h
        |1,h,_=>simp only[Ac] at h;have :=SN mu (els:=[]) (os:=LV) hw (Ext.refl G H w) eB rfl eu e1 evw (ef1 rfl) (by omega) yS;rw[h] at this;exact this
       |aV _ _ _ b o' cap us PE hh hv sQ=>
        match tag,h,sQ with
        |0,h,_=>cases h
        |1,h,sQ=>simp only[Ac] at h;have IW:cap=els.length:=sQ.2;have :=SN mu (els:=els) (os:=LV) hw (Ext.refl G H w) eB rfl eu e1 evw (ef1 rfl) (by omega) yS;rw[h] at this;exact this
        |k+2,h,sQ=>
         obtain⟨l,t1,xh,t3,t4,t5⟩:=sQ.2;have hle:=sQ.1;simp only at h;split at h
         · rename_i WX;simp only[Ac,Aj] at h;obtain⟨rfl,rfl⟩:=h;have lM:H.live k:=⟨_,WX,rfl⟩;have hk:=hw.kill k;have YE:=(Ext.refl G H w).kill k;by_cases xH:els.length+ys.length<=cap
           ·
            obtain⟨ca,el,fz,q1,q2,q3⟩:=hw.room k l t1 (.inr WX)
            have Wa:ys.length*eO+(cap -els.length -ys.length)*eO=l.ext:=by rw[t5,<-Ce];congr 1;omega
            have yvl:KV.length=ys.length*eO:=(by rw[yv.1,yfl]);have BP:∀j,j<KV.length->j<l.ext:=fun j hj=>by omega
            obtain⟨w',hr,hu⟩:=fQ P b (o'+els.length*eO) KV 0 w ⟨ca,el,fz,by rw[<-xh];exact q1,by omega⟩
             (fun j hj=>by rw[Di,<-t3,<-xh];exact q3 j (BP j hj)) (sA yv y1)
            rw[Di] at hu
            have oD:∀j,j<KV.length->¬G.gJ b (o'+els.length*eO+j):=fun j hj=>by rw[<-t3,<-xh];exact hw.jM k l t1 lM j (BP j hj)
            have uF:∀id l',G.loc id=some l'->(H.set k .dead).live id->l.cS≠l'.cS\/l.base+l.ext<=l'.base\/l'.base+l'.ext<=l.base:=fun id l' oS lP=>by
             rcases aA.lA.1 lP with ⟨_,hh⟩|⟨bN,lP⟩
             · cases hh
             exact hw.kT k id l l' (Ne.symm bN) t1 oS lM lP
            have Nd:=hk.write hu oD (fun id l' oS lP=>by
             rcases uF id l' oS lP with rR|rR|rR
             · exact .inl (by rw[<-xh];exact Ne.symm rR)
             · exact .inr (.inr (by omega))
             exact .inr (.inl (by omega))) ⟨ca,el,fz,by rw[<-xh];exact q1⟩
            have hblk:w.heap.size<=b\/∃eJ l0,G.loc eJ=some l0/\H.live eJ/\l0.cS=b:=.inr ⟨k,l,t1,lM,xh⟩;have VG:=YE.write hu oD hw.gN hblk;obtain⟨ca',u1,u2,u3,u4⟩:=hu.row ca el fz (by rw[<-xh];exact q1)
            have gh:∀j,j<KV.length->w'.cell? ⟨b,o'+els.length*eO+j,none⟩=some (KV.getD j undef):=fun j hj=>by rw[lS u1];exact u4 j hj (by have :=BP j hj;omega)
            have uY:=Nd.nV b (o'+els.length*eO) KV.length (fun j hj=>⟨_,gh j hj⟩) (fun id l' oS lP=>by
             rcases uF id l' oS lP with rR|rR|rR
             · exact .inl (by rw[<-xh];exact Ne.symm rR)
             · exact .inr (.inr (by omega))
             exact .inr (.inl (by omega)))
            have VH:=VG.nV b (o'+els.length*eO) KV.length hblk;have o6:=VH.OJ .tok ⟨b,o'+els.length*eO+KV.length,0,l.ext -KV.length⟩ uY.lt hblk
            have hw3:=uY.OJ .tok ⟨b,o'+els.length*eO+KV.length,0,l.ext -KV.length⟩ (fun id l' oS lP=>by
             rcases uF id l' oS lP with rR|rR|rR
             · exact .inl (by rw[<-xh];exact rR)
             · exact .inr (.inl (by simp only;omega))
             · exact .inr (.inr (by simp only;omega))) (fun j hj hi=>by
             simp only at hj hi
             rcases hi with hi|⟨_,_,hi⟩
             · have :=hw.jM k l t1 lM (KV.length+j) (by omega);rw[xh,t3,<-Bm] at this;exact this hi
             · omega) (fun CY aDc yT=>by cases yT) (fun _=>⟨ca',el,fz,u1,by simp only;omega,fun j hj=>by
             simp only at hj ⊢;rw[hu.frozen (by rw[<-xh];exact q1)];have :=q3 (KV.length+j) (by omega);rw[xh,t3,<-Bm] at this
             exact this⟩) (fun yT=>by cases yT)
            refine⟨.value (.slice (some ⟨b,o',none⟩) (els.length+ys.length) cap),.slice (some ⟨b,o',none⟩) (els.length+ys.length) cap,w',_,fF eB ?_,.inl rfl,hw3,o6,?_⟩
            · have :=qA (P:=P) (ty:=o.type) (base:=some ⟨b,o',none⟩) (sLen:=els.length) (sCap:=cap) ht jA h2 hd aFd aKj xH;rw[this];simp only[jH,hr,Result.andThen_ok]
            have hlen:(els++ys).length=els.length+ys.length:=(by simp);rw[<-hlen]
            have hga:∀j,(els.flatten++ys.flatten).getD j aD=if j<els.flatten.length then els.flatten.getD j aD else ys.flatten.getD (j -els.flatten.length) aD:=fun j=>by rw[getD_eq,Dr];split<;>rfl
            refine VR.aV (H.next+2) eO (els++ys) b o' cap (fun j=>if j<els.flatten.length then us j else KV.getD (j -els.flatten.length) undef)
             (fun e he=>(As.1 he).elim (eu e) (yu e)) (fun j hj=>?_) (fun j hj=>?_) ⟨by simp;exact xH,?_⟩
            · rw[Ez] at hj ⊢;rw[hga];by_cases EE:j<els.flatten.length
              · rw[if_pos EE,if_pos EE];have :=hh j EE;refine⟨(o6.gJ _ _ this.1).1,by rw[(o6.gJ _ _ this.1).2];exact this.2.1,this.2.2⟩
              rw[if_neg EE,if_neg EE];simp only[An] at hj;have EF:j -els.flatten.length<KV.length:=(by rw[yv.1];omega);have wF:o'+j=o'+els.length*eO+(j -els.flatten.length):=(by rw[efl] at EE ⊢;omega);refine⟨.inr ⟨rfl,by omega,by omega⟩,by rw[wF];exact gh _ EF,?_⟩;exact y1 _ (JO (by rw[<-yv.1];exact EF))
            · rw[Ez] at hj ⊢;rw[hga];by_cases EE:j<els.flatten.length
              · rw[if_pos EE,if_pos EE];exact(hv j EE).ext o6
              rw[if_neg EE,if_neg EE];simp only[An] at hj;exact(yv.2 (j -els.flatten.length) (by omega)).ext o6
            refine⟨⟨b,o'+els.length*eO+KV.length,0,l.ext -KV.length⟩,by simp only[Gh.dS,aA.aX,if_true],rfl,?_,rfl,?_⟩
            · simp only[hlen,Ce];omega
            simp only[hlen];rw[yvl,<-Wa,Nat.add_sub_cancel_left];congr 1;omega
           exact SN false (els:=els) (os:=LV) hk YE eB rfl eu e1 evw (ef1 rfl) xH yS
         cases h
     cases h
   · rename_i id eO off len cap hid;rw[hid] at vx;split at h
     · rename_i hc;obtain⟨rfl,yS,aSq⟩:=hc;split at h
       · rename_i cs opn hg;generalize eB:a.eval x=u at vx
         cases vx with
         |sl _ _ _ _ _ iT l hl hlen gD mY=>
          obtain⟨a1,a2,a3,a4,a5⟩:=hw.cells id l cs opn hl hg;obtain⟨ca,el,fz,b1,b2,b3⟩:=hw.room id l hl (.inl ⟨cs,opn,hg⟩);split at h
          · rename_i xH;split at h
            · rename_i bJv;simp only[Ac,Aj] at h;obtain⟨rfl,rfl⟩:=h;have yvl:KV.length=ys.length*eO:=(by rw[yv.1,yfl]);have hm1:len*eO+ys.length*eO<=cap*eO:=by rw[<-Ce];exact Cj _ xH
              obtain⟨w',hr,hu⟩:=fQ P l.cS (l.base+off+len*eO) KV 0 w ⟨ca,el,fz,b1,by omega⟩
               (fun j hj=>by rw[Di,Bm,Bm];exact b3 (off+(len*eO+j)) (by omega)) (sA yv y1)
              rw[Di,Bm] at hu;obtain⟨r1,r2⟩:=hw.store hl hg yv y1 (by rw[yfl];omega) hu;refine⟨.value (.slice (some ⟨l.cS,l.base+off,none⟩) (len+ys.length) iT),.slice (some ⟨l.cS,l.base+off,none⟩) (len+ys.length) iT,w',G,fF eB ?_,.inl rfl,r1,r2,VR.sl id eO off (len+ys.length) cap iT l hl xH gD mY⟩;have :=qA (P:=P) (ty:=o.type) (base:=some ⟨l.cS,l.base+off,none⟩) (sLen:=len) (sCap:=iT) ht jA h2 hd aFd aKj (by omega);rw[this];simp only[jH,hr,Result.andThen_ok]
            cases h
          rename_i xH;split at h
          · rename_i AB;obtain⟨c1,c2⟩:=AB
            have aRu:iT=cap:=by
             rcases mY with mY|⟨p1,p2,p3⟩
             · exact mY
             rcases c2 with c2|c2
             · have :=a3 c2;have hms:iT*eO=cap*eO:=(by omega);exact Nat.eq_of_mul_eq_mul_right aSq hms
             omega
            subst aRu
            obtain⟨eu,e1,_,LV,ev',ef'⟩:=tO P hw.drew (sz:=eO) (x:=.sl id eO off len iT) (ys:=eR eO len (cs.drop off)) (by
             have hca:H.eP id=some cs:=by simp[aA.eP,hg]
             simp[dM,hca,c1]) (VR.sl id eO off len iT iT l hl hlen gD mY:VR G w _ _).drew
            have evw:gI G w (eR eO len (cs.drop off)).flatten LV:=⟨ev'.1,fun j hj=>(ev'.2 j hj).mono (fun _ _ h=>h) (fun b o hi=>⟨hi,rfl⟩)⟩;obtain⟨f1,f2,f3⟩:=lT eO len (cs.drop off) (by simp;omega);have efl:=length_flatten eu
            have ef1:(Builtin.firstCells eO len (.slice (some ⟨l.cS,l.base+off,none⟩) len iT)).run P {w with drawn:=w.drawn+1}=.ok LV.toArray {w with drawn:=w.drawn+1}:=by rw[ef' len (by omega),ye (by rw[ev'.1,efl,f2])]
            simp only[Ac] at h;have :=SN mu (els:=eR eO len (cs.drop off)) (os:=LV) hw (Ext.refl G H w) eB f2 eu e1 evw ef1 (by omega) yS;rw[h] at this;exact this
          split at h
          · rename_i hc3;obtain⟨hmu,ZY,hlc,KT⟩:=hc3;subst hmu ZY hlc;simp only[Ac,Aj] at h;obtain⟨rfl,rfl⟩:=h
            obtain⟨eu,e1,_,LV,ev',ef'⟩:=tO P hw.drew (sz:=eO) (x:=.sl id eO 0 len len) (ys:=eR eO len (cs.drop 0)) (by
             have hca:H.eP id=some cs:=by simp[aA.eP,hg]
             simp[dM,hca,KT]) (VR.sl id eO 0 len len iT l hl hlen gD mY:VR G w _ _).drew
            have evw:gI G w (eR eO len (cs.drop 0)).flatten LV:=⟨ev'.1,fun j hj=>(ev'.2 j hj).mono (fun _ _ h=>h) (fun b o hi=>⟨hi,rfl⟩)⟩;obtain⟨f1,f2,f3⟩:=lT eO len (cs.drop 0) (by simp;omega);have efl:=length_flatten eu
            have ef1:(Builtin.firstCells eO len (.slice (some ⟨l.cS,l.base+0,none⟩) len iT)).run P {w with drawn:=w.drawn+1}=.ok LV.toArray {w with drawn:=w.drawn+1}:=by rw[ef' len (by omega),ye (by rw[ev'.1,efl,f2])]
            have fcs:(eR eO len (cs.drop 0)).flatten=cs:=(by rw[f1,Cy,Bk (by omega)]);have lM:H.live id:=⟨_,hg,rfl⟩;have hk:=hw.kill id;have YE:=(Ext.refl G H w).kill id;by_cases Ty:len+ys.length<=iT
            ·
             have aWh:len*eO=l.VP/\len<=iT/\iT*eO=l.ext:=by
              rcases mY with hh|⟨p1,p2,p3⟩
              · omega
              exact⟨by omega,p2,by omega⟩
             obtain⟨g1,g2,g3⟩:=aWh;have yvl:KV.length=ys.length*eO:=(by rw[yv.1,yfl]);have hm1:len*eO+ys.length*eO<=iT*eO:=by rw[<-Ce];exact Cj _ Ty
             obtain⟨w',hr,hu⟩:=fQ P l.cS (l.base+0+len*eO) KV 0 w ⟨ca,el,fz,b1,by omega⟩
              (fun j hj=>by rw[Di,Di,Bm];exact b3 (len*eO+j) (by omega)) (sA yv y1)
             rw[Di,Di] at hu
             have oD:∀j,j<KV.length->¬G.gJ l.cS (l.base+len*eO+j):=fun j hj=>by rw[Bm];exact hw.jM id l hl lM _ (by omega)
             have uF:∀jU l',G.loc jU=some l'->(H.set id .dead).live jU->l.cS≠l'.cS\/l.base+l.ext<=l'.base\/l'.base+l'.ext<=l.base:=fun jU l' oS lP=>by
              rcases aA.lA.1 lP with ⟨_,hh⟩|⟨bN,lP⟩
              · cases hh
              exact hw.kT id jU l l' (Ne.symm bN) hl oS lM lP
             have Nd:=hk.write hu oD (fun jU l' oS lP=>by
              rcases uF jU l' oS lP with rR|rR|rR
              · exact .inl (Ne.symm rR)
              · exact .inr (.inr (by omega))
              exact .inr (.inl (by omega))) ⟨ca,el,fz,b1⟩
             have hblk:w.heap.size<=l.cS\/∃eJ l0,G.loc eJ=some l0/\H.live eJ/\l0.cS=l.cS:=.inr ⟨id,l,hl,lM,rfl⟩;have VG:=YE.write hu oD hw.gN hblk;obtain⟨ca',u1,u2,u3,u4⟩:=hu.row ca el fz b1
             have gh:∀j,j<KV.length->w'.cell? ⟨l.cS,l.base+len*eO+j,none⟩=some (KV.getD j undef):=fun j hj=>by rw[lS u1];exact u4 j hj (by omega)
             have wO:(cs++ys.flatten).length=(len+ys.length)*eO:=by rw[An,KT,yfl,Ce]
             have hga:∀j,(cs++ys.flatten).getD j aD=if j<cs.length then cs.getD j aD else ys.flatten.getD (j -cs.length) aD:=fun j=>by rw[getD_eq,Dr];split<;>rfl
             have o6:=VG.OJ (.cells (cs++ys.flatten) true) ⟨l.cS,l.base,(cs++ys.flatten).length,l.ext⟩ Nd.lt hblk
             have hw3:=Nd.OJ (.cells (cs++ys.flatten) true) ⟨l.cS,l.base,(cs++ys.flatten).length,l.ext⟩ uF
              (fun j hj hi=>hw.jM id l hl lM j hj hi)
              (fun CY aDc yT=>by
                simp only[dY.cells.injEq] at yT;obtain⟨rfl,rfl⟩:=yT;refine⟨rfl,(by simp only;rw[wO,Ce];omega),(fun hh=>(by cases hh)),fun c hc=>(As.1 hc).elim (a4 c) (y1 c),fun j hj=>?_⟩;rw[hga];by_cases EE:j<cs.length
                · rw[if_pos EE];obtain⟨u,v1,v2⟩:=a5 j EE;exact⟨u,(show w'.cell? ⟨l.cS,l.base+j,none⟩=some u from hu.cell (.inr (.inl (by omega))) v1),v2.ext VG⟩
                rw[if_neg EE];simp only[An] at hj;have EF:j -cs.length<KV.length:=(by rw[yv.1];omega);have wF:l.base+j=l.base+len*eO+(j -cs.length):=(by omega);refine⟨_,(show w'.cell? ⟨l.cS,l.base+j,none⟩=_ from ?_),(yv.2 (j -cs.length) (by omega)).ext VG⟩;rw[wF]
                exact gh _ EF)
              (fun _=>⟨ca',el,fz,u1,by simp only;omega,fun j hj=>by
                simp only at hj ⊢;rw[hu.frozen b1]
                exact b3 j hj⟩) (fun yT=>by cases yT)
             refine⟨.value (.slice (some ⟨l.cS,l.base+0,none⟩) (len+ys.length) iT),.slice (some ⟨l.cS,l.base+0,none⟩) (len+ys.length) iT,w',_,fF eB ?_,.inl rfl,hw3,o6,?_⟩
             · have :=qA (P:=P) (ty:=o.type) (base:=some ⟨l.cS,l.base+0,none⟩) (sLen:=len) (sCap:=iT) ht jA h2 hd aFd aKj Ty;rw[this];simp only[jH,hr,Result.andThen_ok]
             exact VR.sl H.next eO 0 (len+ys.length) (len+ys.length) iT ⟨l.cS,l.base,(cs++ys.flatten).length,l.ext⟩ (by simp only[Gh.dS,aA.aX,if_true]) (Ak _)
              (by simp only;rw[wO];omega) (.inr ⟨by simp only;rw[wO];omega,Ty,by simp only;omega⟩)
            have hn:=SN true (els:=eR eO len (cs.drop 0)) (os:=LV) hk YE eB f2 eu e1 evw ef1 Ty yS
            have e0:iO (H.set id .dead) true eO (eR eO len (cs.drop 0)++ys)=(.sl H.next eO 0 (len+ys.length) (len+ys.length),(H.set id .dead).alloc (.cells (cs++ys.flatten) true)):=by simp only[iO,if_true,An,f2,Ez,fcs,aA.aX]
            rw[e0] at hn;exact hn
          cases h
       cases h
     cases h
   cases h
 cases h
end
end
section
theorem pR (zs:List AV):∀(n k:Nat),k<n*zs.length->(List.replicate n zs).flatten.getD k aD=zs.getD (k%zs.length) aD
 |0,k,h=>by simp at h
 |n+1,k,h=>by
  rw[Dv,Bp,getD_eq,Dr];rw[Fg] at h;by_cases hk:k<zs.length
  · rw[if_pos hk,Cn hk];rfl
  rw[if_neg hk];have :=pR zs n (k -zs.length) (by omega);rw[getD_eq] at this;rw[this,<-Nat.mod_eq_sub_mod (by omega)]
theorem TI {G:Gh} {w:World} {zs:List AV} {z:Array Value} (h:gI G w zs z.toList) (wF:1<=zs.length) (n m:Nat) (hm:m=n*zs.length):
 gI G w (List.replicate n zs).flatten ((Array.range m).map fun i=>z[i%z.size]!).toList:=by
 have hl:=h.1;simp only[Dh] at hl;refine⟨by simp[hm],fun k hk=>?_⟩;have rS:k<n*zs.length:=by simpa using hk
 rw[pR zs n k rS,gR];have hkm:k<m:=by omega
 have bFj:k%zs.length<zs.length:=De _ wF;have :=h.2 (k%zs.length) bFj;rw[gR] at this
 have e:((Array.range m).map fun i=>z[i%z.size]!)[k]?=some (z[k%z.size]!):=by simp[hkm]
 rw[e]
 have e2:z[k%z.size]! =(z[k%zs.length]?).getD undef:=by
  rw[hl];have :k%zs.length<z.size:=by omega
  simp[getElem!_pos,this]
 simp only[Bc];rw[e2];exact this
section
variable {P:Program} {g:bB} {o:Oper}
theorem EY {zs:List AV} (h1:∀c∈zs,c.one=true) (n:Nat):∀c∈(List.replicate n zs).flatten,c.one=true:=fun c hc=>by simp only[List.mem_flatten,List.mem_replicate] at hc;obtain⟨l,⟨_,rfl⟩,hc⟩:=hc;exact h1 c hc
theorem Xy (n:Nat) (h:n<=2^40):IntKind.i64.wrap (n:Int)=(n:Int):=by
 have hs:IntKind.i64.signed=true:=rfl;have hb:IntKind.i64.bits=64:=rfl;unfold IntKind.wrap;simp only[hs,hb,Cq];have e:((n:Int)%2^64)=n:=by omega
 rw[e];have :¬((n:Int)≥2^(64 -1)):=by omega
 rw[Ae this];rfl
theorem MW {t e:TypeId} {sz:Nat} {i:TypeInfo} {z:Value} {zs:List AV} {x y:Operand} {x' y':Arg} (ho:o.op=.makeSlice t x y) (hx:bE g x=some x') (hy:bE g y=some y') (ht:oI P t=some (e,sz))
 (hi:P.info? e=some i) (hz:lN P e=some z) (DL:jC z.cells.toList=some zs) (wF:1<=sz) (tR:1<=i.bytes):EJ P g o (.jE sz i.bytes zs x' y'):=by
 intro s a G H H' w ob val eJ hw hs h hid cG xG eQ;have vx:=bD hw hs hx;have vy:=bD hw hs hy;obtain⟨hu,jA⟩:=mH ht;simp only[yQ] at h;split at h
 · rename_i l c hl hc;obtain⟨k1,e1,f1⟩:=uC hl vx;obtain⟨k2,e2,f2⟩:=uC hc vy;split at h
   · rename_i eK;obtain⟨c1,c2,c3⟩:=eK;simp only[Ac,Aj] at h;obtain⟨rfl,rfl⟩:=h;have ZP:=lV DL G w
     have bEj:c<=2^40:=by have :1*c<=i.bytes*c:=Cj _ tR;omega
     have w1:=Xy l (by omega);have w2:=Xy c bEj;have aSw:z.cells.size=zs.length:=(by simpa using ZP.1.1);have aXa:1<=zs.length:=(by omega);have hz1:=TI ZP.1 aXa c (c*sz) (by rw[c3]);have hp:gV w {w with heap:=w.heap.push (.cells ((Array.range (c*sz)).map fun i=>z.cells[i%z.cells.size]!) e)} (.cells (((Array.range (c*sz)).map fun i=>z.cells[i%z.cells.size]!).toList++[]).toArray e (0,0)):=⟨by rw[Bz,Array.toArray_toList],.now⟩;have hm:=hw.xT eJ hid _ _ [] hz1 (EY ZP.2 c) false (fun _=>rfl) cG xG eQ (Clear.zero _) hp;refine⟨.slice (some ⟨w.heap.size,0,none⟩) l c,_,_,?_,hm,?_⟩
     · have t1:(decide ((c:Int)<0)||decide ((i.bytes:Int)*(c:Int)>2^48))=false:=by
        have :(i.bytes:Int)*(c:Int)<=2^40:=(by exact_mod_cast c2);simp;omega
       have t2:¬((l:Int)<0):=(by omega);have t3:¬((l:Int)>(c:Int)):=(by omega);simp only[execOp,ho,Instr.makeSlice,Sem.run_bind,run_underlying hu w,Result.andThen_ok,f1,f2,asInt,asIntOf,Sem.run_pure,wK hi w,w1,w2,t1,Ae t2,Ae t3,Lj,Bj,Cm,run_askRoom,Int.toNat_natCast,eG jA w];by_cases h0:c*sz=0
       · have hA:∀f:Nat->Value,(Array.range 0).map f= #[]:=fun f=>by simp
         simp only[h0,if_true,Sem.run_bind,Sem.run_pure,Result.andThen_ok,hA];rfl
       simp only[h0,Cm,Sem.run_bind,lH hz w,Sem.run_pure,Result.andThen_ok];rfl
     have hlen:(List.replicate c zs).flatten.length=c*sz:=(by simp[c3]);refine VR.sl eJ sz 0 l c c ⟨w.heap.size,0,(List.replicate c zs).flatten.length,(((Array.range (c*sz)).map fun i=>z.cells[i%z.cells.size]!).toList++[]).length⟩ (by simp only[Gh.dS,if_true]) c1 (by simp only[hlen];omega) (.inl rfl)
   cases h
 cases h
theorem Zv {t e:TypeId} {sz:Nat} {i:TypeInfo} {z:Value} {zs:List AV} {x y:Operand} {x' y':Arg} (ho:o.op=.makeSlice t x y) (hx:bE g x=some x') (hy:bE g y=some y') (ht:oI P t=some (e,sz))
 (hi:P.info? e=some i) (hz:lN P e=some z) (DL:jC z.cells.toList=some zs) (wF:1<=sz) (tR:1<=i.bytes):cJ P g o (.jE sz i.bytes zs x' y'):=
 (MW ho hx hy ht hi hz DL wF tR).op fun _ _=>rfl
theorem aCg:∀{l:List (Nat×Operand)} {k:Nat} {ys:List Arg},JK g k l=some ys->ys.length=l.length:=by
 intro l
 induction l with
 |nil=>intro k ys h;obtain rfl:=Aa h;rfl
 |cons p r ih=>
  intro k ys h;obtain⟨i,x⟩:=p;simp only[JK] at h;split at h
  · split at h
    · rename_i y ys' _ h';obtain rfl:=Aa h;simp[ih h']
    cases h
  cases h
def Uj (mu:Bool) (sz:Nat) (ys:List Arg):Bool:=mu&&Nat.beq sz 1&&(match ys with|[.const (.str [])]=>true|_=>false)
theorem On {mu:Bool} {t e:TypeId} {sz len:Nat} {z:Value} {parts:Array (Nat×Operand)} {ys:List Arg} (ho:o.op=.buildSlice t len parts) (ht:oI P t=some (e,sz)) (hz:lN P e=some z)
 (hlen:len=parts.size) (yS:len*sz<=2^24) (hp:JK g 0 parts.toList=some ys) (hr:Uj mu sz ys=true):EJ P g o (.jE 1 1 [.str []] (.const (.int .i64 1)) (.const (.int .i64 1))):=by
 intro s a G H H' w ob val eJ hw hs h hid cG xG eQ;obtain⟨hu,jA⟩:=mH ht;simp only[Uj,Am] at hr;obtain⟨⟨_,aSq⟩,Ml⟩:=hr;obtain rfl:sz=1:=Bg aSq
 have Ml:ys=[.const (.str [])]:=by
  split at Ml
  · rfl
  cases Ml
 subst Ml;have oZ:parts.size=1:=by have :=aCg hp;simpa using this.symm
 obtain rfl:len=1:=by omega
 have fF:ob=.cells [.str []] false/\val=fun id=>.sl id 1 0 1 1:=by
  have e:yQ (Arg.eval g s) (.jE 1 1 [.str []] (.const (.int .i64 1)) (.const (.int .i64 1)))=some (.cells [.str []] false,fun id=>.sl id 1 0 1 1):=by simp[yQ,Arg.eval,asNat]
  rw[e] at h;simp only[Ac,Aj] at h;exact⟨h.1.symm,h.2.symm⟩
 obtain⟨rfl,rfl⟩:=fF;obtain⟨gX,hf,hv,h1⟩:=Oj hw hs 1 parts.toList [.const (.str [])] 0 [[.str []]] [] ((Array.range (1*1)).map (z.cells[· %z.cells.size]!)) hp rfl (by simp) (by simp[oZ]) (fun j hj=>by simp at hj) (fun c hc=>by cases hc);have hp':gV w {w with heap:=w.heap.push (.cells gX e)} (.cells (gX.toList++[]).toArray e (0,0)):=⟨by simp,.now⟩;have hm:=hw.xT eJ hid [.str []] gX.toList [] hv h1 false (fun _=>rfl) cG xG eQ (Clear.zero _) hp';refine⟨.slice (some ⟨w.heap.size,0,none⟩) 1 1,_,_,?_,hm,?_⟩
 · simp only[execOp,ho,Instr.buildSlice,Sem.run_bind,run_underlying hu w,eG jA w,Result.andThen_ok,if_neg (show ¬1*1>2^24 by omega),if_neg (show ¬1*1=0 by omega),lH hz w,Sem.run_pure,Jf,hf];rfl
 exact VR.sl eJ 1 0 1 1 1 ⟨w.heap.size,0,1,(gX.toList++[]).length⟩ (by simp only[Gh.dS,if_true];rfl) (Ak _) (by simp) (.inl rfl)
theorem rh {mu:Bool} {t e:TypeId} {sz len:Nat} {z:Value} {parts:Array (Nat×Operand)} {ys:List Arg} (ho:o.op=.buildSlice t len parts) (ht:oI P t=some (e,sz)) (hz:lN P e=some z)
 (hlen:len=parts.size) (yS:len*sz<=2^24) (hp:JK g 0 parts.toList=some ys) (hr:Uj mu sz ys=true):cJ P g o (.jE 1 1 [.str []] (.const (.int .i64 1)) (.const (.int .i64 1))):=
 (On ho ht hz hlen yS hp hr).op fun _ _=>rfl
theorem aUk {c:Call} {x:Operand} {x':Arg} {t elem:TypeId} {sz:Nat} {z:Value} {zs:List AV} (ho:o.op=.call c) (hc:c.callee=.builtin .clear) (ha:c.args= #[x])
 (hx:bE g x=some x') (MZ:c.argTypes[0]?=some t) (ht:P.underlying t=some (.slice elem)) (hz:lN P elem=some z) (DL:jC z.cells.toList=some zs):cJ P g o (.clr sz zs x'):=by
 intro s a G H w v H' hw hs h;have vx:=bD hw hs hx
 have fF:∀{u:Value} {w':World},a.eval x=u->(Builtin.clear_ c.argTypes o.type #[u]).run P w=.ok (.tuple #[]) w'->(execOp a.eval o).run P w=.ok (.value (.tuple #[])) w':=by intro u w' eB hr;simp[execOp,ho,resolve,hc,ha,invoke,builtin,eB,hr]
 simp only[dK] at h;split at h
 · rename_i hid;rw[hid] at vx;generalize eB:a.eval x=u at vx;cases vx;simp only[Ac,Aj] at h;obtain⟨rfl,rfl⟩:=h;exact cJ.pure' hw (fF eB (by simp[Builtin.clear_,MZ,run_underlying ht w])) (VR.nD G w)
 · rename_i hid;rw[hid] at vx;generalize eB:a.eval x=u at vx;simp only[Ac,Aj] at h;obtain⟨rfl,rfl⟩:=h;cases vx<;>exact cJ.pure' hw (fF eB (by simp[Builtin.clear_,MZ,run_underlying ht w])) (VR.nD G w)
 · rename_i hid;rw[hid] at vx;generalize eB:a.eval x=u at vx;cases vx;simp only[Ac,Aj] at h;obtain⟨rfl,rfl⟩:=h;exact cJ.pure' hw (fF eB (by simp[Builtin.clear_,MZ,run_underlying ht w])) (VR.nD G w)
 · rename_i id eO off len cap hnz hid;rw[hid] at vx;split at h
   · rename_i aSr;obtain⟨aSr,hzl⟩:=aSr;subst aSr;split at h
     · rename_i cs opn hg;split at h
       · rename_i gD;simp only[Ac,Aj] at h;obtain⟨rfl,rfl⟩:=h;generalize eB:a.eval x=u at vx
         cases vx with
         |sl _ _ _ _ _ iT l hl hlen bJw mY=>
          obtain⟨a1,a2,a3,a4,a5⟩:=hw.cells id l cs opn hl hg;obtain⟨ca,el,fz,b1,b2,b3⟩:=hw.room id l hl (.inl ⟨cs,opn,hg⟩);have ZP:=lV DL G w;have aSw:z.cells.size=zs.length:=(by simpa using ZP.1.1);have tS:(List.replicate len zs).flatten.length=len*eO:=by simp[hzl]
          have hvz:gI G w (List.replicate len zs).flatten (Builtin.zeroCells z.cells len).toList:=by
           by_cases bKf:0<eO
           · exact TI ZP.1 (by omega) len (len*z.cells.size) (by rw[aSw])
           have h0:eO=0:=(by omega);have Mm:zs=[]:=Fy.1 (by omega);refine⟨?_,fun j hj=>?_⟩
           · rw[tS];simp[Builtin.zeroCells,aSw,hzl]
           rw[tS,h0,Ke] at hj;omega
          have sP:=EY ZP.2 len;have p9:=hvz.1
          obtain⟨w',hr,hu⟩:=fQ P l.cS (l.base+off) (Builtin.zeroCells z.cells len).toList 0 w ⟨ca,el,fz,b1,by omega⟩
           (fun j hj=>by rw[Di,Bm];exact b3 (off+j) (by omega)) (sA hvz sP)
          rw[Di] at hu;obtain⟨r1,r2⟩:=hw.store hl hg hvz sP (by rw[tS];exact gD) hu;have Wb:len≠0:=fun e=>hnz e;refine⟨_,_,w',G,fF eB ?_,.inl rfl,r1,r2,VR.nD G w'⟩
          cases len with
          |zero=>exact absurd rfl Wb
          |succ n=>simp only[Builtin.clear_,MZ,Fc,Ep,Sem.run_bind,run_underlying ht w,Result.andThen_ok,lH hz w,hr,Sem.run_pure]
       cases h
     cases h
   cases h
 cases h
theorem aCt {src dst e:TypeId} {x:Operand} {x':Arg} (ho:o.op=.convert src dst x) (hx:bE g x=some x') (Zf:P.underlying src=some (.slice e)) (ED:P.underlying dst=some .string)
 (he:P.underlying e=some (.int .u8)):cJ P g o (.EL x'):=by
 intro s a G H w v H' hw hs h;have vx:=bD hw hs hx;simp only[dK] at h;generalize hva:Arg.eval g s x'=va at vx h;split at h
 · cases h
 rename_i aWz;split at h
 · rename_i els tH;simp only[Ag,Aj] at h;obtain⟨bs,SL,rfl,rfl⟩:=h;obtain⟨eu,e1,bJr,evs,ev,ef⟩:=tO P hw tH vx;have efl:=length_flatten eu;have hev:evs.length=els.length:=by rw[ev.1,efl,Dl]
   have ef0:=ef els.length (Ak _);rw[Dl,Bk (by omega)] at ef0
   have key:∀(els:List (List AV)) (bs:List UInt8),bytesOf els=some bs->∃ns:List Int,els.flatten=ns.map (fun n=>AV.int .u8 n)/\bs=ns.map fun n=>UInt8.ofNat n.toNat:=by
    intro els
    induction els with
    |nil=>intro bs hb;obtain rfl:=Aa hb;exact⟨[],rfl,rfl⟩
    |cons e r ih=>
     intro bs hb
     match e,hb with
     |[.int .u8 n],hb=>simp only[bytesOf,Ag] at hb;obtain⟨bs',wN,rfl⟩:=hb;obtain⟨ns,h1,h2⟩:=ih bs' wN;exact⟨n::ns,by simp[h1],by simp[h2]⟩
   obtain⟨ns,k1,k2⟩:=key els bs SL
   have pz:evs=ns.map (fun n=>Value.int .u8 n):=by
    apply Gu;intro j;have VL:els.flatten.length=ns.length:=(by rw[k1];simp);by_cases hj:j<ns.length
    · have :=ev.2 j (by omega);rw[k1] at this;have e2:(ns.map fun n=>AV.int .u8 n).getD j aD=.int .u8 (ns[j]):=(by simp[getD_eq,hj]);rw[e2] at this;have :=this.fV;rw[qS evs undef j (by rw[ev.1];omega),this];simp[hj]
    rw[Bw (by rw[ev.1];omega),Bw (by simp;omega)]
   have bGf:VR G w (.str bs) (.string ⟨bs.toArray⟩):=VR.MF _ _ _
   have fin:∀u:Value,a.eval x=u->(convert src dst u).run P w=.ok (.string ⟨bs.toArray⟩) w->∃n u w' G',(execOp a.eval o).run P w=.ok n w'/\Rf n u/\WR g G' H w'/\Ext G H w G' H w'/\VR G' w' (.str bs) u:=fun u hu hr=>cJ.pure' hw (by simp[execOp,ho,hu,hr]) bGf
   generalize eB:a.eval x=u at vx ef0
   have slc:∀{b o' len cap:Nat},u=.slice (some ⟨b,o',none⟩) len cap->len=els.length->(convert src dst u).run P w=.ok (.string ⟨bs.toArray⟩) w:=by
    intro b o' len cap hu' oS;subst hu' oS
    have hld:(loadCells ⟨b,o',none⟩ els.length).run P w=.ok (ns.map (Value.int .u8)).toArray w:=by rw[pz] at ef0;simpa [Builtin.firstCells] using ef0
    rw[run_convert_bytes_string w src dst e _ els.length cap Zf he ED,run_bytesToString w _ els.length cap ns hld,foldl_push_bytes,k2];simp[ByteArray.empty,ByteArray.emptyWithCapacity];rfl
   cases vx with
   |aS=>simp[dM] at tH;subst tH;simp[bytesOf] at SL;subst SL;refine fin _ eB ?_;simp only[convert,Sem.run_bind,run_underlying Zf w,run_underlying ED w,Result.andThen_ok,run_underlying he w,Conv.bytesToString];rfl
   |aV tag eO BG b o' cap us PE hh hv sQ=>
    simp only[dM] at tH;split at tH
    · obtain rfl:=Aa tH;exact fin _ eB (slc rfl rfl)
    cases tH
   |vA tag eO b o' s' sQ=>
    simp only[dM] at tH;split at tH
    · obtain rfl:=Aa tH;simp[bytesOf] at SL;subst SL;refine fin _ eB ?_;rw[run_convert_bytes_string w src dst e _ 0 0 Zf he ED,run_bytesToString w _ 0 0 [] (by simp[loadCells,loadCellsFrom])];rfl
    cases tH
   |sl id eO off len cap iT l hl hlen gD mY=>
    refine fin _ eB (slc rfl ?_);simp only[dM] at tH;split at tH
    · split at tH
      · split at tH
        · rename_i KT hle;obtain rfl:=Aa tH;rename_i hs1 cs;have :=(lT 1 len (cs.drop off) (by simp;omega)).2.1;omega
        cases tH
      cases tH
    cases tH
   |str s=>exact absurd rfl (aWz _)
   |_=>simp[dM] at tH
 cases h
end
end
section
section
variable {P:Program} {g:bB} {o:Oper}
theorem XN (h:Array Go.Obj) (x:Go.Obj) (f:Go.Obj->Go.Obj):(h.push x).modify h.size f=h.push (f x):=by
 apply Array.ext
 · simp
 intro i h1 h2;simp only[Array.size_push] at h2;rw[Array.getElem_modify];by_cases hi:i=h.size
 · subst hi;simp
 have :i<h.size:=by omega
 rw[if_neg (Ne.symm hi)];simp[Array.getElem_push,this]
theorem SC {src dst e:TypeId} {x:Operand} {x':Arg} (ho:o.op=.convert src dst x) (hx:bE g x=some x') (Zf:P.underlying src=some .string) (ED:P.underlying dst=some (.slice e))
 (he:P.underlying e=some (.int .u8)):EJ P g o (.CO x'):=by
 intro s a G H H' w ob val eJ hw hs h hid cG xG eQ;have vx:=bD hw hs hx;simp only[yQ] at h;split at h
 · rename_i str aWr;rw[aWr] at vx;have eB:=vx.fB;simp only[Ac,Aj] at h;obtain⟨rfl,rfl⟩:=h;have jA:(⟨str.toArray⟩:ByteArray).size=str.length:=by simp[ByteArray.size]
   obtain⟨cap,wb,AB⟩:=CJ (P:=P) (need:=str.length) (VN:=0) (e:=e) w
   let vs:List Value:=str.map fun b=>.int .u8 b.toNat
   let rest:List Value:=List.replicate (cap -str.length) (.int .u8 0);let w':World:={w with heap:=w.heap.push (.cells (vs++rest).toArray e (cap,cap+1)),drawn:=w.drawn+1}
   have tS:(Qs str).flatten=str.map fun b=>AV.int .u8 b.toNat:=by
    unfold Qs;clear aWr vx eB jA wb AB
    induction str with
    |nil=>rfl
    |cons b r ih=>simp[ih]
   have p9:vs.length=str.length:=(by simp[vs]);have Wf:rest.length=cap -str.length:=by simp[rest]
   have hv:gI G w (Qs str).flatten vs:=by rw[tS];refine⟨by simp[vs],fun j hj=>?_⟩;simp at hj;simp only[vs,getD_eq,Bo,Ab hj,Bt,Bc];exact .int _ _
   have hp:gV w w' (.cells (vs++rest).toArray e (cap,cap+1)):=⟨rfl,.now⟩
   obtain⟨G',hl,hm,r3⟩:=hw.Sv eJ hid _ vs rest hv cG xG eQ (fz:=(cap,cap+1)) (fun o' ho'=>by
    simp only[Gr,An,p9,Wf] at ho'
    simp;omega) hp
   have PE:∀x∈Qs str,x.length=1:=fun x hx=>by simp only[Qs,Bf] at hx;obtain⟨b,_,rfl⟩:=hx;rfl
   have hlen:(Qs str).length=str.length:=(by simp[Qs]);have bEx:(Qs str).flatten.length=str.length:=(by rw[tS];simp);refine⟨.slice (some ⟨w.heap.size,0,none⟩) str.length cap,w',G',?_,hm,?_⟩
   · have aWk:(convert src dst (.string ⟨str.toArray⟩)).run P w=(Conv.stringToBytes e ⟨str.toArray⟩).run P w:=by
      simp only[convert,Sem.run_bind,run_underlying Zf w,run_underlying ED w,Result.andThen_ok,run_underlying he w]
     have kY:(((⟨str.toArray⟩:ByteArray).data.map fun b=>(Value.int .u8 b.toNat))++Array.replicate (cap -str.length) (.int .u8 0))=(vs++rest).toArray:=by apply Fq;simp[vs,rest]
     have hsb:(Conv.stringToBytes e ⟨str.toArray⟩).run P w=.ok (.slice (some ⟨w.heap.size,0,none⟩) str.length cap) w':=by simp only[Conv.stringToBytes,jA,Sem.run_bind,AB,Result.andThen_ok,kY];simp only[newRow,newObj,markStringish,shape,freeze,Sem.run_bind,Sem.run,Result.andThen_ok,World.shape?,Array.getElem?_push_size,World.freeze,Nat.one_ne_zero,Cm,Sem.run_pure];rw[XN];simp only[Gr,An,p9,Wf];have :str.length+(cap -str.length)=cap:=(by omega);simp[this,w']
     simp[execOp,ho,eB,aWk,hsb]
   have :=VR.aV (G:=G') (w:=w') (eJ+2) 1 (Qs str) w.heap.size 0 cap (fun j=>vs.getD j undef) PE (fun j hj=>⟨(r3 j hj).1,(r3 j hj).2.1,by
    rw[tS] at hj ⊢;simp at hj;simp only[getD_eq,Bo,Ab hj,Bt,Bc]
    rfl⟩) (fun j hj=>(r3 j hj).2.2) ⟨by omega,⟨_,hl,rfl,by simp only[bEx,hlen];omega,rfl,by simp only[Wf,hlen,Dl]⟩⟩
   rw[hlen] at this;exact this
 cases h
theorem aDa {src dst e:TypeId} {x:Operand} {x':Arg} (ho:o.op=.convert src dst x) (hx:bE g x=some x') (Zf:P.underlying src=some .string) (ED:P.underlying dst=some (.slice e))
 (he:P.underlying e=some (.int .u8)):cJ P g o (.CO x'):=
 (SC ho hx Zf ED he).op fun _ _=>rfl
theorem WR.DP {G:Gh} {H H':aA} {w w':World} (h:WR g G H w) (eJ:Nat) (o:dY) (x:Go.Obj) (ho:o.cS=true) (hid:G.loc eJ=none) (cG:∀m,H'.get m=if m=eJ then some o else H.get m) (xG:H.next<=H'.next) (BO:eJ<H'.next)
 (p:gV w w' x) (Tv:(∀a u,VR G w a u->VR G w' a u)->LG g G w' ⟨w.heap.size,0,0,1⟩ o):Made g G H w eJ o (G.dS eJ ⟨w.heap.size,0,0,1⟩) H' w':=by
 have hp:=h.GQ p;have he:=Ext.GQ h p
 refine⟨hp.IA eJ _ _ hid cG xG BO (fun id l' hl hv=>.inl (Ne.symm (Nat.ne_of_lt (h.mR hl hv)))) (fun j _ hi=>?_) (fun CY aDc yT=>by rw[yT] at ho;cases ho) (fun hh=>?_) (fun _=>?_),
  ⟨⟨w.heap.size,0,0,1⟩,rfl,by simp only[Gh.dS,if_true],fun id bN=>by simp only[Gh.dS];rw[if_neg bN]⟩,fun {G0 H0 w0} e0 Mg=>(e0.trans he).IA eJ _ _ hid cG xG Mg (.inl e0.size),fun b o hi=>.inl hi,fun b o hi=>hi,p.size,p.VN⟩
 · obtain⟨v,hv⟩:=h.gN _ _ hi;have :=pJ hv;simp at this
 · rcases hh with ⟨_,_,hh⟩|hh<;>rw[hh] at ho<;>cases ho
 exact⟨rfl,rfl,Tv fun a u hv=>hv.mono he.loc he.gJ⟩
theorem WR.sr {G:Gh} {H H':aA} {w w':World} (h:WR g G H w) (eJ:Nat) (hid:G.loc eJ=none) (cG:∀m,H'.get m=if m=eJ then some (.map []) else H.get m) (xG:H.next<=H'.next) (BO:eJ<H'.next)
 (p:gV w w' (.map #[] 0)):Made g G H w eJ (.map []) (G.dS eJ ⟨w.heap.size,0,0,1⟩) H' w':=
 h.DP eJ _ _ rfl hid cG xG BO p fun _=>⟨#[],0,p.new,rfl,⟨fun i hi=>absurd hi (Ax i),fun i j hi=>absurd hi (Ax i)⟩,fun j hj=>absurd hj (Ax j)⟩
theorem Ll {t:TypeId} {r:Option Operand} {kt vt:TypeId} (ho:o.op=.makeMap t r) (ht:P.underlying t=some (.map kt vt)) (hr:r=none\/∃k n,r=some (.const (.int k n))):EJ P g o .AF:=by
 intro s a G H H' w ob val eJ hw hs h hid cG xG eQ;simp only[yQ,Ac,Aj] at h;obtain⟨rfl,rfl⟩:=h;have hp:gV w {w with heap:=w.heap.push (.map #[] 0)} (.map #[] 0):=⟨rfl,.now⟩;have hm:=hw.sr eJ hid cG xG eQ hp;refine⟨.map (some w.heap.size),_,_,?_,hm,?_⟩
 · rcases hr with rfl|⟨k,n,rfl⟩
   · simp[execOp,ho,Instr.makeMap,newObj,Sem.run]
   simp[execOp,ho,Instr.makeMap,run_underlying ht w,Act.eval,asInt,asIntOf,newObj,Sem.run]
 exact VR.map eJ ⟨w.heap.size,0,0,1⟩ (by simp only[Gh.dS,if_true])
theorem XG {t:TypeId} {r:Option Operand} {kt vt:TypeId} (ho:o.op=.makeMap t r) (ht:P.underlying t=some (.map kt vt)) (hr:r=none\/∃k n,r=some (.const (.int k n))):cJ P g o .AF:=
 (Ll ho ht hr).op fun _ _=>rfl
def JE (P:Program) (t:TypeId):Option Sk:=
 match P.underlying t with
 |some .bool=>some .b
 |some (.int _)=>some .i
 |some .string=>some .s
 |some (.struct _)|some (.array _ _)=>(oG P 60 t).map .f
 |_=>none
def Nq:Sk->Bool
 |.f _=>false
 |_=>true
theorem NF {G:Gh} {w:World} {kt:TypeId} {k:Sk} {d:TypeDesc} (hk:JE P kt=some k) (hp:Nq k=true) (hd:P.underlying kt=some d) {x y:AV} {u v:Value} {b:Bool} (h:sameKey k x y=some b) (hx:VR G w x u) (hy:VR G w y v):
 Instr.sameNow d u v=some b:=by
 unfold JE at hk;rw[hd] at hk
 cases x<;>cases y<;>simp only[sameKey] at h<;>first
  |(cases h;done)
  |skip
 · cases k<;>simp only[] at h<;>first|(cases h;done)|skip
   obtain rfl:=Aa h;rw[hx.jJ,hy.jJ];cases d<;>simp at hk<;>rfl
 · cases k<;>simp only[] at h<;>first|(cases h;done)|skip
   split at h
   · rename_i wh;obtain rfl:=Aa h;subst wh;rw[hx.fV,hy.fV];cases d<;>simp at hk<;>simp[Instr.sameNow]
   cases h
 · cases k<;>simp only[] at h<;>first|(cases h;done)|skip
   obtain rfl:=Aa h;rw[hx.fB,hy.fB];cases d<;>simp at hk;simp only[Instr.sameNow,Ac];rw[beq_toListBytes,ByteArray.toList_mk,ByteArray.toList_mk]
 cases k<;>simp only[] at h<;>first|(cases h;done)|(cases hp;done)
theorem zQ {α:Type} (P:Program) (w:World) (f:α->PUnit->Sem (ForInStep PUnit)):∀(l:List α),(∀x∈l,∀r,(f x r).run P w=.ok (.yield PUnit.unit) w)->(forIn l PUnit.unit f:Sem PUnit).run P w=.ok PUnit.unit w
 |[],_=>by simp
 |x::l,h=>by simp only[List.forIn_cons,Sem.run_bind,h x (by simp),Result.andThen_ok];exact zQ P w f l fun y hy=>h y (by simp[hy])
theorem GU {P:Program} (w:World) (em:Bool):∀(f:Nat) (t:TypeId) (ks:List Sk),oG P f t=some ks->∀(d:Nat) (b:Bool) (us:List Value),fG P t=some b->us.length=ks.length->
 (Instr.checkKey em (d+f) t (valOf b us)).run P w=.ok () w:=by
 intro f
 induction f with
 |zero=>intro t ks h;cases h
 |succ f ih=>
  intro t ks h d b us hb hl;rw[show d+(f+1)=(d+f)+1 from rfl,Instr.checkKey];simp only[oG] at h;split at h
  · rename_i hu;simp only[Sem.run_bind,run_underlying hu w,Result.andThen_ok];rfl
  · rename_i hu;simp only[Sem.run_bind,run_underlying hu w,Result.andThen_ok];rfl
  · rename_i hu;simp only[Sem.run_bind,run_underlying hu w,Result.andThen_ok];rfl
  · rename_i fs hu;split at h
    · cases h
    have Ma:b=true:=(by simp only[fG,hu,Ac] at hb;exact hb.symm);subst Ma;simp only[valOf,if_true,Sem.run_bind,run_underlying hu w,Result.andThen_ok]
    have key:∀(l:List Field) (off:Nat) (qi:List Sk),DU P (oG P f) off l=some qi->off+qi.length<=us.length->
     ∀x∈l,(if x.name≠ "_" then(do Instr.checkKey em (d+f) x.type (←part x.type us.toArray x.offset)) else pure ():Sem Unit).run P w=.ok () w:=by
     intro l
     induction l with
     |nil=>intro off qi _ _ x hx;cases hx
     |cons fd l ihl=>
      intro off qi hs hi x hx;simp only[DU] at hs;split at hs
      · rename_i hc;split at hs
        · rename_i k hk;split at hs
          · rename_i jA;simp only[Ag] at hs;obtain⟨ks2,hs2,rfl⟩:=hs;simp only[An] at hi
            rcases Aq.1 hx with rfl|hx
            · obtain⟨bf,Tq,Ts⟩:=zS hk;have p1:=mN jA Tq w (us:=us) (off:=x.offset) (by omega) Ts;simp only[ne_eq,if_pos hc.1,Sem.run_bind,p1,Result.andThen_ok];exact ih x.type k hk d bf _ Tq (by simp;omega)
            exact ihl (off+k.length) ks2 hs2 (by omega) x hx
          cases hs
        cases hs
      cases hs
    have h1:=key fs.toList 0 ks h (by omega)
    rw[<-Array.forIn_toList,zQ P w _ fs.toList (fun x hx r=>by
     have :=h1 x hx;split at this
     · rename_i hn;rw[if_pos hn];simp only[Sem.run_bind] at this ⊢;generalize (part x.type us.toArray x.offset).run P w=rr at this ⊢
       cases rr with
       |ok p w1=>simp only[Result.andThen_ok] at this ⊢;rw[this];simp
       |halt q w1=>cases this
     rename_i hn;rw[if_neg hn]
     simp)]
    simp
  · rename_i n e hu;have Ma:b=true:=by simp only[fG,hu,Ac] at hb;exact hb.symm
    subst Ma;split at h
    · rename_i k hk;split at h
      · rename_i jA;obtain rfl:=Aa h;obtain⟨bf,Tq,Ts⟩:=zS hk;simp only[valOf,if_true,Sem.run_bind,run_underlying hu w,Result.andThen_ok];have hlk:((List.replicate n k).flatten).length=n*k.length:=(by simp);rw[hlk] at hl;simp only[Std.Legacy.Range.forIn_eq_forIn_range',Std.Legacy.Range.size,Ie,Nat.add_one_sub_one,Ku]
        rw[zQ P w _ (List.range' 0 n) (fun i hi r=>by
         have oY:i<n:=by have :=List.mem_range'_1.1 hi;omega
         have gD:i*k.length+k.length<=us.length:=by rw[hl,<-Fg];exact Cj _ oY
         have p1:=mN jA Tq w (us:=us) (off:=i*k.length) gD Ts
         simp only[Sem.run_bind,eG jA w,Result.andThen_ok,p1,ih e k hk d bf _ Tq (show((us.drop (i*k.length)).take k.length).length=k.length by simp;omega),Sem.run_pure])]
        simp
      cases h
    cases h
  cases h
theorem Zh {kt:TypeId} {sh:List Sk} (hk:JE P kt=some (.f sh)):oG P 60 kt=some sh/\fG P kt=some true/\∃d,P.underlying kt=some d/\(∀u v,Instr.sameNow d u v=none):=by
 unfold JE at hk
 split at hk<;>rename_i hu<;>first
  |(cases hk;done)
  |(simp only[Ag,Sk.f.injEq] at hk
    obtain⟨_,h1,rfl⟩:=hk;refine⟨h1,by simp[fG,hu],_,hu,fun u v=>?_⟩
    cases u<;>cases v<;>rfl)
theorem run_checkKey {G:Gh} {kt:TypeId} {k:Sk} (hk:JE P kt=some k) (b:Bool) (d:Nat) {x:AV} {u:Value} {w:World} (hx:VR G w x u) (HI:PS k x=true):
 (Instr.checkKey b (d+60) kt u).run P w=.ok () w:=by
 by_cases hp:Nq k=true
 · have rS:=hk;unfold JE at hk;rw[show d+60=(d+59)+1 from rfl,Instr.checkKey]
   split at hk<;>rename_i hu<;>first
    |(cases hk;done)
    |(simp only[Ag] at hk;obtain⟨_,_,rfl⟩:=hk;cases hp;done)
    |(simp only[Sem.run_bind,run_underlying hu w,Result.andThen_ok]
      rfl)
 cases k with
 |f sh=>
  obtain⟨h1,h2,_⟩:=Zh hk
  cases x<;>simp only[PS] at HI<;>first|(cases HI;done)|skip
  rename_i xs;obtain⟨us,e1,l1,_,_⟩:=hx.vD;subst e1;have :=GU w b 60 kt sh h1 d true us h2 (by rw[l1];exact Ea HI);simpa [valOf] using this
 |_=>exact absurd rfl hp
theorem MT {G:Gh} {w:World} {kt:TypeId} {k:Sk} {d:TypeDesc} (hk:JE P kt=some k) (hp:Nq k=true) (hd:P.underlying kt=some d) {x:AV} {u:Value} (hx:VR G w x u):
 ∀(es:List (AV×AV)) (ents:List MapEntry) (i:Nat) (r:Option (Nat×AV)),lZ k x es i=some r->ents.length=es.length->
  (∀j,j<es.length->VR G w (es.getD j (aD,aD)).1 (ents.getD j default).key/\VR G w (es.getD j (aD,aD)).2 (ents.getD j default).val)->
  ∃r',Instr.findNow d u ents i=some r'/\((r=none/\r'=none)\/∃j av vv,r=some (j,av)/\r'=some (j,vv)/\VR G w av vv/\i<=j/\j<i+es.length/\sameKey k x (es.getD (j -i) (aD,aD)).1=some true)
 |[],[],i,r,h,hl,hv=>by obtain rfl:=Aa h;exact⟨none,rfl,.inl ⟨rfl,rfl⟩⟩
 |[],_::_,i,r,h,hl,hv=>by simp at hl
 |(y,z)::es,[],i,r,h,hl,hv=>by simp at hl
 |(y,z)::es,e::ents,i,r,h,hl,hv=>by
  have h0:=hv 0 (by simp);simp only[Ci] at h0;simp only[lZ] at h;split at h
  · rename_i hs;obtain rfl:=Aa h;have hn:=NF hk hp hd hs hx h0.1;refine⟨some (i,e.val),by simp[Instr.findNow,hn],.inr ⟨i,z,e.val,rfl,rfl,h0.2,Ak _,by simp,by simpa using hs⟩⟩
  · rename_i hs;have hn:=NF hk hp hd hs hx h0.1
    obtain⟨r',h1,h2⟩:=MT hk hp hd hx es ents (i+1) r h (by simpa using hl) (fun j hj=>by
     have :=hv (j+1) (by simpa using hj)
     simpa using this)
    refine⟨r',by simp only[Instr.findNow,hn];exact h1,?_⟩
    rcases h2 with h2|⟨j,av,vv,a1,a2,a3,a4,a5,a6⟩
    · exact .inl h2
    refine .inr ⟨j,av,vv,a1,a2,a3,by omega,by simp;omega,?_⟩;rw[show j -i=(j -(i+1))+1 by omega,Dw];exact a6
  cases h
theorem MS {G:Gh} {w:World} {kt:TypeId} {sh:List Sk} (hk:JE P kt=some (.f sh)) {x:AV} {u:Value} (hx:VR G w x u):
 ∀(es:List (AV×AV)) (ents:List MapEntry) (i:Nat) (r:Option (Nat×AV)),lZ (.f sh) x es i=some r->ents.length=es.length->
  (∀j,j<es.length->VR G w (es.getD j (aD,aD)).1 (ents.getD j default).key/\VR G w (es.getD j (aD,aD)).2 (ents.getD j default).val)->
  ∃r',(Instr.findAsking kt u ents i).run P w=.ok r' w/\((r=none/\r'=none)\/∃j av vv,r=some (j,av)/\r'=some (j,vv)/\VR G w av vv/\i<=j/\j<i+es.length/\sameKey (.f sh) x (es.getD (j -i) (aD,aD)).1=some true)
 |[],[],i,r,h,hl,hv=>by obtain rfl:=Aa h;exact⟨none,by simp[Instr.findAsking],.inl ⟨rfl,rfl⟩⟩
 |[],_::_,i,r,h,hl,hv=>by simp at hl
 |(y,z)::es,[],i,r,h,hl,hv=>by simp at hl
 |(y,z)::es,e::ents,i,r,h,hl,hv=>by
  obtain⟨h1,h2,_⟩:=Zh hk;have h0:=hv 0 (by simp);simp only[Ci] at h0;simp only[lZ] at h
  have heq:∀b,sameKey (.f sh) x y=some b->(Op.equal kt u e.key).run P w=.ok b w:=by
   intro b hs
   cases x<;>cases y<;>simp only[sameKey] at hs<;>first|(cases hs;done)|skip
   rename_i xs ys;obtain⟨us,e1,l1,_,v1⟩:=hx.vD;obtain⟨vs,e2,l2,_,v2⟩:=h0.1.vD;rw[e1,e2];have :=WJ 60 kt sh h1 true h2 (10000 -60) G w xs ys us vs b hs ⟨l1,v1⟩ ⟨l2,v2⟩;have h3:(Op.equalIn 10000 kt (.agg us.toArray) (.agg vs.toArray)).run P w=.ok b w:=(by simpa [valOf] using this);exact h3
  split at h
  · rename_i hs;obtain rfl:=Aa h;refine⟨some (i,e.val),by simp[Instr.findAsking,heq _ hs],.inr ⟨i,z,e.val,rfl,rfl,h0.2,Ak _,by simp,by simpa using hs⟩⟩
  · rename_i hs
    obtain⟨r',h1,h2⟩:=MS hk hx es ents (i+1) r h (by simpa using hl) (fun j hj=>by
     have :=hv (j+1) (by simpa using hj)
     simpa using this)
    refine⟨r',by simp[Instr.findAsking,heq _ hs];exact h1,?_⟩
    rcases h2 with h2|⟨j,av,vv,a1,a2,a3,a4,a5,a6⟩
    · exact .inl h2
    refine .inr ⟨j,av,vv,a1,a2,a3,by omega,by simp;omega,?_⟩;rw[show j -i=(j -(i+1))+1 by omega,Dw];exact a6
  cases h
theorem run_findKey {G:Gh} {w:World} {kt:TypeId} {k:Sk} (hk:JE P kt=some k) {x:AV} {u:Value} (hx:VR G w x u) {es:List (AV×AV)} {ents:Array MapEntry} {r:Option (Nat×AV)} (h:lZ k x es 0=some r) (hl:ents.size=es.length)
 (hv:∀j,j<es.length->VR G w (es.getD j (aD,aD)).1 (ents.getD j default).key/\VR G w (es.getD j (aD,aD)).2 (ents.getD j default).val):
 ∃r',(Instr.findKey kt u ents.toList).run P w=.ok r' w/\((r=none/\r'=none)\/∃j av vv,r=some (j,av)/\r'=some (j,vv)/\VR G w av vv/\j<es.length/\sameKey k x (es.getD j (aD,aD)).1=some true):=by
 have lP:∀j,j<es.length->VR G w (es.getD j (aD,aD)).1 (ents.toList.getD j default).key/\VR G w (es.getD j (aD,aD)).2 (ents.toList.getD j default).val:=fun j hj=>by
  have :=hv j hj
  have e:ents.toList.getD j default=ents.getD j default:=by simp[List.getD,Bn]
  rw[e];exact this
 have fin:∀{r':Option (Nat×Value)},((r=none/\r'=none)\/∃j av vv,r=some (j,av)/\r'=some (j,vv)/\VR G w av vv/\0<=j/\j<0+es.length/\sameKey k x (es.getD (j -0) (aD,aD)).1=some true)->
  ((r=none/\r'=none)\/∃j av vv,r=some (j,av)/\r'=some (j,vv)/\VR G w av vv/\j<es.length/\sameKey k x (es.getD j (aD,aD)).1=some true):=by
  intro r' h2
  rcases h2 with h2|⟨j,av,vv,a1,a2,a3,a4,a5,a6⟩
  · exact .inl h2
  exact .inr ⟨j,av,vv,a1,a2,a3,by omega,by simpa using a6⟩
 by_cases hp:Nq k=true
 · obtain⟨d,hd⟩:∃d,P.underlying kt=some d:=by
    unfold JE at hk
    split at hk<;>rename_i hu<;>first|(cases hk;done)|exact⟨_,hu⟩
   obtain⟨r',h1,h2⟩:=MT hk hp hd hx es ents.toList 0 r h (by simpa using hl) lP;refine⟨r',?_,fin h2⟩;simp only[Instr.findKey,Sem.run_bind,run_underlying hd w,Result.andThen_ok,h1];rfl
 cases k with
 |f sh=>
  obtain⟨_,_,d,hd,hn⟩:=Zh hk;obtain⟨r',h1,h2⟩:=MS hk hx es ents.toList 0 r h (by simpa using hl) lP;refine⟨r',?_,fin h2⟩;simp only[Instr.findKey,Sem.run_bind,run_underlying hd w,Result.andThen_ok]
  cases Oy:ents.toList with
  |nil=>rw[Oy] at h1;simp only[Instr.findAsking,Sem.run_pure,Result.ok.injEq,Kq] at h1;subst h1;simp[Instr.findNow]
  |cons e l=>rw[Oy] at h1;simp only[Instr.findNow,hn];exact h1
 |_=>exact absurd rfl hp
theorem run_getObj_map {w:World} {r:Nat} {ents:Array MapEntry} {clock:Nat} (h:w.heap[r]?=some (.map ents clock)):(getObj r).run P w=.ok (.map ents clock) w:=by simp[getObj,Sem.run,h]
theorem rn {t kt vt:TypeId} {k:Sk} {zv:Value} {z:AV} {ok:Bool} {x i:Operand} {x' i':Arg} (ho:o.op=.lookup t x i ok) (hx:bE g x=some x') (hi:bE g i=some i') (ht:P.underlying t=some (.map kt vt))
 (hk:JE P kt=some k) (hz:lN P vt=some zv) (hzc:ofConst zv=some z):cJ P g o (.lookup k z ok x' i'):=by
 intro s a G H w v H' hw hs h;have vx:=bD hw hs hx;have vi:=bD hw hs hi;have hzero:=lH hz w;have hzr:=GN hzc G w
 have two:∀{p q:AV} {u1 u2:Value},VR G w p u1->VR G w q u2->VR G w (.gP [p,q]) (.tuple #[u1,u2]):=fun h1 h2=>.gP [_,_] [_,_] rfl (h1.cons (h2.cons (gI.nil G w))).2
 simp only[dK] at h;split at h
 · rename_i VK;have aRl:∀b,(Instr.checkKey b 10000 kt (a.eval i)).run P w=.ok () w:=fun b=>run_checkKey hk b 9940 vi VK;split at h
   · rename_i hid;rw[hid] at vx;generalize eB:a.eval x=u at vx;cases vx;simp only[Ac,Aj] at h;obtain⟨rfl,rfl⟩:=h
     have wg:(Instr.findKey kt (a.eval i) []).run P w=.ok none w:=by
      obtain⟨r',h1,h2⟩:=run_findKey (P:=P) hk vi (es:=[]) (ents:= #[]) (r:=none) rfl rfl (fun j hj=>absurd hj (Ax j))
      rcases h2 with ⟨_,rfl⟩|⟨j,av,vv,hh,_⟩
      · exact h1
      cases hh
     refine cJ.pure' hw (u:=if ok then .tuple #[zv,.bool false] else zv) ?_ (by cases ok<;>simp <;>first|exact hzr|exact two hzr (.bool false));simp only[execOp,ho,eB,Instr.lookup,Sem.run_bind,run_underlying ht w,Result.andThen_ok,Sem.run_pure,aRl,wg,hzero]
   · rename_i id hid;rw[hid] at vx;generalize eB:a.eval x=u at vx
     cases vx with
     |map _ l hl=>
      split at h
      · rename_i es hg;obtain⟨_,_,ents,clock,m1,m2,mb,m3⟩:=hw.gZ id l _ hl hg rfl;have hgo:=run_getObj_map (P:=P) m1;split at h
        · rename_i j av hf;simp only[Ac,Aj] at h;obtain⟨rfl,rfl⟩:=h;obtain⟨r',h1,h2⟩:=run_findKey (P:=P) hk vi hf m2 m3
          rcases h2 with ⟨hh,_⟩|⟨j',av',vv,e1,e2,e3,_⟩
          · cases hh
          cases e1;subst e2;refine cJ.pure' hw (u:=if ok then .tuple #[vv,.bool true] else vv) ?_ (by cases ok<;>simp <;>first|exact e3|exact two e3 (.bool true));simp only[execOp,ho,eB,Instr.lookup,Sem.run_bind,run_underlying ht w,Result.andThen_ok,hgo,Sem.run_pure,aRl,h1]
        · rename_i hf;simp only[Ac,Aj] at h;obtain⟨rfl,rfl⟩:=h;obtain⟨r',h1,h2⟩:=run_findKey (P:=P) hk vi hf m2 m3
          rcases h2 with ⟨_,e2⟩|⟨j',av',vv,e1,_⟩
          · subst e2;refine cJ.pure' hw (u:=if ok then .tuple #[zv,.bool false] else zv) ?_ (by cases ok<;>simp <;>first|exact hzr|exact two hzr (.bool false));simp only[execOp,ho,eB,Instr.lookup,Sem.run_bind,run_underlying ht w,Result.andThen_ok,hgo,Sem.run_pure,aRl,h1,hzero]
          cases e1
        cases h
      cases h
   cases h
 cases h
theorem WR.GW {G:Gh} {H:aA} {w w':World} (h:WR g G H w) {id:Nat} {l:Loc} {o o':dY} {x:Go.Obj} (hl:G.loc id=some l) (hg:H.get id=some o) (ho:o.cS=true) (ho':o'.cS=true)
 (jS:w'.heap=w.heap.setIfInBounds l.cS x) (EU:AS w w') (Tv:(∀a u,VR G w a u->VR G w' a u)->w'.heap[l.cS]?=some x->LG g G w' l o'):
 WR g G (H.set id o') w'/\Ext G H w G (H.set id o') w':=by
 have lM:H.live id:=⟨_,hg,PX ho⟩;obtain⟨m1,m2,m3⟩:=h.gZ id l _ hl hg ho;have eQ:=m3.lt ho
 have GF:∀b,b≠l.cS->w'.heap[b]?=w.heap[b]?:=fun b hb=>by rw[jS,Array.getElem?_setIfInBounds_ne];exact Ne.symm hb
 have xI:w'.heap[l.cS]?=some x:=by rw[jS];simp[eQ]
 have oD:∀b o,G.gJ b o->b≠l.cS:=fun b o hi hb=>by obtain⟨v,hv⟩:=h.gN b o hi;obtain⟨c,el,fz,hc,_⟩:=vF hv;rw[hb] at hc;exact m3.BY ho hc
 have hic:∀b o,G.gJ b o->w'.cell? ⟨b,o,none⟩=w.cell? ⟨b,o,none⟩:=fun b o hi=>fE (GF b (oD b o hi));have xF:∀{a u},VR G w a u->VR G w' a u:=fun hv=>hv.mono (fun _ _ h=>h) (fun b o hi=>⟨hi,hic b o hi⟩)
 have bN:∀{i l'},i≠id->G.loc i=some l'->H.live i->l'.cS≠l.cS:=fun {i l'} hi xE sR hb=>by
  obtain⟨ob,Tv,hov⟩:=sR
  cases ob with
  |cells cs opn=>obtain⟨c,el,fz,hc,_⟩:=h.room i l' xE (.inl ⟨cs,opn,Tv⟩);rw[hb] at hc;exact m3.BY ho hc
  |tok=>obtain⟨c,el,fz,hc,_⟩:=h.room i l' xE (.inr Tv);rw[hb] at hc;exact m3.BY ho hc
  |dead=>cases hov
  |_=>
   obtain⟨n1,n2,_⟩:=h.gZ i l' _ xE Tv rfl
   rcases h.kT i id l' l hi xE hl ⟨_,Tv,rfl⟩ lM with hd|hd|hd
   · exact hd hb
   · omega
   omega
 have cG:∀{m},m≠id->(H.set id o').get m=H.get m:=fun hm=>by rw[aA.aC,if_neg hm]
 have aBc:(H.set id o').get id=some o':=by rw[aA.aC,if_pos rfl]
 have qG:∀{m},(H.set id o').live m->H.live m:=fun {m} hv=>by
  rcases aA.lA.1 hv with ⟨rfl,_⟩|⟨_,hv⟩
  · exact lM
  exact hv
 refine⟨{
  cells:=fun i l' cs opn h1 h2=>by
   have hi:i≠id:=fun e=>by rw[e,aBc] at h2;cases h2;cases ho'
   rw[cG hi] at h2;obtain⟨a1,a2,a3,a4,a5⟩:=h.cells i l' cs opn h1 h2;refine⟨a1,a2,a3,a4,fun j hj=>?_⟩;obtain⟨u,hu,KU⟩:=a5 j hj;exact⟨u,by rw[fE (GF _ (bN hi h1 ⟨_,h2,rfl⟩))];exact hu,xF KU⟩
  room:=fun i l' h1 h2=>by
   have hi:i≠id:=fun e=>by rw[e,aBc] at h2;rcases h2 with ⟨_,_,h2⟩|h2<;>cases h2<;>cases ho'
   rw[cG hi] at h2;obtain⟨c,el,fz,a1,a2,a3⟩:=h.room i l' h1 h2;have hb:=bN hi h1 (by rcases h2 with ⟨cs,opn,h2⟩|h2<;>exact⟨_,h2,rfl⟩);exact⟨c,el,fz,by rw[GF _ hb];exact a1,a2,fun j hj=>by rw[lE (GF _ hb)];exact a3 j hj⟩
  kT:=fun i i' l1 l2 hn h1 h2 sR nJ=>h.kT i i' l1 l2 hn h1 h2 (qG sR) (qG nJ)
  jM:=fun i l' h1 sR=>h.jM i l' h1 (qG sR)
  gZ:=fun i l' ob h1 h2 hk=>by
   by_cases hi:i=id
   · subst hi;obtain rfl:=Aa (h1.symm.trans hl);rw[aBc] at h2;cases h2;exact⟨m1,m2,Tv (fun _ _=>xF) xI⟩
   rw[cG hi] at h2;obtain⟨a1,a2,a3⟩:=h.gZ i l' ob h1 h2 hk;exact⟨a1,a2,a3.mono (GF _ (bN hi h1 ⟨_,h2,PX hk⟩)) fun _ _=>xF⟩
  lt:=h.lt
  gN:=fun b o hi=>by rw[hic b o hi];exact h.gN b o hi
  iF:=fun n cs hn=>xF (h.iF n cs hn)
  BL:=fun n cs hn h0=>let⟨c,el,fz,a1,a2⟩:=h.BL n cs hn h0;⟨c,el,fz,by rw[GF n (fun e=>m3.BY ho (e▸a1))];exact a1,a2⟩
  mo:=h.mo},?_⟩
 have e0:=Ext.refl G H w
 exact {
  loc:=fun _ _ h=>h
  gJ:=fun b o hi=>⟨hi,hic b o hi⟩
  size:=by rw[jS];simp
  frame:=fun b hb hn=>GF b (fun e=>hn id l hl lM e.symm)
  lO:=fun i l' h1 sR=>.inr ⟨i,l',h1,qG sR,rfl⟩
  pA:=fun _ _ h=>.inl h
  next:=Ak _
  news:=fun _ _ h h'=>by rw[h] at h';cases h'
  dead:=fun _ _ _ hv=>qG hv
  mo:=rfl
  same:=EU.toB _}
theorem WR.aEc {G:Gh} {H:aA} {w w':World} (h:WR g G H w) {id:Nat} {l:Loc} {es es':List (AV×AV)} {ents ents':Array MapEntry} {clock clock':Nat} (hl:G.loc id=some l) (hg:H.get id=some (.map es))
 (hm:w.heap[l.cS]?=some (.map ents clock)) (jS:w'.heap=w.heap.setIfInBounds l.cS (.map ents' clock')) (EU:AS w w') (oS:ents'.size=es'.length) (hbn:VV ents' clock')
 (hv:∀j,j<es'.length->VR G w (es'.getD j (aD,aD)).1 (ents'.getD j default).key/\VR G w (es'.getD j (aD,aD)).2 (ents'.getD j default).val):
 WR g G (H.set id (.map es')) w'/\Ext G H w G (H.set id (.map es')) w':=
 h.GW hl hg rfl rfl jS EU fun xF xI=>⟨ents',clock',xI,oS,hbn,fun j hj=>⟨xF _ _ (hv j hj).1,xF _ _ (hv j hj).2⟩⟩
theorem xA (ents:Array MapEntry) (i:Nat) (f:MapEntry->MapEntry) (j:Nat) (hj:j<ents.size):(ents.modify i f).getD j default=if i=j then f (ents.getD j default) else ents.getD j default:=by
 simp only[Bn,Hr];split
 · simp[hj]
 rfl
theorem VV.modify {ents:Array MapEntry} {clock:Nat} (h:VV ents clock) (i:Nat) (f:MapEntry->MapEntry) (hf:∀e,(f e).born=e.born):VV (ents.modify i f) clock:=by
 have hb:∀j,j<ents.size->((ents.modify i f).getD j default).born=(ents.getD j default).born:=fun j hj=>by
  rw[xA _ _ _ _ hj];split
  · rw[hf]
  rfl
 refine⟨fun j hj=>?_,fun j k hj hk he=>?_⟩
 · rw[Array.size_modify] at hj;rw[hb j hj];exact h.1 j hj
 rw[Array.size_modify] at hj hk;rw[hb j hj,hb k hk] at he;exact h.2 j k hj hk he
theorem VV.push {ents:Array MapEntry} {clock:Nat} (h:VV ents clock) (e:MapEntry) (he:e.born=clock):VV (ents.push e) (clock+1):=by
 have hb:∀j,j<(ents.push e).size->((ents.push e).getD j default).born=if j<ents.size then(ents.getD j default).born else clock:=fun j hj=>by
  rw[Array.size_push] at hj;simp only[Bn,Lh];by_cases h1:j<ents.size
  · rw[if_neg (by omega),if_pos h1]
  rw[if_pos (by omega),if_neg h1];exact he
 refine⟨fun j hj=>?_,fun j k hj hk hjk=>?_⟩
 · rw[hb j hj];by_cases h1:j<ents.size
   · rw[if_pos h1];have :=h.1 j h1;omega
   rw[if_neg h1];omega
 rw[hb j hj,hb k hk] at hjk;rw[Array.size_push] at hj hk;by_cases h1:j<ents.size<;>by_cases h2:k<ents.size
 · rw[if_pos h1,if_pos h2] at hjk;exact h.2 j k h1 h2 hjk
 · rw[if_pos h1,if_neg h2] at hjk;have :=h.1 j h1;omega
 · rw[if_neg h1,if_pos h2] at hjk;have :=h.1 k h2;omega
 omega
theorem MP {G:Gh} {w:World} (d:Nat):∀(sh:List Sk) (xs ys:List AV) (us vs:List Value),cP sh xs ys=some true->gI G w xs us->gI G w ys vs->
 us.length=vs.length/\(vs.zip us).all (fun p=>Instr.sameBits d p.1 p.2)=true
 |[],xs,ys,us,vs,h,hx,hy=>by
  cases xs<;>cases ys<;>simp only[cP] at h<;>first|(cases h;done)|skip
  have h1:=hx.1;have h2:=hy.1;simp only[Ay,Fy] at h1 h2;subst h1 h2;simp
 |k::sh,xs,ys,us,vs,h,hx,hy=>by
  cases xs with
  |nil=>cases k<;>simp[cP] at h
  |cons x xs=>
   cases ys with
   |nil=>cases k<;>cases x<;>simp[cP] at h
   |cons y ys=>
    have h1:=hx.1;have h2:=hy.1
    cases us with
    |nil=>simp at h1
    |cons u us=>
     cases vs with
     |nil=>simp at h2
     |cons v vs=>
      have hxu:=hx.2 0 (by simp);have hyv:=hy.2 0 (by simp);simp only[Ci] at hxu hyv;have tx:gI G w xs us:=⟨by simpa using h1,fun j hj=>by have :=hx.2 (j+1) (by simpa using hj);simpa using this⟩;have ty:gI G w ys vs:=⟨by simpa using h2,fun j hj=>by have :=hy.2 (j+1) (by simpa using hj);simpa using this⟩
      have fin:∀{b:Bool},(cP sh xs ys).map (b&& ·)=some true->(b=true->Instr.sameBits d v u=true)->(u::us).length=(v::vs).length/\((v::vs).zip (u::us)).all (fun p=>Instr.sameBits d p.1 p.2)=true:=by intro b hm hb;simp only[Ag,Am] at hm;obtain⟨r,hr,wN,rfl⟩:=hm;obtain⟨g1,g2⟩:=MP d sh xs ys us vs hr tx ty;refine⟨by simp[g1],?_⟩;simp only[List.zip_cons_cons,Ik,hb wN,Cq];exact g2
      cases k<;>cases x<;>cases y<;>simp only[cP] at h<;>first|(cases h;done)|skip
      · refine fin h fun hb=>?_;simp only[Dc] at hb;subst hb;rw[hxu.jJ,hyv.jJ];cases d<;>simp[Instr.sameBits]
      · split at h
        · rename_i hjk;refine fin h fun hb=>?_;simp only[Dc] at hb;subst hb hjk;rw[hxu.fV,hyv.fV];cases d<;>simp[Instr.sameBits]
        cases h
      refine fin h fun hb=>?_;simp only[Dc] at hb;subst hb;rw[hxu.fB,hyv.fB];cases d<;>simp only[Instr.sameBits]<;>rw[beq_toListBytes]<;>simp
theorem Uo {G:Gh} {w:World} {k:Sk} {x y:AV} {u v:Value} (d:Nat) (h:sameKey k x y=some true) (hx:VR G w x u) (hy:VR G w y v):Instr.sameBits (d+1) v u=true:=by
 cases x<;>cases y<;>simp only[sameKey] at h<;>first
  |(cases h;done)
  |skip
 · cases k<;>simp only[] at h<;>first|(cases h;done)|skip
   simp at h;subst h;rw[hx.jJ,hy.jJ];simp[Instr.sameBits]
 · cases k<;>simp only[] at h<;>first|(cases h;done)|skip
   split at h
   · rename_i hc;simp at h;subst hc;subst h;rw[hx.fV,hy.fV];simp[Instr.sameBits]
   cases h
 · cases k<;>simp only[] at h<;>first|(cases h;done)|skip
   simp at h;subst h;rw[hx.fB,hy.fB];simp only[Instr.sameBits];rw[beq_toListBytes];simp
 cases k<;>simp only[] at h<;>first|(cases h;done)|skip
 rename_i xs ys sh;obtain⟨us,e1,l1,_,v1⟩:=hx.vD;obtain⟨vs,e2,l2,_,v2⟩:=hy.vD;obtain⟨g1,g2⟩:=MP d sh xs ys us vs h ⟨l1,v1⟩ ⟨l2,v2⟩;rw[e1,e2];simp only[Instr.sameBits,Gr,g1,Jc,Cq];exact g2
theorem XF {t kt vt:TypeId} {k:Sk} {x i y:Operand} {x' i' y':Arg} (ho:o.op=.mapUpdate t x i y\/o.op=.insert t x i y) (hx:bE g x=some x') (hi:bE g i=some i') (hy:bE g y=some y')
 (ht:P.underlying t=some (.map kt vt)) (hk:JE P kt=some k):cJ P g o (.Pd k x' i' y'):=by
 intro s a G H w v H' hw hs h;have vx:=bD hw hs hx;have vi:=bD hw hs hi;have vy:=bD hw hs hy;have bEm:PS k (Arg.eval g s i')=true->(Instr.checkKey false 10000 kt (a.eval i)).run P w=.ok () w:=fun VK=>run_checkKey hk false 9940 vi VK;simp only[dK] at h;split at h
 · rename_i VK;have hck:=bEm VK;split at h
   · rename_i id hid;rw[hid] at vx;generalize eB:a.eval x=u at vx
     cases vx with
     |map _ l hl=>
      split at h
      · rename_i es hg;obtain⟨_,_,ents,clock,m1,m2,mb,m3⟩:=hw.gZ id l _ hl hg rfl;have hgo:=run_getObj_map (P:=P) m1
        have iK:∀{w':World},(Instr.mapUpdate t (.map (some l.cS)) (a.eval i) (a.eval y)).run P w=.ok () w'->(execOp a.eval o).run P w=.ok .skip w':=fun hr=>by rcases ho with ho|ho<;>simp[execOp,ho,eB,hr]
        have rU:∀(en:Array MapEntry) (cl:Nat),(setObj l.cS (.map en cl)).run P w=.ok () {w with heap:=w.heap.setIfInBounds l.cS (.map en cl)}:=fun en cl=>by simp[setObj,Sem.run,m1]
        split at h
        · rename_i j av hf;simp only[Ac,Aj] at h;obtain⟨rfl,rfl⟩:=h;obtain⟨r',h1,h2⟩:=run_findKey (P:=P) hk vi hf m2 m3
          rcases h2 with ⟨hh,_⟩|⟨j',av',vv,e1,e2,e3,e4,e5⟩
          · cases hh
          cases e1;subst e2;have hsb:=Uo 9999 e5 vi (m3 j e4).1
          obtain⟨r1,r2⟩:=hw.aEc (es':=es.set j (Arg.eval g s i',Arg.eval g s y')) (ents':=ents.modify j fun e=>{e with key:=a.eval i,val:=a.eval y}) (clock':=clock) (w':={w with heap:=w.heap.setIfInBounds l.cS (.map (ents.modify j fun e=>{e with key:=a.eval i,val:=a.eval y}) clock)}) hl hg m1 rfl .now (by simp[m2]) (mb.modify _ _ fun _=>rfl) (fun q hq=>by
           simp only[Eg] at hq;rw[xA _ _ _ _ (by omega),getD_eq,Ht];by_cases hjq:j=q
           · rw[if_pos hjq,if_pos hjq];subst hjq;rw[if_pos e4];exact⟨vi,vy⟩
           rw[if_neg hjq,if_neg hjq]
           exact m3 q hq)
          refine⟨.skip,undef,_,G,iK ?_,.inr ⟨rfl,rfl⟩,r1,r2,VR.nD G _⟩
          have PA:((ents[j]?).map (·.key)).getD (a.eval i)=(ents.getD j default).key:=by have hjs:j<ents.size:=(by omega);simp[Array.getD,hjs]
          simp only[Instr.mapUpdate,Sem.run_bind,run_underlying ht w,Result.andThen_ok,hgo,hck,h1,Instr.keyThatStays,PA,hsb,if_true,Sem.run_pure,rU]
        · rename_i hf;simp only[Ac,Aj] at h;obtain⟨rfl,rfl⟩:=h;obtain⟨r',h1,h2⟩:=run_findKey (P:=P) hk vi hf m2 m3
          rcases h2 with ⟨_,e2⟩|⟨j',av',vv,e1,_⟩
          · subst e2
            obtain⟨r1,r2⟩:=hw.aEc (es':=es++[(Arg.eval g s i',Arg.eval g s y')]) (ents':=ents.push {key:=a.eval i,val:=a.eval y,born:=clock}) (clock':=clock+1) (w':={w with heap:=w.heap.setIfInBounds l.cS (.map (ents.push {key:=a.eval i,val:=a.eval y,born:=clock}) (clock+1))}) hl hg m1 rfl .now (by simp[m2]) (mb.push _ rfl) (fun q hq=>by
             simp only[An,Ah,Ay] at hq;rw[getD_eq,Dr,Bn,Lh];by_cases hjq:q<es.length
             · rw[if_pos hjq,if_neg (by omega)];have :=m3 q hjq
               rwa [Bn] at this
             rw[if_neg hjq,if_pos (by omega)];have hq0:q -es.length=0:=(by omega);rw[hq0]
             exact⟨vi,vy⟩)
            refine⟨.skip,undef,_,G,iK ?_,.inr ⟨rfl,rfl⟩,r1,r2,VR.nD G _⟩;simp only[Instr.mapUpdate,Sem.run_bind,run_underlying ht w,Result.andThen_ok,hgo,hck,h1,rU]
          cases e1
        cases h
      cases h
   cases h
 cases h
end
end
end Go.Av
