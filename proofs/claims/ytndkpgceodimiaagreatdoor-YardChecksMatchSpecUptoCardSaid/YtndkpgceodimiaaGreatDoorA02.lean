/-
  Part of the proof of statement 10
-/
import Derived.Test.YtndkpgceodimiaaGreatDoorA01
import Derived.Laws.StructEq
import Derived.ChangeKeysEq
import Derived.Laws.BytesArg
set_option linter.unusedVariables false
set_option linter.unusedSimpArgs false
namespace Go.Av
open Go
section
def CK (P:Program) (sh:TypeId->Option (List Sk)):Nat->List Field->Option (List Sk)
 |_,[]=>some []
 |off,f::fs=>
  if f.name≠ "_" /\f.offset=off then
   match sh f.type with
   |some k=>if kD P f.type=some k.length then(CK P sh (off+k.length) fs).map (k++ ·) else none
   |none=>none
  else none
def oE (P:Program):Nat->TypeId->Option (List Sk)
 |0,_=>none
 |d+1,t=>
  match P.underlying t with
  |some .bool=>some [.b]
  |some (.int _)=>some [.i]
  |some .string=>some [.s]
  |some (.struct fs)=>if P.stoodInHeld t then none else CK P (oE P d) 0 fs.toList
  |some (.array n e)=>
   match oE P d e with
   |some k=>if kD P e=some k.length then some (List.replicate n k).flatten else none
   |none=>none
  |_=>none
theorem vJ:∀(k1 k2:List Sk) (xs ys:List AV) (r:Bool),cJ (k1++k2) xs ys=some r->
 ∃r1 r2,cJ k1 (xs.take k1.length) (ys.take k1.length)=some r1/\cJ k2 (xs.drop k1.length) (ys.drop k1.length)=some r2/\r=(r1&&r2)
 |[],k2,xs,ys,r,h=>⟨true,r,rfl,by simpa using h,by simp⟩
 |k::k1,k2,xs,ys,r,h=>by
  have step:∀{x y:AV} {xs' ys':List AV} {c:Bool},xs=x::xs'->ys=y::ys'->(cJ (k1++k2) xs' ys').map (c&& ·)=some r->
   (∀l m,cJ (k::k1) (x::l) (y::m)=(cJ k1 l m).map (c&& ·))->
   ∃r1 r2,cJ (k::k1) (xs.take (k::k1).length) (ys.take (k::k1).length)=some r1/\cJ k2 (xs.drop (k::k1).length) (ys.drop (k::k1).length)=some r2/\r=(r1&&r2):=by
   intro x y xs' ys' c hx hy hm hc;simp only[Ag] at hm;obtain⟨r',hr',rfl⟩:=hm;obtain⟨r1,r2,h1,h2,h3⟩:=vJ k1 k2 xs' ys' r' hr';subst hx hy;refine⟨c&&r1,r2,?_,by simpa using h2,by rw[h3,Bool.and_assoc]⟩;simp only[Aq,Dl];rw[hc,h1];rfl
  cases k<;>cases xs with
  |nil=>simp[cJ] at h
  |cons x xs'=>
   cases ys with
   |nil=>cases x<;>simp[cJ] at h
   |cons y ys'=>
    cases x<;>cases y<;>simp only[Fc,cJ] at h<;>first
     |(cases h;done)
     |exact step rfl rfl h (fun l m=>rfl)
     |(split at h
       · rename_i xl;subst xl;exact step rfl rfl h (fun l m=>by simp[cJ])
       cases h)
def valOf (agg:Bool) (us:List Value):Value:=if agg then .agg us.toArray else us.getD 0 undef
theorem mN {P:Program} {t:TypeId} {n:Nat} {b:Bool} (hn:kD P t=some n) (hb:fT P t=some b) (w:World) {us:List Value} {off:Nat} (gG:off+n<=us.length) (Kq:b=false->n=1):
 (part t us.toArray off).run P w=.ok (valOf b ((us.drop off).take n)) w:=by
 cases b with
 |true=>simp only[part,Sem.run_bind,qN hb w,Result.andThen_ok,if_true,eJ hn w,Sem.run_pure,valOf];congr 2;apply Fm;simp[Hk]
 |false=>have :=Kq rfl;simp only[part,Sem.run_bind,qN hb w,Result.andThen_ok,Be,Cm,Eb,qI us undef off (by omega),valOf];rw[eV _ _ _ _ _ (by omega)];rfl
theorem iF.take_drop {G:Gh} {w:World} {xs:List AV} {us:List Value} (h:iF G w xs us) (off n:Nat) (gG:off+n<=xs.length):iF G w ((xs.drop off).take n) ((us.drop off).take n):=by have hl:=h.1;refine⟨by simp;omega,fun j hj=>?_⟩;simp at hj;rw[eV _ _ _ _ _ (by omega),eV _ _ _ _ _ (by omega)];exact h.2 _ (by omega)
theorem DF:∀{ks:List Sk} {xs ys:List AV} {r:Bool},cJ ks xs ys=some r->xs.length=ks.length/\ys.length=ks.length
 |[],[],[],_,_=>⟨rfl,rfl⟩
 |[],_::_,ys,r,h=>by cases ys<;>simp[cJ] at h
 |[],[],_::_,r,h=>by simp[cJ] at h
 |k::ks,[],ys,r,h=>by cases k<;>simp[cJ] at h
 |k::ks,x::xs,[],r,h=>by cases k<;>cases x<;>simp[cJ] at h
 |k::ks,x::xs,y::ys,r,h=>by
  have :∃r',cJ ks xs ys=some r':=by
   cases k<;>cases x<;>cases y<;>simp only[cJ] at h<;>first
    |(cases h;done)
    |(simp only[Ag] at h;obtain⟨r',h,_⟩:=h;exact⟨r',h⟩)
    |(split at h
      · simp only[Ag] at h;obtain⟨r',h,_⟩:=h;exact⟨r',h⟩
      cases h)
  obtain⟨r',h'⟩:=this;have :=DF h';simp[this.1,this.2]
theorem yI {P:Program} {d:Nat} {t:TypeId} {ks:List Sk} (h:oE P d t=some ks):∃b,fT P t=some b/\(b=false->ks.length=1):=by
 cases d with
 |zero=>cases h
 |succ d=>
  simp only[oE] at h;unfold fT
  split at h<;>rename_i hu<;>first
   |(cases h;done)
   |(obtain rfl:=Aa h;exact⟨false,by rw[hu],fun _=>rfl⟩)
   |exact⟨true,by rw[hu],fun hf=>by cases hf⟩
theorem Pq {P:Program} {e:TypeId} {n:Nat} (h:kD P e=some n):P.cellsOf e=n/\∃i,P.info? e=some i:=by simp only[kD,Ag] at h;obtain⟨i,hi,rfl⟩:=h;exact⟨by simp[Program.cellsOf,hi],i,hi⟩
theorem Um {P:Program}:∀(f:Nat) (t:TypeId) (ks:List Sk),oE P f t=some ks->∀(b:Bool),fT P t=some b->∀(d:Nat) (G:Gh) (w:World) (xs ys:List AV) (us vs:List Value) (r:Bool),
 cJ ks xs ys=some r->iF G w xs us->iF G w ys vs->(Op.equalIn (d+f) t (valOf b us) (valOf b vs)).run P w=.ok r w:=by
 intro f
 induction f with
 |zero=>intro t ks h;cases h
 |succ f ih=>
  intro t ks h b hb d G w xs ys us vs r hr hx hy;have hlen:=DF hr
  have scalar:∀{k:Sk},ks=[k]->∃x y,xs=[x]/\ys=[y]/\VR G w x (us.getD 0 undef)/\VR G w y (vs.getD 0 undef):=fun {k} hk=>by
   subst hk
   match xs,ys,hlen with
   |[x],[y],_=>exact⟨x,y,rfl,rfl,by simpa using hx.2 0 (by simp),by simpa using hy.2 0 (by simp)⟩
  rw[show d+(f+1)=(d+f)+1 from rfl];simp only[oE] at h;split at h
  · rename_i hu;obtain rfl:=Aa h;have Ss:b=false:=by simp only[fT,hu,Ad] at hb;exact hb.symm
    subst Ss;obtain⟨x,y,rfl,rfl,h1,h2⟩:=scalar rfl;simp only[valOf,Be,Cm]
    cases x<;>cases y<;>simp only[cJ] at hr<;>first|(cases hr;done)|skip
    rename_i p q;rw[h1.jU,h2.jU,HI _ hu w];simp at hr;rw[<-hr]
  · rename_i k hu;obtain rfl:=Aa h;have Ss:b=false:=by simp only[fT,hu,Ad] at hb;exact hb.symm
    subst Ss;obtain⟨x,y,rfl,rfl,h1,h2⟩:=scalar rfl;simp only[valOf,Be,Cm]
    cases x<;>cases y<;>simp only[cJ] at hr<;>first|(cases hr;done)|skip
    rename_i j p j' q;split at hr
    · rename_i hj;subst hj;rw[h1.iQ,h2.iQ,run_equalIn_int w _ t j k p q hu];simp at hr;rw[<-hr]
    cases hr
  · rename_i hu;obtain rfl:=Aa h;have Ss:b=false:=by simp only[fT,hu,Ad] at hb;exact hb.symm
    subst Ss;obtain⟨x,y,rfl,rfl,h1,h2⟩:=scalar rfl;simp only[valOf,Be,Cm]
    cases x<;>cases y<;>simp only[cJ] at hr<;>first|(cases hr;done)|skip
    rename_i p q;rw[h1.lK,h2.lK,run_equalIn_string w _ t _ _ hu,ByteArray.toList_mk,ByteArray.toList_mk];simp at hr;rw[<-hr]
  · rename_i fs hu;split at h
    · cases h
    rename_i iE;have qd:b=true:=(by simp only[fT,hu,Ad] at hb;exact hb.symm);subst qd;simp only[valOf,if_true];have hfo:P.fieldsOf t=fs:=(by simp[Program.fieldsOf,hu]);rw[run_equalIn_struct w _ t _ _ (by rw[hfo];exact hu) (by simpa using iE),hfo];have hux:=hx.1;have huy:=hy.1
    have key:∀(l:List Field) (off:Nat) (ko:List Sk),CK P (oE P f) off l=some ko->off+ko.length<=xs.length->off+ko.length<=ys.length->∀r,cJ ko ((xs.drop off).take ko.length) ((ys.drop off).take ko.length)=some r->
     (Op.eqFields (d+f) us.toArray vs.toArray l).run P w=.ok r w:=by
     intro l
     induction l with
     |nil=>intro off ko hs _ _ r hr;obtain rfl:=Aa hs;simp[cJ] at hr;subst hr;simp[Op.eqFields]
     |cons fd l ihl=>
      intro off ko hs zA Pc r hr;simp only[CK] at hs;split at hs
      · rename_i hc;obtain⟨Sv,uP⟩:=hc;split at hs
        · rename_i k hk;split at hs
          · rename_i lE;simp only[Ag] at hs;obtain⟨ks2,hs2,rfl⟩:=hs;simp only[Au] at zA Pc hr;obtain⟨r1,r2,e1,e2,rfl⟩:=vJ _ _ _ _ _ hr;obtain⟨bf,Ss,Su⟩:=yI hk
            have t1:∀(z:List AV),off+(k.length+ks2.length)<=z.length->List.take k.length (List.take (k.length+ks2.length) (z.drop off))=(z.drop off).take k.length:=fun z hz=>by rw[List.take_take];congr 1;omega
            have t2:∀(z:List AV),off+(k.length+ks2.length)<=z.length->List.drop k.length (List.take (k.length+ks2.length) (z.drop off))=(z.drop (off+k.length)).take ks2.length:=fun z hz=>by rw[List.drop_take,Jf];congr 1;omega
            rw[t1 _ zA,t1 _ Pc] at e1;rw[t2 _ zA,t2 _ Pc] at e2;have p1:=mN lE Ss w (us:=us) (off:=fd.offset) (by omega) Su;have p2:=mN lE Ss w (us:=vs) (off:=fd.offset) (by omega) Su;have p3:=ih fd.type k hk bf Ss d G w _ _ _ _ r1 e1 (hx.take_drop off k.length (by omega)) (hy.take_drop off k.length (by omega));rw[<-uP] at p3;simp only[Op.eqFields,if_pos Sv,Sem.run_bind,p1,p2,p3,Result.andThen_ok]
            cases r1 with
            |false=>simp
            |true=>simp only[Is,Be,Cm,Cr];exact ihl (off+k.length) ks2 hs2 (by omega) (by omega) r2 e2
          cases hs
        cases hs
      cases hs
    have :=key fs.toList 0 ks h (by omega) (by omega) r (by
     simp only[Ef];rw[Ar (by omega),Ar (by omega)]
     exact hr)
    exact this
  · rename_i n e hu;have qd:b=true:=by simp only[fT,hu,Ad] at hb;exact hb.symm
    subst qd;simp only[valOf,if_true];split at h
    · rename_i k hk;split at h
      · rename_i lE;obtain rfl:=Aa h;obtain⟨kF,i,hi⟩:=Pq lE;rw[run_equalIn_array w (d+f) _ _ hu hi,kF];obtain⟨bf,Ss,Su⟩:=yI hk;have hux:=hx.1;have huy:=hy.1;have hlk:∀m,((List.replicate m k).flatten).length=m*k.length:=fun m=>by simp
        have key:∀(m j:Nat),(j+m)*k.length<=xs.length->(j+m)*k.length<=ys.length->∀r,cJ (List.replicate m k).flatten ((xs.drop (j*k.length)).take (m*k.length)) ((ys.drop (j*k.length)).take (m*k.length))=some r->
         (Op.eqItems (d+f) e k.length us.toArray vs.toArray (List.range' j m)).run P w=.ok r w:=by
         intro m
         induction m with
         |zero=>intro j _ _ r hr;simp[cJ] at hr;subst hr;simp[Op.eqItems]
         |succ m ihm=>
          intro j zA Pc r hr;have hm1:(m+1)*k.length=k.length+m*k.length:=(by rw[Em];omega);have Ko:(j+(m+1))*k.length=j*k.length+(k.length+m*k.length):=(by rw[Cn,hm1]);have Mj:(j+1)*k.length=j*k.length+k.length:=(by rw[Em]);rw[Ko] at zA Pc;rw[hm1] at hr;rw[Dy,Bx] at hr;obtain⟨r1,r2,e1,e2,rfl⟩:=vJ _ _ _ _ _ hr
          have t1:∀(z:List AV),List.take k.length (List.take (k.length+m*k.length) (z.drop (j*k.length)))=(z.drop (j*k.length)).take k.length:=fun z=>by rw[List.take_take];congr 1;omega
          have t2:∀(z:List AV),List.drop k.length (List.take (k.length+m*k.length) (z.drop (j*k.length)))=(z.drop ((j+1)*k.length)).take (m*k.length):=fun z=>by rw[List.drop_take,Jf,Mj];congr 1;omega
          rw[t1,t1] at e1;rw[t2,t2] at e2;have p1:=mN lE Ss w (us:=us) (off:=j*k.length) (by omega) Su;have p2:=mN lE Ss w (us:=vs) (off:=j*k.length) (by omega) Su;have p3:=ih e k hk bf Ss d G w _ _ _ _ r1 e1 (hx.take_drop (j*k.length) k.length (by omega)) (hy.take_drop (j*k.length) k.length (by omega));simp only[List.range'_succ,Op.eqItems,Sem.run_bind,p1,p2,p3,Result.andThen_ok]
          cases r1 with
          |false=>simp
          |true=>simp only[Is,Be,Cm,Cr];have hj3:(j+1+m)*k.length=j*k.length+(k.length+m*k.length):=(by rw[Cn,Mj];omega);exact ihm (j+1) (by rw[hj3];exact zA) (by rw[hj3];exact Pc) r2 e2
        have :=key n 0 (by rw[Cv];rw[hlk] at hlen;omega) (by rw[Cv];rw[hlk] at hlen;omega) r (by
         rw[hlk] at hlen;simp only[Ja,Ef];rw[Ar (by omega),Ar (by omega)]
         exact hr)
        rw[List.range_eq_range'];exact this
      cases h
    cases h
  cases h
section
variable {P:Program} {g:bB} {o:Oper}
theorem aSh {op:BinOp} {neg:Bool} {t t2:TypeId} {f:Nat} {ks:List Sk} {x y:Operand} {x' y':Arg} (ho:o.op=.binOp op t x y t2) (fP:op=if neg then .neq else .eql) (hf:f<=9999)
 (hk:oE P f t=some ks) (hb:fT P t=some true) (hg:P.eqGuardType P.depth t=false) (hx:bJ g x=some x') (hy:bJ g y=some y'):cP P g o (.eqf neg ks x' y'):=by
 intro s a G H w v H' hw hs h;have vx:=bH hw hs hx;have vy:=bH hw hs hy;simp only[cX] at h;split at h
 · rename_i xs ys h1 h2;rw[h1] at vx;rw[h2] at vy;obtain⟨us,e1,l1,_,v1⟩:=vx.uT;obtain⟨vs,e2,l2,_,v2⟩:=vy.uT;simp only[Ag,Ah] at h;obtain⟨r,hr,rfl,rfl⟩:=h;refine cP.pure' hw (u:=.bool (if neg then !r else r)) ?_ (.bool _);have Pb:=run_eqGuard_agg (P:=P) w op t x y us.toArray vs.toArray hg;have heq:=Um f t ks hk true hb (10000 -f) G w xs ys us vs r hr ⟨l1,v1⟩ ⟨l2,v2⟩;rw[show 10000 -f+f=10000 by omega] at heq;simp only[valOf,if_true] at heq;have bCz:(Op.equal t (.agg us.toArray) (.agg vs.toArray)).run P w=.ok r w:=heq;subst fP;cases neg<;>simp only[Be,Cm,if_true] at ho Pb<;>simp[execOp,ho,e1,e2,Pb,Go.binOp,bCz]
 cases h
def nkP (P:Program) (t:TypeId):Option Nk:=
 match P.underlying t with
 |some (.pointer _)=>some .ptr
 |some (.interface _)=>some .ifc
 |some (.slice _)=>some .sli
 |some (.map _ _)=>some .mp
 |some (.func _ _ _)=>some .fn
 |_=>none
def AR:Value->Bool
 |.pointer none|.nilIface|.slice none _ _|.map none|.nilFunc=>true
 |_=>false
theorem VX {G:Gh} {w:World} {k:Nk} {a:AV} {u:Value} {b:Bool} (h:Kv k a=some b) (hv:VR G w a u):AR u=b:=by
 cases hv<;>simp only[Kv] at h<;>first
  |(cases h;done)
  |(split at h
    · obtain rfl:=Aa h;rfl
    cases h)
def Xj:Nk->Value->Prop
 |.ptr,.pointer _=>True
 |.ifc,.nilIface|.ifc,.iface _ _=>True
 |.sli,.slice _ _ _=>True
 |.mp,.map _=>True
 |.fn,.nilFunc|.fn,.func _ _ _=>True
 |_,_=>False
theorem Lp {G:Gh} {w:World} {k:Nk} {a:AV} {u:Value} {b:Bool} (h:Kv k a=some b) (hv:VR G w a u):Xj k u:=by
 cases hv<;>simp only[Kv] at h<;>first
  |(cases h;done)
  |(split at h
    · rename_i hk;subst hk;trivial
    cases h)
theorem Mb (d:Nat) {t:TypeId} {k:Nk} (hk:nkP P t=some k) (w:World) {u v:Value} (hu:Xj k u) (hv:Xj k v) (h:(AR u||AR v)=true):
 (Op.equalIn (d+1) t u v).run P w=.ok (AR u&&AR v) w:=by
 unfold nkP at hk;rw[Op.equalIn]
 split at hk<;>rename_i IG<;>first
  |(cases hk;done)
  |(obtain rfl:=Aa hk
    simp only[Sem.run_bind,run_underlying IG w,Result.andThen_ok]
    cases u<;>first|exact hu.elim|skip
    all_goals (cases v<;>first|exact hv.elim|skip)
    all_goals first
     |rfl
     |(rename_i p q;cases p<;>cases q<;>first|rfl|(simp[AR] at h;done))
     |(rename_i p _ _ q _ _;cases p<;>cases q<;>first|rfl|(simp[AR] at h;done))
     |(simp[AR] at h;done))
theorem aSi {op:BinOp} {neg:Bool} {t t2:TypeId} {k:Nk} {lit:Bool} {x y:Operand} {x' y':Arg} (ho:o.op=.binOp op t x y t2) (fP:op=if neg then .neq else .eql)
 (hk:nkP P t=some k) (xq:lit=true->(∃c,x=.const c)\/∃c,y=.const c) (hx:bJ g x=some x') (hy:bJ g y=some y'):cP P g o (.u9 neg k lit x' y'):=by
 intro s a G H w v H' hw hs h;have vx:=bH hw hs hx;have vy:=bH hw hs hy;simp only[cX] at h;split at h
 · rename_i p q h1 h2;have f1:=Lp h1 vx;have f2:=Lp h2 vy;have n1:=VX h1 vx;have n2:=VX h2 vy;split at h
   · rename_i hc;simp only[Ad,Ah] at h;obtain⟨rfl,rfl⟩:=h;simp only[Am] at hc;obtain⟨Sv,uP⟩:=hc;refine cP.pure' hw (u:=.bool (if neg then !(p&&q) else(p&&q))) ?_ (.bool _);generalize e1:a.eval x=u1 at *;generalize e2:a.eval y=u2 at *
     have heq:(Op.equal t u1 u2).run P w=.ok (p&&q) w:=by have :=Mb (P:=P) 9999 hk w f1 f2 (by rw[n1,n2];exact Sv);rw[n1,n2] at this;exact this
     have Pb:(eqGuard op t x y u1 u2).run P w=.ok () w:=by
      unfold eqGuard;by_cases aIo:u1=.nilIface/\u2=.nilIface
      · obtain⟨rfl,rfl⟩:=aIo
        have Xt:k=.ifc:=(by cases k<;>first|rfl|exact f1.elim);have hp:p=true:=n1.symm;have hq:q=true:=n2.symm;subst Xt hp hq;simp at uP
        rcases xq uP with ⟨c,rfl⟩|⟨c,rfl⟩
        · cases op<;>simp
        cases op<;>simp
      cases u1<;>first
       |(cases k<;>exact f1.elim)
       |(cases op<;>rfl)
       |(cases u2<;>first|exact absurd ⟨rfl,rfl⟩ aIo|(cases op<;>rfl))
     have bCp:(Go.binOp op t u1 u2).run P w=.ok (.bool (if neg then !(p&&q) else(p&&q))) w:=by
      subst fP
      cases neg with
      |false=>
       simp only[Be,Cm]
       cases u1<;>first
        |(cases k<;>exact f1.elim)
        |(cases u2<;>first
           |(cases k<;>first|exact f1.elim|exact f2.elim)
           |simp[Go.binOp,heq])
      |true=>
       simp only[if_true]
       cases u1<;>first
        |(cases k<;>exact f1.elim)
        |(cases u2<;>first
           |(cases k<;>first|exact f1.elim|exact f2.elim)
           |simp[Go.binOp,heq])
     simp only[execOp,ho,e1,e2,Sem.run_bind,Pb,bCp,Result.andThen_ok];rfl
   cases h
 cases h
end
end
section
theorem AK (off:Nat):∀(l:List Value) (k:Nat) (cells:Array Value),
 ((l.zipIdx k).foldl (fun(cs:Array Value) (p:Value×Nat)=>cs.setIfInBounds (off+p.2) p.1) cells).size=cells.size/\
 ∀i,((l.zipIdx k).foldl (fun(cs:Array Value) (p:Value×Nat)=>cs.setIfInBounds (off+p.2) p.1) cells)[i]?=
  if off+k<=i/\i<off+k+l.length/\i<cells.size then l[i -(off+k)]? else cells[i]?
 |[],k,cells=>⟨rfl,fun i=>by
    rw[if_neg]
    · rfl
    simp only[Bj];omega⟩
 |v::r,k,cells=>by
  have ih:=AK off r (k+1) (cells.setIfInBounds (off+k) v);simp only[List.zipIdx_cons,Hq];refine⟨by rw[ih.1];simp,fun i=>?_⟩;rw[ih.2 i];simp only[Aq,Array.size_setIfInBounds];by_cases h1:off+(k+1)<=i/\i<off+(k+1)+r.length/\i<cells.size
  · rw[if_pos h1,if_pos (by omega)];rw[show i -(off+k)=(i -(off+(k+1)))+1 by omega];simp
  rw[if_neg h1,Fl];by_cases h2:off+k=i
  · subst h2;by_cases h3:off+k<cells.size
    · simp[h3]
    rw[if_pos rfl,if_neg h3,if_neg (by omega),Ij (by omega)]
  have lE:(cells.setIfInBounds (off+k) v).size=cells.size:=by simp
  rw[if_neg h2,if_neg (by omega)]
theorem hU (a:Array Value) (j:Nat) (d:Value):a.toList.getD j d=(a[j]?).getD d:=by rw[getD_eq,Array.getElem?_toList]
theorem RE (off:Nat) (arr cells:Array Value):
 (arr.zipIdx.foldl (fun(cs:Array Value) (p:Value×Nat)=>cs.setIfInBounds (off+p.2) p.1) cells).size=cells.size/\
 ∀i,(arr.zipIdx.foldl (fun(cs:Array Value) (p:Value×Nat)=>cs.setIfInBounds (off+p.2) p.1) cells)[i]?=
  if off<=i/\i<off+arr.size/\i<cells.size then arr[i -off]? else cells[i]?:=by
 have h:=AK off arr.toList 0 cells;rw[<-Array.foldl_toList];simp only[Array.toList_zipIdx];simpa using h
theorem vj {G:Gh} {w:World} {cs vs:List AV} {cells arr:Array Value} {off:Nat} (h:iF G w cs cells.toList) (hv:iF G w vs arr.toList) (gG:off+vs.length<=cs.length):
 iF G w (fY cs off vs) (arr.zipIdx.foldl (fun(cs:Array Value) (p:Value×Nat)=>cs.setIfInBounds (off+p.2) p.1) cells).toList:=by
 obtain⟨h1,h2⟩:=RE off arr cells;have l1:=h.1;have l2:=hv.1;simp only[Cx] at l1 l2;refine⟨by rw[qT _ _ _ gG,Cx,h1,l1],fun j hj=>?_⟩;rw[qT _ _ _ gG] at hj;rw[Lj _ _ _ _ gG,hU,h2 j];by_cases hc:off<=j/\j<off+vs.length
 · rw[if_pos hc,if_pos (by omega)];have :=hv.2 (j -off) (by omega)
   rwa [hU] at this
 rw[if_neg hc,if_neg (by omega)];have :=h.2 j hj
 rwa [hU] at this
def vR (g:bB) (place:Nat->Option (Nat×Nat)):List (Nat×Operand)->Option (List (Nat×Nat×Arg))
 |[]=>some []
 |(i,x)::r=>match place i,bJ g x,vR g place r with
  |some (off,n),some y,some ys=>some ((off,n,y)::ys)
  |_,_,_=>none
theorem Nj {g:bB} {G:Gh} {H:aA} {w:World} {s:List AV} {a:Act} (hw:WR g G H w) (hs:SR G w s a) {place place':Nat->Option (Nat×Nat)} (hp:∀i p,place i=some p->place' i=some p):
 ∀(parts:List (Nat×Operand)) (ps:List (Nat×Nat×Arg)) (cs MJ:List AV) (cells:Array Value),vR g place parts=some ps->HJ (Arg.eval g s) cs ps=some MJ->iF G w cs cells.toList->(∀c∈cs,c.one=true)->
  ∃iK,Instr.fill place' cells (parts.map fun(i,x)=>(i,a.eval x))=some iK/\iF G w MJ iK.toList/\∀c∈MJ,c.one=true
 |[],ps,cs,MJ,cells,h1,h2,hc,h3=>by obtain rfl:=Aa h1;obtain rfl:=Aa h2;exact⟨cells,rfl,hc,h3⟩
 |(i,x)::r,ps,cs,MJ,cells,h1,h2,hc,h3=>by
  unfold vR at h1;split at h1
  · rename_i off n y ys qQ hy Mo;obtain rfl:=Aa h1;simp only[HJ] at h2;split at h2
    · rename_i eN;obtain⟨c1,c2,c3⟩:=eN;have vx:=(bH hw hs hy).cellsOf c3;have hlen:=hc.1;have hlx:=vx.1.1;simp only[Cx] at hlen hlx;have fL:=vj hc vx.1 (by omega:off+_<=cs.length);obtain⟨iK,hf,hr⟩:=Nj hw hs hp r ys _ MJ _ Mo h2 fL (fun c hc'=>(OZ hc').elim (h3 c) (vx.2 c));refine⟨iK,?_,hr⟩;simp only[Bv,Instr.fill,hp _ _ qQ]
      have aQm:(decide ((a.eval x).cells.size≠n)||decide (off+(a.eval x).cells.size>cells.size))=false:=by simp;omega
      rw[aQm];exact hf
    cases h2
  cases h1
def JI (P:Program):List Field->Option (List (Nat×Nat))
 |[]=>some []
 |f::r=>match kD P f.type,JI P r with
  |some n,some l=>some ((f.offset,n)::l)
  |_,_=>none
theorem run_places {P:Program} (w:World):∀{fs:List Field} {l:List (Nat×Nat)},JI P fs=some l->
 (fs.mapM (fun f=>do pure (f.offset,<-sizeOf f.type):Field->Sem (Nat×Nat))).run P w=.ok l w
 |[],l,h=>by obtain rfl:=Aa h;rfl
 |f::r,l,h=>by
  unfold JI at h;split at h
  · rename_i n l' hn hl;obtain rfl:=Aa h;have ih:=run_places w hl;simp only[List.mapM_cons,Sem.run_bind,eJ hn w,Result.andThen_ok,Sem.run_pure,ih]
  cases h
section
variable {P:Program} {g:bB} {o:Oper}
theorem MX {t:TypeId} {parts:Array (Nat×Operand)} {fs:Array Field} {l:List (Nat×Nat)} {z:Value} {zs:List AV} {ps:List (Nat×Nat×Arg)} (ho:o.op=.build t parts) (hu:P.underlying t=some (.struct fs))
 (hz:lL P t=some z) (CC:jO z.cells.toList=some zs) (hl:JI P fs.toList=some l) (hp:vR g (l[·]?) parts.toList=some ps):cP P g o (.build zs ps):=by
 intro s a G H w v H' hw hs h;simp only[cX,Ag,Ah] at h;obtain⟨cs,CR,rfl,rfl⟩:=h;have hc:=lX CC G w;obtain⟨iK,hf,hv,h1⟩:=Nj hw hs (place':=(l.toArray[·]?)) (fun i p hp=>by simpa using hp) parts.toList ps zs cs z.cells hp CR hc.1 hc.2;refine cP.pure' hw (u:=.agg iK) ?_ (by simpa using VR.XH hv h1);have qQ:=run_places w hl;simp only[execOp,ho,Instr.build,Sem.run_bind,lA hz w,run_underlying hu w,Result.andThen_ok,Array.mapM_eq_mapM_toList,Sem.run_map,qQ,Ir,hf];rfl
theorem Oe {t e:TypeId} {n sz:Nat} {parts:Array (Nat×Operand)} {z:Value} {zs:List AV} {ps:List (Nat×Nat×Arg)} (ho:o.op=.build t parts) (hu:P.underlying t=some (.array n e))
 (lE:kD P e=some sz) (hz:lL P t=some z) (CC:jO z.cells.toList=some zs) (hp:vR g (fun i=>some (i*sz,sz)) parts.toList=some ps):cP P g o (.build zs ps):=by
 intro s a G H w v H' hw hs h;simp only[cX,Ag,Ah] at h;obtain⟨cs,CR,rfl,rfl⟩:=h;have hc:=lX CC G w;obtain⟨iK,hf,hv,h1⟩:=Nj hw hs (place':=fun i=>some (i*sz,sz)) (fun i p hp=>hp) parts.toList ps zs cs z.cells hp CR hc.1 hc.2;refine cP.pure' hw (u:=.agg iK) ?_ (by simpa using VR.XH hv h1);simp only[execOp,ho,Instr.build,Sem.run_bind,lA hz w,run_underlying hu w,Result.andThen_ok,eJ lE w,Ir,hf];rfl
def IU (g:bB):Nat->List (Nat×Operand)->Option (List Arg)
 |_,[]=>some []
 |k,(i,x)::r=>if i=k then match bJ g x,IU g (k+1) r with
  |some y,some ys=>some (y::ys)
  |_,_=>none
  else none
theorem RY {ev:Arg->AV} {sz:Nat}:∀{ys:List Arg} {els:List (List AV)},Ky ev sz ys=some els->∀e∈els,e.length=sz
 |[],els,h=>by obtain rfl:=Aa h;intro e he;cases he
 |y::ys,els,h=>by
  simp only[Ky] at h;split at h
  · rename_i hc;simp only[Ag] at h;obtain⟨AG,h',rfl⟩:=h;intro e he
    rcases Ap.1 he with rfl|he
    · exact hc.1
    exact RY h' e he
  cases h
theorem Ni {G:Gh} {H:aA} {w:World} {s:List AV} {a:Act} (hw:WR g G H w) (hs:SR G w s a) (sz:Nat):
 ∀(parts:List (Nat×Operand)) (ys:List Arg) (k:Nat) (els:List (List AV)) (pre:List AV) (cells:Array Value),IU g k parts=some ys->Ky (Arg.eval g s) sz ys=some els->
  pre.length=k*sz->cells.size=(k+parts.length)*sz->(∀j,j<k*sz->VR G w (pre.getD j aD) (cells.toList.getD j undef))->(∀c∈pre,c.one=true)->
  ∃iK,Instr.fill (fun i=>some (i*sz,sz)) cells (parts.map fun(i,x)=>(i,a.eval x))=some iK/\iF G w (pre++els.flatten) iK.toList/\∀c∈pre++els.flatten,c.one=true
 |[],ys,k,els,pre,cells,h1,h2,hp,hc,hv,h3=>by obtain rfl:=Aa h1;obtain rfl:=Aa h2;refine⟨cells,rfl,⟨by simp at hc ⊢;omega,fun j hj=>?_⟩,by simpa using h3⟩;simp only[List.flatten_nil,Cd] at hj ⊢;exact hv j (by omega)
 |(i,x)::r,ys,k,els,pre,cells,h1,h2,hp,hc,hv,h3=>by
  simp only[IU] at h1;split at h1
  · rename_i hi;subst hi;split at h1
    · rename_i y ys' hy Mo;obtain rfl:=Aa h1;simp only[Ky] at h2;split at h2
      · rename_i eN;simp only[Ag] at h2;obtain⟨AG,h2,rfl⟩:=h2;obtain⟨c1,c3⟩:=eN;have vx:=(bH hw hs hy).cellsOf c3;have hlx:=vx.1.1;simp only[Cx] at hlx;have hm:(i+(r.length+1))*sz=i*sz+sz+r.length*sz:=(by rw[Cn,Em];omega);have hm1:(i+1)*sz=i*sz+sz:=Em i sz;simp only[Aq] at hc;obtain⟨f1,f2⟩:=RE (i*sz) (a.eval x).cells cells
        obtain⟨iK,hf,hr,ho⟩:=Ni hw hs sz r ys' (i+1) AG (pre++(Arg.eval g s y).cells) ((a.eval x).cells.zipIdx.foldl (fun(cs:Array Value) (p:Value×Nat)=>cs.setIfInBounds (i*sz+p.2) p.1) cells) Mo h2
         (by simp[hp,c1,hm1]) (by rw[f1,hc];congr 1;omega) (fun j hj=>by
           rw[hU,f2 j,getD_eq,Dh];by_cases Ko:j<pre.length
           · rw[if_pos Ko,if_neg (by omega)];have :=hv j (by omega)
             rwa [getD_eq,hU] at this
           · rw[if_neg Ko,if_pos (by omega)];have :=vx.1.2 (j -pre.length) (by omega);rw[getD_eq,hU] at this;rw[<-hp]
             exact this) (fun c hc=>by
           rcases An.1 hc with hc|hc
           · exact h3 c hc
           exact vx.2 c hc)
        refine⟨iK,?_,by simpa [Di] using hr,by simpa [Di] using ho⟩;simp only[Bv,Instr.fill]
        have aQm:(decide ((a.eval x).cells.size≠sz)||decide (i*sz+(a.eval x).cells.size>cells.size))=false:=by simp;omega
        rw[aQm];exact hf
      cases h2
    cases h1
  cases h1
theorem zw {t e:TypeId} {sz len:Nat} {z:Value} {parts:Array (Nat×Operand)} {ys:List Arg} (ho:o.op=.buildSlice t len parts) (ht:mZ P t=some (e,sz)) (hz:lL P e=some z)
 (hlen:len=parts.size) (EY:len*sz<=2^24) (hp:IU g 0 parts.toList=some ys):cP P g o (.Ob sz ys):=by
 intro s a G H w v H' hw hs h;obtain⟨hu,lE⟩:=kH ht;simp only[cX,Ag,Ah] at h;obtain⟨els,sO,rfl,rfl⟩:=h;have IG:=RY sO
 have xL:els.length=parts.size:=by
  have k1:∀{l:List (Nat×Operand)} {k:Nat} {ys:List Arg},IU g k l=some ys->ys.length=l.length:=by
   intro l
   induction l with
   |nil=>intro k ys h;obtain rfl:=Aa h;rfl
   |cons p r ih=>
    intro k ys h;obtain⟨i,x⟩:=p;simp only[IU] at h;split at h
    · split at h
      · rename_i y ys' _ h';obtain rfl:=Aa h;simp[ih h']
      cases h
    cases h
  have k2:∀{ys:List Arg} {els:List (List AV)},Ky (Arg.eval g s) sz ys=some els->els.length=ys.length:=by
   intro ys
   induction ys with
   |nil=>intro els h;obtain rfl:=Aa h;rfl
   |cons y r ih=>
    intro els h;simp only[Ky] at h;split at h
    · simp only[Ag] at h;obtain⟨AG,h',rfl⟩:=h;simp[ih h']
    cases h
  rw[k2 sO,k1 hp];simp
 let zr:Array Value:=if len*sz=0 then #[] else z.cells
 obtain⟨iK,hf,hv,h1⟩:=Ni hw hs sz parts.toList ys 0 els [] ((Array.range (len*sz)).map (zr[· %zr.size]!)) hp sO (by simp) (by simp[hlen]) (fun j hj=>by simp at hj) (fun c hc=>by cases hc);simp only[Dw] at hv h1;have hp':iH w {w with heap:=w.heap.push (.cells iK e)} (.cells (iK.toList++[]).toArray e (0,0)):=⟨by simp,.now⟩;obtain⟨r1,r2,r3⟩:=hw.dj els.flatten iK.toList [] hv hp';refine⟨.value (.slice (some ⟨w.heap.size,0,none⟩) len len),_,_,_,?_,.inl rfl,r1,r2,?_⟩
 · have hb:¬len*sz>2^24:=by omega
   by_cases h0:len*sz=0
   · simp only[zr,if_pos h0] at hf;simp only[execOp,ho,Instr.buildSlice,Sem.run_bind,run_underlying hu w,eJ lE w,Result.andThen_ok,if_neg hb,if_pos h0,Sem.run_pure,Ir,hf];rfl
   simp only[zr,if_neg h0] at hf;simp only[execOp,ho,Instr.buildSlice,Sem.run_bind,run_underlying hu w,eJ lE w,Result.andThen_ok,if_neg hb,if_neg h0,lA hz w,Sem.run_pure,Ir,hf];rfl
 rw[hlen,<-xL];exact VR.aU 1 sz els w.heap.size 0 els.length (fun j=>iK.toList.getD j undef) IG (fun j hj=>⟨(r3 j hj).1,(r3 j hj).2.1,h1 _ (JA hj)⟩) (fun j hj=>(r3 j hj).2.2) ⟨Ak _,rfl⟩
def OV:Option Value->Option Nat->Prop
 |none,none=>True
 |some u,some m=>∃k,u=.int k (m:Int)
 |_,_=>False
theorem oP {G:Gh} {H:aA} {w:World} {s:List AV} {a:Act} (hw:WR g G H w) (hs:SR G w s a) {x:Option Operand} {y:Option Arg} {n:Option Nat} (hx:mV g x=some y)
 (hn:dQ (Arg.eval g s) y=some n):OV (x.map a.eval) n:=by
 cases x with
 |none=>obtain rfl:=Aa hx;obtain rfl:=Aa hn;trivial
 |some x=>simp only[mV,Ag] at hx;obtain⟨y',hy,rfl⟩:=hx;simp only[dQ,Ag] at hn;obtain⟨m,hm,rfl⟩:=hn;obtain⟨k,_,hk⟩:=tL hm (bH hw hs hy);exact⟨k,hk⟩
theorem run_sliceBound {k:IntKind} {m y:Nat} {c:BoundsCode} (h:m<=y) (w:World):(Instr.sliceBound (.int k (m:Int)) y c).run P w=.ok m w:=by
 have h0:(0:Int)<=(m:Int)/\(m:Int)<=(y:Int):=by omega
 simp only[Instr.sliceBound,asIntOf,Sem.run_bind,Sem.run_pure,Result.andThen_ok,if_pos h0,Int.toNat_natCast]
theorem rY {isS:Bool} {len cap:Nat} {low high max:Option Value} {lo hi mx:Option Nat} (h1:OV low lo) (h2:OV high hi) (h3:OV max mx) (h4:mx.isSome->hi.isSome)
 (hl:lo.getD 0<=hi.getD len) (hh:hi.isSome->hi.getD len<=mx.getD cap) (hm:mx.getD cap<=cap) (w:World):
 (Instr.sliceBounds isS len cap low high max).run P w=.ok (lo.getD 0,hi.getD len,mx.getD cap) w:=by
 cases max<;>cases mx<;>first|exact h3.elim|skip
 · cases high<;>cases hi<;>first|exact h2.elim|skip
   · cases low<;>cases lo<;>first|exact h1.elim|skip
     · simp[Instr.sliceBounds]
     obtain⟨k1,rfl⟩:=h1;simp only[Bi,Dx] at hl;simp[Instr.sliceBounds,run_sliceBound hl w]
   obtain⟨k2,rfl⟩:=h2;have hh:=hh rfl;simp only[Bi,Dx] at hh hl
   cases low<;>cases lo<;>first|exact h1.elim|skip
   · simp[Instr.sliceBounds,run_sliceBound hh w]
   obtain⟨k1,rfl⟩:=h1;simp only[Bi] at hl;simp[Instr.sliceBounds,run_sliceBound hl w,run_sliceBound hh w]
 obtain⟨k3,rfl⟩:=h3
 cases high<;>cases hi<;>first|exact h2.elim|skip
 · simp at h4
 obtain⟨k2,rfl⟩:=h2;have hh:=hh rfl;simp only[Bi] at hh hm hl
 cases low<;>cases lo<;>first|exact h1.elim|skip
 · simp[Instr.sliceBounds,run_sliceBound hh w,run_sliceBound hm w]
 obtain⟨k1,rfl⟩:=h1;simp only[Bi] at hl;simp[Instr.sliceBounds,run_sliceBound hl w,run_sliceBound hh w,run_sliceBound hm w]
theorem zy {t:TypeId} {x:Operand} {lo hi:Option Operand} {x':Arg} {kq gR:Option Arg} (ho:o.op=.slice t x lo hi none) (hx:bJ g x=some x') (RM:mV g lo=some kq)
 (kb:mV g hi=some gR) (ht:P.underlying t=some .string):cP P g o (.PM x' kq gR):=by
 intro s a G H w v H' hw hs h;have vx:=bH hw hs hx;simp only[cX] at h;split at h
 · rename_i str l r h1 h2 h3;rw[h1] at vx;have e1:=vx.lK;have o1:=oP hw hs RM h2;have o2:=oP hw hs kb h3;split at h
   · rename_i hc;obtain⟨c1,c2⟩:=hc;simp only[Ad,Ah] at h;obtain⟨rfl,rfl⟩:=h;have lE:(⟨str.toArray⟩:ByteArray).size=str.length:=(by simp[ByteArray.size]);have hb:=rY (P:=P) (isS:=false) (len:=str.length) (cap:=str.length) (max:=none) (mx:=none) o1 o2 trivial (by simp) c1 (fun _=>by simpa using c2) (by simp) w;refine cP.pure' hw (u:=.string ((⟨str.toArray⟩:ByteArray).extract (l.getD 0) (r.getD str.length))) ?_ ?_
     · simp only[execOp,ho,Instr.sliceAt,Sem.run_bind,run_underlying ht w,Result.andThen_ok,Instr.slice,e1,lE,Option.map_none,hb,Cj,Be,Cm];rfl
     have :(⟨str.toArray⟩:ByteArray).extract (l.getD 0) (r.getD str.length)=⟨((str.drop (l.getD 0)).take (r.getD str.length -l.getD 0)).toArray⟩:=by apply ByteArray.ext;simp[ByteArray.data_extract,Hk]
     rw[this];exact VR.ZB _ _ _
   cases h
 cases h
theorem Sq {els:List (List AV)} {sz:Nat} (hu:∀e∈els,e.length=sz) (l:Nat):(els.drop l).flatten=els.flatten.drop (l*sz):=by
 induction els generalizing l with
 |nil=>simp
 |cons e r ih=>
  cases l with
  |zero=>simp
  |succ l=>have he:e.length=sz:=hu e (by simp);rw[Iz,ih (fun e he=>hu e (by simp[he])),Bx,Em,Fq,<-he,List.drop_length_add_append]
theorem HL {els:List (List AV)} {sz:Nat} (hu:∀e∈els,e.length=sz) (l:Nat):(els.take l).flatten=els.flatten.take (l*sz):=by
 induction els generalizing l with
 |nil=>simp
 |cons e r ih=>
  cases l with
  |zero=>simp
  |succ l=>have he:e.length=sz:=hu e (by simp);rw[Dl,Bx,ih (fun e he=>hu e (by simp[he])),Bx,Em,Fq,<-he,List.take_length_add_append]
theorem VR.Vb {G:Gh} {w:World} {sz:Nat} {els:List (List AV)} {b o':Nat} {us:Nat->Value} (hu:∀e∈els,e.length=sz)
 (h:∀j,j<els.flatten.length->G.gV b (o'+j)/\w.cell? ⟨b,o'+j,none⟩=some (us j)/\(els.flatten.getD j aD).one=true)
 (hv:∀j,j<els.flatten.length->VR G w (els.flatten.getD j aD) (us j)) (l n:Nat) (hn:l+n<=els.length) {tag cap:Nat}
 (ht:aIe G tag b (o'+l*sz+n*sz) sz n cap):VR G w (.aU tag sz ((els.drop l).take n)) (.slice (some ⟨b,o'+l*sz,none⟩) n cap):=by
 have hu1:∀e∈els.drop l,e.length=sz:=fun e he=>hu e (Du he);have hu2:∀e∈(els.drop l).take n,e.length=sz:=fun e he=>hu1 e (By he);have vN:((els.drop l).take n).flatten=(els.flatten.drop (l*sz)).take (n*sz):=by rw[HL hu1,Sq hu]
 have hlen:((els.drop l).take n).length=n:=by simp;omega
 have bEn:=length_flatten hu;have hb:l*sz+n*sz<=els.flatten.length:=by rw[bEn,<-Cn];exact Dd _ hn
 have :=VR.aU (G:=G) (w:=w) tag sz ((els.drop l).take n) b (o'+l*sz) cap (fun j=>us (l*sz+j)) hu2 (fun j hj=>by
  rw[vN] at hj ⊢;simp only[Cq,Hi] at hj;rw[eV _ _ _ _ _ (by omega),Bm]
  exact h _ (by omega)) (fun j hj=>by
  rw[vN] at hj ⊢;simp only[Cq,Hi] at hj;rw[eV _ _ _ _ _ (by omega)]
  exact hv _ (by omega)) (by rw[hlen];exact ht)
 rwa [hlen] at this
theorem VR.qL {G:Gh} {w:World} (sz b o' cap:Nat) (tag:Nat) (ht:tag=0\/(tag=1/\cap=0)):VR G w (.aU tag sz []) (.slice (some ⟨b,o',none⟩) 0 cap):=
 VR.aU tag sz [] b o' cap (fun _=>undef) (fun e he=>by cases he) (fun j hj=>by simp at hj) (fun j hj=>by simp at hj) (by
  refine⟨Az _,?_⟩
  rcases ht with rfl|⟨rfl,rfl⟩
  · trivial
  rfl)
theorem aGj {t e:TypeId} {sz:Nat} {x:Operand} {lo hi mx:Option Operand} {x':Arg} {kq gR mx':Option Arg} (ho:o.op=.slice t x lo hi mx) (hx:bJ g x=some x') (RM:mV g lo=some kq)
 (kb:mV g hi=some gR) (ql:mV g mx=some mx') (ht:mZ P t=some (e,sz)):cP P g o (.Yy sz x' kq gR mx'):=by
 intro s a G H w v H' hw hs h;have vx:=bH hw hs hx;obtain⟨hu,lE⟩:=kH ht;simp only[cX] at h;split at h
 · rename_i l r m h1 h2 h3;have o1:=oP hw hs RM h1;have o2:=oP hw hs kb h2;have o3:=oP hw hs ql h3;split at h
   · rename_i hms;simp only[Ag,Ah] at h;obtain⟨v',h,rfl,rfl⟩:=h
     have jB:∀(p:Option Addr) (len cap:Nat),a.eval x=.slice p len cap->l.getD 0<=r.getD len->(r.isSome->r.getD len<=m.getD cap)->m.getD cap<=cap->
      (execOp a.eval o).run P w=.ok (.value (.slice (if m.getD cap=l.getD 0 then p else p.map (·.add (l.getD 0*sz))) (r.getD len -l.getD 0) (m.getD cap -l.getD 0))) w:=by
      intro p len cap eG c1 c2 c3;have hb:=rY (P:=P) (isS:=true) (len:=len) (cap:=cap) o1 o2 o3 hms c1 c2 c3 w;simp only[execOp,ho,Instr.sliceAt,Sem.run_bind,run_underlying hu w,Result.andThen_ok,Instr.slice,eG,hb,eJ lE w];rfl
     unfold rZ at h;split at h
     · rename_i cZ;rw[cZ] at vx;generalize eG:a.eval x=u at vx;cases vx;split at h
       · rename_i hc;obtain⟨c1,c2,c3⟩:=hc;obtain rfl:=Aa h;have :=jB none 0 0 eG (by omega) (fun _=>by rw[c2,c3];exact Ak _) (by rw[c3];exact Ak _);rw[c1,c2,c3] at this;exact cP.pure' hw this .aS
       cases h
     · rename_i tag eO els cZ;rw[cZ] at vx;generalize eG:a.eval x=u at vx
       cases vx with
       |aU _ _ _ b o' cap us IG hh hv rW=>
        have MR:=rW.1;simp only at h;split at h
        · rename_i hc;obtain⟨rfl,c1,c2⟩:=hc;have VL:=VR.Vb IG hh hv;split at h
          · rename_i m';split at h
            · rename_i uP;obtain⟨c3,c4⟩:=uP;obtain rfl:=Aa h;have :=jB _ _ _ eG c1 (fun _=>by simpa using c3) (by simp;omega);simp only[Bi,Bz,jT] at this;refine cP.pure' hw this ?_;by_cases Ml:m'=l.getD 0
              · rw[if_pos Ml];have h0:r.getD els.length -l.getD 0=0:=(by omega);have Nq:m' -l.getD 0=0:=(by omega);rw[h0,Nq,Es];exact VR.qL _ _ _ _ _ (by by_cases hmr:m'=r.getD els.length<;>simp[hmr])
              rw[if_neg Ml];refine VL _ _ (by omega) ⟨by omega,?_⟩;by_cases hmr:m'=r.getD els.length
              · rw[if_pos hmr];omega
              rw[if_neg hmr];trivial
            cases h
          have YA:=jB _ _ _ eG c1 (fun _=>by simp;omega) (by simp);simp only[Dx,Bz,jT] at YA;split at h
          · rename_i uP;obtain⟨c3,c4⟩:=uP;obtain rfl:=Aa h;rw[c3] at YA;refine cP.pure' hw YA ?_;by_cases Zt:cap=l.getD 0
            · rw[if_pos Zt];have h0:els.length -l.getD 0=0:=(by omega);have hd:els.drop (l.getD 0)=[]:=Ii (by omega);rw[h0,hd]
              rcases c4 with c4|c4
              · omega
              match tag,c4,rW with
              |0,_,_=>exact VR.qL _ _ _ _ _ (.inl rfl)
              |1,_,rW=>exact VR.qL _ _ _ _ _ (.inr ⟨rfl,by omega⟩)
            rw[if_neg Zt];have hd:els.drop (l.getD 0)=(els.drop (l.getD 0)).take (els.length -l.getD 0):=(by rw[Ar];simp);rw[hd];refine VL _ _ (by omega) ⟨by omega,?_⟩;have h2:=rW.2
            have hmul:o'+l.getD 0*eO+(els.length -l.getD 0)*eO=o'+els.length*eO:=by rw[Bm,<-Cn];congr 2;omega
            match tag,h2,c4 with
            |0,_,_=>trivial
            |1,h2,_=>show cap -l.getD 0=els.length -l.getD 0;rw[h2]
            |k+2,⟨lc,h2,h3,h4,h5,h6⟩,_=>refine⟨lc,h2,h3,by rw[hmul];exact h4,h5,?_⟩;rw[h6];congr 1;omega
          obtain rfl:=Aa h;refine cP.pure' hw YA ?_;by_cases Zt:cap=l.getD 0
          · rw[if_pos Zt];have h0:r.getD els.length -l.getD 0=0:=(by omega);rw[h0,Es];exact VR.qL _ _ _ _ _ (.inl rfl)
          rw[if_neg Zt];exact VL _ _ (by omega) ⟨by omega,trivial⟩
        cases h
       |vP _ _ b o' s' rW=>
        simp only[Bj] at h;split at h
        · rename_i hc;obtain⟨rfl,c1,c2⟩:=hc;have OA:l.getD 0=0:=(by omega);have YA:r.getD 0=0:=(by omega);split at h
          · rename_i m';split at h
            · rename_i uP;obtain⟨c3,c4⟩:=uP;obtain rfl:=Aa h;have Xw:m'=0:=(by omega);subst Xw;have :=jB _ _ _ eG (by omega) (fun _=>by simpa using c3) (by simp);simp only[Bi,OA,YA,if_true,Ic] at this;refine cP.pure' hw this ?_;rw[Ki,List.take_nil];exact .vP _ _ _ _ _ (by split<;>omega)
            cases h
          have hr1:=jB _ _ _ eG (by omega) (fun _=>by simp;omega) (by simp);simp only[Dx,OA,YA,if_true,Ic] at hr1;split at h
          · obtain rfl:=Aa h;refine cP.pure' hw hr1 ?_;rw[Ki];exact .vP _ _ _ _ _ rW
          obtain rfl:=Aa h;refine cP.pure' hw hr1 ?_;rw[Ki,List.take_nil];exact .vP _ _ _ _ _ (by omega)
        cases h
     · rename_i id eO off len cap cZ;rw[cZ] at vx;generalize eG:a.eval x=u at vx
       cases vx with
       |sl _ _ _ _ _ jV lc hl hlen gG qJ=>
        simp only at h;split at h
        · rename_i hc;obtain⟨rfl,c1⟩:=hc;have hcc:cap<=jV:=(by omega);split at h
          · rename_i m';split at h
            · rename_i uP;obtain⟨c3,c4⟩:=uP;have :=jB _ _ _ eG c1 (fun _=>by simpa using c3) (by simp;omega);simp only[Bi,Bz,jT] at this;split at h
              · rename_i Ml;obtain rfl:=Aa h;rw[if_pos Ml] at this;have h0:r.getD len -l.getD 0=0:=(by omega);have Nq:m' -l.getD 0=0:=(by omega);rw[h0,Nq] at this;exact cP.pure' hw this (.sl id eO off 0 0 0 lc hl (Ak _) (by have :off+cap*eO<=lc.UD:=gG;omega) (.inl rfl))
              rename_i Ml;obtain rfl:=Aa h;rw[if_neg Ml,Bm] at this;refine cP.pure' hw this (.sl id eO (off+l.getD 0*eO) _ _ _ lc hl (by omega) ?_ (.inl rfl));have e1:off+l.getD 0*eO+(m' -l.getD 0)*eO=off+m'*eO:=(by rw[Bm,<-Cn];congr 2;omega);have e2:m'*eO<=cap*eO:=Dd _ c4;omega
            cases h
          split at h
          · rename_i c3;have :=jB _ _ _ eG c1 (fun _=>by simp;omega) (by simp);simp only[Dx,Bz,jT] at this;split at h
            · rename_i JY;obtain rfl:=Aa h;have h0:r.getD len -l.getD 0=0:=(by omega);rw[h0] at this;refine cP.pure' hw this ?_;split
              · exact VR.qL _ _ _ _ _ (.inl rfl)
              exact VR.qL _ _ _ _ _ (.inl rfl)
            rename_i JY;obtain rfl:=Aa h;rw[if_neg (by omega),Bm] at this;have e1:off+l.getD 0*eO+(cap -l.getD 0)*eO=off+cap*eO:=(by rw[Bm,<-Cn];congr 2;omega);have e2:off+l.getD 0*eO+(jV -l.getD 0)*eO=off+jV*eO:=(by rw[Bm,<-Cn];congr 2;omega);refine cP.pure' hw this (.sl id eO (off+l.getD 0*eO) _ _ _ lc hl (by omega) (by omega) ?_)
            rcases qJ with qJ|⟨q1,q2,q3⟩
            · exact .inl (by omega)
            exact .inr ⟨by omega,by omega,by omega⟩
          cases h
        cases h
     cases h
   cases h
 cases h
theorem lV (sz:Nat):∀(n:Nat) (cs:List AV),n*sz<=cs.length->(fS sz n cs).flatten=cs.take (n*sz)/\(fS sz n cs).length=n/\∀e∈fS sz n cs,e.length=sz
 |0,cs,_=>⟨by simp[fS],rfl,fun e he=>by cases he⟩
 |n+1,cs,h=>by
  have hm:(n+1)*sz=sz+n*sz:=by rw[Em];omega
  obtain⟨h1,h2,h3⟩:=lV sz n (cs.drop sz) (by simp;omega);refine⟨?_,by simp[fS,h2],fun e he=>?_⟩
  · rw[fS,Bx,h1,hm,List.take_add]
  rcases Ap.1 he with rfl|he
  · simp;omega
  exact h3 e he
theorem zx {t:TypeId} {n sz:Nat} {b:Bool} {x:Operand} {lo hi mx:Option Operand} {x':Arg} {kq gR mx':Option Arg} (ho:o.op=.slice t x lo hi mx) (hx:bJ g x=some x') (RM:mV g lo=some kq)
 (kb:mV g hi=some gR) (ql:mV g mx=some mx') (ht:zX P t=some (n,sz,b)):cP P g o (.DU n sz x' kq gR mx'):=by
 intro s a G H w v H' hw hs h;have vx:=bH hw hs hx;obtain⟨e,hu,lE,hb⟩:=zY ht;simp only[cX] at h;split at h
 · rename_i l r m h1 h2 h3;have o1:=oP hw hs RM h1;have o2:=oP hw hs kb h2;have o3:=oP hw hs ql h3;simp only[Ag,Ah] at h;obtain⟨v',h,rfl,rfl⟩:=h;unfold mO at h;simp only at h;split at h
   · rename_i hc;obtain⟨c1,c2,c3,c4⟩:=hc;have hbd:=rY (P:=P) (isS:=false) (len:=n) (cap:=n) o1 o2 o3 c4 c1 (fun _=>c2) c3 w
     have jB:∀bl o',a.eval x=.pointer (some ⟨bl,o',none⟩)->
      (execOp a.eval o).run P w=.ok (.value (.slice (some (if m.getD n=l.getD 0 then⟨bl,o',none⟩ else⟨bl,o'+l.getD 0*sz,none⟩)) (r.getD n -l.getD 0) (m.getD n -l.getD 0))) w:=by
      intro bl o' eG;simp only[execOp,ho,Instr.sliceAt,Sem.run_bind,run_underlying hu w,Result.andThen_ok,eG,Instr.sureAddr,Sem.run_pure,hbd,eJ lE w,jT]
     split at h
     · rename_i id off cZ;rw[cZ] at vx;split at h
       · rename_i cs CR;obtain⟨eI,hg⟩:=aA.oX CR;split at h
         · rename_i gG;generalize eG:a.eval x=u at vx
           cases vx with
           |ref _ _ lc hl=>
            have bIf:=(hw.cells id lc cs eI hl hg).1;have YA:=jB _ _ eG;split at h
            · rename_i Ml;obtain rfl:=Aa h;rw[if_pos Ml] at YA;have h0:r.getD n -l.getD 0=0:=(by omega);have Nq:m.getD n -l.getD 0=0:=(by omega);rw[h0,Nq] at YA;exact cP.pure' hw YA (.sl id sz off 0 0 0 lc hl (Ak _) (by omega) (.inl rfl))
            rename_i Ml;obtain rfl:=Aa h;rw[if_neg Ml,Bm] at YA;refine cP.pure' hw YA (.sl id sz (off+l.getD 0*sz) _ _ _ lc hl (by omega) ?_ (.inl rfl));have e1:off+l.getD 0*sz+(m.getD n -l.getD 0)*sz=off+m.getD n*sz:=(by rw[Bm,<-Cn];congr 2;omega);have e2:m.getD n*sz<=n*sz:=Dd _ c3;omega
         cases h
       cases h
     · rename_i cs cZ;rw[cZ] at vx;split at h
       · rename_i gG;obtain rfl:=Aa h;generalize eG:a.eval x=u at vx
         cases vx with
         |pl _ b' o' us hh hv=>
          have YA:=jB _ _ eG;refine cP.pure' hw YA ?_;obtain⟨f1,f2,f3⟩:=lV sz n cs gG;by_cases Ml:m.getD n=l.getD 0
          · rw[if_pos Ml];have h0:r.getD n -l.getD 0=0:=(by omega);have Nq:m.getD n -l.getD 0=0:=(by omega);rw[h0,Nq,Es];exact VR.qL _ _ _ _ _ (by by_cases hmr:m.getD n=r.getD n<;>simp[hmr])
          rw[if_neg Ml];refine VR.Vb (us:=us) f3 (fun j hj=>?_) (fun j hj=>?_) _ _ (by omega) ⟨by omega,?_⟩
          · rw[f1] at hj ⊢;simp at hj;rw[getD_take _ _ _ _ (by omega)];exact hh j (by omega)
          · rw[f1] at hj ⊢;simp at hj;rw[getD_take _ _ _ _ (by omega)];exact hv j (by omega)
          by_cases hmr:m.getD n=r.getD n
          · rw[if_pos hmr];omega
          rw[if_neg hmr];trivial
       cases h
     cases h
   cases h
 cases h
theorem aGi {t e:TypeId} {n:Nat} {x:Operand} {x':Arg} (ho:o.op=.sliceToArrayPointer t x) (hx:bJ g x=some x') (ht:P.underlying t=some (.array n e)):cP P g o (.Yw n x'):=by
 intro s a G H w v H' hw hs h;have vx:=bH hw hs hx
 have jB:∀(p:Option Addr) (len cap:Nat),a.eval x=.slice p len cap->n<=len->(execOp a.eval o).run P w=.ok (.value (.pointer p)) w:=by
  intro p len cap eG hle;have :¬len<n:=by omega
  simp[execOp,ho,Instr.arrayAt,run_underlying ht w,eG,this]
 simp only[cX] at h;split at h
 · rename_i tag sz els cZ;rw[cZ] at vx;generalize eG:a.eval x=u at vx
   cases vx with
   |aU _ _ _ b o' cap us IG hh hv rW=>
    split at h
    · rename_i hle;simp only[Ad,Ah] at h;obtain⟨rfl,rfl⟩:=h;exact cP.pure' hw (jB _ _ _ eG hle.1) (.pl _ b o' us hh hv)
    cases h
   |vP=>simp at h
 · rename_i id sz off len cap cZ;rw[cZ] at vx;generalize eG:a.eval x=u at vx
   cases vx with
   |sl _ _ _ _ _ jV lc hl hlen gG qJ=>
    split at h
    · rename_i hle;simp only[Ad,Ah] at h;obtain⟨rfl,rfl⟩:=h;exact cP.pure' hw (jB _ _ _ eG hle) (.ref id off lc hl)
    cases h
 cases h
end
end
section
theorem iF.append {G:Gh} {w:World} {xs ys:List AV} {us vs:List Value} (h1:iF G w xs us) (h2:iF G w ys vs):iF G w (xs++ys) (us++vs):=by
 have l1:=h1.1;have l2:=h2.1;refine⟨by simp[l1,l2],fun j hj=>?_⟩;simp at hj;rw[getD_eq,getD_eq,Dh,Dh];by_cases hc:j<xs.length
 · rw[if_pos hc,if_pos (by omega)];exact h1.2 j hc
 rw[if_neg hc,if_neg (by omega)];have :=h2.2 (j -xs.length) (by omega);rw[getD_eq,getD_eq] at this;rw[l1];exact this
theorem iF.take {G:Gh} {w:World} {xs:List AV} {us:List Value} (h:iF G w xs us) (n:Nat):iF G w (xs.take n) (us.take n):=by have l:=h.1;refine⟨by simp[l],fun j hj=>?_⟩;simp only[Cq] at hj;rw[getD_take _ _ _ _ (by omega),getD_take _ _ _ _ (by omega)];exact h.2 j (by omega)
theorem oM (P:Program) {g:bB} {G:Gh} {H:aA} {w:World} (hw:WR g G H w) {sz:Nat} {x:AV} {u:Value} {ys:List (List AV)} (h:cQ H sz x=some ys) (hv:VR G w x u):
 (∀e∈ys,e.length=sz)/\(∀c∈ys.flatten,c.one=true)/\(Builtin.lenOf u).run P w=.ok ys.length w/\
 ∃vs:List Value,iF G w ys.flatten vs/\∀n,n<=ys.length->(Builtin.firstCells sz n u).run P w=.ok (vs.take (n*sz)).toArray w:=by
 have aSk:∀{l:List AV},(∀j,j<l.length->(l.getD j aD).one=true)->∀c∈l,c.one=true:=fun {l} hl c hc=>by obtain⟨j,hj,rfl⟩:=Hd.1 hc;have :=hl j hj;simpa [getD_eq,Ab hj] using this
 have cells:∀{b o':Nat} {l:List AV},(∀j,j<l.length->∃v,w.cell? ⟨b,o'+j,none⟩=some v/\VR G w (l.getD j aD) v)->
  ∃vs:List Value,iF G w l vs/\∀m,m<=l.length->(loadCells ⟨b,o',none⟩ m).run P w=.ok (vs.take m).toArray w:=fun {b o' l} hc=>by
  obtain⟨us,h1,h2,h3⟩:=NR hc;refine⟨us,⟨h1,h3⟩,fun m hm=>?_⟩
  have :=vB P w b o' (us.take m) (fun j hj=>by
   simp at hj;rw[getD_take _ _ _ _ (by omega)]
   exact h2 j (by omega))
  rwa [show(us.take m).length=m by simp;omega] at this
 cases hv with
 |aS=>obtain rfl:=Aa h;refine⟨fun e he=>(by cases he),fun c hc=>(by simp at hc),rfl,[],iF.nil G w,fun n hn=>?_⟩;simp[Builtin.firstCells]
 |aU tag eO els b o' cap us IG hh hvv rW=>
  simp only[cQ] at h;split at h
  · rename_i hs;subst hs;obtain rfl:=Aa h;obtain⟨vs,h1,h2⟩:=cells (l:=els.flatten) (b:=b) (o':=o') (fun j hj=>⟨us j,(hh j hj).2.1,hvv j hj⟩);refine⟨IG,aSk fun j hj=>(hh j hj).2.2,rfl,vs,h1,fun n hn=>?_⟩;have :=h2 (n*eO) (by rw[length_flatten IG];exact Dd _ hn);simpa [Builtin.firstCells] using this
  cases h
 |vP tag eO b o' s' rW=>
  simp only[cQ] at h;split at h
  · obtain rfl:=Aa h;refine⟨fun e he=>(by cases he),fun c hc=>(by simp at hc),rfl,[],iF.nil G w,fun n hn=>?_⟩;obtain rfl:n=0:=by simpa using hn
    simp[Builtin.firstCells,loadCells,loadCellsFrom]
  cases h
 |str str=>
  simp only[cQ] at h;split at h
  · rename_i hs;subst hs;obtain rfl:=Aa h
    have vN:(SC str.data.toList).flatten=str.data.toList.map fun b=>AV.int .u8 b.toNat:=by
     unfold SC
     induction str.data.toList with
     |nil=>rfl
     |cons b r ih=>simp[ih]
    refine⟨fun e he=>?_,fun c hc=>?_,?_,str.data.toList.map fun b=>.int .u8 b.toNat,?_,fun n hn=>?_⟩
    · simp only[SC,Bf] at he;obtain⟨b,_,rfl⟩:=he;rfl
    · rw[vN] at hc;simp only[Bf] at hc;obtain⟨b,_,rfl⟩:=hc;rfl
    · have :str.size=(SC str.data.toList).length:=(by rw[SC,Ai,Cx];rfl);simp only[Builtin.lenOf,this];rfl
    · rw[vN];refine⟨by simp,fun j hj=>?_⟩;simp at hj;simp only[getD_eq,Cz,Ab (show j<str.data.toList.length by simpa using hj),Bz,Bi];exact .int _ _
    simp only[Builtin.firstCells,Dt]
    have :((str.extract 0 n).data.map fun b=>(Value.int .u8 b.toNat))=((str.data.toList.map fun b=>Value.int .u8 b.toNat).take n).toArray:=by apply Fm;simp[ByteArray.data_extract,Hk]
    rw[<-this];rfl
  cases h
 |sl id eO off len cap jV l hl hlen gG qJ=>
  simp only[cQ] at h;split at h
  · rename_i hs;subst hs;split at h
    · rename_i cs CR;obtain⟨eI,hg⟩:=aA.oX CR;split at h
      · rename_i hle;obtain rfl:=Aa h;obtain⟨f1,f2,f3⟩:=lV eO len (cs.drop off) (by simp;omega);have xX:=(hw.cells id l cs eI hl hg).2.2.2.1
        obtain⟨vs,h1,h2⟩:=cells (l:=(cs.drop off).take (len*eO)) (b:=l.cY) (o':=l.base+off) (fun j hj=>by
         simp at hj
         exact LJ hw hl hg hle j (by omega))
        refine⟨f3,?_,by simp[Builtin.lenOf,f2],vs,by rw[f1];exact h1,fun n hn=>?_⟩
        · rw[f1];exact fun c hc=>xX c (Du (By hc))
        rw[f2] at hn;have e2:n*eO<=len*eO:=Dd _ hn;have :=h2 (n*eO) (by simp;omega);simpa [Builtin.firstCells] using this
      cases h
    cases h
  cases h
 |_=>simp[cQ] at h
theorem RI (TP:Nat):∀(r c:Nat),Builtin.growBy TP r c<=max c (TP+(TP+768) / 4)
 |0,c=>Nat.le_max_left _ _
 |r+1,c=>by
  simp only[Builtin.growBy];split
  · exact Nat.le_max_left _ _
  have :=RI TP r (c+(c+768) / 4);omega
theorem nextslicecap_le {need cap:Nat} (h:cap<need):Builtin.nextslicecap need cap<=2*need+192:=by
 unfold Builtin.nextslicecap;split
 · omega
 split
 · omega
 have :=RI need 4 cap;omega
def Km (w:World) (o:Go.Obj):World:={w with heap:=w.heap.push o,drawn:=w.drawn+1}
section
variable {P:Program}
theorem vU {elem:TypeId} {i:TypeInfo} (h:P.info? elem=some i) (w:World):(typeInfo elem).run P w=.ok i w:=by simp[typeInfo,program,Sem.run,h]
theorem pM {w:World} {t t2 elem ty:TypeId} {d:TypeDesc} {sz n sLen sCap:Nat} {base:Option Addr} {u:Value} {vs:List Value} (ht:P.underlying t=some (.slice elem)) (lE:kD P elem=some sz)
 (h2:P.underlying t2=some d) (hd:∀k,d≠ .int k) (hlen:(Builtin.lenOf u).run P w=.ok n w) (hf:(Builtin.firstCells sz n u).run P w=.ok vs.toArray w) (xg:sLen+n<=sCap):
 (Builtin.append_ #[t,t2] ty #[.slice base sLen sCap,u]).run P w=
   ((match base with|some a=>storeCells (a.add (sLen*sz)) vs|none=>pure ():Sem Unit).run P w).andThen fun _ w'=>.ok (.slice base (sLen+n) sCap) w':=by
 have hz:(match d with|.int _=>true|_=>false)=false:=by cases d<;>first|rfl|exact absurd rfl (hd _)
 unfold Builtin.append_;simp only[Eb,Gg,Gi,Sem.run_bind,run_underlying ht w,run_underlying h2 w,eJ lE w,Result.andThen_ok,Sem.run_pure,hz,Be,Cm,hlen,if_pos xg,Gm,if_true,hf];cases base<;>simp
theorem BH {need UB:Nat} {e:TypeId} (w:World):∃c,need<=c/\(choose (.appendCap need UB e)).run P w=.ok c {w with drawn:=w.drawn+1}:=
 ⟨need+(w.tape w.drawn (.appendCap need UB e))%(2^63 -need),by omega,by simp[choose,Sem.run,Question.forced,Question.cut]⟩
theorem run_askRoom (n:Nat) (w:World):(askRoom n).run P w=.ok () w:=by unfold askRoom;split<;>rfl
theorem run_append_grow {w:World} {t t2 elem ty:TypeId} {d:TypeDesc} {i:TypeInfo} {sz n sLen sCap:Nat} {base:Option Addr} {u z:Value} {os vs:List Value} (ht:P.underlying t=some (.slice elem)) (lE:kD P elem=some sz)
 (h2:P.underlying t2=some d) (hd:∀k,d≠ .int k) (hi:P.info? elem=some i) (dR:1<=i.bytes) (hz:lL P elem=some z) (CC:z.cells.size=sz) (hlen:(Builtin.lenOf u).run P w=.ok n w)
 (ho:(Builtin.firstCells sz sLen (.slice base sLen sCap)).run P {w with drawn:=w.drawn+1}=.ok os.toArray {w with drawn:=w.drawn+1})
 (hf:(Builtin.firstCells sz n u).run P {w with drawn:=w.drawn+1}=.ok vs.toArray {w with drawn:=w.drawn+1}) (xg:¬sLen+n<=sCap) (EY:(sLen+n)*i.bytes<=2^40):
 ∃cap rest,sLen+n<=cap/\rest.length=(cap -(sLen+n))*sz/\
  (Builtin.append_ #[t,t2] ty #[.slice base sLen sCap,u]).run P w=.ok (.slice (some ⟨w.heap.size,0,none⟩) (sLen+n) cap) (Km w (.cells (os++vs++rest).toArray elem)):=by
 have hz':(match d with|.int _=>true|_=>false)=false:=by cases d<;>first|rfl|exact absurd rfl (hd _)
 obtain⟨cap,Sv,uP⟩:=BH (P:=P) (need:=sLen+n) (UB:=sCap) (e:=elem) w;have Kq:¬((((sLen+n:Nat):Int)>IntKind.i64.max)/\(False\/i.bytes=0)):=fun hh=>hh.2.elim id (fun h0=>by omega);have hns:=nextslicecap_le (need:=sLen+n) (cap:=sCap) (by omega)
 have IF:sLen+n<=2^40:=by have :(sLen+n)*1<=(sLen+n)*i.bytes:=Ev _ dR;omega
 have hmul:Builtin.nextslicecap (sLen+n) sCap*i.bytes<=(2*(sLen+n)+192)*i.bytes:=Dd _ hns;have bHs:(2*(sLen+n)+192)*i.bytes=2*((sLen+n)*i.bytes)+192*i.bytes:=by rw[Cn,Gt]
 have hib:i.bytes<=(sLen+n)*i.bytes:=Jm _ (by omega);have KA:¬Builtin.nextslicecap (sLen+n) sCap*i.bytes>2^48:=by omega
 refine⟨cap,(Builtin.zeroCells z.cells (cap -(sLen+n))).toList,Sv,by simp[Builtin.zeroCells,CC],?_⟩;unfold Builtin.append_;simp only[Eb,Gg,Gi,Sem.run_bind,run_underlying ht w,run_underlying h2 w,eJ lE w,Result.andThen_ok,Sem.run_pure,hz',Be,Cm,hlen,if_neg xg,Gm,if_true,vU hi w,if_neg Kq,if_neg KA,uP,vU hi {w with drawn:=w.drawn+1},run_askRoom,ho,hf,lA hz {w with drawn:=w.drawn+1}]
 have he:os.toArray++vs.toArray++Builtin.zeroCells z.cells (cap -(sLen+n))=(os++vs++(Builtin.zeroCells z.cells (cap -(sLen+n))).toList).toArray:=by apply Fm;simp
 rw[he];rfl
theorem Pz (w:World) (o:Go.Obj):iH w (Km w o) o:=⟨rfl,.now⟩
theorem YP {g:bB} {G:Gh} {H:aA} {w:World} (hw:WR g G H w) (mu:Bool) {sz:Nat} {els:List (List AV)} {vs rest:List Value} {e:TypeId} {cap:Nat}
 (hu:∀x∈els,x.length=sz) (h1:∀c∈els.flatten,c.one=true) (hv:iF G w els.flatten vs) (qJ:els.length<=cap) (aIy:rest.length=(cap -els.length)*sz):
 ∃G',WR g G' (lJ H mu sz els).2 (Km w (.cells (vs++rest).toArray e))/\Ext G H w G' (lJ H mu sz els).2 (Km w (.cells (vs++rest).toArray e))/\
  VR G' (Km w (.cells (vs++rest).toArray e)) (lJ H mu sz els).1 (.slice (some ⟨w.heap.size,0,none⟩) els.length cap):=by
 have hp:=Pz w (.cells (vs++rest).toArray e);have vN:=length_flatten hu;have II:=hv.1;have hmul:els.length*sz+(cap -els.length)*sz=cap*sz:=by rw[<-Cn];congr 1;omega
 cases mu with
 |true=>
  obtain⟨r1,r2⟩:=hw.aGz els.flatten vs rest hv h1 true (fun h=>by cases h) (Clear.zero _) hp;refine⟨_,r1,r2,?_⟩
  have :=VR.sl (G:=G.dZ H.next ⟨w.heap.size,0,els.flatten.length,(vs++rest).length⟩) (w:=Km w (.cells (vs++rest).toArray e)) H.next sz 0 els.length els.length cap
   ⟨w.heap.size,0,els.flatten.length,(vs++rest).length⟩ (by simp only[Gh.dZ,if_true]) (Ak _) (by simp only[vN];omega)
   (.inr ⟨by simp only[vN];omega,qJ,by simp only[Au,II,vN,aIy];omega⟩)
  exact this
 |false=>obtain⟨G',hl,r1,r2,r3⟩:=hw.aHa els.flatten vs rest hv (Clear.zero _) hp;refine⟨G',r1,r2,?_⟩;refine VR.aU (H.next+2) sz els w.heap.size 0 cap (fun j=>vs.getD j undef) hu (fun j hj=>⟨(r3 j hj).1,(r3 j hj).2.1,h1 _ (JA hj)⟩) (fun j hj=>(r3 j hj).2.2) ⟨qJ,?_⟩;exact⟨_,hl,rfl,by simp only[vN];omega,rfl,aIy⟩
theorem WR.drew {g:bB} {G:Gh} {H:aA} {w:World} (h:WR g G H w):WR g G H {w with drawn:=w.drawn+1}:=h.of_heap rfl
theorem VR.drew {G:Gh} {w:World} {a:AV} {u:Value} (h:VR G w a u):VR G {w with drawn:=w.drawn+1} a u:=
 h.mono (fun _ _ h=>h) (fun b o hi=>⟨hi,rfl⟩)
theorem k9 {g:bB} {o:Oper} {c:Call} {x y:Operand} {x' y':Arg} {t t2 elem:TypeId} {d:TypeDesc} {i:TypeInfo} {z:Value} {sz:Nat} {mu:Bool} (ho:o.op=.call c) (hc:c.callee=.builtin .append) (ha:c.args= #[x,y])
 (hx:bJ g x=some x') (hy:bJ g y=some y') (QC:c.argTypes= #[t,t2]) (ht:P.underlying t=some (.slice elem)) (lE:kD P elem=some sz) (h2:P.underlying t2=some d) (hd:∀k,d≠ .int k)
 (hi:P.info? elem=some i) (dR:1<=i.bytes) (hz:lL P elem=some z) (CC:z.cells.size=sz):cP P g o (.append sz i.bytes mu x' y'):=by
 intro s a G H w v H' hw hs h;have vx:=bH hw hs hx;have vy:=bH hw hs hy;simp only[cX] at h;split at h
 · rename_i ys Mo;obtain⟨yu,y1,Tt,DX,yv,yf⟩:=oM P hw Mo vy;have yf0:=yf ys.length (Ak _);obtain⟨_,_,_,aIb,yv',yf'⟩:=oM P hw.drew Mo vy.drew;have yfl:=length_flatten yu;have ye:∀{m:Nat} {l:List Value},l.length=m->l.take m=l:=fun {m l} hl=>by rw[Ar (by omega)]
   have aIa:(Builtin.firstCells sz ys.length (a.eval y)).run P w=.ok DX.toArray w:=by rw[yf0,ye (by rw[yv.1,yfl])]
   have bHq:(Builtin.firstCells sz ys.length (a.eval y)).run P {w with drawn:=w.drawn+1}=.ok aIb.toArray {w with drawn:=w.drawn+1}:=by rw[yf' ys.length (Ak _),ye (by rw[yv'.1,yfl])]
   have yvw:iF G w ys.flatten aIb:=⟨yv'.1,fun j hj=>(yv'.2 j hj).mono (fun _ _ h=>h) (fun b o hi=>⟨hi,rfl⟩)⟩
   have fP:∀{p:Option Addr} {sl sc:Nat} {r:Value} {w':World},a.eval x=.slice p sl sc->(Builtin.append_ #[t,t2] o.type #[.slice p sl sc,a.eval y]).run P w=.ok r w'->(execOp a.eval o).run P w=.ok (.value r) w':=by intro p sl sc r w' eG hr;simp[execOp,ho,resolve,hc,ha,QC,invoke,builtin,eG,hr]
   have ao:ys=[]->∀{p:Option Addr} {sl sc:Nat},a.eval x=.slice p sl sc->sl<=sc->(execOp a.eval o).run P w=.ok (.value (.slice p sl sc)) w:=by intro kh p sl sc eG hle;subst kh;have Mn:DX=[]:=(by have :=yv.1;simpa using this);subst Mn;refine fP eG ?_;have :=pM (P:=P) (ty:=o.type) (base:=p) (sLen:=sl) (sCap:=sc) ht lE h2 hd Tt aIa (by simpa using hle);rw[this];cases p<;>rfl
   have RL:∀(mu:Bool) {p:Option Addr} {sl sc:Nat} {els:List (List AV)} {os:List Value} {G0:Gh} {H0:aA},WR g G0 H0 w->Ext G H w G0 H0 w->a.eval x=.slice p sl sc->els.length=sl->(∀e∈els,e.length=sz)->(∀c∈els.flatten,c.one=true)->
    iF G0 w els.flatten os->(Builtin.firstCells sz sl (.slice p sl sc)).run P {w with drawn:=w.drawn+1}=.ok os.toArray {w with drawn:=w.drawn+1}->¬sl+ys.length<=sc->(sl+ys.length)*i.bytes<=2^40->
    ∃n u w' G',(execOp a.eval o).run P w=.ok n w'/\Qb n u/\WR g G' (lJ H0 mu sz (els++ys)).2 w'/\Ext G H w G' (lJ H0 mu sz (els++ys)).2 w'/\VR G' w' (lJ H0 mu sz (els++ys)).1 u:=by
    intro mu p sl sc els os G0 H0 hw0 he0 eG hl hu h1 hv hf eM EY;obtain⟨cap,rest,c1,c2,hr⟩:=run_append_grow (P:=P) (ty:=o.type) ht lE h2 hd hi dR hz CC Tt hf bHq eM EY;have bEq:iF G0 w ys.flatten aIb:=yvw.ext he0
    obtain⟨G',r1,r2,r3⟩:=YP hw0 mu (sz:=sz) (els:=els++ys) (vs:=os++aIb) (rest:=rest) (e:=elem) (cap:=cap)
     (fun e he=>(An.1 he).elim (hu e) (yu e)) (fun c hc=>by rw[Fo] at hc;exact(An.1 hc).elim (h1 c) (y1 c)) (by rw[Fo];exact hv.append bEq)
     (by simp[hl];exact c1) (by simp[hl];exact c2)
    refine⟨_,_,_,G',fP eG hr,.inl rfl,r1,he0.trans r2,?_⟩;have hlen:(els++ys).length=sl+ys.length:=(by simp[hl]);rw[hlen] at r3;exact r3
   unfold eF at h;split at h
   · rename_i aQs;have kh:ys=[]:=by simpa using aQs
     have fin:∀{p:Option Addr} {sl sc:Nat} {va:AV},a.eval x=.slice p sl sc->sl<=sc->VR G w va (.slice p sl sc)->
      ∃n u w' G',(execOp a.eval o).run P w=.ok n w'/\Qb n u/\WR g G' H w'/\Ext G H w G' H w'/\VR G' w' va u:=
      fun eG hle hva=>cP.pure' hw (ao kh eG hle) hva
     have vx0:=vx;split at h
     · rename_i cZ;simp only[Ad,Ah] at h;obtain⟨rfl,rfl⟩:=h;rw[cZ] at vx;generalize eG:a.eval x=u at vx vx0;cases vx;exact fin eG (Ak _) vx0
     · rename_i cZ;simp only[Ad,Ah] at h;obtain⟨rfl,rfl⟩:=h;rw[cZ] at vx;generalize eG:a.eval x=u at vx vx0
       cases vx with
       |aU _ _ _ _ _ _ _ _ _ _ rW=>exact fin eG rW.1 vx0
       |vP=>exact fin eG (Ak _) vx0
     · rename_i cZ;simp only[Ad,Ah] at h;obtain⟨rfl,rfl⟩:=h;rw[cZ] at vx;generalize eG:a.eval x=u at vx vx0
       cases vx with
       |sl _ _ _ _ _ _ _ _ hlen _ qJ=>exact fin eG (by omega) vx0
     cases h
   rename_i aQs
   have bHu:1<=ys.length:=by
    cases ys with
    |nil=>simp at aQs
    |cons _ _=>simp
   split at h
   · rename_i cZ;rw[cZ] at vx;generalize eG:a.eval x=u at vx;cases vx;split at h
     · rename_i EY;simp only[Ad] at h;have :=RL mu (els:=[]) (os:=[]) hw (Ext.refl G H w) eG rfl (fun e he=>by cases he) (fun c hc=>by simp at hc) (iF.nil G w) (by simp[Builtin.firstCells]) (by omega) (by simpa using EY);simp only[Dw] at this;rw[h] at this;exact this
     cases h
   · rename_i tag eO els cZ;rw[cZ] at vx;split at h
     · rename_i hc;obtain⟨rfl,EY⟩:=hc;generalize eG:a.eval x=u at vx;obtain⟨eu,e1,_,KV,ev',ef'⟩:=oM P hw.drew (sz:=eO) (x:=.aU tag eO els) (ys:=els) (by simp[cQ]) vx.drew;have evw:iF G w els.flatten KV:=⟨ev'.1,fun j hj=>(ev'.2 j hj).mono (fun _ _ h=>h) (fun b o hi=>⟨hi,rfl⟩)⟩;have efl:=length_flatten eu
       have ef1:∀{q:Value},q=u->(Builtin.firstCells eO els.length q).run P {w with drawn:=w.drawn+1}=.ok KV.toArray {w with drawn:=w.drawn+1}:=fun hq=>by rw[hq,ef' els.length (Ak _),ye (by rw[ev'.1,efl])]
       cases vx with
       |vP _ _ b o' s' rW=>
        match tag,h,rW with
        |0,h,_=>cases h
        |1,h,_=>simp only[Ad] at h;have :=RL mu (els:=[]) (os:=KV) hw (Ext.refl G H w) eG rfl eu e1 evw (ef1 rfl) (by omega) EY;rw[h] at this;exact this
       |aU _ _ _ b o' cap us IG hh hv rW=>
        match tag,h,rW with
        |0,h,_=>cases h
        |1,h,rW=>simp only[Ad] at h;have Zt:cap=els.length:=rW.2;have :=RL mu (els:=els) (os:=KV) hw (Ext.refl G H w) eG rfl eu e1 evw (ef1 rfl) (by omega) EY;rw[h] at this;exact this
        |k+2,h,rW=>
         obtain⟨l,t1,qz,t3,t4,t5⟩:=rW.2;have hle:=rW.1;simp only at h;split at h
         · rename_i VH;simp only[Ad,Ah] at h;obtain⟨rfl,rfl⟩:=h;have lG:H.live k:=⟨_,VH,rfl⟩;have hk:=hw.kill k;have Wi:=(Ext.refl G H w).kill k;by_cases wP:els.length+ys.length<=cap
           ·
            obtain⟨ca,el,fz,q1,q2,q3⟩:=hw.room k l t1 (.inr VH)
            have Ml:ys.length*eO+(cap -els.length -ys.length)*eO=l.ext:=by rw[t5,<-Cn];congr 1;omega
            have yvl:DX.length=ys.length*eO:=(by rw[yv.1,yfl]);have AN:∀j,j<DX.length->j<l.ext:=fun j hj=>by omega
            obtain⟨w',hr,hu⟩:=fD P b (o'+els.length*eO) DX 0 w ⟨ca,el,fz,by rw[<-qz];exact q1,by omega⟩
             (fun j hj=>by rw[Cy,<-t3,<-qz];exact q3 j (AN j hj)) (oO yv y1)
            rw[Cy] at hu
            have pF:∀j,j<DX.length->¬G.gV b (o'+els.length*eO+j):=fun j hj=>by rw[<-t3,<-qz];exact hw.jY k l t1 lG j (AN j hj)
            have tU:∀id l',G.loc id=some l'->(H.set k .dead).live id->l.cY≠l'.cY\/l.base+l.ext<=l'.base\/l'.base+l'.ext<=l.base:=fun id l' oU mS=>by
             rcases aA.kV.1 mS with ⟨_,hh⟩|⟨cK,mS⟩
             · cases hh
             exact hw.kT k id l l' (Ne.symm cK) t1 oU lG mS
            have Pg:=hk.write hu pF (fun id l' oU mS=>by
             rcases tU id l' oU mS with rV|rV|rV
             · exact .inl (by rw[<-qz];exact Ne.symm rV)
             · exact .inr (.inr (by omega))
             exact .inr (.inl (by omega))) ⟨ca,el,fz,by rw[<-qz];exact q1⟩
            have hblk:w.heap.size<=b\/∃eS l0,G.loc eS=some l0/\H.live eS/\l0.cY=b:=.inr ⟨k,l,t1,lG,qz⟩;have Tw:=Wi.write hu pF hw.iR hblk;obtain⟨ca',u1,u2,u3,u4⟩:=hu.row ca el fz (by rw[<-qz];exact q1)
            have al:∀j,j<DX.length->w'.cell? ⟨b,o'+els.length*eO+j,none⟩=some (DX.getD j undef):=fun j hj=>by rw[lS u1];exact u4 j hj (by have :=AN j hj;omega)
            have zH:=Pg.nS b (o'+els.length*eO) DX.length (fun j hj=>⟨_,al j hj⟩) (fun id l' oU mS=>by
             rcases tU id l' oU mS with rV|rV|rV
             · exact .inl (by rw[<-qz];exact Ne.symm rV)
             · exact .inr (.inr (by omega))
             exact .inr (.inl (by omega)))
            have Xr:=Tw.nS b (o'+els.length*eO) DX.length hblk;have j9:=Xr.NJ .tok ⟨b,o'+els.length*eO+DX.length,0,l.ext -DX.length⟩ zH.lt hblk
            have QJ:=zH.NJ .tok ⟨b,o'+els.length*eO+DX.length,0,l.ext -DX.length⟩ (fun id l' oU mS=>by
             rcases tU id l' oU mS with rV|rV|rV
             · exact .inl (by rw[<-qz];exact rV)
             · exact .inr (.inl (by simp only;omega))
             · exact .inr (.inr (by simp only;omega))) (fun j hj hi=>by
             simp only at hj hi
             rcases hi with hi|⟨_,_,hi⟩
             · have :=hw.jY k l t1 lG (DX.length+j) (by omega);rw[qz,t3,<-Bm] at this;exact this hi
             · omega) (fun MJ aAc xU=>by cases xU) (fun _=>⟨ca',el,fz,u1,by simp only;omega,fun j hj=>by
             simp only at hj ⊢;rw[hu.frozen (by rw[<-qz];exact q1)];have :=q3 (DX.length+j) (by omega);rw[qz,t3,<-Bm] at this
             exact this⟩) (fun xU=>by cases xU)
            refine⟨.value (.slice (some ⟨b,o',none⟩) (els.length+ys.length) cap),.slice (some ⟨b,o',none⟩) (els.length+ys.length) cap,w',_,fP eG ?_,.inl rfl,QJ,j9,?_⟩
            · have :=pM (P:=P) (ty:=o.type) (base:=some ⟨b,o',none⟩) (sLen:=els.length) (sCap:=cap) ht lE h2 hd Tt aIa wP;rw[this];simp only[jT,hr,Result.andThen_ok]
            have hlen:(els++ys).length=els.length+ys.length:=(by simp);rw[<-hlen]
            have hga:∀j,(els.flatten++ys.flatten).getD j aD=if j<els.flatten.length then els.flatten.getD j aD else ys.flatten.getD (j -els.flatten.length) aD:=fun j=>by rw[getD_eq,Dh];split<;>rfl
            refine VR.aU (H.next+2) eO (els++ys) b o' cap (fun j=>if j<els.flatten.length then us j else DX.getD (j -els.flatten.length) undef)
             (fun e he=>(An.1 he).elim (eu e) (yu e)) (fun j hj=>?_) (fun j hj=>?_) ⟨by simp;exact wP,?_⟩
            · rw[Fo] at hj ⊢;rw[hga];by_cases Ko:j<els.flatten.length
              · rw[if_pos Ko,if_pos Ko];have :=hh j Ko;refine⟨(j9.gV _ _ this.1).1,by rw[(j9.gV _ _ this.1).2];exact this.2.1,this.2.2⟩
              rw[if_neg Ko,if_neg Ko];simp only[Au] at hj;have Mj:j -els.flatten.length<DX.length:=(by rw[yv.1];omega);have MO:o'+j=o'+els.length*eO+(j -els.flatten.length):=(by rw[efl] at Ko ⊢;omega);refine⟨.inr ⟨rfl,by omega,by omega⟩,by rw[MO];exact al _ Mj,?_⟩;exact y1 _ (JA (by rw[<-yv.1];exact Mj))
            · rw[Fo] at hj ⊢;rw[hga];by_cases Ko:j<els.flatten.length
              · rw[if_pos Ko,if_pos Ko];exact(hv j Ko).ext j9
              rw[if_neg Ko,if_neg Ko];simp only[Au] at hj;exact(yv.2 (j -els.flatten.length) (by omega)).ext j9
            refine⟨⟨b,o'+els.length*eO+DX.length,0,l.ext -DX.length⟩,by simp only[Gh.dZ,aA.aW,if_true],rfl,?_,rfl,?_⟩
            · simp only[hlen,Cn];omega
            simp only[hlen];rw[yvl,<-Ml,Nat.add_sub_cancel_left];congr 1;omega
           exact RL false (els:=els) (os:=KV) hk Wi eG rfl eu e1 evw (ef1 rfl) wP EY
         cases h
     cases h
   · rename_i id eO off len cap cZ;rw[cZ] at vx;split at h
     · rename_i hc;obtain⟨rfl,EY,aRk⟩:=hc;split at h
       · rename_i cs eI hg;generalize eG:a.eval x=u at vx
         cases vx with
         |sl _ _ _ _ _ jV l hl hlen gG qJ=>
          obtain⟨a1,a2,a3,a4,a5⟩:=hw.cells id l cs eI hl hg;obtain⟨ca,el,fz,b1,b2,b3⟩:=hw.room id l hl (.inl ⟨cs,eI,hg⟩);split at h
          · rename_i wP;split at h
            · rename_i bHz;simp only[Ad,Ah] at h;obtain⟨rfl,rfl⟩:=h;have yvl:DX.length=ys.length*eO:=(by rw[yv.1,yfl]);have hm1:len*eO+ys.length*eO<=cap*eO:=by rw[<-Cn];exact Dd _ wP
              obtain⟨w',hr,hu⟩:=fD P l.cY (l.base+off+len*eO) DX 0 w ⟨ca,el,fz,b1,by omega⟩
               (fun j hj=>by rw[Cy,Bm,Bm];exact b3 (off+(len*eO+j)) (by omega)) (oO yv y1)
              rw[Cy,Bm] at hu;obtain⟨r1,r2⟩:=hw.store hl hg yv y1 (by rw[yfl];omega) hu;refine⟨.value (.slice (some ⟨l.cY,l.base+off,none⟩) (len+ys.length) jV),.slice (some ⟨l.cY,l.base+off,none⟩) (len+ys.length) jV,w',G,fP eG ?_,.inl rfl,r1,r2,VR.sl id eO off (len+ys.length) cap jV l hl wP gG qJ⟩;have :=pM (P:=P) (ty:=o.type) (base:=some ⟨l.cY,l.base+off,none⟩) (sLen:=len) (sCap:=jV) ht lE h2 hd Tt aIa (by omega);rw[this];simp only[jT,hr,Result.andThen_ok]
            cases h
          rename_i wP;split at h
          · rename_i uP;obtain⟨c1,c2⟩:=uP
            have aQt:jV=cap:=by
             rcases qJ with qJ|⟨p1,p2,p3⟩
             · exact qJ
             rcases c2 with c2|c2
             · have :=a3 c2;have hms:jV*eO=cap*eO:=(by omega);exact Nat.eq_of_mul_eq_mul_right aRk hms
             omega
            subst aQt
            obtain⟨eu,e1,_,KV,ev',ef'⟩:=oM P hw.drew (sz:=eO) (x:=.sl id eO off len jV) (ys:=fS eO len (cs.drop off)) (by
             have hca:H.eW id=some cs:=by simp[aA.eW,hg]
             simp[cQ,hca,c1]) (VR.sl id eO off len jV jV l hl hlen gG qJ:VR G w _ _).drew
            have evw:iF G w (fS eO len (cs.drop off)).flatten KV:=⟨ev'.1,fun j hj=>(ev'.2 j hj).mono (fun _ _ h=>h) (fun b o hi=>⟨hi,rfl⟩)⟩;obtain⟨f1,f2,f3⟩:=lV eO len (cs.drop off) (by simp;omega);have efl:=length_flatten eu
            have ef1:(Builtin.firstCells eO len (.slice (some ⟨l.cY,l.base+off,none⟩) len jV)).run P {w with drawn:=w.drawn+1}=.ok KV.toArray {w with drawn:=w.drawn+1}:=by rw[ef' len (by omega),ye (by rw[ev'.1,efl,f2])]
            simp only[Ad] at h;have :=RL mu (els:=fS eO len (cs.drop off)) (os:=KV) hw (Ext.refl G H w) eG f2 eu e1 evw ef1 (by omega) EY;rw[h] at this;exact this
          split at h
          · rename_i xc;obtain⟨hmu,bDy,JY,CR⟩:=xc;subst hmu bDy JY;simp only[Ad,Ah] at h;obtain⟨rfl,rfl⟩:=h
            obtain⟨eu,e1,_,KV,ev',ef'⟩:=oM P hw.drew (sz:=eO) (x:=.sl id eO 0 len len) (ys:=fS eO len (cs.drop 0)) (by
             have hca:H.eW id=some cs:=by simp[aA.eW,hg]
             simp[cQ,hca,CR]) (VR.sl id eO 0 len len jV l hl hlen gG qJ:VR G w _ _).drew
            have evw:iF G w (fS eO len (cs.drop 0)).flatten KV:=⟨ev'.1,fun j hj=>(ev'.2 j hj).mono (fun _ _ h=>h) (fun b o hi=>⟨hi,rfl⟩)⟩;obtain⟨f1,f2,f3⟩:=lV eO len (cs.drop 0) (by simp;omega);have efl:=length_flatten eu
            have ef1:(Builtin.firstCells eO len (.slice (some ⟨l.cY,l.base+0,none⟩) len jV)).run P {w with drawn:=w.drawn+1}=.ok KV.toArray {w with drawn:=w.drawn+1}:=by rw[ef' len (by omega),ye (by rw[ev'.1,efl,f2])]
            have fcs:(fS eO len (cs.drop 0)).flatten=cs:=(by rw[f1,Ef,Ar (by omega)]);have lG:H.live id:=⟨_,hg,rfl⟩;have hk:=hw.kill id;have Wi:=(Ext.refl G H w).kill id;by_cases TA:len+ys.length<=jV
            ·
             have aTw:len*eO=l.UD/\len<=jV/\jV*eO=l.ext:=by
              rcases qJ with hh|⟨p1,p2,p3⟩
              · omega
              exact⟨by omega,p2,by omega⟩
             obtain⟨g1,g2,g3⟩:=aTw;have yvl:DX.length=ys.length*eO:=(by rw[yv.1,yfl]);have hm1:len*eO+ys.length*eO<=jV*eO:=by rw[<-Cn];exact Dd _ TA
             obtain⟨w',hr,hu⟩:=fD P l.cY (l.base+0+len*eO) DX 0 w ⟨ca,el,fz,b1,by omega⟩
              (fun j hj=>by rw[Cy,Cy,Bm];exact b3 (len*eO+j) (by omega)) (oO yv y1)
             rw[Cy,Cy] at hu
             have pF:∀j,j<DX.length->¬G.gV l.cY (l.base+len*eO+j):=fun j hj=>by rw[Bm];exact hw.jY id l hl lG _ (by omega)
             have tU:∀kG l',G.loc kG=some l'->(H.set id .dead).live kG->l.cY≠l'.cY\/l.base+l.ext<=l'.base\/l'.base+l'.ext<=l.base:=fun kG l' oU mS=>by
              rcases aA.kV.1 mS with ⟨_,hh⟩|⟨cK,mS⟩
              · cases hh
              exact hw.kT id kG l l' (Ne.symm cK) hl oU lG mS
             have Pg:=hk.write hu pF (fun kG l' oU mS=>by
              rcases tU kG l' oU mS with rV|rV|rV
              · exact .inl (Ne.symm rV)
              · exact .inr (.inr (by omega))
              exact .inr (.inl (by omega))) ⟨ca,el,fz,b1⟩
             have hblk:w.heap.size<=l.cY\/∃eS l0,G.loc eS=some l0/\H.live eS/\l0.cY=l.cY:=.inr ⟨id,l,hl,lG,rfl⟩;have Tw:=Wi.write hu pF hw.iR hblk;obtain⟨ca',u1,u2,u3,u4⟩:=hu.row ca el fz b1
             have al:∀j,j<DX.length->w'.cell? ⟨l.cY,l.base+len*eO+j,none⟩=some (DX.getD j undef):=fun j hj=>by rw[lS u1];exact u4 j hj (by omega)
             have xL:(cs++ys.flatten).length=(len+ys.length)*eO:=by rw[Au,CR,yfl,Cn]
             have hga:∀j,(cs++ys.flatten).getD j aD=if j<cs.length then cs.getD j aD else ys.flatten.getD (j -cs.length) aD:=fun j=>by rw[getD_eq,Dh];split<;>rfl
             have j9:=Tw.NJ (.cells (cs++ys.flatten) true) ⟨l.cY,l.base,(cs++ys.flatten).length,l.ext⟩ Pg.lt hblk
             have QJ:=Pg.NJ (.cells (cs++ys.flatten) true) ⟨l.cY,l.base,(cs++ys.flatten).length,l.ext⟩ tU
              (fun j hj hi=>hw.jY id l hl lG j hj hi)
              (fun MJ aAc xU=>by
                simp only[fE.cells.injEq] at xU;obtain⟨rfl,rfl⟩:=xU;refine⟨rfl,(by simp only;rw[xL,Cn];omega),(fun hh=>(by cases hh)),fun c hc=>(An.1 hc).elim (a4 c) (y1 c),fun j hj=>?_⟩;rw[hga];by_cases Ko:j<cs.length
                · rw[if_pos Ko];obtain⟨u,v1,v2⟩:=a5 j Ko;exact⟨u,(show w'.cell? ⟨l.cY,l.base+j,none⟩=some u from hu.cell (.inr (.inl (by omega))) v1),v2.ext Tw⟩
                rw[if_neg Ko];simp only[Au] at hj;have Mj:j -cs.length<DX.length:=(by rw[yv.1];omega);have MO:l.base+j=l.base+len*eO+(j -cs.length):=(by omega);refine⟨_,(show w'.cell? ⟨l.cY,l.base+j,none⟩=_ from ?_),(yv.2 (j -cs.length) (by omega)).ext Tw⟩;rw[MO]
                exact al _ Mj)
              (fun _=>⟨ca',el,fz,u1,by simp only;omega,fun j hj=>by
                simp only at hj ⊢;rw[hu.frozen b1]
                exact b3 j hj⟩) (fun xU=>by cases xU)
             refine⟨.value (.slice (some ⟨l.cY,l.base+0,none⟩) (len+ys.length) jV),.slice (some ⟨l.cY,l.base+0,none⟩) (len+ys.length) jV,w',_,fP eG ?_,.inl rfl,QJ,j9,?_⟩
             · have :=pM (P:=P) (ty:=o.type) (base:=some ⟨l.cY,l.base+0,none⟩) (sLen:=len) (sCap:=jV) ht lE h2 hd Tt aIa TA;rw[this];simp only[jT,hr,Result.andThen_ok]
             exact VR.sl H.next eO 0 (len+ys.length) (len+ys.length) jV ⟨l.cY,l.base,(cs++ys.flatten).length,l.ext⟩ (by simp only[Gh.dZ,aA.aW,if_true]) (Ak _)
              (by simp only;rw[xL];omega) (.inr ⟨by simp only;rw[xL];omega,TA,by simp only;omega⟩)
            have hn:=RL true (els:=fS eO len (cs.drop 0)) (os:=KV) hk Wi eG f2 eu e1 evw ef1 TA EY
            have e0:lJ (H.set id .dead) true eO (fS eO len (cs.drop 0)++ys)=(.sl H.next eO 0 (len+ys.length) (len+ys.length),(H.set id .dead).alloc (.cells (cs++ys.flatten) true)):=by simp only[lJ,if_true,Au,f2,Fo,fcs,aA.aW]
            rw[e0] at hn;exact hn
          cases h
       cases h
     cases h
   cases h
 cases h
end
end
section
theorem pE (zs:List AV):∀(n k:Nat),k<n*zs.length->(List.replicate n zs).flatten.getD k aD=zs.getD (k%zs.length) aD
 |0,k,h=>by simp at h
 |n+1,k,h=>by
  rw[Dy,Bx,getD_eq,Dh];rw[Em] at h;by_cases hk:k<zs.length
  · rw[if_pos hk,Db hk];rfl
  rw[if_neg hk];have :=pE zs n (k -zs.length) (by omega);rw[getD_eq] at this;rw[this,<-Nat.mod_eq_sub_mod (by omega)]
theorem SH {G:Gh} {w:World} {zs:List AV} {z:Array Value} (h:iF G w zs z.toList) (MO:1<=zs.length) (n m:Nat) (hm:m=n*zs.length):
 iF G w (List.replicate n zs).flatten ((Array.range m).map fun i=>z[i%z.size]!).toList:=by
 have hl:=h.1;simp only[Cx] at hl;refine⟨by simp[hm],fun k hk=>?_⟩;have rF:k<n*zs.length:=by simpa using hk
 rw[pE zs n k rF,hU];have hkm:k<m:=by omega
 have bDp:k%zs.length<zs.length:=Dg _ MO;have :=h.2 (k%zs.length) bDp;rw[hU] at this
 have e:((Array.range m).map fun i=>z[i%z.size]!)[k]?=some (z[k%z.size]!):=by simp[hkm]
 rw[e]
 have e2:z[k%z.size]! =(z[k%zs.length]?).getD undef:=by
  rw[hl];have :k%zs.length<z.size:=by omega
  simp[getElem!_pos,this]
 simp only[Bi];rw[e2];exact this
section
variable {P:Program} {g:bB} {o:Oper}
theorem DP {zs:List AV} (h1:∀c∈zs,c.one=true) (n:Nat):∀c∈(List.replicate n zs).flatten,c.one=true:=fun c hc=>by simp only[Iq,List.mem_replicate] at hc;obtain⟨l,⟨_,rfl⟩,hc⟩:=hc;exact h1 c hc
theorem Wc (n:Nat) (h:n<=2^40):IntKind.i64.wrap (n:Int)=(n:Int):=by
 have hs:IntKind.i64.signed=true:=rfl;have hb:IntKind.i64.bits=64:=rfl;unfold IntKind.wrap;simp only[hs,hb,Cr];have e:((n:Int)%2^64)=n:=by omega
 rw[e];have :¬((n:Int)≥2^(64 -1)):=by omega
 rw[Ae this];rfl
theorem Lh {t e:TypeId} {sz:Nat} {i:TypeInfo} {z:Value} {zs:List AV} {x y:Operand} {x' y':Arg} (ho:o.op=.makeSlice t x y) (hx:bJ g x=some x') (hy:bJ g y=some y') (ht:mZ P t=some (e,sz))
 (hi:P.info? e=some i) (hz:lL P e=some z) (CC:jO z.cells.toList=some zs) (MO:1<=sz) (dR:1<=i.bytes):CY P g o (.jD sz i.bytes zs x' y'):=by
 intro s a G H H' w ob val eS hw hs h cZ cT AM eZ;have vx:=bH hw hs hx;have vy:=bH hw hs hy;obtain⟨hu,lE⟩:=kH ht;simp only[xK] at h;split at h
 · rename_i l c hl hc;obtain⟨k1,e1,f1⟩:=tL hl vx;obtain⟨k2,e2,f2⟩:=tL hc vy;split at h
   · rename_i eN;obtain⟨c1,c2,c3⟩:=eN;simp only[Ad,Ah] at h;obtain⟨rfl,rfl⟩:=h;have j7:=lX CC G w
     have bCq:c<=2^40:=by have :1*c<=i.bytes*c:=Dd _ dR;omega
     have w1:=Wc l (by omega);have w2:=Wc c bCq;have aRn:z.cells.size=zs.length:=(by simpa using j7.1.1);have aUp:1<=zs.length:=(by omega);have yh:=SH j7.1 aUp c (c*sz) (by rw[c3]);have hp:iH w {w with heap:=w.heap.push (.cells ((Array.range (c*sz)).map fun i=>z.cells[i%z.cells.size]!) e)} (.cells (((Array.range (c*sz)).map fun i=>z.cells[i%z.cells.size]!).toList++[]).toArray e (0,0)):=⟨by rw[Cd,Array.toArray_toList],.now⟩;have hm:=hw.xB eS cZ _ _ [] yh (DP j7.2 c) false (fun _=>rfl) cT AM eZ (Clear.zero _) hp;refine⟨.slice (some ⟨w.heap.size,0,none⟩) l c,_,_,?_,hm,?_⟩
     · have t1:(decide ((c:Int)<0)||decide ((i.bytes:Int)*(c:Int)>2^48))=false:=by
        have :(i.bytes:Int)*(c:Int)<=2^40:=(by exact_mod_cast c2);simp;omega
       have t2:¬((l:Int)<0):=(by omega);have t3:¬((l:Int)>(c:Int)):=(by omega);simp only[execOp,ho,Instr.makeSlice,Sem.run_bind,run_underlying hu w,Result.andThen_ok,f1,f2,asInt,asIntOf,Sem.run_pure,vU hi w,w1,w2,t1,Ae t2,Ae t3,Bool.or_false,Be,Cm,run_askRoom,Int.toNat_natCast,eJ lE w];by_cases h0:c*sz=0
       · have hA:∀f:Nat->Value,(Array.range 0).map f= #[]:=fun f=>by simp
         simp only[h0,if_true,Sem.run_bind,Sem.run_pure,Result.andThen_ok,hA];rfl
       simp only[h0,Cm,Sem.run_bind,lA hz w,Sem.run_pure,Result.andThen_ok];rfl
     have hlen:(List.replicate c zs).flatten.length=c*sz:=(by simp[c3]);refine VR.sl eS sz 0 l c c ⟨w.heap.size,0,(List.replicate c zs).flatten.length,(((Array.range (c*sz)).map fun i=>z.cells[i%z.cells.size]!).toList++[]).length⟩ (by simp only[Gh.dZ,if_true]) c1 (by simp only[hlen];omega) (.inl rfl)
   cases h
 cases h
theorem YT {t e:TypeId} {sz:Nat} {i:TypeInfo} {z:Value} {zs:List AV} {x y:Operand} {x' y':Arg} (ho:o.op=.makeSlice t x y) (hx:bJ g x=some x') (hy:bJ g y=some y') (ht:mZ P t=some (e,sz))
 (hi:P.info? e=some i) (hz:lL P e=some z) (CC:jO z.cells.toList=some zs) (MO:1<=sz) (dR:1<=i.bytes):cP P g o (.jD sz i.bytes zs x' y'):=
 (Lh ho hx hy ht hi hz CC MO dR).op fun _ _=>rfl
theorem zb:∀{l:List (Nat×Operand)} {k:Nat} {ys:List Arg},IU g k l=some ys->ys.length=l.length:=by
 intro l
 induction l with
 |nil=>intro k ys h;obtain rfl:=Aa h;rfl
 |cons p r ih=>
  intro k ys h;obtain⟨i,x⟩:=p;simp only[IU] at h;split at h
  · split at h
    · rename_i y ys' _ h';obtain rfl:=Aa h;simp[ih h']
    cases h
  cases h
def Tc (mu:Bool) (sz:Nat) (ys:List Arg):Bool:=mu&&Nat.beq sz 1&&(match ys with|[.const (.str [])]=>true|_=>false)
theorem Nl {mu:Bool} {t e:TypeId} {sz len:Nat} {z:Value} {parts:Array (Nat×Operand)} {ys:List Arg} (ho:o.op=.buildSlice t len parts) (ht:mZ P t=some (e,sz)) (hz:lL P e=some z)
 (hlen:len=parts.size) (EY:len*sz<=2^24) (hp:IU g 0 parts.toList=some ys) (hr:Tc mu sz ys=true):CY P g o (.jD 1 1 [.str []] (.const (.int .i64 1)) (.const (.int .i64 1))):=by
 intro s a G H H' w ob val eS hw hs h cZ cT AM eZ;obtain⟨hu,lE⟩:=kH ht;simp only[Tc,Am] at hr;obtain⟨⟨_,aRk⟩,Mo⟩:=hr;obtain rfl:sz=1:=Bh aRk
 have Mo:ys=[.const (.str [])]:=by
  split at Mo
  · rfl
  cases Mo
 subst Mo;have GC:parts.size=1:=by have :=zb hp;simpa using this.symm
 obtain rfl:len=1:=by omega
 have fP:ob=.cells [.str []] false/\val=fun id=>.sl id 1 0 1 1:=by
  have e:xK (Arg.eval g s) (.jD 1 1 [.str []] (.const (.int .i64 1)) (.const (.int .i64 1)))=some (.cells [.str []] false,fun id=>.sl id 1 0 1 1):=by simp[xK,Arg.eval,asNat]
  rw[e] at h;simp only[Ad,Ah] at h;exact⟨h.1.symm,h.2.symm⟩
 obtain⟨rfl,rfl⟩:=fP;obtain⟨iK,hf,hv,h1⟩:=Ni hw hs 1 parts.toList [.const (.str [])] 0 [[.str []]] [] ((Array.range (1*1)).map (z.cells[· %z.cells.size]!)) hp rfl (by simp) (by simp[GC]) (fun j hj=>by simp at hj) (fun c hc=>by cases hc);have hp':iH w {w with heap:=w.heap.push (.cells iK e)} (.cells (iK.toList++[]).toArray e (0,0)):=⟨by simp,.now⟩;have hm:=hw.xB eS cZ [.str []] iK.toList [] hv h1 false (fun _=>rfl) cT AM eZ (Clear.zero _) hp';refine⟨.slice (some ⟨w.heap.size,0,none⟩) 1 1,_,_,?_,hm,?_⟩
 · simp only[execOp,ho,Instr.buildSlice,Sem.run_bind,run_underlying hu w,eJ lE w,Result.andThen_ok,if_neg (show ¬1*1>2^24 by omega),if_neg (show ¬1*1=0 by omega),lA hz w,Sem.run_pure,Ir,hf];rfl
 exact VR.sl eS 1 0 1 1 1 ⟨w.heap.size,0,1,(iK.toList++[]).length⟩ (by simp only[Gh.dZ,if_true];rfl) (Ak _) (by simp) (.inl rfl)
theorem lg {mu:Bool} {t e:TypeId} {sz len:Nat} {z:Value} {parts:Array (Nat×Operand)} {ys:List Arg} (ho:o.op=.buildSlice t len parts) (ht:mZ P t=some (e,sz)) (hz:lL P e=some z)
 (hlen:len=parts.size) (EY:len*sz<=2^24) (hp:IU g 0 parts.toList=some ys) (hr:Tc mu sz ys=true):cP P g o (.jD 1 1 [.str []] (.const (.int .i64 1)) (.const (.int .i64 1))):=
 (Nl ho ht hz hlen EY hp hr).op fun _ _=>rfl
theorem aFw {c:Call} {x y:Operand} {x' y':Arg} {t elem:TypeId} {sz:Nat} (ho:o.op=.call c) (hc:c.callee=.builtin .copy) (ha:c.args= #[x,y])
 (hx:bJ g x=some x') (hy:bJ g y=some y') (QC:c.argTypes[0]?=some t) (ht:P.underlying t=some (.slice elem)) (lE:kD P elem=some sz):cP P g o (.copy sz x' y'):=by
 intro s a G H w v H' hw hs h;have vx:=bH hw hs hx;have vy:=bH hw hs hy;simp only[cX] at h
 have fP:∀{p:Option Addr} {dl dc:Nat} {n:Nat} {vs:List Value},a.eval x=.slice p dl dc->(Builtin.lenOf (a.eval y)).run P w=.ok n w->(Builtin.firstCells sz (Nat.min n dl) (a.eval y)).run P w=.ok vs.toArray w->
  ∀{w':World},((match p with|some q=>storeCells q vs|none=>pure ():Sem Unit).run P w=.ok () w')->(execOp a.eval o).run P w=.ok (.value (.int .i64 (Nat.min n dl:Nat))) w':=by
  intro p dl dc n vs eG hl hf w' hr;simp only[execOp,ho,resolve,hc,ha,List.map_toArray,Bv,Fg,eG,Sem.run_bind,Sem.run_pure,Result.andThen_ok,invoke,builtin,Builtin.copy_,QC,Eb,Gg,Gi,run_underlying ht w,hl,eJ lE w,hf]
  cases p with
  |none=>simp at hr;subst hr;simp[goInt]
  |some q=>simp only at hr;simp[hr,goInt]
 split at h
 · rename_i ys Mo cZ;rw[cZ] at vx;generalize eG:a.eval x=u at vx;cases vx;simp only[Ad,Ah] at h;obtain⟨rfl,rfl⟩:=h;obtain⟨yu,y1,Tt,DX,yv,yf⟩:=oM P hw Mo vy
   have :=fP eG Tt (vs:=[]) (by
    have :=yf 0 (Az _);rw[show Nat.min ys.length 0=0 from Nat.min_zero _]
    simpa using this) (w':=w) rfl
   exact cP.pure' hw this (.int _ _)
 · rename_i ys id eO off len cap Mo cZ;rw[cZ] at vx;obtain⟨yu,y1,Tt,DX,yv,yf⟩:=oM P hw Mo vy;split at h
   · rename_i yc;subst yc;split at h
     · rename_i cs eI hg;split at h
       · rename_i gG;simp only[Ad,Ah] at h;obtain⟨rfl,rfl⟩:=h;generalize eG:a.eval x=u at vx
         cases vx with
         |sl _ _ _ _ _ jV l hl hlen bDh qJ=>
          obtain⟨a1,a2,a3,a4,a5⟩:=hw.cells id l cs eI hl hg;obtain⟨ca,el,fz,b1,b2,b3⟩:=hw.room id l hl (.inl ⟨cs,eI,hg⟩);have yfl:=length_flatten yu;have hmn:min ys.length len<=ys.length:=Nat.min_le_left _ _;have hmul:min ys.length len*eO<=ys.length*eO:=Dd _ hmn;have hyl:=yv.1;have hft:(ys.take (min ys.length len)).flatten=ys.flatten.take (min ys.length len*eO):=HL yu _;have yvt:=yv.take (min ys.length len*eO);rw[<-hft] at yvt;have II:(DX.take (min ys.length len*eO)).length=min ys.length len*eO:=by simp;omega
          obtain⟨w',hr,hu⟩:=fD P l.cY (l.base+off) (DX.take (min ys.length len*eO)) 0 w ⟨ca,el,fz,b1,by omega⟩
           (fun j hj=>by rw[Cy,Bm];exact b3 (off+j) (by omega)) (oO yvt (fun c hc=>by
             rw[hft] at hc
             exact y1 c (By hc)))
          rw[Cy] at hu;obtain⟨r1,r2⟩:=hw.store hl hg yvt (fun c hc=>by rw[hft] at hc;exact y1 c (By hc)) (by rw[hft];simp;omega) hu;refine⟨_,_,w',G,fP eG Tt (yf _ hmn) hr,.inl rfl,r1,r2,.int _ _⟩
       cases h
     cases h
   cases h
 cases h
theorem aSf {c:Call} {x:Operand} {x':Arg} {t elem:TypeId} {sz:Nat} {z:Value} {zs:List AV} (ho:o.op=.call c) (hc:c.callee=.builtin .clear) (ha:c.args= #[x])
 (hx:bJ g x=some x') (QC:c.argTypes[0]?=some t) (ht:P.underlying t=some (.slice elem)) (hz:lL P elem=some z) (CC:jO z.cells.toList=some zs):cP P g o (.clr sz zs x'):=by
 intro s a G H w v H' hw hs h;have vx:=bH hw hs hx
 have fP:∀{u:Value} {w':World},a.eval x=u->(Builtin.clear_ c.argTypes o.type #[u]).run P w=.ok (.tuple #[]) w'->(execOp a.eval o).run P w=.ok (.value (.tuple #[])) w':=by intro u w' eG hr;simp[execOp,ho,resolve,hc,ha,invoke,builtin,eG,hr]
 simp only[cX] at h;split at h
 · rename_i cZ;rw[cZ] at vx;generalize eG:a.eval x=u at vx;cases vx;simp only[Ad,Ah] at h;obtain⟨rfl,rfl⟩:=h;exact cP.pure' hw (fP eG (by simp[Builtin.clear_,QC,run_underlying ht w])) (VR.oH G w)
 · rename_i cZ;rw[cZ] at vx;generalize eG:a.eval x=u at vx;simp only[Ad,Ah] at h;obtain⟨rfl,rfl⟩:=h;cases vx<;>exact cP.pure' hw (fP eG (by simp[Builtin.clear_,QC,run_underlying ht w])) (VR.oH G w)
 · rename_i cZ;rw[cZ] at vx;generalize eG:a.eval x=u at vx;cases vx;simp only[Ad,Ah] at h;obtain⟨rfl,rfl⟩:=h;exact cP.pure' hw (fP eG (by simp[Builtin.clear_,QC,run_underlying ht w])) (VR.oH G w)
 · rename_i id eO off len cap hnz cZ;rw[cZ] at vx;split at h
   · rename_i yc;obtain⟨yc,hzl⟩:=yc;subst yc;split at h
     · rename_i cs eI hg;split at h
       · rename_i gG;simp only[Ad,Ah] at h;obtain⟨rfl,rfl⟩:=h;generalize eG:a.eval x=u at vx
         cases vx with
         |sl _ _ _ _ _ jV l hl hlen bDh qJ=>
          obtain⟨a1,a2,a3,a4,a5⟩:=hw.cells id l cs eI hl hg;obtain⟨ca,el,fz,b1,b2,b3⟩:=hw.room id l hl (.inl ⟨cs,eI,hg⟩);have j7:=lX CC G w;have aRn:z.cells.size=zs.length:=(by simpa using j7.1.1);have vN:(List.replicate len zs).flatten.length=len*eO:=by simp[hzl]
          have hvz:iF G w (List.replicate len zs).flatten (Builtin.zeroCells z.cells len).toList:=by
           by_cases bIg:0<eO
           · exact SH j7.1 (by omega) len (len*z.cells.size) (by rw[aRn])
           have h0:eO=0:=(by omega);have QL:zs=[]:=Hy.1 (by omega);refine⟨?_,fun j hj=>?_⟩
           · rw[vN];simp[Builtin.zeroCells,aRn,hzl]
           rw[vN,h0,Nat.mul_zero] at hj;omega
          have xX:=DP j7.2 len;have II:=hvz.1
          obtain⟨w',hr,hu⟩:=fD P l.cY (l.base+off) (Builtin.zeroCells z.cells len).toList 0 w ⟨ca,el,fz,b1,by omega⟩
           (fun j hj=>by rw[Cy,Bm];exact b3 (off+j) (by omega)) (oO hvz xX)
          rw[Cy] at hu;obtain⟨r1,r2⟩:=hw.store hl hg hvz xX (by rw[vN];exact gG) hu;have Xx:len≠0:=fun e=>hnz e;refine⟨_,_,w',G,fP eG ?_,.inl rfl,r1,r2,VR.oH G w'⟩
          cases len with
          |zero=>exact absurd rfl Xx
          |succ n=>simp only[Builtin.clear_,QC,Eb,Gg,Sem.run_bind,run_underlying ht w,Result.andThen_ok,lA hz w,hr,Sem.run_pure]
       cases h
     cases h
   cases h
 cases h
theorem zq {src dst e:TypeId} {x:Operand} {x':Arg} (ho:o.op=.convert src dst x) (hx:bJ g x=some x') (YC:P.underlying src=some (.slice e)) (CS:P.underlying dst=some .string)
 (he:P.underlying e=some (.int .u8)):cP P g o (.DB x'):=by
 intro s a G H w v H' hw hs h;have vx:=bH hw hs hx;simp only[cX] at h;generalize hva:Arg.eval g s x'=va at vx h;split at h
 · cases h
 rename_i aUn;split at h
 · rename_i els sO;simp only[Ag,Ah] at h;obtain⟨bs,Zs,rfl,rfl⟩:=h;obtain⟨eu,e1,bHv,evs,ev,ef⟩:=oM P hw sO vx;have efl:=length_flatten eu;have hev:evs.length=els.length:=by rw[ev.1,efl,Dt]
   have ef0:=ef els.length (Ak _);rw[Dt,Ar (by omega)] at ef0
   have key:∀(els:List (List AV)) (bs:List UInt8),bytesOf els=some bs->∃ns:List Int,els.flatten=ns.map (fun n=>AV.int .u8 n)/\bs=ns.map fun n=>UInt8.ofNat n.toNat:=by
    intro els
    induction els with
    |nil=>intro bs hb;obtain rfl:=Aa hb;exact⟨[],rfl,rfl⟩
    |cons e r ih=>
     intro bs hb
     match e,hb with
     |[.int .u8 n],hb=>simp only[bytesOf,Ag] at hb;obtain⟨bs',IA,rfl⟩:=hb;obtain⟨ns,h1,h2⟩:=ih bs' IA;exact⟨n::ns,by simp[h1],by simp[h2]⟩
   obtain⟨ns,k1,k2⟩:=key els bs Zs
   have hns:evs=ns.map (fun n=>Value.int .u8 n):=by
    apply Fh;intro j;have qj:els.flatten.length=ns.length:=(by rw[k1];simp);by_cases hj:j<ns.length
    · have :=ev.2 j (by omega);rw[k1] at this;have e2:(ns.map fun n=>AV.int .u8 n).getD j aD=.int .u8 (ns[j]):=(by simp[getD_eq,hj]);rw[e2] at this;have :=this.iQ;rw[qI evs undef j (by rw[ev.1];omega),this];simp[hj]
    rw[Bs (by rw[ev.1];omega),Bs (by simp;omega)]
   have bEk:VR G w (.str bs) (.string ⟨bs.toArray⟩):=VR.ZB _ _ _
   have fin:∀u:Value,a.eval x=u->(convert src dst u).run P w=.ok (.string ⟨bs.toArray⟩) w->∃n u w' G',(execOp a.eval o).run P w=.ok n w'/\Qb n u/\WR g G' H w'/\Ext G H w G' H w'/\VR G' w' (.str bs) u:=fun u hu hr=>cP.pure' hw (by simp[execOp,ho,hu,hr]) bEk
   generalize eG:a.eval x=u at vx ef0
   have slc:∀{b o' len cap:Nat},u=.slice (some ⟨b,o',none⟩) len cap->len=els.length->(convert src dst u).run P w=.ok (.string ⟨bs.toArray⟩) w:=by
    intro b o' len cap hu' oU;subst hu' oU
    have hld:(loadCells ⟨b,o',none⟩ els.length).run P w=.ok (ns.map (Value.int .u8)).toArray w:=by rw[hns] at ef0;simpa [Builtin.firstCells] using ef0
    rw[run_convert_bytes_string w src dst e _ els.length cap YC he CS,run_bytesToString w _ els.length cap ns hld,foldl_push_bytes,k2];simp[ByteArray.empty,ByteArray.emptyWithCapacity];rfl
   cases vx with
   |aS=>simp[cQ] at sO;subst sO;simp[bytesOf] at Zs;subst Zs;refine fin _ eG ?_;simp only[convert,Sem.run_bind,run_underlying YC w,run_underlying CS w,Result.andThen_ok,run_underlying he w,Conv.bytesToString];rfl
   |aU tag eO AG b o' cap us IG hh hv rW=>
    simp only[cQ] at sO;split at sO
    · obtain rfl:=Aa sO;exact fin _ eG (slc rfl rfl)
    cases sO
   |vP tag eO b o' s' rW=>
    simp only[cQ] at sO;split at sO
    · obtain rfl:=Aa sO;simp[bytesOf] at Zs;subst Zs;refine fin _ eG ?_;rw[run_convert_bytes_string w src dst e _ 0 0 YC he CS,run_bytesToString w _ 0 0 [] (by simp[loadCells,loadCellsFrom])];rfl
    cases sO
   |sl id eO off len cap jV l hl hlen gG qJ=>
    refine fin _ eG (slc rfl ?_);simp only[cQ] at sO;split at sO
    · split at sO
      · split at sO
        · rename_i CR hle;obtain rfl:=Aa sO;rename_i hs1 cs;have :=(lV 1 len (cs.drop off) (by simp;omega)).2.1;omega
        cases sO
      cases sO
    cases sO
   |str s=>exact absurd rfl (aUn _)
   |_=>simp[cQ] at sO
 cases h
end
end
section
section
variable {P:Program} {g:bB} {o:Oper}
theorem Vr (h:Array Go.Obj) (x:Go.Obj) (f:Go.Obj->Go.Obj):(h.push x).modify h.size f=h.push (f x):=by
 apply Array.ext
 · simp
 intro i h1 h2;simp only[Array.size_push] at h2;rw[Array.getElem_modify];by_cases hi:i=h.size
 · subst hi;simp
 have :i<h.size:=by omega
 rw[if_neg (Ne.symm hi)];simp[Array.getElem_push,this]
theorem RC {src dst e:TypeId} {x:Operand} {x':Arg} (ho:o.op=.convert src dst x) (hx:bJ g x=some x') (YC:P.underlying src=some .string) (CS:P.underlying dst=some (.slice e))
 (he:P.underlying e=some (.int .u8)):CY P g o (.BK x'):=by
 intro s a G H H' w ob val eS hw hs h cZ cT AM eZ;have vx:=bH hw hs hx;simp only[xK] at h;split at h
 · rename_i str aUe;rw[aUe] at vx;have eG:=vx.lK;simp only[Ad,Ah] at h;obtain⟨rfl,rfl⟩:=h;have lE:(⟨str.toArray⟩:ByteArray).size=str.length:=by simp[ByteArray.size]
   obtain⟨cap,Sv,uP⟩:=BH (P:=P) (need:=str.length) (UB:=0) (e:=e) w
   let vs:List Value:=str.map fun b=>.int .u8 b.toNat
   let rest:List Value:=List.replicate (cap -str.length) (.int .u8 0);let w':World:={w with heap:=w.heap.push (.cells (vs++rest).toArray e (cap,cap+1)),drawn:=w.drawn+1}
   have vN:(SC str).flatten=str.map fun b=>AV.int .u8 b.toNat:=by
    unfold SC;clear aUe vx eG lE Sv uP
    induction str with
    |nil=>rfl
    |cons b r ih=>simp[ih]
   have II:vs.length=str.length:=(by simp[vs]);have VM:rest.length=cap -str.length:=by simp[rest]
   have hv:iF G w (SC str).flatten vs:=by rw[vN];refine⟨by simp[vs],fun j hj=>?_⟩;simp at hj;simp only[vs,getD_eq,Cz,Ab hj,Bz,Bi];exact .int _ _
   have hp:iH w w' (.cells (vs++rest).toArray e (cap,cap+1)):=⟨rfl,.now⟩
   obtain⟨G',hl,hm,r3⟩:=hw.Rl eS cZ _ vs rest hv cT AM eZ (fz:=(cap,cap+1)) (fun o' ho'=>by
    simp only[Gx,Au,II,VM] at ho'
    simp;omega) hp
   have IG:∀x∈SC str,x.length=1:=fun x hx=>by simp only[SC,Bf] at hx;obtain⟨b,_,rfl⟩:=hx;rfl
   have hlen:(SC str).length=str.length:=(by simp[SC]);have bDb:(SC str).flatten.length=str.length:=(by rw[vN];simp);refine⟨.slice (some ⟨w.heap.size,0,none⟩) str.length cap,w',G',?_,hm,?_⟩
   · have aTz:(convert src dst (.string ⟨str.toArray⟩)).run P w=(Conv.stringToBytes e ⟨str.toArray⟩).run P w:=by
      simp only[convert,Sem.run_bind,run_underlying YC w,run_underlying CS w,Result.andThen_ok,run_underlying he w]
     have tV:(((⟨str.toArray⟩:ByteArray).data.map fun b=>(Value.int .u8 b.toNat))++Array.replicate (cap -str.length) (.int .u8 0))=(vs++rest).toArray:=by apply Fm;simp[vs,rest]
     have hsb:(Conv.stringToBytes e ⟨str.toArray⟩).run P w=.ok (.slice (some ⟨w.heap.size,0,none⟩) str.length cap) w':=by simp only[Conv.stringToBytes,lE,Sem.run_bind,uP,Result.andThen_ok,tV];simp only[newRow,newObj,markStringish,shape,freeze,Sem.run_bind,Sem.run,Result.andThen_ok,World.shape?,Array.getElem?_push_size,World.freeze,Nat.one_ne_zero,Cm,Sem.run_pure];rw[Vr];simp only[Gx,Au,II,VM];have :str.length+(cap -str.length)=cap:=(by omega);simp[this,w']
     simp[execOp,ho,eG,aTz,hsb]
   have :=VR.aU (G:=G') (w:=w') (eS+2) 1 (SC str) w.heap.size 0 cap (fun j=>vs.getD j undef) IG (fun j hj=>⟨(r3 j hj).1,(r3 j hj).2.1,by
    rw[vN] at hj ⊢;simp at hj;simp only[getD_eq,Cz,Ab hj,Bz,Bi]
    rfl⟩) (fun j hj=>(r3 j hj).2.2) ⟨by omega,⟨_,hl,rfl,by simp only[bDb,hlen];omega,rfl,by simp only[VM,hlen,Dt]⟩⟩
   rw[hlen] at this;exact this
 cases h
theorem aAa {src dst e:TypeId} {x:Operand} {x':Arg} (ho:o.op=.convert src dst x) (hx:bJ g x=some x') (YC:P.underlying src=some .string) (CS:P.underlying dst=some (.slice e))
 (he:P.underlying e=some (.int .u8)):cP P g o (.BK x'):=
 (RC ho hx YC CS he).op fun _ _=>rfl
theorem WR.CG {G:Gh} {H H':aA} {w w':World} (h:WR g G H w) (eS:Nat) (o:fE) (x:Go.Obj) (ho:o.cY=true) (cZ:G.loc eS=none) (cT:∀m,H'.get m=if m=eS then some o else H.get m) (AM:H.next<=H'.next) (FA:eS<H'.next)
 (p:iH w w' x) (Sy:(∀a u,VR G w a u->VR G w' a u)->KJ g G w' ⟨w.heap.size,0,0,1⟩ o):Made g G H w eS o (G.dZ eS ⟨w.heap.size,0,0,1⟩) H' w':=by
 have hp:=h.FK p;have he:=Ext.FK h p
 refine⟨hp.GR eS _ _ cZ cT AM FA (fun id l' hl hv=>.inl (Ne.symm (Nat.ne_of_lt (h.mP hl hv)))) (fun j _ hi=>?_) (fun MJ aAc xU=>by rw[xU] at ho;cases ho) (fun hh=>?_) (fun _=>?_),
  ⟨⟨w.heap.size,0,0,1⟩,rfl,by simp only[Gh.dZ,if_true],fun id cK=>by simp only[Gh.dZ];rw[if_neg cK]⟩,fun {G0 H0 w0} e0 Lm=>(e0.trans he).GR eS _ _ cZ cT AM Lm (.inl e0.size),fun b o hi=>.inl hi,fun b o hi=>hi,p.size,p.UB⟩
 · obtain⟨v,hv⟩:=h.iR _ _ hi;have :=wF hv;simp at this
 · rcases hh with ⟨_,_,hh⟩|hh<;>rw[hh] at ho<;>cases ho
 exact⟨rfl,rfl,Sy fun a u hv=>hv.mono he.loc he.gV⟩
theorem WR.ma {G:Gh} {H H':aA} {w w':World} (h:WR g G H w) (eS:Nat) (cZ:G.loc eS=none) (cT:∀m,H'.get m=if m=eS then some (.map []) else H.get m) (AM:H.next<=H'.next) (FA:eS<H'.next)
 (p:iH w w' (.map #[] 0)):Made g G H w eS (.map []) (G.dZ eS ⟨w.heap.size,0,0,1⟩) H' w':=
 h.CG eS _ _ rfl cZ cT AM FA p fun _=>⟨#[],0,p.new,rfl,⟨fun i hi=>absurd hi (As i),fun i j hi=>absurd hi (As i)⟩,fun j hj=>absurd hj (As j)⟩
theorem Kj {t:TypeId} {r:Option Operand} {kt vt:TypeId} (ho:o.op=.makeMap t r) (ht:P.underlying t=some (.map kt vt)) (hr:r=none\/∃k n,r=some (.const (.int k n))):CY P g o .yU:=by
 intro s a G H H' w ob val eS hw hs h cZ cT AM eZ;simp only[xK,Ad,Ah] at h;obtain⟨rfl,rfl⟩:=h;have hp:iH w {w with heap:=w.heap.push (.map #[] 0)} (.map #[] 0):=⟨rfl,.now⟩;have hm:=hw.ma eS cZ cT AM eZ hp;refine⟨.map (some w.heap.size),_,_,?_,hm,?_⟩
 · rcases hr with rfl|⟨k,n,rfl⟩
   · simp[execOp,ho,Instr.makeMap,newObj,Sem.run]
   simp[execOp,ho,Instr.makeMap,run_underlying ht w,Act.eval,asInt,asIntOf,newObj,Sem.run]
 exact VR.map eS ⟨w.heap.size,0,0,1⟩ (by simp only[Gh.dZ,if_true])
theorem Vl {t:TypeId} {r:Option Operand} {kt vt:TypeId} (ho:o.op=.makeMap t r) (ht:P.underlying t=some (.map kt vt)) (hr:r=none\/∃k n,r=some (.const (.int k n))):cP P g o .yU:=
 (Kj ho ht hr).op fun _ _=>rfl
def IM (P:Program) (t:TypeId):Option Sk:=
 match P.underlying t with
 |some .bool=>some .b
 |some (.int _)=>some .i
 |some .string=>some .s
 |some (.struct _)|some (.array _ _)=>(oE P 60 t).map .f
 |_=>none
def Mu:Sk->Bool
 |.f _=>false
 |_=>true
theorem MB {G:Gh} {w:World} {kt:TypeId} {k:Sk} {d:TypeDesc} (hk:IM P kt=some k) (hp:Mu k=true) (hd:P.underlying kt=some d) {x y:AV} {u v:Value} {b:Bool} (h:sameKey k x y=some b) (hx:VR G w x u) (hy:VR G w y v):
 Instr.sameNow d u v=some b:=by
 unfold IM at hk;rw[hd] at hk
 cases x<;>cases y<;>simp only[sameKey] at h<;>first
  |(cases h;done)
  |skip
 · cases k<;>simp only[] at h<;>first|(cases h;done)|skip
   obtain rfl:=Aa h;rw[hx.jU,hy.jU];cases d<;>simp at hk<;>rfl
 · cases k<;>simp only[] at h<;>first|(cases h;done)|skip
   split at h
   · rename_i qh;obtain rfl:=Aa h;subst qh;rw[hx.iQ,hy.iQ];cases d<;>simp at hk<;>simp[Instr.sameNow]
   cases h
 · cases k<;>simp only[] at h<;>first|(cases h;done)|skip
   obtain rfl:=Aa h;rw[hx.lK,hy.lK];cases d<;>simp at hk;simp only[Instr.sameNow,Ad];rw[beq_toListBytes,ByteArray.toList_mk,ByteArray.toList_mk]
 cases k<;>simp only[] at h<;>first|(cases h;done)|(cases hp;done)
theorem yH {α:Type} (P:Program) (w:World) (f:α->PUnit->Sem (ForInStep PUnit)):∀(l:List α),(∀x∈l,∀r,(f x r).run P w=.ok (.yield PUnit.unit) w)->(forIn l PUnit.unit f:Sem PUnit).run P w=.ok PUnit.unit w
 |[],_=>by simp
 |x::l,h=>by simp only[List.forIn_cons,Sem.run_bind,h x (by simp),Result.andThen_ok];exact yH P w f l fun y hy=>h y (by simp[hy])
theorem FP {P:Program} (w:World) (em:Bool):∀(f:Nat) (t:TypeId) (ks:List Sk),oE P f t=some ks->∀(d:Nat) (b:Bool) (us:List Value),fT P t=some b->us.length=ks.length->
 (Instr.checkKey em (d+f) t (valOf b us)).run P w=.ok () w:=by
 intro f
 induction f with
 |zero=>intro t ks h;cases h
 |succ f ih=>
  intro t ks h d b us hb hl;rw[show d+(f+1)=(d+f)+1 from rfl,Instr.checkKey];simp only[oE] at h;split at h
  · rename_i hu;simp only[Sem.run_bind,run_underlying hu w,Result.andThen_ok];rfl
  · rename_i hu;simp only[Sem.run_bind,run_underlying hu w,Result.andThen_ok];rfl
  · rename_i hu;simp only[Sem.run_bind,run_underlying hu w,Result.andThen_ok];rfl
  · rename_i fs hu;split at h
    · cases h
    have qd:b=true:=(by simp only[fT,hu,Ad] at hb;exact hb.symm);subst qd;simp only[valOf,if_true,Sem.run_bind,run_underlying hu w,Result.andThen_ok]
    have key:∀(l:List Field) (off:Nat) (ko:List Sk),CK P (oE P f) off l=some ko->off+ko.length<=us.length->
     ∀x∈l,(if x.name≠ "_" then(do Instr.checkKey em (d+f) x.type (←part x.type us.toArray x.offset)) else pure ():Sem Unit).run P w=.ok () w:=by
     intro l
     induction l with
     |nil=>intro off ko _ _ x hx;cases hx
     |cons fd l ihl=>
      intro off ko hs hi x hx;simp only[CK] at hs;split at hs
      · rename_i hc;split at hs
        · rename_i k hk;split at hs
          · rename_i lE;simp only[Ag] at hs;obtain⟨ks2,hs2,rfl⟩:=hs;simp only[Au] at hi
            rcases Ap.1 hx with rfl|hx
            · obtain⟨bf,Ss,Su⟩:=yI hk;have p1:=mN lE Ss w (us:=us) (off:=x.offset) (by omega) Su;simp only[ne_eq,if_pos hc.1,Sem.run_bind,p1,Result.andThen_ok];exact ih x.type k hk d bf _ Ss (by simp;omega)
            exact ihl (off+k.length) ks2 hs2 (by omega) x hx
          cases hs
        cases hs
      cases hs
    have h1:=key fs.toList 0 ks h (by omega)
    rw[<-Array.forIn_toList,yH P w _ fs.toList (fun x hx r=>by
     have :=h1 x hx;split at this
     · rename_i hn;rw[if_pos hn];simp only[Sem.run_bind] at this ⊢;generalize (part x.type us.toArray x.offset).run P w=rr at this ⊢
       cases rr with
       |ok p w1=>simp only[Result.andThen_ok] at this ⊢;rw[this];simp
       |halt q w1=>cases this
     rename_i hn;rw[if_neg hn]
     simp)]
    simp
  · rename_i n e hu;have qd:b=true:=by simp only[fT,hu,Ad] at hb;exact hb.symm
    subst qd;split at h
    · rename_i k hk;split at h
      · rename_i lE;obtain rfl:=Aa h;obtain⟨bf,Ss,Su⟩:=yI hk;simp only[valOf,if_true,Sem.run_bind,run_underlying hu w,Result.andThen_ok];have hlk:((List.replicate n k).flatten).length=n*k.length:=(by simp);rw[hlk] at hl;simp only[Std.Legacy.Range.forIn_eq_forIn_range',Std.Legacy.Range.size,Ic,Nat.add_one_sub_one,Nat.div_one]
        rw[yH P w _ (List.range' 0 n) (fun i hi r=>by
         have gR:i<n:=by have :=List.mem_range'_1.1 hi;omega
         have gG:i*k.length+k.length<=us.length:=by rw[hl,<-Em];exact Dd _ gR
         have p1:=mN lE Ss w (us:=us) (off:=i*k.length) gG Su
         simp only[Sem.run_bind,eJ lE w,Result.andThen_ok,p1,ih e k hk d bf _ Ss (show((us.drop (i*k.length)).take k.length).length=k.length by simp;omega),Sem.run_pure])]
        simp
      cases h
    cases h
  cases h
theorem YF {kt:TypeId} {sh:List Sk} (hk:IM P kt=some (.f sh)):oE P 60 kt=some sh/\fT P kt=some true/\∃d,P.underlying kt=some d/\(∀u v,Instr.sameNow d u v=none):=by
 unfold IM at hk
 split at hk<;>rename_i hu<;>first
  |(cases hk;done)
  |(simp only[Ag,Sk.f.injEq] at hk
    obtain⟨_,h1,rfl⟩:=hk;refine⟨h1,by simp[fT,hu],_,hu,fun u v=>?_⟩
    cases u<;>cases v<;>rfl)
theorem run_checkKey {G:Gh} {kt:TypeId} {k:Sk} (hk:IM P kt=some k) (b:Bool) (d:Nat) {x:AV} {u:Value} {w:World} (hx:VR G w x u) (pG:DM k x=true):
 (Instr.checkKey b (d+60) kt u).run P w=.ok () w:=by
 by_cases hp:Mu k=true
 · have rF:=hk;unfold IM at hk;rw[show d+60=(d+59)+1 from rfl,Instr.checkKey]
   split at hk<;>rename_i hu<;>first
    |(cases hk;done)
    |(simp only[Ag] at hk;obtain⟨_,_,rfl⟩:=hk;cases hp;done)
    |(simp only[Sem.run_bind,run_underlying hu w,Result.andThen_ok]
      rfl)
 cases k with
 |f sh=>
  obtain⟨h1,h2,_⟩:=YF hk
  cases x<;>simp only[DM] at pG<;>first|(cases pG;done)|skip
  rename_i xs;obtain⟨us,e1,l1,_,_⟩:=hx.uT;subst e1;have :=FP w b 60 kt sh h1 d true us h2 (by rw[l1];exact Cc pG);simpa [valOf] using this
 |_=>exact absurd rfl hp
theorem Lg {G:Gh} {w:World} {kt:TypeId} {k:Sk} {d:TypeDesc} (hk:IM P kt=some k) (hp:Mu k=true) (hd:P.underlying kt=some d) {x:AV} {u:Value} (hx:VR G w x u):
 ∀(es:List (AV×AV)) (ents:List MapEntry) (i:Nat) (r:Option (Nat×AV)),gN k x es i=some r->ents.length=es.length->
  (∀j,j<es.length->VR G w (es.getD j (aD,aD)).1 (ents.getD j default).key/\VR G w (es.getD j (aD,aD)).2 (ents.getD j default).val)->
  ∃r',Instr.findNow d u ents i=some r'/\((r=none/\r'=none)\/∃j av vv,r=some (j,av)/\r'=some (j,vv)/\VR G w av vv/\i<=j/\j<i+es.length/\sameKey k x (es.getD (j -i) (aD,aD)).1=some true)
 |[],[],i,r,h,hl,hv=>by obtain rfl:=Aa h;exact⟨none,rfl,.inl ⟨rfl,rfl⟩⟩
 |[],_::_,i,r,h,hl,hv=>by simp at hl
 |(y,z)::es,[],i,r,h,hl,hv=>by simp at hl
 |(y,z)::es,e::ents,i,r,h,hl,hv=>by
  have h0:=hv 0 (by simp);simp only[Dn] at h0;simp only[gN] at h;split at h
  · rename_i hs;obtain rfl:=Aa h;have hn:=MB hk hp hd hs hx h0.1;refine⟨some (i,e.val),by simp[Instr.findNow,hn],.inr ⟨i,z,e.val,rfl,rfl,h0.2,Ak _,by simp,by simpa using hs⟩⟩
  · rename_i hs;have hn:=MB hk hp hd hs hx h0.1
    obtain⟨r',h1,h2⟩:=Lg hk hp hd hx es ents (i+1) r h (by simpa using hl) (fun j hj=>by
     have :=hv (j+1) (by simpa using hj)
     simpa using this)
    refine⟨r',by simp only[Instr.findNow,hn];exact h1,?_⟩
    rcases h2 with h2|⟨j,av,vv,a1,a2,a3,a4,a5,a6⟩
    · exact .inl h2
    refine .inr ⟨j,av,vv,a1,a2,a3,by omega,by simp;omega,?_⟩;rw[show j -i=(j -(i+1))+1 by omega,Ge];exact a6
  cases h
theorem Lf {G:Gh} {w:World} {kt:TypeId} {sh:List Sk} (hk:IM P kt=some (.f sh)) {x:AV} {u:Value} (hx:VR G w x u):
 ∀(es:List (AV×AV)) (ents:List MapEntry) (i:Nat) (r:Option (Nat×AV)),gN (.f sh) x es i=some r->ents.length=es.length->
  (∀j,j<es.length->VR G w (es.getD j (aD,aD)).1 (ents.getD j default).key/\VR G w (es.getD j (aD,aD)).2 (ents.getD j default).val)->
  ∃r',(Instr.findAsking kt u ents i).run P w=.ok r' w/\((r=none/\r'=none)\/∃j av vv,r=some (j,av)/\r'=some (j,vv)/\VR G w av vv/\i<=j/\j<i+es.length/\sameKey (.f sh) x (es.getD (j -i) (aD,aD)).1=some true)
 |[],[],i,r,h,hl,hv=>by obtain rfl:=Aa h;exact⟨none,by simp[Instr.findAsking],.inl ⟨rfl,rfl⟩⟩
 |[],_::_,i,r,h,hl,hv=>by simp at hl
 |(y,z)::es,[],i,r,h,hl,hv=>by simp at hl
 |(y,z)::es,e::ents,i,r,h,hl,hv=>by
  obtain⟨h1,h2,_⟩:=YF hk;have h0:=hv 0 (by simp);simp only[Dn] at h0;simp only[gN] at h
  have heq:∀b,sameKey (.f sh) x y=some b->(Op.equal kt u e.key).run P w=.ok b w:=by
   intro b hs
   cases x<;>cases y<;>simp only[sameKey] at hs<;>first|(cases hs;done)|skip
   rename_i xs ys;obtain⟨us,e1,l1,_,v1⟩:=hx.uT;obtain⟨vs,e2,l2,_,v2⟩:=h0.1.uT;rw[e1,e2];have :=Um 60 kt sh h1 true h2 (10000 -60) G w xs ys us vs b hs ⟨l1,v1⟩ ⟨l2,v2⟩;have h3:(Op.equalIn 10000 kt (.agg us.toArray) (.agg vs.toArray)).run P w=.ok b w:=(by simpa [valOf] using this);exact h3
  split at h
  · rename_i hs;obtain rfl:=Aa h;refine⟨some (i,e.val),by simp[Instr.findAsking,heq _ hs],.inr ⟨i,z,e.val,rfl,rfl,h0.2,Ak _,by simp,by simpa using hs⟩⟩
  · rename_i hs
    obtain⟨r',h1,h2⟩:=Lf hk hx es ents (i+1) r h (by simpa using hl) (fun j hj=>by
     have :=hv (j+1) (by simpa using hj)
     simpa using this)
    refine⟨r',by simp[Instr.findAsking,heq _ hs];exact h1,?_⟩
    rcases h2 with h2|⟨j,av,vv,a1,a2,a3,a4,a5,a6⟩
    · exact .inl h2
    refine .inr ⟨j,av,vv,a1,a2,a3,by omega,by simp;omega,?_⟩;rw[show j -i=(j -(i+1))+1 by omega,Ge];exact a6
  cases h
theorem run_findKey {G:Gh} {w:World} {kt:TypeId} {k:Sk} (hk:IM P kt=some k) {x:AV} {u:Value} (hx:VR G w x u) {es:List (AV×AV)} {ents:Array MapEntry} {r:Option (Nat×AV)} (h:gN k x es 0=some r) (hl:ents.size=es.length)
 (hv:∀j,j<es.length->VR G w (es.getD j (aD,aD)).1 (ents.getD j default).key/\VR G w (es.getD j (aD,aD)).2 (ents.getD j default).val):
 ∃r',(Instr.findKey kt u ents.toList).run P w=.ok r' w/\((r=none/\r'=none)\/∃j av vv,r=some (j,av)/\r'=some (j,vv)/\VR G w av vv/\j<es.length/\sameKey k x (es.getD j (aD,aD)).1=some true):=by
 have mS:∀j,j<es.length->VR G w (es.getD j (aD,aD)).1 (ents.toList.getD j default).key/\VR G w (es.getD j (aD,aD)).2 (ents.toList.getD j default).val:=fun j hj=>by
  have :=hv j hj
  have e:ents.toList.getD j default=ents.getD j default:=by simp[List.getD,Bo]
  rw[e];exact this
 have fin:∀{r':Option (Nat×Value)},((r=none/\r'=none)\/∃j av vv,r=some (j,av)/\r'=some (j,vv)/\VR G w av vv/\0<=j/\j<0+es.length/\sameKey k x (es.getD (j -0) (aD,aD)).1=some true)->
  ((r=none/\r'=none)\/∃j av vv,r=some (j,av)/\r'=some (j,vv)/\VR G w av vv/\j<es.length/\sameKey k x (es.getD j (aD,aD)).1=some true):=by
  intro r' h2
  rcases h2 with h2|⟨j,av,vv,a1,a2,a3,a4,a5,a6⟩
  · exact .inl h2
  exact .inr ⟨j,av,vv,a1,a2,a3,by omega,by simpa using a6⟩
 by_cases hp:Mu k=true
 · obtain⟨d,hd⟩:∃d,P.underlying kt=some d:=by
    unfold IM at hk
    split at hk<;>rename_i hu<;>first|(cases hk;done)|exact⟨_,hu⟩
   obtain⟨r',h1,h2⟩:=Lg hk hp hd hx es ents.toList 0 r h (by simpa using hl) mS;refine⟨r',?_,fin h2⟩;simp only[Instr.findKey,Sem.run_bind,run_underlying hd w,Result.andThen_ok,h1];rfl
 cases k with
 |f sh=>
  obtain⟨_,_,d,hd,hn⟩:=YF hk;obtain⟨r',h1,h2⟩:=Lf hk hx es ents.toList 0 r h (by simpa using hl) mS;refine⟨r',?_,fin h2⟩;simp only[Instr.findKey,Sem.run_bind,run_underlying hd w,Result.andThen_ok]
  cases Sw:ents.toList with
  |nil=>rw[Sw] at h1;simp only[Instr.findAsking,Sem.run_pure,Result.ok.injEq,and_true] at h1;subst h1;simp[Instr.findNow]
  |cons e l=>rw[Sw] at h1;simp only[Instr.findNow,hn];exact h1
 |_=>exact absurd rfl hp
theorem run_getObj_map {w:World} {r:Nat} {ents:Array MapEntry} {clock:Nat} (h:w.heap[r]?=some (.map ents clock)):(getObj r).run P w=.ok (.map ents clock) w:=by simp[getObj,Sem.run,h]
theorem lh {t kt vt:TypeId} {k:Sk} {zv:Value} {z:AV} {ok:Bool} {x i:Operand} {x' i':Arg} (ho:o.op=.lookup t x i ok) (hx:bJ g x=some x') (hi:bJ g i=some i') (ht:P.underlying t=some (.map kt vt))
 (hk:IM P kt=some k) (hz:lL P vt=some zv) (hzc:ofConst zv=some z):cP P g o (.lookup k z ok x' i'):=by
 intro s a G H w v H' hw hs h;have vx:=bH hw hs hx;have vi:=bH hw hs hi;have hzero:=lA hz w;have hzr:=FH hzc G w
 have two:∀{p q:AV} {u1 u2:Value},VR G w p u1->VR G w q u2->VR G w (.jR [p,q]) (.tuple #[u1,u2]):=fun h1 h2=>.jR [_,_] [_,_] rfl (h1.cons (h2.cons (iF.nil G w))).2
 simp only[cX] at h;split at h
 · rename_i qi;have aQl:∀b,(Instr.checkKey b 10000 kt (a.eval i)).run P w=.ok () w:=fun b=>run_checkKey hk b 9940 vi qi;split at h
   · rename_i cZ;rw[cZ] at vx;generalize eG:a.eval x=u at vx;cases vx;simp only[Ad,Ah] at h;obtain⟨rfl,rfl⟩:=h
     have qg:(Instr.findKey kt (a.eval i) []).run P w=.ok none w:=by
      obtain⟨r',h1,h2⟩:=run_findKey (P:=P) hk vi (es:=[]) (ents:= #[]) (r:=none) rfl rfl (fun j hj=>absurd hj (As j))
      rcases h2 with ⟨_,rfl⟩|⟨j,av,vv,hh,_⟩
      · exact h1
      cases hh
     refine cP.pure' hw (u:=if ok then .tuple #[zv,.bool false] else zv) ?_ (by cases ok<;>simp <;>first|exact hzr|exact two hzr (.bool false));simp only[execOp,ho,eG,Instr.lookup,Sem.run_bind,run_underlying ht w,Result.andThen_ok,Sem.run_pure,aQl,qg,hzero]
   · rename_i id cZ;rw[cZ] at vx;generalize eG:a.eval x=u at vx
     cases vx with
     |map _ l hl=>
      split at h
      · rename_i es hg;obtain⟨_,_,ents,clock,m1,m2,mb,m3⟩:=hw.iM id l _ hl hg rfl;have hgo:=run_getObj_map (P:=P) m1;split at h
        · rename_i j av hf;simp only[Ad,Ah] at h;obtain⟨rfl,rfl⟩:=h;obtain⟨r',h1,h2⟩:=run_findKey (P:=P) hk vi hf m2 m3
          rcases h2 with ⟨hh,_⟩|⟨j',av',vv,e1,e2,e3,_⟩
          · cases hh
          cases e1;subst e2;refine cP.pure' hw (u:=if ok then .tuple #[vv,.bool true] else vv) ?_ (by cases ok<;>simp <;>first|exact e3|exact two e3 (.bool true));simp only[execOp,ho,eG,Instr.lookup,Sem.run_bind,run_underlying ht w,Result.andThen_ok,hgo,Sem.run_pure,aQl,h1]
        · rename_i hf;simp only[Ad,Ah] at h;obtain⟨rfl,rfl⟩:=h;obtain⟨r',h1,h2⟩:=run_findKey (P:=P) hk vi hf m2 m3
          rcases h2 with ⟨_,e2⟩|⟨j',av',vv,e1,_⟩
          · subst e2;refine cP.pure' hw (u:=if ok then .tuple #[zv,.bool false] else zv) ?_ (by cases ok<;>simp <;>first|exact hzr|exact two hzr (.bool false));simp only[execOp,ho,eG,Instr.lookup,Sem.run_bind,run_underlying ht w,Result.andThen_ok,hgo,Sem.run_pure,aQl,h1,hzero]
          cases e1
        cases h
      cases h
   cases h
 cases h
theorem WR.FU {G:Gh} {H:aA} {w w':World} (h:WR g G H w) {id:Nat} {l:Loc} {o o':fE} {x:Go.Obj} (hl:G.loc id=some l) (hg:H.get id=some o) (ho:o.cY=true) (ho':o'.cY=true)
 (lM:w'.heap=w.heap.setIfInBounds l.cY x) (DL:zN w w') (Sy:(∀a u,VR G w a u->VR G w' a u)->w'.heap[l.cY]?=some x->KJ g G w' l o'):
 WR g G (H.set id o') w'/\Ext G H w G (H.set id o') w':=by
 have lG:H.live id:=⟨_,hg,OS ho⟩;obtain⟨m1,m2,m3⟩:=h.iM id l _ hl hg ho;have eZ:=m3.lt ho
 have FB:∀b,b≠l.cY->w'.heap[b]?=w.heap[b]?:=fun b hb=>by rw[lM,Array.getElem?_setIfInBounds_ne];exact Ne.symm hb
 have wQ:w'.heap[l.cY]?=some x:=by rw[lM];simp[eZ]
 have pF:∀b o,G.gV b o->b≠l.cY:=fun b o hi hb=>by obtain⟨v,hv⟩:=h.iR b o hi;obtain⟨c,el,fz,hc,_⟩:=zZ hv;rw[hb] at hc;exact m3.AY ho hc
 have hic:∀b o,G.gV b o->w'.cell? ⟨b,o,none⟩=w.cell? ⟨b,o,none⟩:=fun b o hi=>gI (FB b (pF b o hi));have yT:∀{a u},VR G w a u->VR G w' a u:=fun hv=>hv.mono (fun _ _ h=>h) (fun b o hi=>⟨hi,hic b o hi⟩)
 have cK:∀{i l'},i≠id->G.loc i=some l'->H.live i->l'.cY≠l.cY:=fun {i l'} hi zC sQ hb=>by
  obtain⟨ob,Sy,hov⟩:=sQ
  cases ob with
  |cells cs eI=>obtain⟨c,el,fz,hc,_⟩:=h.room i l' zC (.inl ⟨cs,eI,Sy⟩);rw[hb] at hc;exact m3.AY ho hc
  |tok=>obtain⟨c,el,fz,hc,_⟩:=h.room i l' zC (.inr Sy);rw[hb] at hc;exact m3.AY ho hc
  |dead=>cases hov
  |_=>
   obtain⟨n1,n2,_⟩:=h.iM i l' _ zC Sy rfl
   rcases h.kT i id l' l hi zC hl ⟨_,Sy,rfl⟩ lG with hd|hd|hd
   · exact hd hb
   · omega
   omega
 have cT:∀{m},m≠id->(H.set id o').get m=H.get m:=fun hm=>by rw[aA.aC,if_neg hm]
 have aQw:(H.set id o').get id=some o':=by rw[aA.aC,if_pos rfl]
 have pT:∀{m},(H.set id o').live m->H.live m:=fun {m} hv=>by
  rcases aA.kV.1 hv with ⟨rfl,_⟩|⟨_,hv⟩
  · exact lG
  exact hv
 refine⟨{
  cells:=fun i l' cs eI h1 h2=>by
   have hi:i≠id:=fun e=>by rw[e,aQw] at h2;cases h2;cases ho'
   rw[cT hi] at h2;obtain⟨a1,a2,a3,a4,a5⟩:=h.cells i l' cs eI h1 h2;refine⟨a1,a2,a3,a4,fun j hj=>?_⟩;obtain⟨u,hu,MS⟩:=a5 j hj;exact⟨u,by rw[gI (FB _ (cK hi h1 ⟨_,h2,rfl⟩))];exact hu,yT MS⟩
  room:=fun i l' h1 h2=>by
   have hi:i≠id:=fun e=>by rw[e,aQw] at h2;rcases h2 with ⟨_,_,h2⟩|h2<;>cases h2<;>cases ho'
   rw[cT hi] at h2;obtain⟨c,el,fz,a1,a2,a3⟩:=h.room i l' h1 h2;have hb:=cK hi h1 (by rcases h2 with ⟨cs,eI,h2⟩|h2<;>exact⟨_,h2,rfl⟩);exact⟨c,el,fz,by rw[FB _ hb];exact a1,a2,fun j hj=>by rw[kY (FB _ hb)];exact a3 j hj⟩
  kT:=fun i i' l1 l2 hn h1 h2 sQ pU=>h.kT i i' l1 l2 hn h1 h2 (pT sQ) (pT pU)
  jY:=fun i l' h1 sQ=>h.jY i l' h1 (pT sQ)
  iM:=fun i l' ob h1 h2 hk=>by
   by_cases hi:i=id
   · subst hi;obtain rfl:=Aa (h1.symm.trans hl);rw[aQw] at h2;cases h2;exact⟨m1,m2,Sy (fun _ _=>yT) wQ⟩
   rw[cT hi] at h2;obtain⟨a1,a2,a3⟩:=h.iM i l' ob h1 h2 hk;exact⟨a1,a2,a3.mono (FB _ (cK hi h1 ⟨_,h2,OS hk⟩)) fun _ _=>yT⟩
  lt:=h.lt
  iR:=fun b o hi=>by rw[hic b o hi];exact h.iR b o hi
  jA:=fun n cs hn=>yT (h.jA n cs hn)
  CA:=fun n cs hn h0=>let⟨c,el,fz,a1,a2⟩:=h.CA n cs hn h0;⟨c,el,fz,by rw[FB n (fun e=>m3.AY ho (e▸a1))];exact a1,a2⟩
  mo:=h.mo},?_⟩
 have e0:=Ext.refl G H w
 exact {
  loc:=fun _ _ h=>h
  gV:=fun b o hi=>⟨hi,hic b o hi⟩
  size:=by rw[lM];simp
  frame:=fun b hb hn=>FB b (fun e=>hn id l hl lG e.symm)
  lR:=fun i l' h1 sQ=>.inr ⟨i,l',h1,pT sQ,rfl⟩
  pH:=fun _ _ h=>.inl h
  next:=Ak _
  news:=fun _ _ h h'=>by rw[h] at h';cases h'
  dead:=fun _ _ _ hv=>pT hv
  mo:=rfl
  same:=DL.toB _}
theorem WR.aBm {G:Gh} {H:aA} {w w':World} (h:WR g G H w) {id:Nat} {l:Loc} {es es':List (AV×AV)} {ents ents':Array MapEntry} {clock clock':Nat} (hl:G.loc id=some l) (hg:H.get id=some (.map es))
 (hm:w.heap[l.cY]?=some (.map ents clock)) (lM:w'.heap=w.heap.setIfInBounds l.cY (.map ents' clock')) (DL:zN w w') (oU:ents'.size=es'.length) (hbn:UG ents' clock')
 (hv:∀j,j<es'.length->VR G w (es'.getD j (aD,aD)).1 (ents'.getD j default).key/\VR G w (es'.getD j (aD,aD)).2 (ents'.getD j default).val):
 WR g G (H.set id (.map es')) w'/\Ext G H w G (H.set id (.map es')) w':=
 h.FU hl hg rfl rfl lM DL fun yT wQ=>⟨ents',clock',wQ,oU,hbn,fun j hj=>⟨yT _ _ (hv j hj).1,yT _ _ (hv j hj).2⟩⟩
theorem wK (ents:Array MapEntry) (i:Nat) (f:MapEntry->MapEntry) (j:Nat) (hj:j<ents.size):(ents.modify i f).getD j default=if i=j then f (ents.getD j default) else ents.getD j default:=by
 simp only[Bo,Gv];split
 · simp[hj]
 rfl
theorem UG.modify {ents:Array MapEntry} {clock:Nat} (h:UG ents clock) (i:Nat) (f:MapEntry->MapEntry) (hf:∀e,(f e).born=e.born):UG (ents.modify i f) clock:=by
 have hb:∀j,j<ents.size->((ents.modify i f).getD j default).born=(ents.getD j default).born:=fun j hj=>by
  rw[wK _ _ _ _ hj];split
  · rw[hf]
  rfl
 refine⟨fun j hj=>?_,fun j k hj hk he=>?_⟩
 · rw[Array.size_modify] at hj;rw[hb j hj];exact h.1 j hj
 rw[Array.size_modify] at hj hk;rw[hb j hj,hb k hk] at he;exact h.2 j k hj hk he
theorem UG.push {ents:Array MapEntry} {clock:Nat} (h:UG ents clock) (e:MapEntry) (he:e.born=clock):UG (ents.push e) (clock+1):=by
 have hb:∀j,j<(ents.push e).size->((ents.push e).getD j default).born=if j<ents.size then(ents.getD j default).born else clock:=fun j hj=>by
  rw[Array.size_push] at hj;simp only[Bo,Kh];by_cases h1:j<ents.size
  · rw[if_neg (by omega),if_pos h1]
  rw[if_pos (by omega),if_neg h1];exact he
 refine⟨fun j hj=>?_,fun j k hj hk xl=>?_⟩
 · rw[hb j hj];by_cases h1:j<ents.size
   · rw[if_pos h1];have :=h.1 j h1;omega
   rw[if_neg h1];omega
 rw[hb j hj,hb k hk] at xl;rw[Array.size_push] at hj hk;by_cases h1:j<ents.size<;>by_cases h2:k<ents.size
 · rw[if_pos h1,if_pos h2] at xl;exact h.2 j k h1 h2 xl
 · rw[if_pos h1,if_neg h2] at xl;have :=h.1 j h1;omega
 · rw[if_neg h1,if_pos h2] at xl;have :=h.1 k h2;omega
 omega
theorem Lc {G:Gh} {w:World} (d:Nat):∀(sh:List Sk) (xs ys:List AV) (us vs:List Value),cJ sh xs ys=some true->iF G w xs us->iF G w ys vs->
 us.length=vs.length/\(vs.zip us).all (fun p=>Instr.sameBits d p.1 p.2)=true
 |[],xs,ys,us,vs,h,hx,hy=>by
  cases xs<;>cases ys<;>simp only[cJ] at h<;>first|(cases h;done)|skip
  have h1:=hx.1;have h2:=hy.1;simp only[Bj,Hy] at h1 h2;subst h1 h2;simp
 |k::sh,xs,ys,us,vs,h,hx,hy=>by
  cases xs with
  |nil=>cases k<;>simp[cJ] at h
  |cons x xs=>
   cases ys with
   |nil=>cases k<;>cases x<;>simp[cJ] at h
   |cons y ys=>
    have h1:=hx.1;have h2:=hy.1
    cases us with
    |nil=>simp at h1
    |cons u us=>
     cases vs with
     |nil=>simp at h2
     |cons v vs=>
      have hxu:=hx.2 0 (by simp);have hyv:=hy.2 0 (by simp);simp only[Dn] at hxu hyv;have tx:iF G w xs us:=⟨by simpa using h1,fun j hj=>by have :=hx.2 (j+1) (by simpa using hj);simpa using this⟩;have ty:iF G w ys vs:=⟨by simpa using h2,fun j hj=>by have :=hy.2 (j+1) (by simpa using hj);simpa using this⟩
      have fin:∀{b:Bool},(cJ sh xs ys).map (b&& ·)=some true->(b=true->Instr.sameBits d v u=true)->(u::us).length=(v::vs).length/\((v::vs).zip (u::us)).all (fun p=>Instr.sameBits d p.1 p.2)=true:=by intro b hm hb;simp only[Ag,Am] at hm;obtain⟨r,hr,IA,rfl⟩:=hm;obtain⟨g1,g2⟩:=Lc d sh xs ys us vs hr tx ty;refine⟨by simp[g1],?_⟩;simp only[List.zip_cons_cons,Ho,hb IA,Cr];exact g2
      cases k<;>cases x<;>cases y<;>simp only[cJ] at h<;>first|(cases h;done)|skip
      · refine fin h fun hb=>?_;simp only[Da] at hb;subst hb;rw[hxu.jU,hyv.jU];cases d<;>simp[Instr.sameBits]
      · split at h
        · rename_i xl;refine fin h fun hb=>?_;simp only[Da] at hb;subst hb xl;rw[hxu.iQ,hyv.iQ];cases d<;>simp[Instr.sameBits]
        cases h
      refine fin h fun hb=>?_;simp only[Da] at hb;subst hb;rw[hxu.lK,hyv.lK];cases d<;>simp only[Instr.sameBits]<;>rw[beq_toListBytes]<;>simp
theorem Tf {G:Gh} {w:World} {k:Sk} {x y:AV} {u v:Value} (d:Nat) (h:sameKey k x y=some true) (hx:VR G w x u) (hy:VR G w y v):Instr.sameBits (d+1) v u=true:=by
 cases x<;>cases y<;>simp only[sameKey] at h<;>first
  |(cases h;done)
  |skip
 · cases k<;>simp only[] at h<;>first|(cases h;done)|skip
   simp at h;subst h;rw[hx.jU,hy.jU];simp[Instr.sameBits]
 · cases k<;>simp only[] at h<;>first|(cases h;done)|skip
   split at h
   · rename_i hc;simp at h;subst hc;subst h;rw[hx.iQ,hy.iQ];simp[Instr.sameBits]
   cases h
 · cases k<;>simp only[] at h<;>first|(cases h;done)|skip
   simp at h;subst h;rw[hx.lK,hy.lK];simp only[Instr.sameBits];rw[beq_toListBytes];simp
 cases k<;>simp only[] at h<;>first|(cases h;done)|skip
 rename_i xs ys sh;obtain⟨us,e1,l1,_,v1⟩:=hx.uT;obtain⟨vs,e2,l2,_,v2⟩:=hy.uT;obtain⟨g1,g2⟩:=Lc d sh xs ys us vs h ⟨l1,v1⟩ ⟨l2,v2⟩;rw[e1,e2];simp only[Instr.sameBits,Gx,g1,Hg,Cr];exact g2
theorem Vk {t kt vt:TypeId} {k:Sk} {x i y:Operand} {x' i' y':Arg} (ho:o.op=.mapUpdate t x i y\/o.op=.insert t x i y) (hx:bJ g x=some x') (hi:bJ g i=some i') (hy:bJ g y=some y')
 (ht:P.underlying t=some (.map kt vt)) (hk:IM P kt=some k):cP P g o (.OY k x' i' y'):=by
 intro s a G H w v H' hw hs h;have vx:=bH hw hs hx;have vi:=bH hw hs hi;have vy:=bH hw hs hy;have bCt:DM k (Arg.eval g s i')=true->(Instr.checkKey false 10000 kt (a.eval i)).run P w=.ok () w:=fun qi=>run_checkKey hk false 9940 vi qi;simp only[cX] at h;split at h
 · rename_i qi;have hck:=bCt qi;split at h
   · rename_i id cZ;rw[cZ] at vx;generalize eG:a.eval x=u at vx
     cases vx with
     |map _ l hl=>
      split at h
      · rename_i es hg;obtain⟨_,_,ents,clock,m1,m2,mb,m3⟩:=hw.iM id l _ hl hg rfl;have hgo:=run_getObj_map (P:=P) m1
        have jB:∀{w':World},(Instr.mapUpdate t (.map (some l.cY)) (a.eval i) (a.eval y)).run P w=.ok () w'->(execOp a.eval o).run P w=.ok .skip w':=fun hr=>by rcases ho with ho|ho<;>simp[execOp,ho,eG,hr]
        have MP:∀(en:Array MapEntry) (cl:Nat),(setObj l.cY (.map en cl)).run P w=.ok () {w with heap:=w.heap.setIfInBounds l.cY (.map en cl)}:=fun en cl=>by simp[setObj,Sem.run,m1]
        split at h
        · rename_i j av hf;simp only[Ad,Ah] at h;obtain⟨rfl,rfl⟩:=h;obtain⟨r',h1,h2⟩:=run_findKey (P:=P) hk vi hf m2 m3
          rcases h2 with ⟨hh,_⟩|⟨j',av',vv,e1,e2,e3,e4,e5⟩
          · cases hh
          cases e1;subst e2;have hsb:=Tf 9999 e5 vi (m3 j e4).1
          obtain⟨r1,r2⟩:=hw.aBm (es':=es.set j (Arg.eval g s i',Arg.eval g s y')) (ents':=ents.modify j fun e=>{e with key:=a.eval i,val:=a.eval y}) (clock':=clock) (w':={w with heap:=w.heap.setIfInBounds l.cY (.map (ents.modify j fun e=>{e with key:=a.eval i,val:=a.eval y}) clock)}) hl hg m1 rfl .now (by simp[m2]) (mb.modify _ _ fun _=>rfl) (fun q hq=>by
           simp only[Jt] at hq;rw[wK _ _ _ _ (by omega),getD_eq,Gy];by_cases hjq:j=q
           · rw[if_pos hjq,if_pos hjq];subst hjq;rw[if_pos e4];exact⟨vi,vy⟩
           rw[if_neg hjq,if_neg hjq]
           exact m3 q hq)
          refine⟨.skip,undef,_,G,jB ?_,.inr ⟨rfl,rfl⟩,r1,r2,VR.oH G _⟩
          have Nz:((ents[j]?).map (·.key)).getD (a.eval i)=(ents.getD j default).key:=by have hjs:j<ents.size:=(by omega);simp[Array.getD,hjs]
          simp only[Instr.mapUpdate,Sem.run_bind,run_underlying ht w,Result.andThen_ok,hgo,hck,h1,Instr.keyThatStays,Nz,hsb,if_true,Sem.run_pure,MP]
        · rename_i hf;simp only[Ad,Ah] at h;obtain⟨rfl,rfl⟩:=h;obtain⟨r',h1,h2⟩:=run_findKey (P:=P) hk vi hf m2 m3
          rcases h2 with ⟨_,e2⟩|⟨j',av',vv,e1,_⟩
          · subst e2
            obtain⟨r1,r2⟩:=hw.aBm (es':=es++[(Arg.eval g s i',Arg.eval g s y')]) (ents':=ents.push {key:=a.eval i,val:=a.eval y,born:=clock}) (clock':=clock+1) (w':={w with heap:=w.heap.setIfInBounds l.cY (.map (ents.push {key:=a.eval i,val:=a.eval y,born:=clock}) (clock+1))}) hl hg m1 rfl .now (by simp[m2]) (mb.push _ rfl) (fun q hq=>by
             simp only[Au,Aq,Bj] at hq;rw[getD_eq,Dh,Bo,Kh];by_cases hjq:q<es.length
             · rw[if_pos hjq,if_neg (by omega)];have :=m3 q hjq
               rwa [Bo] at this
             rw[if_neg hjq,if_pos (by omega)];have hq0:q -es.length=0:=(by omega);rw[hq0]
             exact⟨vi,vy⟩)
            refine⟨.skip,undef,_,G,jB ?_,.inr ⟨rfl,rfl⟩,r1,r2,VR.oH G _⟩;simp only[Instr.mapUpdate,Sem.run_bind,run_underlying ht w,Result.andThen_ok,hgo,hck,h1,MP]
          cases e1
        cases h
      cases h
   cases h
 cases h
end
end
end Go.Av
