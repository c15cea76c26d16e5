/-
  Part of the proof of statement 14
-/
import Derived.Test.YtgggiembljfnhaaGreatDoorC01
import Derived.Laws.StructEq
import Derived.ChangeKeysEq
import Derived.Laws.BytesArg
set_option linter.unusedVariables false
set_option linter.unusedSimpArgs false
set_option linter.unusedSimpArgs false
namespace Go.Av
open Go
section
def xM (P:Program) (sh:TypeId->Option (List Sk)):Nat->List Field->Option (List Sk)
 |_,[]=>some []
 |off,f::fs=>
  if f.name≠ "_" /\f.offset=off then
   match sh f.type with
   |some k=>if hZ P f.type=some k.length then(xM P sh (off+k.length) fs).map (k++ ·) else none
   |none=>none
  else none
def lL (P:Program):Nat->TypeId->Option (List Sk)
 |0,_=>none
 |d+1,t=>
  match P.underlying t with
  |some .bool=>some [.b]
  |some (.int _)=>some [.i]
  |some .string=>some [.s]
  |some (.struct fs)=>if P.stoodInHeld t then none else xM P (lL P d) 0 fs.toList
  |some (.array n e)=>
   match lL P d e with
   |some k=>if hZ P e=some k.length then some (List.replicate n k).flatten else none
   |none=>none
  |_=>none
theorem rB:∀(k1 k2:List Sk) (xs ys:List AV) (r:Bool),cE (k1++k2) xs ys=some r->
 ∃r1 r2,cE k1 (xs.take k1.length) (ys.take k1.length)=some r1/\cE k2 (xs.drop k1.length) (ys.drop k1.length)=some r2/\r=(r1&&r2)
 |[],k2,xs,ys,r,h=>⟨true,r,rfl,by simpa using h,by simp⟩
 |k::k1,k2,xs,ys,r,h=>by
  have step:∀{x y:AV} {xs' nc:List AV} {c:Bool},xs=x::xs'->ys=y::nc->(cE (k1++k2) xs' nc).map (c&& ·)=some r->
   (∀l m,cE (k::k1) (x::l) (y::m)=(cE k1 l m).map (c&& ·))->
   ∃r1 r2,cE (k::k1) (xs.take (k::k1).length) (ys.take (k::k1).length)=some r1/\cE k2 (xs.drop (k::k1).length) (ys.drop (k::k1).length)=some r2/\r=(r1&&r2):=by
   intro x y xs' nc c hx hy hm hc;simp only[Af] at hm;obtain⟨r',hr',rfl⟩:=hm;obtain⟨r1,r2,h1,h2,h3⟩:=rB k1 k2 xs' nc r' hr';subst hx hy;refine⟨c&&r1,r2,?_,by simpa using h2,by rw[h3,Bool.and_assoc]⟩;simp only[Ak,Cw];rw[hc,h1];rfl
  cases k<;>cases xs with
  |nil=>simp[cE] at h
  |cons x xs'=>
   cases ys with
   |nil=>cases x<;>simp[cE] at h
   |cons y nc=>
    cases x<;>cases y<;>simp only[Ev,cE] at h<;>first
     |(cases h;done)
     |exact step rfl rfl h (fun l m=>rfl)
     |(split at h
       . rename_i Tt;subst Tt;exact step rfl rfl h (fun l m=>by simp[cE])
       cases h)
def valOf (agg:Bool) (us:List Value):Value:=if agg then .agg us.toArray else us.getD 0 undef
theorem kB {P:Program} {t:TypeId} {n:Nat} {b:Bool} (hn:hZ P t=some n) (hb:eO P t=some b) (w:World) {us:List Value} {off:Nat} (gU:off+n<=us.length) (qH:b=false->n=1):
 (part t us.toArray off).run P w=.ok (valOf b ((us.drop off).take n)) w:=by
 cases b with
 |true=>simp only[part,Sem.run_bind,nV hb w,Result.andThen_ok,if_true,dF hn w,Sem.run_pure,valOf];congr 2;apply Dv;simp[Gf]
 |false=>have :=qH rfl;simp only[part,Sem.run_bind,nV hb w,Result.andThen_ok,Ay,Bu,De,nP us undef off (by omega),valOf];rw[dT _ _ _ _ _ (by omega)];rfl
theorem fJ.take_drop {G:Gh} {w:World} {xs:List AV} {us:List Value} (h:fJ G w xs us) (off n:Nat) (gU:off+n<=xs.length):fJ G w ((xs.drop off).take n) ((us.drop off).take n):=by have hl:=h.1;refine⟨by simp;omega,fun j hj=>?_⟩;simp at hj;rw[dT _ _ _ _ _ (by omega),dT _ _ _ _ _ (by omega)];exact h.2 _ (by omega)
theorem yC:∀{ks:List Sk} {xs ys:List AV} {r:Bool},cE ks xs ys=some r->xs.length=ks.length/\ys.length=ks.length
 |[],[],[],_,_=>⟨rfl,rfl⟩
 |[],_::_,ys,r,h=>by cases ys<;>simp[cE] at h
 |[],[],_::_,r,h=>by simp[cE] at h
 |k::ks,[],ys,r,h=>by cases k<;>simp[cE] at h
 |k::ks,x::xs,[],r,h=>by cases k<;>cases x<;>simp[cE] at h
 |k::ks,x::xs,y::ys,r,h=>by
  have :∃r',cE ks xs ys=some r':=by
   cases k<;>cases x<;>cases y<;>simp only[cE] at h<;>first
    |(cases h;done)
    |(simp only[Af] at h;obtain⟨r',h,_⟩:=h;exact⟨r',h⟩)
    |(split at h
      . simp only[Af] at h;obtain⟨r',h,_⟩:=h;exact⟨r',h⟩
      cases h)
  obtain⟨r',h'⟩:=this;have :=yC h';simp[this.1,this.2]
theorem uD {P:Program} {d:Nat} {t:TypeId} {ks:List Sk} (h:lL P d t=some ks):∃b,eO P t=some b/\(b=false->ks.length=1):=by
 cases d with
 |zero=>cases h
 |succ d=>
  simp only[lL] at h;unfold eO
  split at h<;>rename_i hu<;>first
   |(cases h;done)
   |(obtain rfl:=Aa h;exact⟨false,by rw[hu],fun _=>rfl⟩)
   |exact⟨true,by rw[hu],fun hf=>by cases hf⟩
theorem LL {P:Program} {e:TypeId} {n:Nat} (h:hZ P e=some n):P.cellsOf e=n/\∃i,P.info? e=some i:=by simp only[hZ,Af] at h;obtain⟨i,hi,rfl⟩:=h;exact⟨by simp[Program.cellsOf,hi],i,hi⟩
theorem PS {P:Program}:∀(f:Nat) (t:TypeId) (ks:List Sk),lL P f t=some ks->∀(b:Bool),eO P t=some b->∀(d:Nat) (G:Gh) (w:World) (xs ys:List AV) (us vs:List Value) (r:Bool),
 cE ks xs ys=some r->fJ G w xs us->fJ G w ys vs->(Op.equalIn (d+f) t (valOf b us) (valOf b vs)).run P w=.ok r w:=by
 intro f
 induction f with
 |zero=>intro t ks h;cases h
 |succ f ih=>
  intro t ks h b hb d G w xs ys us vs r hr hx hy;have hlen:=yC hr
  have scalar:∀{k:Sk},ks=[k]->∃x y,xs=[x]/\ys=[y]/\VR G w x (us.getD 0 undef)/\VR G w y (vs.getD 0 undef):=fun {k} hk=>by
   subst hk
   match xs,ys,hlen with
   |[x],[y],_=>exact⟨x,y,rfl,rfl,by simpa using hx.2 0 (by simp),by simpa using hy.2 0 (by simp)⟩
  rw[show d+(f+1)=(d+f)+1 from rfl];simp only[lL] at h;split at h
  . rename_i hu;obtain rfl:=Aa h;have NZ:b=false:=by simp only[eO,hu,Ab] at hb;exact hb.symm
    subst NZ;obtain⟨x,y,rfl,rfl,h1,h2⟩:=scalar rfl;simp only[valOf,Ay,Bu]
    cases x<;>cases y<;>simp only[cE] at hr<;>first|(cases hr;done)|skip
    rename_i p q;rw[h1.gO,h2.gO,BC _ hu w];simp at hr;rw[<-hr]
  . rename_i k hu;obtain rfl:=Aa h;have NZ:b=false:=by simp only[eO,hu,Ab] at hb;exact hb.symm
    subst NZ;obtain⟨x,y,rfl,rfl,h1,h2⟩:=scalar rfl;simp only[valOf,Ay,Bu]
    cases x<;>cases y<;>simp only[cE] at hr<;>first|(cases hr;done)|skip
    rename_i j p j' q;split at hr
    . rename_i hj;subst hj;rw[h1.fS,h2.fS,run_equalIn_int w _ t j k p q hu];simp at hr;rw[<-hr]
    cases hr
  . rename_i hu;obtain rfl:=Aa h;have NZ:b=false:=by simp only[eO,hu,Ab] at hb;exact hb.symm
    subst NZ;obtain⟨x,y,rfl,rfl,h1,h2⟩:=scalar rfl;simp only[valOf,Ay,Bu]
    cases x<;>cases y<;>simp only[cE] at hr<;>first|(cases hr;done)|skip
    rename_i p q;rw[h1.jB,h2.jB,run_equalIn_string w _ t _ _ hu,ByteArray.toList_mk,ByteArray.toList_mk];simp at hr;rw[<-hr]
  . rename_i fs hu;split at h
    . cases h
    rename_i xU;have Wq:b=true:=(by simp only[eO,hu,Ab] at hb;exact hb.symm);subst Wq;simp only[valOf,if_true];have hfo:P.fieldsOf t=fs:=(by simp[Program.fieldsOf,hu]);rw[run_equalIn_struct w _ t _ _ (by rw[hfo];exact hu) (by simpa using xU),hfo];have hux:=hx.1;have huy:=hy.1
    have key:∀(l:List Field) (off:Nat) (Vn:List Sk),xM P (lL P f) off l=some Vn->off+Vn.length<=xs.length->off+Vn.length<=ys.length->∀r,cE Vn ((xs.drop off).take Vn.length) ((ys.drop off).take Vn.length)=some r->
     (Op.eqFields (d+f) us.toArray vs.toArray l).run P w=.ok r w:=by
     intro l
     induction l with
     |nil=>intro off Vn hs _ _ r hr;obtain rfl:=Aa hs;simp[cE] at hr;subst hr;simp[Op.eqFields]
     |cons fd l ihl=>
      intro off Vn hs Qz gp r hr;simp only[xM] at hs;split at hs
      . rename_i hc;obtain⟨YJ,Jj⟩:=hc;split at hs
        . rename_i k hk;split at hs
          . rename_i jE;simp only[Af] at hs;obtain⟨s9,hs2,rfl⟩:=hs;simp only[Ag] at Qz gp hr;obtain⟨r1,r2,e1,e2,rfl⟩:=rB _ _ _ _ _ hr;obtain⟨bf,NZ,Na⟩:=uD hk
            have t1:∀(z:List AV),off+(k.length+s9.length)<=z.length->List.take k.length (List.take (k.length+s9.length) (z.drop off))=(z.drop off).take k.length:=fun z hz=>by rw[List.take_take];congr 1;omega
            have t2:∀(z:List AV),off+(k.length+s9.length)<=z.length->List.drop k.length (List.take (k.length+s9.length) (z.drop off))=(z.drop (off+k.length)).take s9.length:=fun z hz=>by rw[List.drop_take,Gt];congr 1;omega
            rw[t1 _ Qz,t1 _ gp] at e1;rw[t2 _ Qz,t2 _ gp] at e2;have p1:=kB jE NZ w (us:=us) (off:=fd.offset) (by omega) Na;have p2:=kB jE NZ w (us:=vs) (off:=fd.offset) (by omega) Na;have p3:=ih fd.type k hk bf NZ d G w _ _ _ _ r1 e1 (hx.take_drop off k.length (by omega)) (hy.take_drop off k.length (by omega));rw[<-Jj] at p3;simp only[Op.eqFields,if_pos YJ,Sem.run_bind,p1,p2,p3,Result.andThen_ok]
            cases r1 with
            |false=>simp
            |true=>simp only[Fq,Ay,Bu,Cu];exact ihl (off+k.length) s9 hs2 (by omega) (by omega) r2 e2
          cases hs
        cases hs
      cases hs
    have :=key fs.toList 0 ks h (by omega) (by omega) r (by
     simp only[Ex];rw[Bl (by omega),Bl (by omega)]
     exact hr)
    exact this
  . rename_i n e hu;have Wq:b=true:=by simp only[eO,hu,Ab] at hb;exact hb.symm
    subst Wq;simp only[valOf,if_true];split at h
    . rename_i k hk;split at h
      . rename_i jE;obtain rfl:=Aa h;obtain⟨iD,i,hi⟩:=LL jE;rw[run_equalIn_array w (d+f) _ _ hu hi,iD];obtain⟨bf,NZ,Na⟩:=uD hk;have hux:=hx.1;have huy:=hy.1;have hlk:∀m,((List.replicate m k).flatten).length=m*k.length:=fun m=>by simp
        have key:∀(m j:Nat),(j+m)*k.length<=xs.length->(j+m)*k.length<=ys.length->∀r,cE (List.replicate m k).flatten ((xs.drop (j*k.length)).take (m*k.length)) ((ys.drop (j*k.length)).take (m*k.length))=some r->
         (Op.eqItems (d+f) e k.length us.toArray vs.toArray (List.range' j m)).run P w=.ok r w:=by
         intro m
         induction m with
         |zero=>intro j _ _ r hr;simp[cE] at hr;subst hr;simp[Op.eqItems]
         |succ m ihm=>
          intro j Qz gp r hr;have hm1:(m+1)*k.length=k.length+m*k.length:=(by rw[Ds];omega);have EE:(j+(m+1))*k.length=j*k.length+(k.length+m*k.length):=(by rw[Ce,hm1]);have Jo:(j+1)*k.length=j*k.length+k.length:=(by rw[Ds]);rw[EE] at Qz gp;rw[hm1] at hr;rw[Ep,Bo] at hr;obtain⟨r1,r2,e1,e2,rfl⟩:=rB _ _ _ _ _ hr
          have t1:∀(z:List AV),List.take k.length (List.take (k.length+m*k.length) (z.drop (j*k.length)))=(z.drop (j*k.length)).take k.length:=fun z=>by rw[List.take_take];congr 1;omega
          have t2:∀(z:List AV),List.drop k.length (List.take (k.length+m*k.length) (z.drop (j*k.length)))=(z.drop ((j+1)*k.length)).take (m*k.length):=fun z=>by rw[List.drop_take,Gt,Jo];congr 1;omega
          rw[t1,t1] at e1;rw[t2,t2] at e2;have p1:=kB jE NZ w (us:=us) (off:=j*k.length) (by omega) Na;have p2:=kB jE NZ w (us:=vs) (off:=j*k.length) (by omega) Na;have p3:=ih e k hk bf NZ d G w _ _ _ _ r1 e1 (hx.take_drop (j*k.length) k.length (by omega)) (hy.take_drop (j*k.length) k.length (by omega));simp only[List.range'_succ,Op.eqItems,Sem.run_bind,p1,p2,p3,Result.andThen_ok]
          cases r1 with
          |false=>simp
          |true=>simp only[Fq,Ay,Bu,Cu];have hj3:(j+1+m)*k.length=j*k.length+(k.length+m*k.length):=(by rw[Ce,Jo];omega);exact ihm (j+1) (by rw[hj3];exact Qz) (by rw[hj3];exact gp) r2 e2
        have :=key n 0 (by rw[Cc];rw[hlk] at hlen;omega) (by rw[Cc];rw[hlk] at hlen;omega) r (by
         rw[hlk] at hlen;simp only[Hr,Ex];rw[Bl (by omega),Bl (by omega)]
         exact hr)
        rw[Ix];exact this
      cases h
    cases h
  cases h
section
variable {P:Program} {g:aT} {o:Oper}
theorem aCc {op:BinOp} {neg:Bool} {t t2:TypeId} {f:Nat} {ks:List Sk} {x y:Operand} {x' y':Arg} (ho:o.op=.binOp op t x y t2) (eK:op=if neg then .neq else .eql) (hf:f<=9999)
 (hk:lL P f t=some ks) (hb:eO P t=some true) (hg:P.eqGuardType P.depth t=false) (hx:aX g x=some x') (hy:aX g y=some y'):bT P g o (.eqf neg ks x' y'):=by
 intro s a G H w v H' hw hs h;have vx:=aW hw hs hx;have vy:=aW hw hs hy;simp only[cD] at h;split at h
 . rename_i xs ys h1 h2;rw[h1] at vx;rw[h2] at vy;obtain⟨us,e1,l1,_,v1⟩:=vx.qP;obtain⟨vs,e2,l2,_,v2⟩:=vy.qP;simp only[Af,Ad] at h;obtain⟨r,hr,rfl,rfl⟩:=h;refine bT.pure' hw (u:=.bool (if neg then !r else r)) ?_ (.bool _);have Nc:=run_eqGuard_agg (P:=P) w op t x y us.toArray vs.toArray hg;have heq:=PS f t ks hk true hb (10000 -f) G w xs ys us vs r hr ⟨l1,v1⟩ ⟨l2,v2⟩;rw[show 10000 -f+f=10000 by omega] at heq;simp only[valOf,if_true] at heq;have aKn:(Op.equal t (.agg us.toArray) (.agg vs.toArray)).run P w=.ok r w:=heq;subst eK;cases neg<;>simp only[Ay,Bu,if_true] at ho Nc<;>simp[execOp,ho,e1,e2,Nc,Go.binOp,aKn]
 cases h
def nkP (P:Program) (t:TypeId):Option Nk:=
 match P.underlying t with
 |some (.pointer _)=>some .ptr
 |some (.interface _)=>some .Ww
 |some (.slice _)=>some .sli
 |some (.map _ _)=>some .mp
 |some (.func _ _ _)=>some .fn
 |_=>none
def vW:Value->Bool
 |.pointer none|.nilIface|.slice none _ _|.map none|.nilFunc=>true
 |_=>false
theorem Pr {G:Gh} {w:World} {k:Nk} {a:AV} {u:Value} {b:Bool} (h:tS k a=some b) (hv:VR G w a u):vW u=b:=by
 cases hv<;>simp only[tS] at h<;>first
  |(cases h;done)
  |(split at h
    . obtain rfl:=Aa h;rfl
    cases h)
def Rw:Nk->Value->Prop
 |.ptr,.pointer _=>True
 |.Ww,.nilIface|.Ww,.iface _ _=>True
 |.sli,.slice _ _ _=>True
 |.mp,.map _=>True
 |.fn,.nilFunc|.fn,.func _ _ _=>True
 |_,_=>False
theorem FY {G:Gh} {w:World} {k:Nk} {a:AV} {u:Value} {b:Bool} (h:tS k a=some b) (hv:VR G w a u):Rw k u:=by
 cases hv<;>simp only[tS] at h<;>first
  |(cases h;done)
  |(split at h
    . rename_i hk;subst hk;trivial
    cases h)
theorem GY (d:Nat) {t:TypeId} {k:Nk} (hk:nkP P t=some k) (w:World) {u v:Value} (hu:Rw k u) (hv:Rw k v) (h:(vW u||vW v)=true):
 (Op.equalIn (d+1) t u v).run P w=.ok (vW u&&vW v) w:=by
 unfold nkP at hk;rw[Op.equalIn]
 split at hk<;>rename_i AM<;>first
  |(cases hk;done)
  |(obtain rfl:=Aa hk
    simp only[Sem.run_bind,run_underlying AM w,Result.andThen_ok]
    cases u<;>first|exact hu.elim|skip
    all_goals (cases v<;>first|exact hv.elim|skip)
    all_goals first
     |rfl
     |(rename_i p q;cases p<;>cases q<;>first|rfl|(simp[vW] at h;done))
     |(rename_i p _ _ q _ _;cases p<;>cases q<;>first|rfl|(simp[vW] at h;done))
     |(simp[vW] at h;done))
theorem aCd {op:BinOp} {neg:Bool} {t t2:TypeId} {k:Nk} {lit:Bool} {x y:Operand} {x' y':Arg} (ho:o.op=.binOp op t x y t2) (eK:op=if neg then .neq else .eql)
 (hk:nkP P t=some k) (YQ:lit=true->(∃c,x=.const c)\/∃c,y=.const c) (hx:aX g x=some x') (hy:aX g y=some y'):bT P g o (.Xp neg k lit x' y'):=by
 intro s a G H w v H' hw hs h;have vx:=aW hw hs hx;have vy:=aW hw hs hy;simp only[cD] at h;split at h
 . rename_i p q h1 h2;have f1:=FY h1 vx;have f2:=FY h2 vy;have n1:=Pr h1 vx;have n2:=Pr h2 vy;split at h
   . rename_i hc;simp only[Ab,Ad] at h;obtain⟨rfl,rfl⟩:=h;simp only[Aj] at hc;obtain⟨YJ,Jj⟩:=hc;refine bT.pure' hw (u:=.bool (if neg then !(p&&q) else(p&&q))) ?_ (.bool _);generalize e1:a.eval x=u1 at *;generalize e2:a.eval y=u2 at *
     have heq:(Op.equal t u1 u2).run P w=.ok (p&&q) w:=by have :=GY (P:=P) 9999 hk w f1 f2 (by rw[n1,n2];exact YJ);rw[n1,n2] at this;exact this
     have Nc:(eqGuard op t x y u1 u2).run P w=.ok () w:=by
      unfold eqGuard;by_cases oz:u1=.nilIface/\u2=.nilIface
      . obtain⟨rfl,rfl⟩:=oz
        have hki:k=.Ww:=(by cases k<;>first|rfl|exact f1.elim);have hp:p=true:=n1.symm;have hq:q=true:=n2.symm;subst hki hp hq;simp at Jj
        rcases YQ Jj with ⟨c,rfl⟩|⟨c,rfl⟩
        . cases op<;>simp
        cases op<;>simp
      cases u1<;>first
       |(cases k<;>exact f1.elim)
       |(cases op<;>rfl)
       |(cases u2<;>first|exact absurd ⟨rfl,rfl⟩ oz|(cases op<;>rfl))
     have aKf:(Go.binOp op t u1 u2).run P w=.ok (.bool (if neg then !(p&&q) else(p&&q))) w:=by
      subst eK
      cases neg with
      |false=>
       simp only[Ay,Bu]
       cases u1<;>first
        |(cases k<;>exact f1.elim)
        |(cases u2<;>first
           |(cases k<;>first|exact f1.elim|exact f2.elim)
           |simp[Go.binOp,heq])
      |true=>
       simp only[if_true]
       cases u1<;>first
        |(cases k<;>exact f1.elim)
        |(cases u2<;>first
           |(cases k<;>first|exact f1.elim|exact f2.elim)
           |simp[Go.binOp,heq])
     simp only[execOp,ho,e1,e2,Sem.run_bind,Nc,aKf,Result.andThen_ok];rfl
   cases h
 cases h
end
end
section
theorem vP (off:Nat):∀(l:List Value) (k:Nat) (cells:Array Value),
 ((l.zipIdx k).foldl (fun(cs:Array Value) (p:Value×Nat)=>cs.setIfInBounds (off+p.2) p.1) cells).size=cells.size/\
 ∀i,((l.zipIdx k).foldl (fun(cs:Array Value) (p:Value×Nat)=>cs.setIfInBounds (off+p.2) p.1) cells)[i]?=
  if off+k<=i/\i<off+k+l.length/\i<cells.size then l[i -(off+k)]? else cells[i]?
 |[],k,cells=>⟨rfl,fun i=>by
    rw[if_neg]
    . rfl
    simp only[Ar];omega⟩
 |v::r,k,cells=>by
  have ih:=vP off r (k+1) (cells.setIfInBounds (off+k) v);simp only[List.zipIdx_cons,List.foldl_cons];refine⟨by rw[ih.1];simp,fun i=>?_⟩;rw[ih.2 i];simp only[Ak,Array.size_setIfInBounds];by_cases h1:off+(k+1)<=i/\i<off+(k+1)+r.length/\i<cells.size
  . rw[if_pos h1,if_pos (by omega)];rw[show i -(off+k)=(i -(off+(k+1)))+1 by omega];simp
  rw[if_neg h1,En];by_cases h2:off+k=i
  . subst h2;by_cases h3:off+k<cells.size
    . simp[h3]
    rw[if_pos rfl,if_neg h3,if_neg (by omega),Gv (by omega)]
  have jE:(cells.setIfInBounds (off+k) v).size=cells.size:=by simp
  rw[if_neg h2,if_neg (by omega)]
theorem fH (a:Array Value) (j:Nat) (d:Value):a.toList.getD j d=(a[j]?).getD d:=by rw[getD_eq,Iv]
theorem MF (off:Nat) (arr cells:Array Value):
 (arr.zipIdx.foldl (fun(cs:Array Value) (p:Value×Nat)=>cs.setIfInBounds (off+p.2) p.1) cells).size=cells.size/\
 ∀i,(arr.zipIdx.foldl (fun(cs:Array Value) (p:Value×Nat)=>cs.setIfInBounds (off+p.2) p.1) cells)[i]?=
  if off<=i/\i<off+arr.size/\i<cells.size then arr[i -off]? else cells[i]?:=by
 have h:=vP off arr.toList 0 cells;rw[<-Array.foldl_toList];simp only[Array.toList_zipIdx];simpa using h
theorem Xt {G:Gh} {w:World} {cs vs:List AV} {cells arr:Array Value} {off:Nat} (h:fJ G w cs cells.toList) (hv:fJ G w vs arr.toList) (gU:off+vs.length<=cs.length):
 fJ G w (eR cs off vs) (arr.zipIdx.foldl (fun(cs:Array Value) (p:Value×Nat)=>cs.setIfInBounds (off+p.2) p.1) cells).toList:=by
 obtain⟨h1,h2⟩:=MF off arr cells;have l1:=h.1;have l2:=hv.1;simp only[Cm] at l1 l2;refine⟨by rw[oA _ _ _ gU,Cm,h1,l1],fun j hj=>?_⟩;rw[oA _ _ _ gU] at hj;rw[FU _ _ _ _ gU,fH,h2 j];by_cases hc:off<=j/\j<off+vs.length
 . rw[if_pos hc,if_pos (by omega)];have :=hv.2 (j -off) (by omega)
   rwa [fH] at this
 rw[if_neg hc,if_neg (by omega)];have :=h.2 j hj
 rwa [fH] at this
def rG (g:aT) (place:Nat->Option (Nat×Nat)):List (Nat×Operand)->Option (List (Nat×Nat×Arg))
 |[]=>some []
 |(i,x)::r=>match place i,aX g x,rG g place r with
  |some (off,n),some y,some ys=>some ((off,n,y)::ys)
  |_,_,_=>none
theorem JT {g:aT} {G:Gh} {H:aA} {w:World} {s:List AV} {a:Act} (hw:WR g G H w) (hs:SR G w s a) {place place':Nat->Option (Nat×Nat)} (hp:∀i p,place i=some p->place' i=some p):
 ∀(parts:List (Nat×Operand)) (ps:List (Nat×Nat×Arg)) (cs vI:List AV) (cells:Array Value),rG g place parts=some ps->BE (Arg.eval g s) cs ps=some vI->fJ G w cs cells.toList->(∀c∈cs,c.one=true)->
  ∃fP,Instr.fill place' cells (parts.map fun(i,x)=>(i,a.eval x))=some fP/\fJ G w vI fP.toList/\∀c∈vI,c.one=true
 |[],ps,cs,vI,cells,h1,h2,hc,h3=>by obtain rfl:=Aa h1;obtain rfl:=Aa h2;exact⟨cells,rfl,hc,h3⟩
 |(i,x)::r,ps,cs,vI,cells,h1,h2,hc,h3=>by
  unfold rG at h1;split at h1
  . rename_i off n y ys BS hy HR;obtain rfl:=Aa h1;simp only[BE] at h2;split at h2
    . rename_i gG;obtain⟨c1,c2,c3⟩:=gG;have vx:=(aW hw hs hy).cellsOf c3;have hlen:=hc.1;have hlx:=vx.1.1;simp only[Cm] at hlen hlx;have eP:=Xt hc vx.1 (by omega:off+_<=cs.length);obtain⟨fP,hf,hr⟩:=JT hw hs hp r ys _ vI _ HR h2 eP (fun c hc'=>(KI hc').elim (h3 c) (vx.2 c));refine⟨fP,?_,hr⟩;simp only[Be,Instr.fill,hp _ _ BS]
      have aAo:(decide ((a.eval x).cells.size≠n)||decide (off+(a.eval x).cells.size>cells.size))=false:=by simp;omega
      rw[aAo];exact hf
    cases h2
  cases h1
def CN (P:Program):List Field->Option (List (Nat×Nat))
 |[]=>some []
 |f::r=>match hZ P f.type,CN P r with
  |some n,some l=>some ((f.offset,n)::l)
  |_,_=>none
theorem run_places {P:Program} (w:World):∀{fs:List Field} {l:List (Nat×Nat)},CN P fs=some l->
 (fs.mapM (fun f=>do pure (f.offset,<-sizeOf f.type):Field->Sem (Nat×Nat))).run P w=.ok l w
 |[],l,h=>by obtain rfl:=Aa h;rfl
 |f::r,l,h=>by
  unfold CN at h;split at h
  . rename_i n l' hn hl;obtain rfl:=Aa h;have ih:=run_places w hl;simp only[List.mapM_cons,Sem.run_bind,dF hn w,Result.andThen_ok,Sem.run_pure,ih]
  cases h
section
variable {P:Program} {g:aT} {o:Oper}
theorem GV {t:TypeId} {parts:Array (Nat×Operand)} {fs:Array Field} {l:List (Nat×Nat)} {z:Value} {zs:List AV} {ps:List (Nat×Nat×Arg)} (ho:o.op=.build t parts) (hu:P.underlying t=some (.struct fs))
 (hz:jC P t=some z) (zT:gK z.cells.toList=some zs) (hl:CN P fs.toList=some l) (hp:rG g (l[·]?) parts.toList=some ps):bT P g o (.build zs ps):=by
 intro s a G H w v H' hw hs h;simp only[cD,Af,Ad] at h;obtain⟨cs,FW,rfl,rfl⟩:=h;have hc:=jN zT G w;obtain⟨fP,hf,hv,h1⟩:=JT hw hs (place':=(l.toArray[·]?)) (fun i p hp=>by simpa using hp) parts.toList ps zs cs z.cells hp FW hc.1 hc.2;refine bT.pure' hw (u:=.agg fP) ?_ (by simpa using VR.RV hv h1);have BS:=run_places w hl;simp only[execOp,ho,Instr.build,Sem.run_bind,iT hz w,run_underlying hu w,Result.andThen_ok,Array.mapM_eq_mapM_toList,Sem.run_map,BS,Hd,hf];rfl
theorem KP {t e:TypeId} {n sz:Nat} {parts:Array (Nat×Operand)} {z:Value} {zs:List AV} {ps:List (Nat×Nat×Arg)} (ho:o.op=.build t parts) (hu:P.underlying t=some (.array n e))
 (jE:hZ P e=some sz) (hz:jC P t=some z) (zT:gK z.cells.toList=some zs) (hp:rG g (fun i=>some (i*sz,sz)) parts.toList=some ps):bT P g o (.build zs ps):=by
 intro s a G H w v H' hw hs h;simp only[cD,Af,Ad] at h;obtain⟨cs,FW,rfl,rfl⟩:=h;have hc:=jN zT G w;obtain⟨fP,hf,hv,h1⟩:=JT hw hs (place':=fun i=>some (i*sz,sz)) (fun i p hp=>hp) parts.toList ps zs cs z.cells hp FW hc.1 hc.2;refine bT.pure' hw (u:=.agg fP) ?_ (by simpa using VR.RV hv h1);simp only[execOp,ho,Instr.build,Sem.run_bind,iT hz w,run_underlying hu w,Result.andThen_ok,dF jE w,Hd,hf];rfl
def CD (g:aT):Nat->List (Nat×Operand)->Option (List Arg)
 |_,[]=>some []
 |k,(i,x)::r=>if i=k then match aX g x,CD g (k+1) r with
  |some y,some ys=>some (y::ys)
  |_,_=>none
  else none
theorem MU {ev:Arg->AV} {sz:Nat}:∀{ys:List Arg} {els:List (List AV)},CC ev sz ys=some els->∀e∈els,e.length=sz
 |[],els,h=>by obtain rfl:=Aa h;intro e he;cases he
 |y::ys,els,h=>by
  simp only[CC] at h;split at h
  . rename_i hc;simp only[Af] at h;obtain⟨vM,h',rfl⟩:=h;intro e he
    rcases Ah.1 he with rfl|he
    . exact hc.1
    exact MU h' e he
  cases h
theorem JS {G:Gh} {H:aA} {w:World} {s:List AV} {a:Act} (hw:WR g G H w) (hs:SR G w s a) (sz:Nat):
 ∀(parts:List (Nat×Operand)) (ys:List Arg) (k:Nat) (els:List (List AV)) (pre:List AV) (cells:Array Value),CD g k parts=some ys->CC (Arg.eval g s) sz ys=some els->
  pre.length=k*sz->cells.size=(k+parts.length)*sz->(∀j,j<k*sz->VR G w (pre.getD j aC) (cells.toList.getD j undef))->(∀c∈pre,c.one=true)->
  ∃fP,Instr.fill (fun i=>some (i*sz,sz)) cells (parts.map fun(i,x)=>(i,a.eval x))=some fP/\fJ G w (pre++els.flatten) fP.toList/\∀c∈pre++els.flatten,c.one=true
 |[],ys,k,els,pre,cells,h1,h2,hp,hc,hv,h3=>by obtain rfl:=Aa h1;obtain rfl:=Aa h2;refine⟨cells,rfl,⟨by simp at hc ⊢;omega,fun j hj=>?_⟩,by simpa using h3⟩;simp only[List.flatten_nil,Cf] at hj ⊢;exact hv j (by omega)
 |(i,x)::r,ys,k,els,pre,cells,h1,h2,hp,hc,hv,h3=>by
  simp only[CD] at h1;split at h1
  . rename_i hi;subst hi;split at h1
    . rename_i y nc hy HR;obtain rfl:=Aa h1;simp only[CC] at h2;split at h2
      . rename_i gG;simp only[Af] at h2;obtain⟨vM,h2,rfl⟩:=h2;obtain⟨c1,c3⟩:=gG;have vx:=(aW hw hs hy).cellsOf c3;have hlx:=vx.1.1;simp only[Cm] at hlx;have hm:(i+(r.length+1))*sz=i*sz+sz+r.length*sz:=(by rw[Ce,Ds];omega);have hm1:(i+1)*sz=i*sz+sz:=Ds i sz;simp only[Ak] at hc;obtain⟨f1,f2⟩:=MF (i*sz) (a.eval x).cells cells
        obtain⟨fP,hf,hr,ho⟩:=JS hw hs sz r nc (i+1) vM (pre++(Arg.eval g s y).cells) ((a.eval x).cells.zipIdx.foldl (fun(cs:Array Value) (p:Value×Nat)=>cs.setIfInBounds (i*sz+p.2) p.1) cells) HR h2
         (by simp[hp,c1,hm1]) (by rw[f1,hc];congr 1;omega) (fun j hj=>by
           rw[fH,f2 j,getD_eq,Cz];by_cases EE:j<pre.length
           . rw[if_pos EE,if_neg (by omega)];have :=hv j (by omega)
             rwa [getD_eq,fH] at this
           . rw[if_neg EE,if_pos (by omega)];have :=vx.1.2 (j -pre.length) (by omega);rw[getD_eq,fH] at this;rw[<-hp]
             exact this) (fun c hc=>by
           rcases Az.1 hc with hc|hc
           . exact h3 c hc
           exact vx.2 c hc)
        refine⟨fP,?_,by simpa [Bg] using hr,by simpa [Bg] using ho⟩;simp only[Be,Instr.fill]
        have aAo:(decide ((a.eval x).cells.size≠sz)||decide (i*sz+(a.eval x).cells.size>cells.size))=false:=by simp;omega
        rw[aAo];exact hf
      cases h2
    cases h1
  cases h1
theorem Ys {t e:TypeId} {sz len:Nat} {z:Value} {parts:Array (Nat×Operand)} {ys:List Arg} (ho:o.op=.buildSlice t len parts) (ht:kM P t=some (e,sz)) (hz:jC P e=some z)
 (hlen:len=parts.size) (zK:len*sz<=2^24) (hp:CD g 0 parts.toList=some ys):bT P g o (.KK sz ys):=by
 intro s a G H w v H' hw hs h;obtain⟨hu,jE⟩:=iE ht;simp only[cD,Af,Ad] at h;obtain⟨els,pO,rfl,rfl⟩:=h;have AM:=MU pO
 have hll:els.length=parts.size:=by
  have k1:∀{l:List (Nat×Operand)} {k:Nat} {ys:List Arg},CD g k l=some ys->ys.length=l.length:=by
   intro l
   induction l with
   |nil=>intro k ys h;obtain rfl:=Aa h;rfl
   |cons p r ih=>
    intro k ys h;obtain⟨i,x⟩:=p;simp only[CD] at h;split at h
    . split at h
      . rename_i y nc _ h';obtain rfl:=Aa h;simp[ih h']
      cases h
    cases h
  have k2:∀{ys:List Arg} {els:List (List AV)},CC (Arg.eval g s) sz ys=some els->els.length=ys.length:=by
   intro ys
   induction ys with
   |nil=>intro els h;obtain rfl:=Aa h;rfl
   |cons y r ih=>
    intro els h;simp only[CC] at h;split at h
    . simp only[Af] at h;obtain⟨vM,h',rfl⟩:=h;simp[ih h']
    cases h
  rw[k2 pO,k1 hp];simp
 let zr:Array Value:=if len*sz=0 then #[] else z.cells
 obtain⟨fP,hf,hv,h1⟩:=JS hw hs sz parts.toList ys 0 els [] ((Array.range (len*sz)).map (zr[· %zr.size]!)) hp pO (by simp) (by simp[hlen]) (fun j hj=>by simp at hj) (fun c hc=>by cases hc);simp only[Cg] at hv h1;have au:fO w {w with heap:=w.heap.push (.cells fP e)} (.cells (fP.toList++[]).toArray e (0,0)):=⟨by simp,.now⟩;obtain⟨r1,r2,r3⟩:=hw.UR els.flatten fP.toList [] hv au;refine⟨.value (.slice (some ⟨w.heap.size,0,none⟩) len len),_,_,_,?_,.inl rfl,r1,r2,?_⟩
 . have hb:¬len*sz>2^24:=by omega
   by_cases h0:len*sz=0
   . simp only[zr,if_pos h0] at hf;simp only[execOp,ho,Instr.buildSlice,Sem.run_bind,run_underlying hu w,dF jE w,Result.andThen_ok,if_neg hb,if_pos h0,Sem.run_pure,Hd,hf];rfl
   simp only[zr,if_neg h0] at hf;simp only[execOp,ho,Instr.buildSlice,Sem.run_bind,run_underlying hu w,dF jE w,Result.andThen_ok,if_neg hb,if_neg h0,iT hz w,Sem.run_pure,Hd,hf];rfl
 rw[hlen,<-hll];exact VR.bH 1 sz els w.heap.size 0 els.length (fun j=>fP.toList.getD j undef) AM (fun j hj=>⟨(r3 j hj).1,(r3 j hj).2.1,h1 _ (CH hj)⟩) (fun j hj=>(r3 j hj).2.2) ⟨Ai _,rfl⟩
def OV:Option Value->Option Nat->Prop
 |none,none=>True
 |some u,some m=>∃k,u=.int k (m:Int)
 |_,_=>False
theorem mB {G:Gh} {H:aA} {w:World} {s:List AV} {a:Act} (hw:WR g G H w) (hs:SR G w s a) {x:Option Operand} {y:Option Arg} {n:Option Nat} (hx:kL g x=some y)
 (hn:cP (Arg.eval g s) y=some n):OV (x.map a.eval) n:=by
 cases x with
 |none=>obtain rfl:=Aa hx;obtain rfl:=Aa hn;trivial
 |some x=>simp only[kL,Af] at hx;obtain⟨y',hy,rfl⟩:=hx;simp only[cP,Af] at hn;obtain⟨m,hm,rfl⟩:=hn;obtain⟨k,_,hk⟩:=qB hm (aW hw hs hy);exact⟨k,hk⟩
theorem run_sliceBound {k:IntKind} {m y:Nat} {c:BoundsCode} (h:m<=y) (w:World):(Instr.sliceBound (.int k (m:Int)) y c).run P w=.ok m w:=by
 have h0:(0:Int)<=(m:Int)/\(m:Int)<=(y:Int):=by omega
 simp only[Instr.sliceBound,asIntOf,Sem.run_bind,Sem.run_pure,Result.andThen_ok,if_pos h0,Gu]
theorem pB {isS:Bool} {len cap:Nat} {low high max:Option Value} {lo hi mx:Option Nat} (h1:OV low lo) (h2:OV high hi) (h3:OV max mx) (h4:mx.isSome->hi.isSome)
 (hl:lo.getD 0<=hi.getD len) (hh:hi.isSome->hi.getD len<=mx.getD cap) (hm:mx.getD cap<=cap) (w:World):
 (Instr.sliceBounds isS len cap low high max).run P w=.ok (lo.getD 0,hi.getD len,mx.getD cap) w:=by
 cases max<;>cases mx<;>first|exact h3.elim|skip
 . cases high<;>cases hi<;>first|exact h2.elim|skip
   . cases low<;>cases lo<;>first|exact h1.elim|skip
     . simp[Instr.sliceBounds]
     obtain⟨k1,rfl⟩:=h1;simp only[Bb,Dd] at hl;simp[Instr.sliceBounds,run_sliceBound hl w]
   obtain⟨k2,rfl⟩:=h2;have hh:=hh rfl;simp only[Bb,Dd] at hh hl
   cases low<;>cases lo<;>first|exact h1.elim|skip
   . simp[Instr.sliceBounds,run_sliceBound hh w]
   obtain⟨k1,rfl⟩:=h1;simp only[Bb] at hl;simp[Instr.sliceBounds,run_sliceBound hl w,run_sliceBound hh w]
 obtain⟨k3,rfl⟩:=h3
 cases high<;>cases hi<;>first|exact h2.elim|skip
 . simp at h4
 obtain⟨k2,rfl⟩:=h2;have hh:=hh rfl;simp only[Bb] at hh hm hl
 cases low<;>cases lo<;>first|exact h1.elim|skip
 . simp[Instr.sliceBounds,run_sliceBound hh w,run_sliceBound hm w]
 obtain⟨k1,rfl⟩:=h1;simp only[Bb] at hl;simp[Instr.sliceBounds,run_sliceBound hl w,run_sliceBound hh w,run_sliceBound hm w]
theorem Yv {t:TypeId} {x:Operand} {lo hi:Option Operand} {x':Arg} {Vp zL:Option Arg} (ho:o.op=.slice t x lo hi none) (hx:aX g x=some x') (RB:kL g lo=some Vp)
 (gh:kL g hi=some zL) (ht:P.underlying t=some .string):bT P g o (.Kn x' Vp zL):=by
 intro s a G H w v H' hw hs h;have vx:=aW hw hs hx;simp only[cD] at h;split at h
 . rename_i str l r h1 h2 h3;rw[h1] at vx;have e1:=vx.jB;have o1:=mB hw hs RB h2;have o2:=mB hw hs gh h3;split at h
   . rename_i hc;obtain⟨c1,c2⟩:=hc;simp only[Ab,Ad] at h;obtain⟨rfl,rfl⟩:=h;have jE:(⟨str.toArray⟩:ByteArray).size=str.length:=(by simp[ByteArray.size]);have hb:=pB (P:=P) (isS:=false) (len:=str.length) (cap:=str.length) (max:=none) (mx:=none) o1 o2 trivial (by simp) c1 (fun _=>by simpa using c2) (by simp) w;refine bT.pure' hw (u:=.string ((⟨str.toArray⟩:ByteArray).extract (l.getD 0) (r.getD str.length))) ?_ ?_
     . simp only[execOp,ho,Instr.sliceAt,Sem.run_bind,run_underlying ht w,Result.andThen_ok,Instr.slice,e1,jE,Option.map_none,hb,Ca,Ay,Bu];rfl
     have :(⟨str.toArray⟩:ByteArray).extract (l.getD 0) (r.getD str.length)=⟨((str.drop (l.getD 0)).take (r.getD str.length -l.getD 0)).toArray⟩:=by apply ByteArray.ext;simp[ByteArray.data_extract,Gf]
     rw[this];exact VR.TA _ _ _
   cases h
 cases h
theorem NW {els:List (List AV)} {sz:Nat} (hu:∀e∈els,e.length=sz) (l:Nat):(els.drop l).flatten=els.flatten.drop (l*sz):=by
 induction els generalizing l with
 |nil=>simp
 |cons e r ih=>
  cases l with
  |zero=>simp
  |succ l=>have he:e.length=sz:=hu e (by simp);rw[List.drop_succ_cons,ih (fun e he=>hu e (by simp[he])),Bo,Ds,Gc,<-he,List.drop_length_add_append]
theorem BG {els:List (List AV)} {sz:Nat} (hu:∀e∈els,e.length=sz) (l:Nat):(els.take l).flatten=els.flatten.take (l*sz):=by
 induction els generalizing l with
 |nil=>simp
 |cons e r ih=>
  cases l with
  |zero=>simp
  |succ l=>have he:e.length=sz:=hu e (by simp);rw[Cw,Bo,ih (fun e he=>hu e (by simp[he])),Bo,Ds,Gc,<-he,List.take_length_add_append]
theorem VR.Pw {G:Gh} {w:World} {sz:Nat} {els:List (List AV)} {b o':Nat} {us:Nat->Value} (hu:∀e∈els,e.length=sz)
 (h:∀j,j<els.flatten.length->G.fB b (o'+j)/\w.cell? ⟨b,o'+j,none⟩=some (us j)/\(els.flatten.getD j aC).one=true)
 (hv:∀j,j<els.flatten.length->VR G w (els.flatten.getD j aC) (us j)) (l n:Nat) (hn:l+n<=els.length) {tag cap:Nat}
 (ht:nq G tag b (o'+l*sz+n*sz) sz n cap):VR G w (.bH tag sz ((els.drop l).take n)) (.slice (some ⟨b,o'+l*sz,none⟩) n cap):=by
 have hu1:∀e∈els.drop l,e.length=sz:=fun e he=>hu e (Cy he);have hu2:∀e∈(els.drop l).take n,e.length=sz:=fun e he=>hu1 e (Bf he);have pI:((els.drop l).take n).flatten=(els.flatten.drop (l*sz)).take (n*sz):=by rw[BG hu1,NW hu]
 have hlen:((els.drop l).take n).length=n:=by simp;omega
 have aLk:=length_flatten hu;have hb:l*sz+n*sz<=els.flatten.length:=by rw[aLk,<-Ce];exact Cd _ hn
 have :=VR.bH (G:=G) (w:=w) tag sz ((els.drop l).take n) b (o'+l*sz) cap (fun j=>us (l*sz+j)) hu2 (fun j hj=>by
  rw[pI] at hj ⊢;simp only[Cb,Cv] at hj;rw[dT _ _ _ _ _ (by omega),Bd]
  exact h _ (by omega)) (fun j hj=>by
  rw[pI] at hj ⊢;simp only[Cb,Cv] at hj;rw[dT _ _ _ _ _ (by omega)]
  exact hv _ (by omega)) (by rw[hlen];exact ht)
 rwa [hlen] at this
theorem VR.nR {G:Gh} {w:World} (sz b o' cap:Nat) (tag:Nat) (ht:tag=0\/(tag=1/\cap=0)):VR G w (.bH tag sz []) (.slice (some ⟨b,o',none⟩) 0 cap):=
 VR.bH tag sz [] b o' cap (fun _=>undef) (fun e he=>by cases he) (fun j hj=>by simp at hj) (fun j hj=>by simp at hj) (by
  refine⟨Cs _,?_⟩
  rcases ht with rfl|⟨rfl,rfl⟩
  . trivial
  rfl)
theorem km {t e:TypeId} {sz:Nat} {x:Operand} {lo hi mx:Option Operand} {x':Arg} {Vp zL jv:Option Arg} (ho:o.op=.slice t x lo hi mx) (hx:aX g x=some x') (RB:kL g lo=some Vp)
 (gh:kL g hi=some zL) (hmx:kL g mx=some jv) (ht:kM P t=some (e,sz)):bT P g o (.Sx sz x' Vp zL jv):=by
 intro s a G H w v H' hw hs h;have vx:=aW hw hs hx;obtain⟨hu,jE⟩:=iE ht;simp only[cD] at h;split at h
 . rename_i l r m h1 h2 h3;have o1:=mB hw hs RB h1;have o2:=mB hw hs gh h2;have o3:=mB hw hs hmx h3;split at h
   . rename_i hms;simp only[Af,Ad] at h;obtain⟨v',h,rfl,rfl⟩:=h
     have fZ:∀(p:Option Addr) (len cap:Nat),a.eval x=.slice p len cap->l.getD 0<=r.getD len->(r.isSome->r.getD len<=m.getD cap)->m.getD cap<=cap->
      (execOp a.eval o).run P w=.ok (.value (.slice (if m.getD cap=l.getD 0 then p else p.map (·.add (l.getD 0*sz))) (r.getD len -l.getD 0) (m.getD cap -l.getD 0))) w:=by
      intro p len cap dC c1 c2 c3;have hb:=pB (P:=P) (isS:=true) (len:=len) (cap:=cap) o1 o2 o3 hms c1 c2 c3 w;simp only[execOp,ho,Instr.sliceAt,Sem.run_bind,run_underlying hu w,Result.andThen_ok,Instr.slice,dC,hb,dF jE w];rfl
     unfold lN at h;split at h
     . rename_i bZ;rw[bZ] at vx;generalize dC:a.eval x=u at vx;cases vx;split at h
       . rename_i hc;obtain⟨c1,c2,c3⟩:=hc;obtain rfl:=Aa h;have :=fZ none 0 0 dC (by omega) (fun _=>by rw[c2,c3];exact Ai _) (by rw[c3];exact Ai _);rw[c1,c2,c3] at this;exact bT.pure' hw this .aF
       cases h
     . rename_i tag dL els bZ;rw[bZ] at vx;generalize dC:a.eval x=u at vx
       cases vx with
       |bH _ _ _ b o' cap us AM hh hv oX=>
        have htl:=oX.1;simp only at h;split at h
        . rename_i hc;obtain⟨rfl,c1,c2⟩:=hc;have YR:=VR.Pw AM hh hv;split at h
          . rename_i m';split at h
            . rename_i Jj;obtain⟨c3,c4⟩:=Jj;obtain rfl:=Aa h;have :=fZ _ _ _ dC c1 (fun _=>by simpa using c3) (by simp;omega);simp only[Bb,Bi,gN] at this;refine bT.pure' hw this ?_;by_cases Pf:m'=l.getD 0
              . rw[if_pos Pf];have h0:r.getD els.length -l.getD 0=0:=(by omega);have YE:m' -l.getD 0=0:=(by omega);rw[h0,YE,Ew];exact VR.nR _ _ _ _ _ (by by_cases ia:m'=r.getD els.length<;>simp[ia])
              rw[if_neg Pf];refine YR _ _ (by omega) ⟨by omega,?_⟩;by_cases ia:m'=r.getD els.length
              . rw[if_pos ia];omega
              rw[if_neg ia];trivial
            cases h
          have LH:=fZ _ _ _ dC c1 (fun _=>by simp;omega) (by simp);simp only[Dd,Bi,gN] at LH;split at h
          . rename_i Jj;obtain⟨c3,c4⟩:=Jj;obtain rfl:=Aa h;rw[c3] at LH;refine bT.pure' hw LH ?_;by_cases Pb:cap=l.getD 0
            . rw[if_pos Pb];have h0:els.length -l.getD 0=0:=(by omega);have hd:els.drop (l.getD 0)=[]:=Io (by omega);rw[h0,hd]
              rcases c4 with c4|c4
              . omega
              match tag,c4,oX with
              |0,_,_=>exact VR.nR _ _ _ _ _ (.inl rfl)
              |1,_,oX=>exact VR.nR _ _ _ _ _ (.inr ⟨rfl,by omega⟩)
            rw[if_neg Pb];have hd:els.drop (l.getD 0)=(els.drop (l.getD 0)).take (els.length -l.getD 0):=(by rw[Bl];simp);rw[hd];refine YR _ _ (by omega) ⟨by omega,?_⟩;have h2:=oX.2
            have hmul:o'+l.getD 0*dL+(els.length -l.getD 0)*dL=o'+els.length*dL:=by rw[Bd,<-Ce];congr 2;omega
            match tag,h2,c4 with
            |0,_,_=>trivial
            |1,h2,_=>show cap -l.getD 0=els.length -l.getD 0;rw[h2]
            |k+2,⟨lc,h2,h3,h4,h5,h6⟩,_=>refine⟨lc,h2,h3,by rw[hmul];exact h4,h5,?_⟩;rw[h6];congr 1;omega
          obtain rfl:=Aa h;refine bT.pure' hw LH ?_;by_cases Pb:cap=l.getD 0
          . rw[if_pos Pb];have h0:r.getD els.length -l.getD 0=0:=(by omega);rw[h0,Ew];exact VR.nR _ _ _ _ _ (.inl rfl)
          rw[if_neg Pb];exact YR _ _ (by omega) ⟨by omega,trivial⟩
        cases h
       |rE _ _ b o' s' oX=>
        simp only[Ar] at h;split at h
        . rename_i hc;obtain⟨rfl,c1,c2⟩:=hc;have LG:l.getD 0=0:=(by omega);have LH:r.getD 0=0:=(by omega);split at h
          . rename_i m';split at h
            . rename_i Jj;obtain⟨c3,c4⟩:=Jj;obtain rfl:=Aa h;have Vl:m'=0:=(by omega);subst Vl;have :=fZ _ _ _ dC (by omega) (fun _=>by simpa using c3) (by simp);simp only[Bb,LG,LH,if_true,Gq] at this;refine bT.pure' hw this ?_;rw[Jg,List.take_nil];exact .rE _ _ _ _ _ (by split<;>omega)
            cases h
          have hr1:=fZ _ _ _ dC (by omega) (fun _=>by simp;omega) (by simp);simp only[Dd,LG,LH,if_true,Gq] at hr1;split at h
          . obtain rfl:=Aa h;refine bT.pure' hw hr1 ?_;rw[Jg];exact .rE _ _ _ _ _ oX
          obtain rfl:=Aa h;refine bT.pure' hw hr1 ?_;rw[Jg,List.take_nil];exact .rE _ _ _ _ _ (by omega)
        cases h
     . rename_i id dL off len cap bZ;rw[bZ] at vx;generalize dC:a.eval x=u at vx
       cases vx with
       |sl _ _ _ _ _ gQ lc hl hlen gU nE=>
        simp only at h;split at h
        . rename_i hc;obtain⟨rfl,c1⟩:=hc;have hcc:cap<=gQ:=(by omega);split at h
          . rename_i m';split at h
            . rename_i Jj;obtain⟨c3,c4⟩:=Jj;have :=fZ _ _ _ dC c1 (fun _=>by simpa using c3) (by simp;omega);simp only[Bb,Bi,gN] at this;split at h
              . rename_i Pf;obtain rfl:=Aa h;rw[if_pos Pf] at this;have h0:r.getD len -l.getD 0=0:=(by omega);have YE:m' -l.getD 0=0:=(by omega);rw[h0,YE] at this;exact bT.pure' hw this (.sl id dL off 0 0 0 lc hl (Ai _) (by have :off+cap*dL<=lc.OZ:=gU;omega) (.inl rfl))
              rename_i Pf;obtain rfl:=Aa h;rw[if_neg Pf,Bd] at this;refine bT.pure' hw this (.sl id dL (off+l.getD 0*dL) _ _ _ lc hl (by omega) ?_ (.inl rfl));have e1:off+l.getD 0*dL+(m' -l.getD 0)*dL=off+m'*dL:=(by rw[Bd,<-Ce];congr 2;omega);have e2:m'*dL<=cap*dL:=Cd _ c4;omega
            cases h
          split at h
          . rename_i c3;have :=fZ _ _ _ dC c1 (fun _=>by simp;omega) (by simp);simp only[Dd,Bi,gN] at this;split at h
            . rename_i hlc;obtain rfl:=Aa h;have h0:r.getD len -l.getD 0=0:=(by omega);rw[h0] at this;refine bT.pure' hw this ?_;split
              . exact VR.nR _ _ _ _ _ (.inl rfl)
              exact VR.nR _ _ _ _ _ (.inl rfl)
            rename_i hlc;obtain rfl:=Aa h;rw[if_neg (by omega),Bd] at this;have e1:off+l.getD 0*dL+(cap -l.getD 0)*dL=off+cap*dL:=(by rw[Bd,<-Ce];congr 2;omega);have e2:off+l.getD 0*dL+(gQ -l.getD 0)*dL=off+gQ*dL:=(by rw[Bd,<-Ce];congr 2;omega);refine bT.pure' hw this (.sl id dL (off+l.getD 0*dL) _ _ _ lc hl (by omega) (by omega) ?_)
            rcases nE with nE|⟨q1,q2,q3⟩
            . exact .inl (by omega)
            exact .inr ⟨by omega,by omega,by omega⟩
          cases h
        cases h
     cases h
   cases h
 cases h
theorem jM (sz:Nat):∀(n:Nat) (cs:List AV),n*sz<=cs.length->(eQ sz n cs).flatten=cs.take (n*sz)/\(eQ sz n cs).length=n/\∀e∈eQ sz n cs,e.length=sz
 |0,cs,_=>⟨by simp[eQ],rfl,fun e he=>by cases he⟩
 |n+1,cs,h=>by
  have hm:(n+1)*sz=sz+n*sz:=by rw[Ds];omega
  obtain⟨h1,h2,h3⟩:=jM sz n (cs.drop sz) (by simp;omega);refine⟨?_,by simp[eQ,h2],fun e he=>?_⟩
  . rw[eQ,Bo,h1,hm,Je]
  rcases Ah.1 he with rfl|he
  . simp;omega
  exact h3 e he
theorem Yu {t:TypeId} {n sz:Nat} {b:Bool} {x:Operand} {lo hi mx:Option Operand} {x':Arg} {Vp zL jv:Option Arg} (ho:o.op=.slice t x lo hi mx) (hx:aX g x=some x') (RB:kL g lo=some Vp)
 (gh:kL g hi=some zL) (hmx:kL g mx=some jv) (ht:vC P t=some (n,sz,b)):bT P g o (.yJ n sz x' Vp zL jv):=by
 intro s a G H w v H' hw hs h;have vx:=aW hw hs hx;obtain⟨e,hu,jE,hb⟩:=vD ht;simp only[cD] at h;split at h
 . rename_i l r m h1 h2 h3;have o1:=mB hw hs RB h1;have o2:=mB hw hs gh h2;have o3:=mB hw hs hmx h3;simp only[Af,Ad] at h;obtain⟨v',h,rfl,rfl⟩:=h;unfold kC at h;simp only at h;split at h
   . rename_i hc;obtain⟨c1,c2,c3,c4⟩:=hc;have Tn:=pB (P:=P) (isS:=false) (len:=n) (cap:=n) o1 o2 o3 c4 c1 (fun _=>c2) c3 w
     have fZ:∀bl o',a.eval x=.pointer (some ⟨bl,o',none⟩)->
      (execOp a.eval o).run P w=.ok (.value (.slice (some (if m.getD n=l.getD 0 then⟨bl,o',none⟩ else⟨bl,o'+l.getD 0*sz,none⟩)) (r.getD n -l.getD 0) (m.getD n -l.getD 0))) w:=by
      intro bl o' dC;simp only[execOp,ho,Instr.sliceAt,Sem.run_bind,run_underlying hu w,Result.andThen_ok,dC,Instr.sureAddr,Sem.run_pure,Tn,dF jE w,gN]
     split at h
     . rename_i id off bZ;rw[bZ] at vx;split at h
       . rename_i cs FW;obtain⟨dH,hg⟩:=aA.mO FW;split at h
         . rename_i gU;generalize dC:a.eval x=u at vx
           cases vx with
           |ref _ _ lc hl=>
            have aOx:=(hw.cells id lc cs dH hl hg).1;have LH:=fZ _ _ dC;split at h
            . rename_i Pf;obtain rfl:=Aa h;rw[if_pos Pf] at LH;have h0:r.getD n -l.getD 0=0:=(by omega);have YE:m.getD n -l.getD 0=0:=(by omega);rw[h0,YE] at LH;exact bT.pure' hw LH (.sl id sz off 0 0 0 lc hl (Ai _) (by omega) (.inl rfl))
            rename_i Pf;obtain rfl:=Aa h;rw[if_neg Pf,Bd] at LH;refine bT.pure' hw LH (.sl id sz (off+l.getD 0*sz) _ _ _ lc hl (by omega) ?_ (.inl rfl));have e1:off+l.getD 0*sz+(m.getD n -l.getD 0)*sz=off+m.getD n*sz:=(by rw[Bd,<-Ce];congr 2;omega);have e2:m.getD n*sz<=n*sz:=Cd _ c3;omega
         cases h
       cases h
     . rename_i cs bZ;rw[bZ] at vx;split at h
       . rename_i gU;obtain rfl:=Aa h;generalize dC:a.eval x=u at vx
         cases vx with
         |pl _ b' o' us hh hv=>
          have LH:=fZ _ _ dC;refine bT.pure' hw LH ?_;obtain⟨f1,f2,f3⟩:=jM sz n cs gU;by_cases Pf:m.getD n=l.getD 0
          . rw[if_pos Pf];have h0:r.getD n -l.getD 0=0:=(by omega);have YE:m.getD n -l.getD 0=0:=(by omega);rw[h0,YE,Ew];exact VR.nR _ _ _ _ _ (by by_cases ia:m.getD n=r.getD n<;>simp[ia])
          rw[if_neg Pf];refine VR.Pw (us:=us) f3 (fun j hj=>?_) (fun j hj=>?_) _ _ (by omega) ⟨by omega,?_⟩
          . rw[f1] at hj ⊢;simp at hj;rw[getD_take _ _ _ _ (by omega)];exact hh j (by omega)
          . rw[f1] at hj ⊢;simp at hj;rw[getD_take _ _ _ _ (by omega)];exact hv j (by omega)
          by_cases ia:m.getD n=r.getD n
          . rw[if_pos ia];omega
          rw[if_neg ia];trivial
       cases h
     cases h
   cases h
 cases h
theorem kl {t e:TypeId} {n:Nat} {x:Operand} {x':Arg} (ho:o.op=.sliceToArrayPointer t x) (hx:aX g x=some x') (ht:P.underlying t=some (.array n e)):bT P g o (.Sw n x'):=by
 intro s a G H w v H' hw hs h;have vx:=aW hw hs hx
 have fZ:∀(p:Option Addr) (len cap:Nat),a.eval x=.slice p len cap->n<=len->(execOp a.eval o).run P w=.ok (.value (.pointer p)) w:=by
  intro p len cap dC hle;have :¬len<n:=by omega
  simp[execOp,ho,Instr.arrayAt,run_underlying ht w,dC,this]
 simp only[cD] at h;split at h
 . rename_i tag sz els bZ;rw[bZ] at vx;generalize dC:a.eval x=u at vx
   cases vx with
   |bH _ _ _ b o' cap us AM hh hv oX=>
    split at h
    . rename_i hle;simp only[Ab,Ad] at h;obtain⟨rfl,rfl⟩:=h;exact bT.pure' hw (fZ _ _ _ dC hle.1) (.pl _ b o' us hh hv)
    cases h
   |rE=>simp at h
 . rename_i id sz off len cap bZ;rw[bZ] at vx;generalize dC:a.eval x=u at vx
   cases vx with
   |sl _ _ _ _ _ gQ lc hl hlen gU nE=>
    split at h
    . rename_i hle;simp only[Ab,Ad] at h;obtain⟨rfl,rfl⟩:=h;exact bT.pure' hw (fZ _ _ _ dC hle) (.ref id off lc hl)
    cases h
 cases h
end
end
section
theorem fJ.append {G:Gh} {w:World} {xs ys:List AV} {us vs:List Value} (h1:fJ G w xs us) (h2:fJ G w ys vs):fJ G w (xs++ys) (us++vs):=by
 have l1:=h1.1;have l2:=h2.1;refine⟨by simp[l1,l2],fun j hj=>?_⟩;simp at hj;rw[getD_eq,getD_eq,Cz,Cz];by_cases hc:j<xs.length
 . rw[if_pos hc,if_pos (by omega)];exact h1.2 j hc
 rw[if_neg hc,if_neg (by omega)];have :=h2.2 (j -xs.length) (by omega);rw[getD_eq,getD_eq] at this;rw[l1];exact this
theorem fJ.take {G:Gh} {w:World} {xs:List AV} {us:List Value} (h:fJ G w xs us) (n:Nat):fJ G w (xs.take n) (us.take n):=by have l:=h.1;refine⟨by simp[l],fun j hj=>?_⟩;simp only[Cb] at hj;rw[getD_take _ _ _ _ (by omega),getD_take _ _ _ _ (by omega)];exact h.2 j (by omega)
theorem lU (P:Program) {g:aT} {G:Gh} {H:aA} {w:World} (hw:WR g G H w) {sz:Nat} {x:AV} {u:Value} {ys:List (List AV)} (h:bJ H sz x=some ys) (hv:VR G w x u):
 (∀e∈ys,e.length=sz)/\(∀c∈ys.flatten,c.one=true)/\(Builtin.lenOf u).run P w=.ok ys.length w/\
 ∃vs:List Value,fJ G w ys.flatten vs/\∀n,n<=ys.length->(Builtin.firstCells sz n u).run P w=.ok (vs.take (n*sz)).toArray w:=by
 have aCf:∀{l:List AV},(∀j,j<l.length->(l.getD j aC).one=true)->∀c∈l,c.one=true:=fun {l} hl c hc=>by obtain⟨j,hj,rfl⟩:=Fy.1 hc;have :=hl j hj;simpa [getD_eq,Ac hj] using this
 have cells:∀{b o':Nat} {l:List AV},(∀j,j<l.length->∃v,w.cell? ⟨b,o'+j,none⟩=some v/\VR G w (l.getD j aC) v)->
  ∃vs:List Value,fJ G w l vs/\∀m,m<=l.length->(loadCells ⟨b,o',none⟩ m).run P w=.ok (vs.take m).toArray w:=fun {b o' l} hc=>by
  obtain⟨us,h1,h2,h3⟩:=JD hc;refine⟨us,⟨h1,h3⟩,fun m hm=>?_⟩
  have :=qU P w b o' (us.take m) (fun j hj=>by
   simp at hj;rw[getD_take _ _ _ _ (by omega)]
   exact h2 j (by omega))
  rwa [show(us.take m).length=m by simp;omega] at this
 cases hv with
 |aF=>obtain rfl:=Aa h;refine⟨fun e he=>(by cases he),fun c hc=>(by simp at hc),rfl,[],fJ.nil G w,fun n hn=>?_⟩;simp[Builtin.firstCells]
 |bH tag dL els b o' cap us AM hh hvv oX=>
  simp only[bJ] at h;split at h
  . rename_i hs;subst hs;obtain rfl:=Aa h;obtain⟨vs,h1,h2⟩:=cells (l:=els.flatten) (b:=b) (o':=o') (fun j hj=>⟨us j,(hh j hj).2.1,hvv j hj⟩);refine⟨AM,aCf fun j hj=>(hh j hj).2.2,rfl,vs,h1,fun n hn=>?_⟩;have :=h2 (n*dL) (by rw[length_flatten AM];exact Cd _ hn);simpa [Builtin.firstCells] using this
  cases h
 |rE tag dL b o' s' oX=>
  simp only[bJ] at h;split at h
  . obtain rfl:=Aa h;refine⟨fun e he=>(by cases he),fun c hc=>(by simp at hc),rfl,[],fJ.nil G w,fun n hn=>?_⟩;obtain rfl:n=0:=by simpa using hn
    simp[Builtin.firstCells,loadCells,loadCellsFrom]
  cases h
 |str str=>
  simp only[bJ] at h;split at h
  . rename_i hs;subst hs;obtain rfl:=Aa h
    have pI:(RE str.data.toList).flatten=str.data.toList.map fun b=>AV.int .u8 b.toNat:=by
     unfold RE
     induction str.data.toList with
     |nil=>rfl
     |cons b r ih=>simp[ih]
    refine⟨fun e he=>?_,fun c hc=>?_,?_,str.data.toList.map fun b=>.int .u8 b.toNat,?_,fun n hn=>?_⟩
    . simp only[RE,Bq] at he;obtain⟨b,_,rfl⟩:=he;rfl
    . rw[pI] at hc;simp only[Bq] at hc;obtain⟨b,_,rfl⟩:=hc;rfl
    . have :str.size=(RE str.data.toList).length:=(by rw[RE,Ax,Cm];rfl);simp only[Builtin.lenOf,this];rfl
    . rw[pI];refine⟨by simp,fun j hj=>?_⟩;simp at hj;simp only[getD_eq,Cj,Ac (show j<str.data.toList.length by simpa using hj),Bi,Bb];exact .int _ _
    simp only[Builtin.firstCells,Dk]
    have :((str.extract 0 n).data.map fun b=>(Value.int .u8 b.toNat))=((str.data.toList.map fun b=>Value.int .u8 b.toNat).take n).toArray:=by apply Dv;simp[ByteArray.data_extract,Gf]
    rw[<-this];rfl
  cases h
 |sl id dL off len cap gQ l hl hlen gU nE=>
  simp only[bJ] at h;split at h
  . rename_i hs;subst hs;split at h
    . rename_i cs FW;obtain⟨dH,hg⟩:=aA.mO FW;split at h
      . rename_i hle;obtain rfl:=Aa h;obtain⟨f1,f2,f3⟩:=jM dL len (cs.drop off) (by simp;omega);have tP:=(hw.cells id l cs dH hl hg).2.2.2.1
        obtain⟨vs,h1,h2⟩:=cells (l:=(cs.drop off).take (len*dL)) (b:=l.cC) (o':=l.base+off) (fun j hj=>by
         simp at hj
         exact ET hw hl hg hle j (by omega))
        refine⟨f3,?_,by simp[Builtin.lenOf,f2],vs,by rw[f1];exact h1,fun n hn=>?_⟩
        . rw[f1];exact fun c hc=>tP c (Cy (Bf hc))
        rw[f2] at hn;have e2:n*dL<=len*dL:=Cd _ hn;have :=h2 (n*dL) (by simp;omega);simpa [Builtin.firstCells] using this
      cases h
    cases h
  cases h
 |_=>simp[bJ] at h
theorem ML (Np:Nat):∀(r c:Nat),Builtin.growBy Np r c<=max c (Np+(Np+768) / 4)
 |0,c=>Nat.le_max_left _ _
 |r+1,c=>by
  simp only[Builtin.growBy];split
  . exact Nat.le_max_left _ _
  have :=ML Np r (c+(c+768) / 4);omega
theorem nextslicecap_le {need cap:Nat} (h:cap<need):Builtin.nextslicecap need cap<=2*need+192:=by
 unfold Builtin.nextslicecap;split
 . omega
 split
 . omega
 have :=ML need 4 cap;omega
def EC (w:World) (o:Go.Obj):World:={w with heap:=w.heap.push o,drawn:=w.drawn+1}
section
variable {P:Program}
theorem rJ {elem:TypeId} {i:TypeInfo} (h:P.info? elem=some i) (w:World):(typeInfo elem).run P w=.ok i w:=by simp[typeInfo,program,Sem.run,h]
theorem nB {w:World} {t t2 elem ty:TypeId} {d:TypeDesc} {sz n sLen sCap:Nat} {base:Option Addr} {u:Value} {vs:List Value} (ht:P.underlying t=some (.slice elem)) (jE:hZ P elem=some sz)
 (h2:P.underlying t2=some d) (hd:∀k,d≠ .int k) (hlen:(Builtin.lenOf u).run P w=.ok n w) (hf:(Builtin.firstCells sz n u).run P w=.ok vs.toArray w) (YK:sLen+n<=sCap):
 (Builtin.append_ #[t,t2] ty #[.slice base sLen sCap,u]).run P w=
   ((match base with|some a=>storeCells (a.add (sLen*sz)) vs|none=>pure ():Sem Unit).run P w).andThen fun _ w'=>.ok (.slice base (sLen+n) sCap) w':=by
 have hz:(match d with|.int _=>true|_=>false)=false:=by cases d<;>first|rfl|exact absurd rfl (hd _)
 unfold Builtin.append_;simp only[De,Fj,Df,Sem.run_bind,run_underlying ht w,run_underlying h2 w,dF jE w,Result.andThen_ok,Sem.run_pure,hz,Ay,Bu,hlen,if_pos YK,Ga,if_true,hf];cases base<;>simp
theorem wJ {need CL:Nat} {e:TypeId} (w:World):∃c,need<=c/\(choose (.appendCap need CL e)).run P w=.ok c {w with drawn:=w.drawn+1}:=
 ⟨need+(w.tape w.drawn (.appendCap need CL e))%(2^63 -need),by omega,by simp[choose,Sem.run,Question.forced,Question.cut]⟩
theorem run_askRoom (n:Nat) (w:World):(askRoom n).run P w=.ok () w:=by unfold askRoom;split<;>rfl
theorem run_append_grow {w:World} {t t2 elem ty:TypeId} {d:TypeDesc} {i:TypeInfo} {sz n sLen sCap:Nat} {base:Option Addr} {u z:Value} {os vs:List Value} (ht:P.underlying t=some (.slice elem)) (jE:hZ P elem=some sz)
 (h2:P.underlying t2=some d) (hd:∀k,d≠ .int k) (hi:P.info? elem=some i) (Ji:1<=i.bytes) (hz:jC P elem=some z) (zT:z.cells.size=sz) (hlen:(Builtin.lenOf u).run P w=.ok n w)
 (ho:(Builtin.firstCells sz sLen (.slice base sLen sCap)).run P {w with drawn:=w.drawn+1}=.ok os.toArray {w with drawn:=w.drawn+1})
 (hf:(Builtin.firstCells sz n u).run P {w with drawn:=w.drawn+1}=.ok vs.toArray {w with drawn:=w.drawn+1}) (YK:¬sLen+n<=sCap) (zK:(sLen+n)*i.bytes<=2^40):
 ∃cap rest,sLen+n<=cap/\rest.length=(cap -(sLen+n))*sz/\
  (Builtin.append_ #[t,t2] ty #[.slice base sLen sCap,u]).run P w=.ok (.slice (some ⟨w.heap.size,0,none⟩) (sLen+n) cap) (EC w (.cells (os++vs++rest).toArray elem)):=by
 have hz':(match d with|.int _=>true|_=>false)=false:=by cases d<;>first|rfl|exact absurd rfl (hd _)
 obtain⟨cap,YJ,Jj⟩:=wJ (P:=P) (need:=sLen+n) (CL:=sCap) (e:=elem) w;have qH:¬((((sLen+n:Nat):Int)>IntKind.i64.max)/\(False\/i.bytes=0)):=fun hh=>hh.2.elim id (fun h0=>by omega);have hns:=nextslicecap_le (need:=sLen+n) (cap:=sCap) (by omega)
 have FX:sLen+n<=2^40:=by have :(sLen+n)*1<=(sLen+n)*i.bytes:=Eo _ Ji;omega
 have hmul:Builtin.nextslicecap (sLen+n) sCap*i.bytes<=(2*(sLen+n)+192)*i.bytes:=Cd _ hns;have aOm:(2*(sLen+n)+192)*i.bytes=2*((sLen+n)*i.bytes)+192*i.bytes:=by rw[Ce,Fp]
 have hib:i.bytes<=(sLen+n)*i.bytes:=Nat.le_mul_of_pos_left _ (by omega);have SE:¬Builtin.nextslicecap (sLen+n) sCap*i.bytes>2^48:=by omega
 refine⟨cap,(Builtin.zeroCells z.cells (cap -(sLen+n))).toList,YJ,by simp[Builtin.zeroCells,zT],?_⟩;unfold Builtin.append_;simp only[De,Fj,Df,Sem.run_bind,run_underlying ht w,run_underlying h2 w,dF jE w,Result.andThen_ok,Sem.run_pure,hz',Ay,Bu,hlen,if_neg YK,Ga,if_true,rJ hi w,if_neg qH,if_neg SE,Jj,rJ hi {w with drawn:=w.drawn+1},run_askRoom,ho,hf,iT hz {w with drawn:=w.drawn+1}]
 have he:os.toArray++vs.toArray++Builtin.zeroCells z.cells (cap -(sLen+n))=(os++vs++(Builtin.zeroCells z.cells (cap -(sLen+n))).toList).toArray:=by apply Dv;simp
 rw[he];rfl
theorem LR (w:World) (o:Go.Obj):fO w (EC w o) o:=⟨rfl,.now⟩
theorem SZ {g:aT} {G:Gh} {H:aA} {w:World} (hw:WR g G H w) (mu:Bool) {sz:Nat} {els:List (List AV)} {vs rest:List Value} {e:TypeId} {cap:Nat}
 (hu:∀x∈els,x.length=sz) (h1:∀c∈els.flatten,c.one=true) (hv:fJ G w els.flatten vs) (nE:els.length<=cap) (Pj:rest.length=(cap -els.length)*sz):
 ∃G',WR g G' (iK H mu sz els).2 (EC w (.cells (vs++rest).toArray e))/\Ext G H w G' (iK H mu sz els).2 (EC w (.cells (vs++rest).toArray e))/\
  VR G' (EC w (.cells (vs++rest).toArray e)) (iK H mu sz els).1 (.slice (some ⟨w.heap.size,0,none⟩) els.length cap):=by
 have hp:=LR w (.cells (vs++rest).toArray e);have pI:=length_flatten hu;have iv:=hv.1;have hmul:els.length*sz+(cap -els.length)*sz=cap*sz:=by rw[<-Ce];congr 1;omega
 cases mu with
 |true=>
  obtain⟨r1,r2⟩:=hw.lh els.flatten vs rest hv h1 true (fun h=>by cases h) (Clear.zero _) hp;refine⟨_,r1,r2,?_⟩
  have :=VR.sl (G:=G.dA H.next ⟨w.heap.size,0,els.flatten.length,(vs++rest).length⟩) (w:=EC w (.cells (vs++rest).toArray e)) H.next sz 0 els.length els.length cap
   ⟨w.heap.size,0,els.flatten.length,(vs++rest).length⟩ (by simp only[Gh.dA,if_true]) (Ai _) (by simp only[pI];omega)
   (.inr ⟨by simp only[pI];omega,nE,by simp only[Ag,iv,pI,Pj];omega⟩)
  exact this
 |false=>obtain⟨G',hl,r1,r2,r3⟩:=hw.lj els.flatten vs rest hv (Clear.zero _) hp;refine⟨G',r1,r2,?_⟩;refine VR.bH (H.next+2) sz els w.heap.size 0 cap (fun j=>vs.getD j undef) hu (fun j hj=>⟨(r3 j hj).1,(r3 j hj).2.1,h1 _ (CH hj)⟩) (fun j hj=>(r3 j hj).2.2) ⟨nE,?_⟩;exact⟨_,hl,rfl,by simp only[pI];omega,rfl,Pj⟩
theorem WR.drew {g:aT} {G:Gh} {H:aA} {w:World} (h:WR g G H w):WR g G H {w with drawn:=w.drawn+1}:=h.of_heap rfl
theorem VR.drew {G:Gh} {w:World} {a:AV} {u:Value} (h:VR G w a u):VR G {w with drawn:=w.drawn+1} a u:=
 h.mono (fun _ _ h=>h) (fun b o hi=>⟨hi,rfl⟩)
theorem Vu {g:aT} {o:Oper} {c:Call} {x y:Operand} {x' y':Arg} {t t2 elem:TypeId} {d:TypeDesc} {i:TypeInfo} {z:Value} {sz:Nat} {mu:Bool} (ho:o.op=.call c) (hc:c.callee=.builtin .append) (ha:c.args= #[x,y])
 (hx:aX g x=some x') (hy:aX g y=some y') (LU:c.argTypes= #[t,t2]) (ht:P.underlying t=some (.slice elem)) (jE:hZ P elem=some sz) (h2:P.underlying t2=some d) (hd:∀k,d≠ .int k)
 (hi:P.info? elem=some i) (Ji:1<=i.bytes) (hz:jC P elem=some z) (zT:z.cells.size=sz):bT P g o (.append sz i.bytes mu x' y'):=by
 intro s a G H w v H' hw hs h;have vx:=aW hw hs hx;have vy:=aW hw hs hy;simp only[cD] at h;split at h
 . rename_i ys HR;obtain⟨yu,y1,OQ,yK,yv,yf⟩:=lU P hw HR vy;have yf0:=yf ys.length (Ai _);obtain⟨_,_,_,nf,yv',yf'⟩:=lU P hw.drew HR vy.drew;have tt:=length_flatten yu;have ye:∀{m:Nat} {l:List Value},l.length=m->l.take m=l:=fun {m l} hl=>by rw[Bl (by omega)]
   have mz:(Builtin.firstCells sz ys.length (a.eval y)).run P w=.ok yK.toArray w:=by rw[yf0,ye (by rw[yv.1,tt])]
   have aOk:(Builtin.firstCells sz ys.length (a.eval y)).run P {w with drawn:=w.drawn+1}=.ok nf.toArray {w with drawn:=w.drawn+1}:=by rw[yf' ys.length (Ai _),ye (by rw[yv'.1,tt])]
   have yvw:fJ G w ys.flatten nf:=⟨yv'.1,fun j hj=>(yv'.2 j hj).mono (fun _ _ h=>h) (fun b o hi=>⟨hi,rfl⟩)⟩
   have eK:∀{p:Option Addr} {sl sc:Nat} {r:Value} {w':World},a.eval x=.slice p sl sc->(Builtin.append_ #[t,t2] o.type #[.slice p sl sc,a.eval y]).run P w=.ok r w'->(execOp a.eval o).run P w=.ok (.value r) w':=by intro p sl sc r w' dC hr;simp[execOp,ho,resolve,hc,ha,LU,invoke,builtin,dC,hr]
   have Tw:ys=[]->∀{p:Option Addr} {sl sc:Nat},a.eval x=.slice p sl sc->sl<=sc->(execOp a.eval o).run P w=.ok (.value (.slice p sl sc)) w:=by intro Jq p sl sc dC hle;subst Jq;have bb:yK=[]:=(by have :=yv.1;simpa using this);subst bb;refine eK dC ?_;have :=nB (P:=P) (ty:=o.type) (base:=p) (sLen:=sl) (sCap:=sc) ht jE h2 hd OQ mz (by simpa using hle);rw[this];cases p<;>rfl
   have MO:∀(mu:Bool) {p:Option Addr} {sl sc:Nat} {els:List (List AV)} {os:List Value} {G0:Gh} {H0:aA},WR g G0 H0 w->Ext G H w G0 H0 w->a.eval x=.slice p sl sc->els.length=sl->(∀e∈els,e.length=sz)->(∀c∈els.flatten,c.one=true)->
    fJ G0 w els.flatten os->(Builtin.firstCells sz sl (.slice p sl sc)).run P {w with drawn:=w.drawn+1}=.ok os.toArray {w with drawn:=w.drawn+1}->¬sl+ys.length<=sc->(sl+ys.length)*i.bytes<=2^40->
    ∃n u w' G',(execOp a.eval o).run P w=.ok n w'/\Lj n u/\WR g G' (iK H0 mu sz (els++ys)).2 w'/\Ext G H w G' (iK H0 mu sz (els++ys)).2 w'/\VR G' w' (iK H0 mu sz (els++ys)).1 u:=by
    intro mu p sl sc els os G0 H0 hw0 he0 dC hl hu h1 hv hf ie zK;obtain⟨cap,rest,c1,c2,hr⟩:=run_append_grow (P:=P) (ty:=o.type) ht jE h2 hd hi Ji hz zT OQ hf aOk ie zK;have aLn:fJ G0 w ys.flatten nf:=yvw.ext he0
    obtain⟨G',r1,r2,r3⟩:=SZ hw0 mu (sz:=sz) (els:=els++ys) (vs:=os++nf) (rest:=rest) (e:=elem) (cap:=cap)
     (fun e he=>(Az.1 he).elim (hu e) (yu e)) (fun c hc=>by rw[Dw] at hc;exact(Az.1 hc).elim (h1 c) (y1 c)) (by rw[Dw];exact hv.append aLn)
     (by simp[hl];exact c1) (by simp[hl];exact c2)
    refine⟨_,_,_,G',eK dC hr,.inl rfl,r1,he0.trans r2,?_⟩;have hlen:(els++ys).length=sl+ys.length:=(by simp[hl]);rw[hlen] at r3;exact r3
   unfold cV at h;split at h
   . rename_i aAs;have Jq:ys=[]:=by simpa using aAs
     have fin:∀{p:Option Addr} {sl sc:Nat} {va:AV},a.eval x=.slice p sl sc->sl<=sc->VR G w va (.slice p sl sc)->
      ∃n u w' G',(execOp a.eval o).run P w=.ok n w'/\Lj n u/\WR g G' H w'/\Ext G H w G' H w'/\VR G' w' va u:=
      fun dC hle hva=>bT.pure' hw (Tw Jq dC hle) hva
     have vx0:=vx;split at h
     . rename_i bZ;simp only[Ab,Ad] at h;obtain⟨rfl,rfl⟩:=h;rw[bZ] at vx;generalize dC:a.eval x=u at vx vx0;cases vx;exact fin dC (Ai _) vx0
     . rename_i bZ;simp only[Ab,Ad] at h;obtain⟨rfl,rfl⟩:=h;rw[bZ] at vx;generalize dC:a.eval x=u at vx vx0
       cases vx with
       |bH _ _ _ _ _ _ _ _ _ _ oX=>exact fin dC oX.1 vx0
       |rE=>exact fin dC (Ai _) vx0
     . rename_i bZ;simp only[Ab,Ad] at h;obtain⟨rfl,rfl⟩:=h;rw[bZ] at vx;generalize dC:a.eval x=u at vx vx0
       cases vx with
       |sl _ _ _ _ _ _ _ _ hlen _ nE=>exact fin dC (by omega) vx0
     cases h
   rename_i aAs
   have aOn:1<=ys.length:=by
    cases ys with
    |nil=>simp at aAs
    |cons _ _=>simp
   split at h
   . rename_i bZ;rw[bZ] at vx;generalize dC:a.eval x=u at vx;cases vx;split at h
     . rename_i zK;simp only[Ab] at h;have :=MO mu (els:=[]) (os:=[]) hw (Ext.refl G H w) dC rfl (fun e he=>by cases he) (fun c hc=>by simp at hc) (fJ.nil G w) (by simp[Builtin.firstCells]) (by omega) (by simpa using zK);simp only[Cg] at this;rw[h] at this;exact this
     cases h
   . rename_i tag dL els bZ;rw[bZ] at vx;split at h
     . rename_i hc;obtain⟨rfl,zK⟩:=hc;generalize dC:a.eval x=u at vx;obtain⟨eu,e1,_,DW,ev',fe⟩:=lU P hw.drew (sz:=dL) (x:=.bH tag dL els) (ys:=els) (by simp[bJ]) vx.drew;have evw:fJ G w els.flatten DW:=⟨ev'.1,fun j hj=>(ev'.2 j hj).mono (fun _ _ h=>h) (fun b o hi=>⟨hi,rfl⟩)⟩;have og:=length_flatten eu
       have ef1:∀{q:Value},q=u->(Builtin.firstCells dL els.length q).run P {w with drawn:=w.drawn+1}=.ok DW.toArray {w with drawn:=w.drawn+1}:=fun hq=>by rw[hq,fe els.length (Ai _),ye (by rw[ev'.1,og])]
       cases vx with
       |rE _ _ b o' s' oX=>
        match tag,h,oX with
        |0,h,_=>cases h
        |1,h,_=>simp only[Ab] at h;have :=MO mu (els:=[]) (os:=DW) hw (Ext.refl G H w) dC rfl eu e1 evw (ef1 rfl) (by omega) zK;rw[h] at this;exact this
       |bH _ _ _ b o' cap us AM hh hv oX=>
        match tag,h,oX with
        |0,h,_=>cases h
        |1,h,oX=>simp only[Ab] at h;have Pb:cap=els.length:=oX.2;have :=MO mu (els:=els) (os:=DW) hw (Ext.refl G H w) dC rfl eu e1 evw (ef1 rfl) (by omega) zK;rw[h] at this;exact this
        |k+2,h,oX=>
         obtain⟨l,t1,Wx,t3,t4,t5⟩:=oX.2;have hle:=oX.1;simp only at h;split at h
         . rename_i hgk;simp only[Ab,Ad] at h;obtain⟨rfl,rfl⟩:=h;have iY:H.live k:=⟨_,hgk,rfl⟩;have hk:=hw.kill k;have Qy:=(Ext.refl G H w).kill k;by_cases sH:els.length+ys.length<=cap
           ·
            obtain⟨ca,el,fz,q1,q2,q3⟩:=hw.room k l t1 (.inr hgk)
            have Pf:ys.length*dL+(cap -els.length -ys.length)*dL=l.ext:=by rw[t5,<-Ce];congr 1;omega
            have yvl:yK.length=ys.length*dL:=(by rw[yv.1,tt]);have Nh:∀j,j<yK.length->j<l.ext:=fun j hj=>by omega
            obtain⟨w',hr,hu⟩:=dV P b (o'+els.length*dL) yK 0 w ⟨ca,el,fz,by rw[<-Wx];exact q1,by omega⟩
             (fun j hj=>by rw[Cp,<-t3,<-Wx];exact q3 j (Nh j hj)) (mA yv y1)
            rw[Cp] at hu
            have mS:∀j,j<yK.length->¬G.fB b (o'+els.length*dL+j):=fun j hj=>by rw[<-t3,<-Wx];exact hw.gW k l t1 iY j (Nh j hj)
            have rD:∀id l',G.loc id=some l'->(H.set k .dead).live id->l.cC≠l'.cC\/l.base+l.ext<=l'.base\/l'.base+l'.ext<=l.base:=fun id l' lY kA=>by
             rcases aA.iP.1 kA with ⟨_,hh⟩|⟨cF,kA⟩
             . cases hh
             exact hw.iN k id l l' (Ne.symm cF) t1 lY iY kA
            have uS:=hk.write hu mS (fun id l' lY kA=>by
             rcases rD id l' lY kA with oU|oU|oU
             . exact .inl (by rw[<-Wx];exact Ne.symm oU)
             . exact .inr (.inr (by omega))
             exact .inr (.inl (by omega))) ⟨ca,el,fz,by rw[<-Wx];exact q1⟩
            have hblk:w.heap.size<=b\/∃dN l0,G.loc dN=some l0/\H.live dN/\l0.cC=b:=.inr ⟨k,l,t1,iY,Wx⟩;have OT:=Qy.write hu mS hw.fU hblk;obtain⟨ca',u1,u2,u3,u4⟩:=hu.row ca el fz (by rw[<-Wx];exact q1)
            have Tv:∀j,j<yK.length->w'.cell? ⟨b,o'+els.length*dL+j,none⟩=some (yK.getD j undef):=fun j hj=>by rw[jL u1];exact u4 j hj (by have :=Nh j hj;omega)
            have qI:=uS.lG b (o'+els.length*dL) yK.length (fun j hj=>⟨_,Tv j hj⟩) (fun id l' lY kA=>by
             rcases rD id l' lY kA with oU|oU|oU
             . exact .inl (by rw[<-Wx];exact Ne.symm oU)
             . exact .inr (.inr (by omega))
             exact .inr (.inl (by omega)))
            have OU:=OT.lG b (o'+els.length*dL) yK.length hblk;have Vj:=OU.IX .tok ⟨b,o'+els.length*dL+yK.length,0,l.ext -yK.length⟩ qI.lt hblk
            have ba:=qI.IX .tok ⟨b,o'+els.length*dL+yK.length,0,l.ext -yK.length⟩ (fun id l' lY kA=>by
             rcases rD id l' lY kA with oU|oU|oU
             . exact .inl (by rw[<-Wx];exact oU)
             . exact .inr (.inl (by simp only;omega))
             . exact .inr (.inr (by simp only;omega))) (fun j hj hi=>by
             simp only at hj hi
             rcases hi with hi|⟨_,_,hi⟩
             . have :=hw.gW k l t1 iY (yK.length+j) (by omega);rw[Wx,t3,<-Bd] at this;exact this hi
             . omega) (fun vI Yz sG=>by cases sG) (fun _=>⟨ca',el,fz,u1,by simp only;omega,fun j hj=>by
             simp only at hj ⊢;rw[hu.frozen (by rw[<-Wx];exact q1)];have :=q3 (yK.length+j) (by omega);rw[Wx,t3,<-Bd] at this
             exact this⟩) (fun sG=>by cases sG)
            refine⟨.value (.slice (some ⟨b,o',none⟩) (els.length+ys.length) cap),.slice (some ⟨b,o',none⟩) (els.length+ys.length) cap,w',_,eK dC ?_,.inl rfl,ba,Vj,?_⟩
            . have :=nB (P:=P) (ty:=o.type) (base:=some ⟨b,o',none⟩) (sLen:=els.length) (sCap:=cap) ht jE h2 hd OQ mz sH;rw[this];simp only[gN,hr,Result.andThen_ok]
            have hlen:(els++ys).length=els.length+ys.length:=(by simp);rw[<-hlen]
            have hga:∀j,(els.flatten++ys.flatten).getD j aC=if j<els.flatten.length then els.flatten.getD j aC else ys.flatten.getD (j -els.flatten.length) aC:=fun j=>by rw[getD_eq,Cz];split<;>rfl
            refine VR.bH (H.next+2) dL (els++ys) b o' cap (fun j=>if j<els.flatten.length then us j else yK.getD (j -els.flatten.length) undef)
             (fun e he=>(Az.1 he).elim (eu e) (yu e)) (fun j hj=>?_) (fun j hj=>?_) ⟨by simp;exact sH,?_⟩
            . rw[Dw] at hj ⊢;rw[hga];by_cases EE:j<els.flatten.length
              . rw[if_pos EE,if_pos EE];have :=hh j EE;refine⟨(Vj.fB _ _ this.1).1,by rw[(Vj.fB _ _ this.1).2];exact this.2.1,this.2.2⟩
              rw[if_neg EE,if_neg EE];simp only[Ag] at hj;have Jo:j -els.flatten.length<yK.length:=(by rw[yv.1];omega);have EG:o'+j=o'+els.length*dL+(j -els.flatten.length):=(by rw[og] at EE ⊢;omega);refine⟨.inr ⟨rfl,by omega,by omega⟩,by rw[EG];exact Tv _ Jo,?_⟩;exact y1 _ (CH (by rw[<-yv.1];exact Jo))
            . rw[Dw] at hj ⊢;rw[hga];by_cases EE:j<els.flatten.length
              . rw[if_pos EE,if_pos EE];exact(hv j EE).ext Vj
              rw[if_neg EE,if_neg EE];simp only[Ag] at hj;exact(yv.2 (j -els.flatten.length) (by omega)).ext Vj
            refine⟨⟨b,o'+els.length*dL+yK.length,0,l.ext -yK.length⟩,by simp only[Gh.dA,aA.bD,if_true],rfl,?_,rfl,?_⟩
            . simp only[hlen,Ce];omega
            simp only[hlen];rw[yvl,<-Pf,Nat.add_sub_cancel_left];congr 1;omega
           exact MO false (els:=els) (os:=DW) hk Qy dC rfl eu e1 evw (ef1 rfl) sH zK
         cases h
     cases h
   . rename_i id dL off len cap bZ;rw[bZ] at vx;split at h
     . rename_i hc;obtain⟨rfl,zK,aBf⟩:=hc;split at h
       . rename_i cs dH hg;generalize dC:a.eval x=u at vx
         cases vx with
         |sl _ _ _ _ _ gQ l hl hlen gU nE=>
          obtain⟨a1,a2,a3,a4,a5⟩:=hw.cells id l cs dH hl hg;obtain⟨ca,el,fz,b1,b2,b3⟩:=hw.room id l hl (.inl ⟨cs,dH,hg⟩);split at h
          . rename_i sH;split at h
            . rename_i aOr;simp only[Ab,Ad] at h;obtain⟨rfl,rfl⟩:=h;have yvl:yK.length=ys.length*dL:=(by rw[yv.1,tt]);have hm1:len*dL+ys.length*dL<=cap*dL:=by rw[<-Ce];exact Cd _ sH
              obtain⟨w',hr,hu⟩:=dV P l.cC (l.base+off+len*dL) yK 0 w ⟨ca,el,fz,b1,by omega⟩
               (fun j hj=>by rw[Cp,Bd,Bd];exact b3 (off+(len*dL+j)) (by omega)) (mA yv y1)
              rw[Cp,Bd] at hu;obtain⟨r1,r2⟩:=hw.store hl hg yv y1 (by rw[tt];omega) hu;refine⟨.value (.slice (some ⟨l.cC,l.base+off,none⟩) (len+ys.length) gQ),.slice (some ⟨l.cC,l.base+off,none⟩) (len+ys.length) gQ,w',G,eK dC ?_,.inl rfl,r1,r2,VR.sl id dL off (len+ys.length) cap gQ l hl sH gU nE⟩;have :=nB (P:=P) (ty:=o.type) (base:=some ⟨l.cC,l.base+off,none⟩) (sLen:=len) (sCap:=gQ) ht jE h2 hd OQ mz (by omega);rw[this];simp only[gN,hr,Result.andThen_ok]
            cases h
          rename_i sH;split at h
          . rename_i Jj;obtain⟨c1,c2⟩:=Jj
            have aAt:gQ=cap:=by
             rcases nE with nE|⟨p1,p2,p3⟩
             . exact nE
             rcases c2 with c2|c2
             . have :=a3 c2;have hms:gQ*dL=cap*dL:=(by omega);exact Nat.eq_of_mul_eq_mul_right aBf hms
             omega
            subst aAt
            obtain⟨eu,e1,_,DW,ev',fe⟩:=lU P hw.drew (sz:=dL) (x:=.sl id dL off len gQ) (ys:=eQ dL len (cs.drop off)) (by
             have hca:H.eB id=some cs:=by simp[aA.eB,hg]
             simp[bJ,hca,c1]) (VR.sl id dL off len gQ gQ l hl hlen gU nE:VR G w _ _).drew
            have evw:fJ G w (eQ dL len (cs.drop off)).flatten DW:=⟨ev'.1,fun j hj=>(ev'.2 j hj).mono (fun _ _ h=>h) (fun b o hi=>⟨hi,rfl⟩)⟩;obtain⟨f1,f2,f3⟩:=jM dL len (cs.drop off) (by simp;omega);have og:=length_flatten eu
            have ef1:(Builtin.firstCells dL len (.slice (some ⟨l.cC,l.base+off,none⟩) len gQ)).run P {w with drawn:=w.drawn+1}=.ok DW.toArray {w with drawn:=w.drawn+1}:=by rw[fe len (by omega),ye (by rw[ev'.1,og,f2])]
            simp only[Ab] at h;have :=MO mu (els:=eQ dL len (cs.drop off)) (os:=DW) hw (Ext.refl G H w) dC f2 eu e1 evw ef1 (by omega) zK;rw[h] at this;exact this
          split at h
          . rename_i hc3;obtain⟨hmu,aLb,hlc,FW⟩:=hc3;subst hmu aLb hlc;simp only[Ab,Ad] at h;obtain⟨rfl,rfl⟩:=h
            obtain⟨eu,e1,_,DW,ev',fe⟩:=lU P hw.drew (sz:=dL) (x:=.sl id dL 0 len len) (ys:=eQ dL len (cs.drop 0)) (by
             have hca:H.eB id=some cs:=by simp[aA.eB,hg]
             simp[bJ,hca,FW]) (VR.sl id dL 0 len len gQ l hl hlen gU nE:VR G w _ _).drew
            have evw:fJ G w (eQ dL len (cs.drop 0)).flatten DW:=⟨ev'.1,fun j hj=>(ev'.2 j hj).mono (fun _ _ h=>h) (fun b o hi=>⟨hi,rfl⟩)⟩;obtain⟨f1,f2,f3⟩:=jM dL len (cs.drop 0) (by simp;omega);have og:=length_flatten eu
            have ef1:(Builtin.firstCells dL len (.slice (some ⟨l.cC,l.base+0,none⟩) len gQ)).run P {w with drawn:=w.drawn+1}=.ok DW.toArray {w with drawn:=w.drawn+1}:=by rw[fe len (by omega),ye (by rw[ev'.1,og,f2])]
            have fcs:(eQ dL len (cs.drop 0)).flatten=cs:=(by rw[f1,Ex,Bl (by omega)]);have iY:H.live id:=⟨_,hg,rfl⟩;have hk:=hw.kill id;have Qy:=(Ext.refl G H w).kill id;by_cases Ng:len+ys.length<=gQ
            ·
             have aDl:len*dL=l.OZ/\len<=gQ/\gQ*dL=l.ext:=by
              rcases nE with hh|⟨p1,p2,p3⟩
              . omega
              exact⟨by omega,p2,by omega⟩
             obtain⟨g1,g2,g3⟩:=aDl;have yvl:yK.length=ys.length*dL:=(by rw[yv.1,tt]);have hm1:len*dL+ys.length*dL<=gQ*dL:=by rw[<-Ce];exact Cd _ Ng
             obtain⟨w',hr,hu⟩:=dV P l.cC (l.base+0+len*dL) yK 0 w ⟨ca,el,fz,b1,by omega⟩
              (fun j hj=>by rw[Cp,Cp,Bd];exact b3 (len*dL+j) (by omega)) (mA yv y1)
             rw[Cp,Cp] at hu
             have mS:∀j,j<yK.length->¬G.fB l.cC (l.base+len*dL+j):=fun j hj=>by rw[Bd];exact hw.gW id l hl iY _ (by omega)
             have rD:∀iO l',G.loc iO=some l'->(H.set id .dead).live iO->l.cC≠l'.cC\/l.base+l.ext<=l'.base\/l'.base+l'.ext<=l.base:=fun iO l' lY kA=>by
              rcases aA.iP.1 kA with ⟨_,hh⟩|⟨cF,kA⟩
              . cases hh
              exact hw.iN id iO l l' (Ne.symm cF) hl lY iY kA
             have uS:=hk.write hu mS (fun iO l' lY kA=>by
              rcases rD iO l' lY kA with oU|oU|oU
              . exact .inl (Ne.symm oU)
              . exact .inr (.inr (by omega))
              exact .inr (.inl (by omega))) ⟨ca,el,fz,b1⟩
             have hblk:w.heap.size<=l.cC\/∃dN l0,G.loc dN=some l0/\H.live dN/\l0.cC=l.cC:=.inr ⟨id,l,hl,iY,rfl⟩;have OT:=Qy.write hu mS hw.fU hblk;obtain⟨ca',u1,u2,u3,u4⟩:=hu.row ca el fz b1
             have Tv:∀j,j<yK.length->w'.cell? ⟨l.cC,l.base+len*dL+j,none⟩=some (yK.getD j undef):=fun j hj=>by rw[jL u1];exact u4 j hj (by omega)
             have hll:(cs++ys.flatten).length=(len+ys.length)*dL:=by rw[Ag,FW,tt,Ce]
             have hga:∀j,(cs++ys.flatten).getD j aC=if j<cs.length then cs.getD j aC else ys.flatten.getD (j -cs.length) aC:=fun j=>by rw[getD_eq,Cz];split<;>rfl
             have Vj:=OT.IX (.cells (cs++ys.flatten) true) ⟨l.cC,l.base,(cs++ys.flatten).length,l.ext⟩ uS.lt hblk
             have ba:=uS.IX (.cells (cs++ys.flatten) true) ⟨l.cC,l.base,(cs++ys.flatten).length,l.ext⟩ rD
              (fun j hj hi=>hw.gW id l hl iY j hj hi)
              (fun vI Yz sG=>by
                simp only[dU.cells.injEq] at sG;obtain⟨rfl,rfl⟩:=sG;refine⟨rfl,(by simp only;rw[hll,Ce];omega),(fun hh=>(by cases hh)),fun c hc=>(Az.1 hc).elim (a4 c) (y1 c),fun j hj=>?_⟩;rw[hga];by_cases EE:j<cs.length
                . rw[if_pos EE];obtain⟨u,v1,v2⟩:=a5 j EE;exact⟨u,(show w'.cell? ⟨l.cC,l.base+j,none⟩=some u from hu.cell (.inr (.inl (by omega))) v1),v2.ext OT⟩
                rw[if_neg EE];simp only[Ag] at hj;have Jo:j -cs.length<yK.length:=(by rw[yv.1];omega);have EG:l.base+j=l.base+len*dL+(j -cs.length):=(by omega);refine⟨_,(show w'.cell? ⟨l.cC,l.base+j,none⟩=_ from ?_),(yv.2 (j -cs.length) (by omega)).ext OT⟩;rw[EG]
                exact Tv _ Jo)
              (fun _=>⟨ca',el,fz,u1,by simp only;omega,fun j hj=>by
                simp only at hj ⊢;rw[hu.frozen b1]
                exact b3 j hj⟩) (fun sG=>by cases sG)
             refine⟨.value (.slice (some ⟨l.cC,l.base+0,none⟩) (len+ys.length) gQ),.slice (some ⟨l.cC,l.base+0,none⟩) (len+ys.length) gQ,w',_,eK dC ?_,.inl rfl,ba,Vj,?_⟩
             . have :=nB (P:=P) (ty:=o.type) (base:=some ⟨l.cC,l.base+0,none⟩) (sLen:=len) (sCap:=gQ) ht jE h2 hd OQ mz Ng;rw[this];simp only[gN,hr,Result.andThen_ok]
             exact VR.sl H.next dL 0 (len+ys.length) (len+ys.length) gQ ⟨l.cC,l.base,(cs++ys.flatten).length,l.ext⟩ (by simp only[Gh.dA,aA.bD,if_true]) (Ai _)
              (by simp only;rw[hll];omega) (.inr ⟨by simp only;rw[hll];omega,Ng,by simp only;omega⟩)
            have hn:=MO true (els:=eQ dL len (cs.drop 0)) (os:=DW) hk Qy dC f2 eu e1 evw ef1 Ng zK
            have e0:iK (H.set id .dead) true dL (eQ dL len (cs.drop 0)++ys)=(.sl H.next dL 0 (len+ys.length) (len+ys.length),(H.set id .dead).alloc (.cells (cs++ys.flatten) true)):=by simp only[iK,if_true,Ag,f2,Dw,fcs,aA.bD]
            rw[e0] at hn;exact hn
          cases h
       cases h
     cases h
   cases h
 cases h
end
end
section
theorem mR (zs:List AV):∀(n k:Nat),k<n*zs.length->(List.replicate n zs).flatten.getD k aC=zs.getD (k%zs.length) aC
 |0,k,h=>by simp at h
 |n+1,k,h=>by
  rw[Ep,Bo,getD_eq,Cz];rw[Ds] at h;by_cases hk:k<zs.length
  . rw[if_pos hk,Bz hk];rfl
  rw[if_neg hk];have :=mR zs n (k -zs.length) (by omega);rw[getD_eq] at this;rw[this,<-Nat.mod_eq_sub_mod (by omega)]
theorem Ms {G:Gh} {w:World} {zs:List AV} {z:Array Value} (h:fJ G w zs z.toList) (EG:1<=zs.length) (n m:Nat) (hm:m=n*zs.length):
 fJ G w (List.replicate n zs).flatten ((Array.range m).map fun i=>z[i%z.size]!).toList:=by
 have hl:=h.1;simp only[Cm] at hl;refine⟨by simp[hm],fun k hk=>?_⟩;have SD:k<n*zs.length:=by simpa using hk
 rw[mR zs n k SD,fH];have hkm:k<m:=by omega
 have aKx:k%zs.length<zs.length:=Dp _ EG;have :=h.2 (k%zs.length) aKx;rw[fH] at this
 have e:((Array.range m).map fun i=>z[i%z.size]!)[k]?=some (z[k%z.size]!):=by simp[hkm]
 rw[e]
 have e2:z[k%z.size]! =(z[k%zs.length]?).getD undef:=by
  rw[hl];have :k%zs.length<z.size:=by omega
  simp[getElem!_pos,this]
 simp only[Bb];rw[e2];exact this
section
variable {P:Program} {g:aT} {o:Oper}
theorem yG {zs:List AV} (h1:∀c∈zs,c.one=true) (n:Nat):∀c∈(List.replicate n zs).flatten,c.one=true:=fun c hc=>by simp only[Fg,List.mem_replicate] at hc;obtain⟨l,⟨_,rfl⟩,hc⟩:=hc;exact h1 c hc
theorem Qu (n:Nat) (h:n<=2^40):IntKind.i64.wrap (n:Int)=(n:Int):=by
 have hs:IntKind.i64.signed=true:=rfl;have hb:IntKind.i64.bits=64:=rfl;unfold IntKind.wrap;simp only[hs,hb,Cu];have e:((n:Int)%2^64)=n:=by omega
 rw[e];have :¬((n:Int)≥2^(64 -1)):=by omega
 rw[As this];rfl
theorem FP {t e:TypeId} {sz:Nat} {i:TypeInfo} {z:Value} {zs:List AV} {x y:Operand} {x' y':Arg} (ho:o.op=.makeSlice t x y) (hx:aX g x=some x') (hy:aX g y=some y') (ht:kM P t=some (e,sz))
 (hi:P.info? e=some i) (hz:jC P e=some z) (zT:gK z.cells.toList=some zs) (EG:1<=sz) (Ji:1<=i.bytes):xY P g o (.gM sz i.bytes zs x' y'):=by
 intro s a G H H' w ob val dN hw hs h bZ cJ xT eW;have vx:=aW hw hs hx;have vy:=aW hw hs hy;obtain⟨hu,jE⟩:=iE ht;simp only[tL] at h;split at h
 . rename_i l c hl hc;obtain⟨k1,e1,f1⟩:=qB hl vx;obtain⟨k2,e2,f2⟩:=qB hc vy;split at h
   . rename_i gG;obtain⟨c1,c2,c3⟩:=gG;simp only[Ab,Ad] at h;obtain⟨rfl,rfl⟩:=h;have hcz:=jN zT G w
     have aKg:c<=2^40:=by have :1*c<=i.bytes*c:=Cd _ Ji;omega
     have w1:=Qu l (by omega);have w2:=Qu c aKg;have aBg:z.cells.size=zs.length:=(by simpa using hcz.1.1);have aEa:1<=zs.length:=(by omega);have hz1:=Ms hcz.1 aEa c (c*sz) (by rw[c3]);have hp:fO w {w with heap:=w.heap.push (.cells ((Array.range (c*sz)).map fun i=>z.cells[i%z.cells.size]!) e)} (.cells (((Array.range (c*sz)).map fun i=>z.cells[i%z.cells.size]!).toList++[]).toArray e (0,0)):=⟨by rw[Cf,Array.toArray_toList],.now⟩;have hm:=hw.sU dN bZ _ _ [] hz1 (yG hcz.2 c) false (fun _=>rfl) cJ xT eW (Clear.zero _) hp;refine⟨.slice (some ⟨w.heap.size,0,none⟩) l c,_,_,?_,hm,?_⟩
     . have t1:(decide ((c:Int)<0)||decide ((i.bytes:Int)*(c:Int)>2^48))=false:=by
        have :(i.bytes:Int)*(c:Int)<=2^40:=(by exact_mod_cast c2);simp;omega
       have t2:¬((l:Int)<0):=(by omega);have t3:¬((l:Int)>(c:Int)):=(by omega);simp only[execOp,ho,Instr.makeSlice,Sem.run_bind,run_underlying hu w,Result.andThen_ok,f1,f2,asInt,asIntOf,Sem.run_pure,rJ hi w,w1,w2,t1,As t2,As t3,Ih,Ay,Bu,run_askRoom,Gu,dF jE w];by_cases h0:c*sz=0
       . have hA:∀f:Nat->Value,(Array.range 0).map f= #[]:=fun f=>by simp
         simp only[h0,if_true,Sem.run_bind,Sem.run_pure,Result.andThen_ok,hA];rfl
       simp only[h0,Bu,Sem.run_bind,iT hz w,Sem.run_pure,Result.andThen_ok];rfl
     have hlen:(List.replicate c zs).flatten.length=c*sz:=(by simp[c3]);refine VR.sl dN sz 0 l c c ⟨w.heap.size,0,(List.replicate c zs).flatten.length,(((Array.range (c*sz)).map fun i=>z.cells[i%z.cells.size]!).toList++[]).length⟩ (by simp only[Gh.dA,if_true]) c1 (by simp only[hlen];omega) (.inl rfl)
   cases h
 cases h
theorem Sf {t e:TypeId} {sz:Nat} {i:TypeInfo} {z:Value} {zs:List AV} {x y:Operand} {x' y':Arg} (ho:o.op=.makeSlice t x y) (hx:aX g x=some x') (hy:aX g y=some y') (ht:kM P t=some (e,sz))
 (hi:P.info? e=some i) (hz:jC P e=some z) (zT:gK z.cells.toList=some zs) (EG:1<=sz) (Ji:1<=i.bytes):bT P g o (.gM sz i.bytes zs x' y'):=
 (FP ho hx hy ht hi hz zT EG Ji).op fun _ _=>rfl
theorem Yf:∀{l:List (Nat×Operand)} {k:Nat} {ys:List Arg},CD g k l=some ys->ys.length=l.length:=by
 intro l
 induction l with
 |nil=>intro k ys h;obtain rfl:=Aa h;rfl
 |cons p r ih=>
  intro k ys h;obtain⟨i,x⟩:=p;simp only[CD] at h;split at h
  . split at h
    . rename_i y nc _ h';obtain rfl:=Aa h;simp[ih h']
    cases h
  cases h
def OB (mu:Bool) (sz:Nat) (ys:List Arg):Bool:=mu&&Nat.beq sz 1&&(match ys with|[.const (.str [])]=>true|_=>false)
theorem JU {mu:Bool} {t e:TypeId} {sz len:Nat} {z:Value} {parts:Array (Nat×Operand)} {ys:List Arg} (ho:o.op=.buildSlice t len parts) (ht:kM P t=some (e,sz)) (hz:jC P e=some z)
 (hlen:len=parts.size) (zK:len*sz<=2^24) (hp:CD g 0 parts.toList=some ys) (hr:OB mu sz ys=true):xY P g o (.gM 1 1 [.str []] (.const (.int .i64 1)) (.const (.int .i64 1))):=by
 intro s a G H H' w ob val dN hw hs h bZ cJ xT eW;obtain⟨hu,jE⟩:=iE ht;simp only[OB,Aj] at hr;obtain⟨⟨_,aBf⟩,HR⟩:=hr;obtain rfl:sz=1:=Au aBf
 have HR:ys=[.const (.str [])]:=by
  split at HR
  . rfl
  cases HR
 subst HR;have il:parts.size=1:=by have :=Yf hp;simpa using this.symm
 obtain rfl:len=1:=by omega
 have eK:ob=.cells [.str []] false/\val=fun id=>.sl id 1 0 1 1:=by
  have e:tL (Arg.eval g s) (.gM 1 1 [.str []] (.const (.int .i64 1)) (.const (.int .i64 1)))=some (.cells [.str []] false,fun id=>.sl id 1 0 1 1):=by simp[tL,Arg.eval,asNat]
  rw[e] at h;simp only[Ab,Ad] at h;exact⟨h.1.symm,h.2.symm⟩
 obtain⟨rfl,rfl⟩:=eK;obtain⟨fP,hf,hv,h1⟩:=JS hw hs 1 parts.toList [.const (.str [])] 0 [[.str []]] [] ((Array.range (1*1)).map (z.cells[· %z.cells.size]!)) hp rfl (by simp) (by simp[il]) (fun j hj=>by simp at hj) (fun c hc=>by cases hc);have au:fO w {w with heap:=w.heap.push (.cells fP e)} (.cells (fP.toList++[]).toArray e (0,0)):=⟨by simp,.now⟩;have hm:=hw.sU dN bZ [.str []] fP.toList [] hv h1 false (fun _=>rfl) cJ xT eW (Clear.zero _) au;refine⟨.slice (some ⟨w.heap.size,0,none⟩) 1 1,_,_,?_,hm,?_⟩
 . simp only[execOp,ho,Instr.buildSlice,Sem.run_bind,run_underlying hu w,dF jE w,Result.andThen_ok,if_neg (show ¬1*1>2^24 by omega),if_neg (show ¬1*1=0 by omega),iT hz w,Sem.run_pure,Hd,hf];rfl
 exact VR.sl dN 1 0 1 1 1 ⟨w.heap.size,0,1,(fP.toList++[]).length⟩ (by simp only[Gh.dA,if_true];rfl) (Ai _) (by simp) (.inl rfl)
theorem Vv {mu:Bool} {t e:TypeId} {sz len:Nat} {z:Value} {parts:Array (Nat×Operand)} {ys:List Arg} (ho:o.op=.buildSlice t len parts) (ht:kM P t=some (e,sz)) (hz:jC P e=some z)
 (hlen:len=parts.size) (zK:len*sz<=2^24) (hp:CD g 0 parts.toList=some ys) (hr:OB mu sz ys=true):bT P g o (.gM 1 1 [.str []] (.const (.int .i64 1)) (.const (.int .i64 1))):=
 (JU ho ht hz hlen zK hp hr).op fun _ _=>rfl
theorem j8 {c:Call} {x y:Operand} {x' y':Arg} {t elem:TypeId} {sz:Nat} (ho:o.op=.call c) (hc:c.callee=.builtin .copy) (ha:c.args= #[x,y])
 (hx:aX g x=some x') (hy:aX g y=some y') (LU:c.argTypes[0]?=some t) (ht:P.underlying t=some (.slice elem)) (jE:hZ P elem=some sz):bT P g o (.copy sz x' y'):=by
 intro s a G H w v H' hw hs h;have vx:=aW hw hs hx;have vy:=aW hw hs hy;simp only[cD] at h
 have eK:∀{p:Option Addr} {dl dc:Nat} {n:Nat} {vs:List Value},a.eval x=.slice p dl dc->(Builtin.lenOf (a.eval y)).run P w=.ok n w->(Builtin.firstCells sz (Nat.min n dl) (a.eval y)).run P w=.ok vs.toArray w->
  ∀{w':World},((match p with|some q=>storeCells q vs|none=>pure ():Sem Unit).run P w=.ok () w')->(execOp a.eval o).run P w=.ok (.value (.int .i64 (Nat.min n dl:Nat))) w':=by
  intro p dl dc n vs dC hl hf w' hr;simp only[execOp,ho,resolve,hc,ha,List.map_toArray,Be,Ci,dC,Sem.run_bind,Sem.run_pure,Result.andThen_ok,invoke,builtin,Builtin.copy_,LU,De,Fj,Df,run_underlying ht w,hl,dF jE w,hf]
  cases p with
  |none=>simp at hr;subst hr;simp[goInt]
  |some q=>simp only at hr;simp[hr,goInt]
 split at h
 . rename_i ys HR bZ;rw[bZ] at vx;generalize dC:a.eval x=u at vx;cases vx;simp only[Ab,Ad] at h;obtain⟨rfl,rfl⟩:=h;obtain⟨yu,y1,OQ,yK,yv,yf⟩:=lU P hw HR vy
   have :=eK dC OQ (vs:=[]) (by
    have :=yf 0 (Cs _);rw[show Nat.min ys.length 0=0 from Nat.min_zero _]
    simpa using this) (w':=w) rfl
   exact bT.pure' hw this (.int _ _)
 . rename_i ys id dL off len cap HR bZ;rw[bZ] at vx;obtain⟨yu,y1,OQ,yK,yv,yf⟩:=lU P hw HR vy;split at h
   . rename_i YU;subst YU;split at h
     . rename_i cs dH hg;split at h
       . rename_i gU;simp only[Ab,Ad] at h;obtain⟨rfl,rfl⟩:=h;generalize dC:a.eval x=u at vx
         cases vx with
         |sl _ _ _ _ _ gQ l hl hlen aKr nE=>
          obtain⟨a1,a2,a3,a4,a5⟩:=hw.cells id l cs dH hl hg;obtain⟨ca,el,fz,b1,b2,b3⟩:=hw.room id l hl (.inl ⟨cs,dH,hg⟩);have tt:=length_flatten yu;have ao:min ys.length len<=ys.length:=Nat.min_le_left _ _;have hmul:min ys.length len*dL<=ys.length*dL:=Cd _ ao;have hyl:=yv.1;have hft:(ys.take (min ys.length len)).flatten=ys.flatten.take (min ys.length len*dL):=BG yu _;have yvt:=yv.take (min ys.length len*dL);rw[<-hft] at yvt;have iv:(yK.take (min ys.length len*dL)).length=min ys.length len*dL:=by simp;omega
          obtain⟨w',hr,hu⟩:=dV P l.cC (l.base+off) (yK.take (min ys.length len*dL)) 0 w ⟨ca,el,fz,b1,by omega⟩
           (fun j hj=>by rw[Cp,Bd];exact b3 (off+j) (by omega)) (mA yvt (fun c hc=>by
             rw[hft] at hc
             exact y1 c (Bf hc)))
          rw[Cp] at hu;obtain⟨r1,r2⟩:=hw.store hl hg yvt (fun c hc=>by rw[hft] at hc;exact y1 c (Bf hc)) (by rw[hft];simp;omega) hu;refine⟨_,_,w',G,eK dC OQ (yf _ ao) hr,.inl rfl,r1,r2,.int _ _⟩
       cases h
     cases h
   cases h
 cases h
theorem aCa {c:Call} {x:Operand} {x':Arg} {t elem:TypeId} {sz:Nat} {z:Value} {zs:List AV} (ho:o.op=.call c) (hc:c.callee=.builtin .clear) (ha:c.args= #[x])
 (hx:aX g x=some x') (LU:c.argTypes[0]?=some t) (ht:P.underlying t=some (.slice elem)) (hz:jC P elem=some z) (zT:gK z.cells.toList=some zs):bT P g o (.zw sz zs x'):=by
 intro s a G H w v H' hw hs h;have vx:=aW hw hs hx
 have eK:∀{u:Value} {w':World},a.eval x=u->(Builtin.clear_ c.argTypes o.type #[u]).run P w=.ok (.tuple #[]) w'->(execOp a.eval o).run P w=.ok (.value (.tuple #[])) w':=by intro u w' dC hr;simp[execOp,ho,resolve,hc,ha,invoke,builtin,dC,hr]
 simp only[cD] at h;split at h
 . rename_i bZ;rw[bZ] at vx;generalize dC:a.eval x=u at vx;cases vx;simp only[Ab,Ad] at h;obtain⟨rfl,rfl⟩:=h;exact bT.pure' hw (eK dC (by simp[Builtin.clear_,LU,run_underlying ht w])) (VR.kN G w)
 . rename_i bZ;rw[bZ] at vx;generalize dC:a.eval x=u at vx;simp only[Ab,Ad] at h;obtain⟨rfl,rfl⟩:=h;cases vx<;>exact bT.pure' hw (eK dC (by simp[Builtin.clear_,LU,run_underlying ht w])) (VR.kN G w)
 . rename_i bZ;rw[bZ] at vx;generalize dC:a.eval x=u at vx;cases vx;simp only[Ab,Ad] at h;obtain⟨rfl,rfl⟩:=h;exact bT.pure' hw (eK dC (by simp[Builtin.clear_,LU,run_underlying ht w])) (VR.kN G w)
 . rename_i id dL off len cap hnz bZ;rw[bZ] at vx;split at h
   . rename_i YU;obtain⟨YU,hzl⟩:=YU;subst YU;split at h
     . rename_i cs dH hg;split at h
       . rename_i gU;simp only[Ab,Ad] at h;obtain⟨rfl,rfl⟩:=h;generalize dC:a.eval x=u at vx
         cases vx with
         |sl _ _ _ _ _ gQ l hl hlen aKr nE=>
          obtain⟨a1,a2,a3,a4,a5⟩:=hw.cells id l cs dH hl hg;obtain⟨ca,el,fz,b1,b2,b3⟩:=hw.room id l hl (.inl ⟨cs,dH,hg⟩);have hcz:=jN zT G w;have aBg:z.cells.size=zs.length:=(by simpa using hcz.1.1);have pI:(List.replicate len zs).flatten.length=len*dL:=by simp[hzl]
          have hvz:fJ G w (List.replicate len zs).flatten (Builtin.zeroCells z.cells len).toList:=by
           by_cases aOy:0<dL
           . exact Ms hcz.1 (by omega) len (len*z.cells.size) (by rw[aBg])
           have h0:dL=0:=(by omega);have iy:zs=[]:=Gp.1 (by omega);refine⟨?_,fun j hj=>?_⟩
           . rw[pI];simp[Builtin.zeroCells,aBg,hzl]
           rw[pI,h0,Nat.mul_zero] at hj;omega
          have tP:=yG hcz.2 len;have iv:=hvz.1
          obtain⟨w',hr,hu⟩:=dV P l.cC (l.base+off) (Builtin.zeroCells z.cells len).toList 0 w ⟨ca,el,fz,b1,by omega⟩
           (fun j hj=>by rw[Cp,Bd];exact b3 (off+j) (by omega)) (mA hvz tP)
          rw[Cp] at hu;obtain⟨r1,r2⟩:=hw.store hl hg hvz tP (by rw[pI];exact gU) hu;have hn0:len≠0:=fun e=>hnz e;refine⟨_,_,w',G,eK dC ?_,.inl rfl,r1,r2,VR.kN G w'⟩
          cases len with
          |zero=>exact absurd rfl hn0
          |succ n=>simp only[Builtin.clear_,LU,De,Fj,Sem.run_bind,run_underlying ht w,Result.andThen_ok,iT hz w,hr,Sem.run_pure]
       cases h
     cases h
   cases h
 cases h
theorem Yp {src dst e:TypeId} {x:Operand} {x':Arg} (ho:o.op=.convert src dst x) (hx:aX g x=some x') (SG:P.underlying src=some (.slice e)) (uO:P.underlying dst=some .string)
 (he:P.underlying e=some (.int .u8)):bT P g o (.yA x'):=by
 intro s a G H w v H' hw hs h;have vx:=aW hw hs hx;simp only[cD] at h;generalize hva:Arg.eval g s x'=va at vx h;split at h
 . cases h
 rename_i aDy;split at h
 . rename_i els pO;simp only[Af,Ad] at h;obtain⟨bs,Tp,rfl,rfl⟩:=h;obtain⟨eu,e1,aOo,evs,ev,ef⟩:=lU P hw pO vx;have og:=length_flatten eu;have hev:evs.length=els.length:=by rw[ev.1,og,Dk]
   have ef0:=ef els.length (Ai _);rw[Dk,Bl (by omega)] at ef0
   have key:∀(els:List (List AV)) (bs:List UInt8),bytesOf els=some bs->∃ns:List Int,els.flatten=ns.map (fun n=>AV.int .u8 n)/\bs=ns.map fun n=>UInt8.ofNat n.toNat:=by
    intro els
    induction els with
    |nil=>intro bs hb;obtain rfl:=Aa hb;exact⟨[],rfl,rfl⟩
    |cons e r ih=>
     intro bs hb
     match e,hb with
     |[.int .u8 n],hb=>simp only[bytesOf,Af] at hb;obtain⟨bs',vR,rfl⟩:=hb;obtain⟨ns,h1,h2⟩:=ih bs' vR;exact⟨n::ns,by simp[h1],by simp[h2]⟩
   obtain⟨ns,k1,k2⟩:=key els bs Tp
   have hns:evs=ns.map (fun n=>Value.int .u8 n):=by
    apply Ej;intro j;have pt:els.flatten.length=ns.length:=(by rw[k1];simp);by_cases hj:j<ns.length
    . have :=ev.2 j (by omega);rw[k1] at this;have e2:(ns.map fun n=>AV.int .u8 n).getD j aC=.int .u8 (ns[j]):=(by simp[getD_eq,hj]);rw[e2] at this;have :=this.fS;rw[nP evs undef j (by rw[ev.1];omega),this];simp[hj]
    rw[Bp (by rw[ev.1];omega),Bp (by simp;omega)]
   have aLj:VR G w (.str bs) (.string ⟨bs.toArray⟩):=VR.TA _ _ _
   have fin:∀u:Value,a.eval x=u->(convert src dst u).run P w=.ok (.string ⟨bs.toArray⟩) w->∃n u w' G',(execOp a.eval o).run P w=.ok n w'/\Lj n u/\WR g G' H w'/\Ext G H w G' H w'/\VR G' w' (.str bs) u:=fun u hu hr=>bT.pure' hw (by simp[execOp,ho,hu,hr]) aLj
   generalize dC:a.eval x=u at vx ef0
   have slc:∀{b o' len cap:Nat},u=.slice (some ⟨b,o',none⟩) len cap->len=els.length->(convert src dst u).run P w=.ok (.string ⟨bs.toArray⟩) w:=by
    intro b o' len cap hu' lY;subst hu' lY
    have hld:(loadCells ⟨b,o',none⟩ els.length).run P w=.ok (ns.map (Value.int .u8)).toArray w:=by rw[hns] at ef0;simpa [Builtin.firstCells] using ef0
    rw[run_convert_bytes_string w src dst e _ els.length cap SG he uO,run_bytesToString w _ els.length cap ns hld,foldl_push_bytes,k2];simp[ByteArray.empty,ByteArray.emptyWithCapacity];rfl
   cases vx with
   |aF=>simp[bJ] at pO;subst pO;simp[bytesOf] at Tp;subst Tp;refine fin _ dC ?_;simp only[convert,Sem.run_bind,run_underlying SG w,run_underlying uO w,Result.andThen_ok,run_underlying he w,Conv.bytesToString];rfl
   |bH tag dL vM b o' cap us AM hh hv oX=>
    simp only[bJ] at pO;split at pO
    . obtain rfl:=Aa pO;exact fin _ dC (slc rfl rfl)
    cases pO
   |rE tag dL b o' s' oX=>
    simp only[bJ] at pO;split at pO
    . obtain rfl:=Aa pO;simp[bytesOf] at Tp;subst Tp;refine fin _ dC ?_;rw[run_convert_bytes_string w src dst e _ 0 0 SG he uO,run_bytesToString w _ 0 0 [] (by simp[loadCells,loadCellsFrom])];rfl
    cases pO
   |sl id dL off len cap gQ l hl hlen gU nE=>
    refine fin _ dC (slc rfl ?_);simp only[bJ] at pO;split at pO
    . split at pO
      . split at pO
        . rename_i FW hle;obtain rfl:=Aa pO;rename_i im cs;have :=(jM 1 len (cs.drop off) (by simp;omega)).2.1;omega
        cases pO
      cases pO
    cases pO
   |str s=>exact absurd rfl (aDy _)
   |_=>simp[bJ] at pO
 cases h
end
end
section
section
variable {P:Program} {g:aT} {o:Oper}
theorem QS (h:Array Go.Obj) (x:Go.Obj) (f:Go.Obj->Go.Obj):(h.push x).modify h.size f=h.push (f x):=by
 apply Array.ext
 . simp
 intro i h1 h2;simp only[Array.size_push] at h2;rw[Array.getElem_modify];by_cases hi:i=h.size
 . subst hi;simp
 have :i<h.size:=by omega
 rw[if_neg (Ne.symm hi)];simp[Array.getElem_push,this]
theorem MD {src dst e:TypeId} {x:Operand} {x':Arg} (ho:o.op=.convert src dst x) (hx:aX g x=some x') (SG:P.underlying src=some .string) (uO:P.underlying dst=some (.slice e))
 (he:P.underlying e=some (.int .u8)):xY P g o (.wM x'):=by
 intro s a G H H' w ob val dN hw hs h bZ cJ xT eW;have vx:=aW hw hs hx;simp only[tL] at h;split at h
 . rename_i str aDs;rw[aDs] at vx;have dC:=vx.jB;simp only[Ab,Ad] at h;obtain⟨rfl,rfl⟩:=h;have jE:(⟨str.toArray⟩:ByteArray).size=str.length:=by simp[ByteArray.size]
   obtain⟨cap,YJ,Jj⟩:=wJ (P:=P) (need:=str.length) (CL:=0) (e:=e) w
   let vs:List Value:=str.map fun b=>.int .u8 b.toNat
   let rest:List Value:=List.replicate (cap -str.length) (.int .u8 0);let w':World:={w with heap:=w.heap.push (.cells (vs++rest).toArray e (cap,cap+1)),drawn:=w.drawn+1}
   have pI:(RE str).flatten=str.map fun b=>AV.int .u8 b.toNat:=by
    unfold RE;clear aDs vx dC jE YJ Jj
    induction str with
    |nil=>rfl
    |cons b r ih=>simp[ih]
   have iv:vs.length=str.length:=(by simp[vs]);have Ty:rest.length=cap -str.length:=by simp[rest]
   have hv:fJ G w (RE str).flatten vs:=by rw[pI];refine⟨by simp[vs],fun j hj=>?_⟩;simp at hj;simp only[vs,getD_eq,Cj,Ac hj,Bi,Bb];exact .int _ _
   have hp:fO w w' (.cells (vs++rest).toArray e (cap,cap+1)):=⟨rfl,.now⟩
   obtain⟨G',hl,hm,r3⟩:=hw.Md dN bZ _ vs rest hv cJ xT eW (fz:=(cap,cap+1)) (fun o' ho'=>by
    simp only[Fc,Ag,iv,Ty] at ho'
    simp;omega) hp
   have AM:∀x∈RE str,x.length=1:=fun x hx=>by simp only[RE,Bq] at hx;obtain⟨b,_,rfl⟩:=hx;rfl
   have hlen:(RE str).length=str.length:=(by simp[RE]);have aKp:(RE str).flatten.length=str.length:=(by rw[pI];simp);refine⟨.slice (some ⟨w.heap.size,0,none⟩) str.length cap,w',G',?_,hm,?_⟩
   . have aDp:(convert src dst (.string ⟨str.toArray⟩)).run P w=(Conv.stringToBytes e ⟨str.toArray⟩).run P w:=by
      simp only[convert,Sem.run_bind,run_underlying SG w,run_underlying uO w,Result.andThen_ok,run_underlying he w]
     have tQ:(((⟨str.toArray⟩:ByteArray).data.map fun b=>(Value.int .u8 b.toNat))++Array.replicate (cap -str.length) (.int .u8 0))=(vs++rest).toArray:=by apply Dv;simp[vs,rest]
     have hsb:(Conv.stringToBytes e ⟨str.toArray⟩).run P w=.ok (.slice (some ⟨w.heap.size,0,none⟩) str.length cap) w':=by simp only[Conv.stringToBytes,jE,Sem.run_bind,Jj,Result.andThen_ok,tQ];simp only[newRow,newObj,markStringish,shape,freeze,Sem.run_bind,Sem.run,Result.andThen_ok,World.shape?,Array.getElem?_push_size,World.freeze,Nat.one_ne_zero,Bu,Sem.run_pure];rw[QS];simp only[Fc,Ag,iv,Ty];have :str.length+(cap -str.length)=cap:=(by omega);simp[this,w']
     simp[execOp,ho,dC,aDp,hsb]
   have :=VR.bH (G:=G') (w:=w') (dN+2) 1 (RE str) w.heap.size 0 cap (fun j=>vs.getD j undef) AM (fun j hj=>⟨(r3 j hj).1,(r3 j hj).2.1,by
    rw[pI] at hj ⊢;simp at hj;simp only[getD_eq,Cj,Ac hj,Bi,Bb]
    rfl⟩) (fun j hj=>(r3 j hj).2.2) ⟨by omega,⟨_,hl,rfl,by simp only[aKp,hlen];omega,rfl,by simp only[Ty,hlen,Dk]⟩⟩
   rw[hlen] at this;exact this
 cases h
theorem Yx {src dst e:TypeId} {x:Operand} {x':Arg} (ho:o.op=.convert src dst x) (hx:aX g x=some x') (SG:P.underlying src=some .string) (uO:P.underlying dst=some (.slice e))
 (he:P.underlying e=some (.int .u8)):bT P g o (.wM x'):=
 (MD ho hx SG uO he).op fun _ _=>rfl
theorem WR.xH {G:Gh} {H H':aA} {w w':World} (h:WR g G H w) (dN:Nat) (o:dU) (x:Go.Obj) (ho:o.cC=true) (bZ:G.loc dN=none) (cJ:∀m,H'.get m=if m=dN then some o else H.get m) (xT:H.next<=H'.next) (zN:dN<H'.next)
 (p:fO w w' x) (ar:(∀a u,VR G w a u->VR G w' a u)->DM g G w' ⟨w.heap.size,0,0,1⟩ o):Made g G H w dN o (G.dA dN ⟨w.heap.size,0,0,1⟩) H' w':=by
 have hp:=h.AD p;have he:=Ext.AD h p
 refine⟨hp.AW dN _ _ bZ cJ xT zN (fun id l' hl hv=>.inl (Ne.symm (Nat.ne_of_lt (h.kI hl hv)))) (fun j _ hi=>?_) (fun vI Yz sG=>by rw[sG] at ho;cases ho) (fun hh=>?_) (fun _=>?_),
  ⟨⟨w.heap.size,0,0,1⟩,rfl,by simp only[Gh.dA,if_true],fun id cF=>by simp only[Gh.dA];rw[if_neg cF]⟩,fun {G0 H0 w0} e0 xB=>(e0.trans he).AW dN _ _ bZ cJ xT xB (.inl e0.size),fun b o hi=>.inl hi,fun b o hi=>hi,p.size,p.CL⟩
 . obtain⟨v,hv⟩:=h.fU _ _ hi;have :=rT hv;simp at this
 . rcases hh with ⟨_,_,hh⟩|hh<;>rw[hh] at ho<;>cases ho
 exact⟨rfl,rfl,ar fun a u hv=>hv.mono he.loc he.fB⟩
theorem WR.WD {G:Gh} {H H':aA} {w w':World} (h:WR g G H w) (dN:Nat) (bZ:G.loc dN=none) (cJ:∀m,H'.get m=if m=dN then some (.map []) else H.get m) (xT:H.next<=H'.next) (zN:dN<H'.next)
 (p:fO w w' (.map #[] 0)):Made g G H w dN (.map []) (G.dA dN ⟨w.heap.size,0,0,1⟩) H' w':=
 h.xH dN _ _ rfl bZ cJ xT zN p fun _=>⟨#[],0,p.new,rfl,⟨fun i hi=>absurd hi (Bh i),fun i j hi=>absurd hi (Bh i)⟩,fun j hj=>absurd hj (Bh j)⟩
theorem EA {t:TypeId} {r:Option Operand} {kt vt:TypeId} (ho:o.op=.makeMap t r) (ht:P.underlying t=some (.map kt vt)) (hr:r=none\/∃k n,r=some (.const (.int k n))):xY P g o .uJ:=by
 intro s a G H H' w ob val dN hw hs h bZ cJ xT eW;simp only[tL,Ab,Ad] at h;obtain⟨rfl,rfl⟩:=h;have hp:fO w {w with heap:=w.heap.push (.map #[] 0)} (.map #[] 0):=⟨rfl,.now⟩;have hm:=hw.WD dN bZ cJ xT eW hp;refine⟨.map (some w.heap.size),_,_,?_,hm,?_⟩
 . rcases hr with rfl|⟨k,n,rfl⟩
   . simp[execOp,ho,Instr.makeMap,newObj,Sem.run]
   simp[execOp,ho,Instr.makeMap,run_underlying ht w,Act.eval,asInt,asIntOf,newObj,Sem.run]
 exact VR.map dN ⟨w.heap.size,0,0,1⟩ (by simp only[Gh.dA,if_true])
theorem QJ {t:TypeId} {r:Option Operand} {kt vt:TypeId} (ho:o.op=.makeMap t r) (ht:P.underlying t=some (.map kt vt)) (hr:r=none\/∃k n,r=some (.const (.int k n))):bT P g o .uJ:=
 (EA ho ht hr).op fun _ _=>rfl
def BX (P:Program) (t:TypeId):Option Sk:=
 match P.underlying t with
 |some .bool=>some .b
 |some (.int _)=>some .i
 |some .string=>some .s
 |some (.struct _)|some (.array _ _)=>(lL P 60 t).map .f
 |_=>none
def HW:Sk->Bool
 |.f _=>false
 |_=>true
theorem GI {G:Gh} {w:World} {kt:TypeId} {k:Sk} {d:TypeDesc} (hk:BX P kt=some k) (hp:HW k=true) (hd:P.underlying kt=some d) {x y:AV} {u v:Value} {b:Bool} (h:sameKey k x y=some b) (hx:VR G w x u) (hy:VR G w y v):
 Instr.sameNow d u v=some b:=by
 unfold BX at hk;rw[hd] at hk
 cases x<;>cases y<;>simp only[sameKey] at h<;>first
  |(cases h;done)
  |skip
 . cases k<;>simp only[] at h<;>first|(cases h;done)|skip
   obtain rfl:=Aa h;rw[hx.gO,hy.gO];cases d<;>simp at hk<;>rfl
 . cases k<;>simp only[] at h<;>first|(cases h;done)|skip
   split at h
   . rename_i Wt;obtain rfl:=Aa h;subst Wt;rw[hx.fS,hy.fS];cases d<;>simp at hk<;>simp[Instr.sameNow]
   cases h
 . cases k<;>simp only[] at h<;>first|(cases h;done)|skip
   obtain rfl:=Aa h;rw[hx.jB,hy.jB];cases d<;>simp at hk;simp only[Instr.sameNow,Ab];rw[beq_toListBytes,ByteArray.toList_mk,ByteArray.toList_mk]
 cases k<;>simp only[] at h<;>first|(cases h;done)|(cases hp;done)
theorem uB {α:Type} (P:Program) (w:World) (f:α->PUnit->Sem (ForInStep PUnit)):∀(l:List α),(∀x∈l,∀r,(f x r).run P w=.ok (.yield PUnit.unit) w)->(forIn l PUnit.unit f:Sem PUnit).run P w=.ok PUnit.unit w
 |[],_=>by simp
 |x::l,h=>by simp only[List.forIn_cons,Sem.run_bind,h x (by simp),Result.andThen_ok];exact uB P w f l fun y hy=>h y (by simp[hy])
theorem AF {P:Program} (w:World) (em:Bool):∀(f:Nat) (t:TypeId) (ks:List Sk),lL P f t=some ks->∀(d:Nat) (b:Bool) (us:List Value),eO P t=some b->us.length=ks.length->
 (Instr.checkKey em (d+f) t (valOf b us)).run P w=.ok () w:=by
 intro f
 induction f with
 |zero=>intro t ks h;cases h
 |succ f ih=>
  intro t ks h d b us hb hl;rw[show d+(f+1)=(d+f)+1 from rfl,Instr.checkKey];simp only[lL] at h;split at h
  . rename_i hu;simp only[Sem.run_bind,run_underlying hu w,Result.andThen_ok];rfl
  . rename_i hu;simp only[Sem.run_bind,run_underlying hu w,Result.andThen_ok];rfl
  . rename_i hu;simp only[Sem.run_bind,run_underlying hu w,Result.andThen_ok];rfl
  . rename_i fs hu;split at h
    . cases h
    have Wq:b=true:=(by simp only[eO,hu,Ab] at hb;exact hb.symm);subst Wq;simp only[valOf,if_true,Sem.run_bind,run_underlying hu w,Result.andThen_ok]
    have key:∀(l:List Field) (off:Nat) (Vn:List Sk),xM P (lL P f) off l=some Vn->off+Vn.length<=us.length->
     ∀x∈l,(if x.name≠ "_" then(do Instr.checkKey em (d+f) x.type (←part x.type us.toArray x.offset)) else pure ():Sem Unit).run P w=.ok () w:=by
     intro l
     induction l with
     |nil=>intro off Vn _ _ x hx;cases hx
     |cons fd l ihl=>
      intro off Vn hs hi x hx;simp only[xM] at hs;split at hs
      . rename_i hc;split at hs
        . rename_i k hk;split at hs
          . rename_i jE;simp only[Af] at hs;obtain⟨s9,hs2,rfl⟩:=hs;simp only[Ag] at hi
            rcases Ah.1 hx with rfl|hx
            . obtain⟨bf,NZ,Na⟩:=uD hk;have p1:=kB jE NZ w (us:=us) (off:=x.offset) (by omega) Na;simp only[ne_eq,if_pos hc.1,Sem.run_bind,p1,Result.andThen_ok];exact ih x.type k hk d bf _ NZ (by simp;omega)
            exact ihl (off+k.length) s9 hs2 (by omega) x hx
          cases hs
        cases hs
      cases hs
    have h1:=key fs.toList 0 ks h (by omega)
    rw[<-Array.forIn_toList,uB P w _ fs.toList (fun x hx r=>by
     have :=h1 x hx;split at this
     . rename_i hn;rw[if_pos hn];simp only[Sem.run_bind] at this ⊢;generalize (part x.type us.toArray x.offset).run P w=rr at this ⊢
       cases rr with
       |ok p w1=>simp only[Result.andThen_ok] at this ⊢;rw[this];simp
       |halt q w1=>cases this
     rename_i hn;rw[if_neg hn]
     simp)]
    simp
  . rename_i n e hu;have Wq:b=true:=by simp only[eO,hu,Ab] at hb;exact hb.symm
    subst Wq;split at h
    . rename_i k hk;split at h
      . rename_i jE;obtain rfl:=Aa h;obtain⟨bf,NZ,Na⟩:=uD hk;simp only[valOf,if_true,Sem.run_bind,run_underlying hu w,Result.andThen_ok];have hlk:((List.replicate n k).flatten).length=n*k.length:=(by simp);rw[hlk] at hl;simp only[Std.Legacy.Range.forIn_eq_forIn_range',Std.Legacy.Range.size,Gq,Nat.add_one_sub_one,Nat.div_one]
        rw[uB P w _ (List.range' 0 n) (fun i hi r=>by
         have zL:i<n:=by have :=List.mem_range'_1.1 hi;omega
         have gU:i*k.length+k.length<=us.length:=by rw[hl,<-Ds];exact Cd _ zL
         have p1:=kB jE NZ w (us:=us) (off:=i*k.length) gU Na
         simp only[Sem.run_bind,dF jE w,Result.andThen_ok,p1,ih e k hk d bf _ NZ (show((us.drop (i*k.length)).take k.length).length=k.length by simp;omega),Sem.run_pure])]
        simp
      cases h
    cases h
  cases h
theorem SM {kt:TypeId} {sh:List Sk} (hk:BX P kt=some (.f sh)):lL P 60 kt=some sh/\eO P kt=some true/\∃d,P.underlying kt=some d/\(∀u v,Instr.sameNow d u v=none):=by
 unfold BX at hk
 split at hk<;>rename_i hu<;>first
  |(cases hk;done)
  |(simp only[Af,Sk.f.injEq] at hk
    obtain⟨_,h1,rfl⟩:=hk;refine⟨h1,by simp[eO,hu],_,hu,fun u v=>?_⟩
    cases u<;>cases v<;>rfl)
theorem run_checkKey {G:Gh} {kt:TypeId} {k:Sk} (hk:BX P kt=some k) (b:Bool) (d:Nat) {x:AV} {u:Value} {w:World} (hx:VR G w x u) (vS:Jy k x=true):
 (Instr.checkKey b (d+60) kt u).run P w=.ok () w:=by
 by_cases hp:HW k=true
 . have SD:=hk;unfold BX at hk;rw[show d+60=(d+59)+1 from rfl,Instr.checkKey]
   split at hk<;>rename_i hu<;>first
    |(cases hk;done)
    |(simp only[Af] at hk;obtain⟨_,_,rfl⟩:=hk;cases hp;done)
    |(simp only[Sem.run_bind,run_underlying hu w,Result.andThen_ok]
      rfl)
 cases k with
 |f sh=>
  obtain⟨h1,h2,_⟩:=SM hk
  cases x<;>simp only[Jy] at vS<;>first|(cases vS;done)|skip
  rename_i xs;obtain⟨us,e1,l1,_,_⟩:=hx.qP;subst e1;have :=AF w b 60 kt sh h1 d true us h2 (by rw[l1];exact Dq vS);simpa [valOf] using this
 |_=>exact absurd rfl hp
theorem FO {G:Gh} {w:World} {kt:TypeId} {k:Sk} {d:TypeDesc} (hk:BX P kt=some k) (hp:HW k=true) (hd:P.underlying kt=some d) {x:AV} {u:Value} (hx:VR G w x u):
 ∀(es:List (AV×AV)) (ents:List MapEntry) (i:Nat) (r:Option (Nat×AV)),jP k x es i=some r->ents.length=es.length->
  (∀j,j<es.length->VR G w (es.getD j (aC,aC)).1 (ents.getD j default).key/\VR G w (es.getD j (aC,aC)).2 (ents.getD j default).val)->
  ∃r',Instr.findNow d u ents i=some r'/\((r=none/\r'=none)\/∃j av vv,r=some (j,av)/\r'=some (j,vv)/\VR G w av vv/\i<=j/\j<i+es.length/\sameKey k x (es.getD (j -i) (aC,aC)).1=some true)
 |[],[],i,r,h,hl,hv=>by obtain rfl:=Aa h;exact⟨none,rfl,.inl ⟨rfl,rfl⟩⟩
 |[],_::_,i,r,h,hl,hv=>by simp at hl
 |(y,z)::es,[],i,r,h,hl,hv=>by simp at hl
 |(y,z)::es,e::ents,i,r,h,hl,hv=>by
  have h0:=hv 0 (by simp);simp only[Di] at h0;simp only[jP] at h;split at h
  . rename_i hs;obtain rfl:=Aa h;have hn:=GI hk hp hd hs hx h0.1;refine⟨some (i,e.val),by simp[Instr.findNow,hn],.inr ⟨i,z,e.val,rfl,rfl,h0.2,Ai _,by simp,by simpa using hs⟩⟩
  . rename_i hs;have hn:=GI hk hp hd hs hx h0.1
    obtain⟨r',h1,h2⟩:=FO hk hp hd hx es ents (i+1) r h (by simpa using hl) (fun j hj=>by
     have :=hv (j+1) (by simpa using hj)
     simpa using this)
    refine⟨r',by simp only[Instr.findNow,hn];exact h1,?_⟩
    rcases h2 with h2|⟨j,av,vv,a1,a2,a3,a4,a5,a6⟩
    . exact .inl h2
    refine .inr ⟨j,av,vv,a1,a2,a3,by omega,by simp;omega,?_⟩;rw[show j -i=(j -(i+1))+1 by omega,Es];exact a6
  cases h
theorem FN {G:Gh} {w:World} {kt:TypeId} {sh:List Sk} (hk:BX P kt=some (.f sh)) {x:AV} {u:Value} (hx:VR G w x u):
 ∀(es:List (AV×AV)) (ents:List MapEntry) (i:Nat) (r:Option (Nat×AV)),jP (.f sh) x es i=some r->ents.length=es.length->
  (∀j,j<es.length->VR G w (es.getD j (aC,aC)).1 (ents.getD j default).key/\VR G w (es.getD j (aC,aC)).2 (ents.getD j default).val)->
  ∃r',(Instr.findAsking kt u ents i).run P w=.ok r' w/\((r=none/\r'=none)\/∃j av vv,r=some (j,av)/\r'=some (j,vv)/\VR G w av vv/\i<=j/\j<i+es.length/\sameKey (.f sh) x (es.getD (j -i) (aC,aC)).1=some true)
 |[],[],i,r,h,hl,hv=>by obtain rfl:=Aa h;exact⟨none,by simp[Instr.findAsking],.inl ⟨rfl,rfl⟩⟩
 |[],_::_,i,r,h,hl,hv=>by simp at hl
 |(y,z)::es,[],i,r,h,hl,hv=>by simp at hl
 |(y,z)::es,e::ents,i,r,h,hl,hv=>by
  obtain⟨h1,h2,_⟩:=SM hk;have h0:=hv 0 (by simp);simp only[Di] at h0;simp only[jP] at h
  have heq:∀b,sameKey (.f sh) x y=some b->(Op.equal kt u e.key).run P w=.ok b w:=by
   intro b hs
   cases x<;>cases y<;>simp only[sameKey] at hs<;>first|(cases hs;done)|skip
   rename_i xs ys;obtain⟨us,e1,l1,_,v1⟩:=hx.qP;obtain⟨vs,e2,l2,_,v2⟩:=h0.1.qP;rw[e1,e2];have :=PS 60 kt sh h1 true h2 (10000 -60) G w xs ys us vs b hs ⟨l1,v1⟩ ⟨l2,v2⟩;have h3:(Op.equalIn 10000 kt (.agg us.toArray) (.agg vs.toArray)).run P w=.ok b w:=(by simpa [valOf] using this);exact h3
  split at h
  . rename_i hs;obtain rfl:=Aa h;refine⟨some (i,e.val),by simp[Instr.findAsking,heq _ hs],.inr ⟨i,z,e.val,rfl,rfl,h0.2,Ai _,by simp,by simpa using hs⟩⟩
  . rename_i hs
    obtain⟨r',h1,h2⟩:=FN hk hx es ents (i+1) r h (by simpa using hl) (fun j hj=>by
     have :=hv (j+1) (by simpa using hj)
     simpa using this)
    refine⟨r',by simp[Instr.findAsking,heq _ hs];exact h1,?_⟩
    rcases h2 with h2|⟨j,av,vv,a1,a2,a3,a4,a5,a6⟩
    . exact .inl h2
    refine .inr ⟨j,av,vv,a1,a2,a3,by omega,by simp;omega,?_⟩;rw[show j -i=(j -(i+1))+1 by omega,Es];exact a6
  cases h
theorem run_findKey {G:Gh} {w:World} {kt:TypeId} {k:Sk} (hk:BX P kt=some k) {x:AV} {u:Value} (hx:VR G w x u) {es:List (AV×AV)} {ents:Array MapEntry} {r:Option (Nat×AV)} (h:jP k x es 0=some r) (hl:ents.size=es.length)
 (hv:∀j,j<es.length->VR G w (es.getD j (aC,aC)).1 (ents.getD j default).key/\VR G w (es.getD j (aC,aC)).2 (ents.getD j default).val):
 ∃r',(Instr.findKey kt u ents.toList).run P w=.ok r' w/\((r=none/\r'=none)\/∃j av vv,r=some (j,av)/\r'=some (j,vv)/\VR G w av vv/\j<es.length/\sameKey k x (es.getD j (aC,aC)).1=some true):=by
 have kA:∀j,j<es.length->VR G w (es.getD j (aC,aC)).1 (ents.toList.getD j default).key/\VR G w (es.getD j (aC,aC)).2 (ents.toList.getD j default).val:=fun j hj=>by
  have :=hv j hj
  have e:ents.toList.getD j default=ents.getD j default:=by simp[List.getD,Ba]
  rw[e];exact this
 have fin:∀{r':Option (Nat×Value)},((r=none/\r'=none)\/∃j av vv,r=some (j,av)/\r'=some (j,vv)/\VR G w av vv/\0<=j/\j<0+es.length/\sameKey k x (es.getD (j -0) (aC,aC)).1=some true)->
  ((r=none/\r'=none)\/∃j av vv,r=some (j,av)/\r'=some (j,vv)/\VR G w av vv/\j<es.length/\sameKey k x (es.getD j (aC,aC)).1=some true):=by
  intro r' h2
  rcases h2 with h2|⟨j,av,vv,a1,a2,a3,a4,a5,a6⟩
  . exact .inl h2
  exact .inr ⟨j,av,vv,a1,a2,a3,by omega,by simpa using a6⟩
 by_cases hp:HW k=true
 . obtain⟨d,hd⟩:∃d,P.underlying kt=some d:=by
    unfold BX at hk
    split at hk<;>rename_i hu<;>first|(cases hk;done)|exact⟨_,hu⟩
   obtain⟨r',h1,h2⟩:=FO hk hp hd hx es ents.toList 0 r h (by simpa using hl) kA;refine⟨r',?_,fin h2⟩;simp only[Instr.findKey,Sem.run_bind,run_underlying hd w,Result.andThen_ok,h1];rfl
 cases k with
 |f sh=>
  obtain⟨_,_,d,hd,hn⟩:=SM hk;obtain⟨r',h1,h2⟩:=FN hk hx es ents.toList 0 r h (by simpa using hl) kA;refine⟨r',?_,fin h2⟩;simp only[Instr.findKey,Sem.run_bind,run_underlying hd w,Result.andThen_ok]
  cases Nb:ents.toList with
  |nil=>rw[Nb] at h1;simp only[Instr.findAsking,Sem.run_pure,Result.ok.injEq,Bs] at h1;subst h1;simp[Instr.findNow]
  |cons e l=>rw[Nb] at h1;simp only[Instr.findNow,hn];exact h1
 |_=>exact absurd rfl hp
theorem run_getObj_map {w:World} {r:Nat} {ents:Array MapEntry} {clock:Nat} (h:w.heap[r]?=some (.map ents clock)):(getObj r).run P w=.ok (.map ents clock) w:=by simp[getObj,Sem.run,h]
theorem Vw {t kt vt:TypeId} {k:Sk} {zv:Value} {z:AV} {ok:Bool} {x i:Operand} {x' i':Arg} (ho:o.op=.lookup t x i ok) (hx:aX g x=some x') (hi:aX g i=some i') (ht:P.underlying t=some (.map kt vt))
 (hk:BX P kt=some k) (hz:jC P vt=some zv) (hzc:ofConst zv=some z):bT P g o (.lookup k z ok x' i'):=by
 intro s a G H w v H' hw hs h;have vx:=aW hw hs hx;have vi:=aW hw hs hi;have hzero:=iT hz w;have hzr:=zY hzc G w
 have two:∀{p q:AV} {u1 u2:Value},VR G w p u1->VR G w q u2->VR G w (.eZ [p,q]) (.tuple #[u1,u2]):=fun h1 h2=>.eZ [_,_] [_,_] rfl (h1.cons (h2.cons (fJ.nil G w))).2
 simp only[cD] at h;split at h
 . rename_i hko;have aAn:∀b,(Instr.checkKey b 10000 kt (a.eval i)).run P w=.ok () w:=fun b=>run_checkKey hk b 9940 vi hko;split at h
   . rename_i bZ;rw[bZ] at vx;generalize dC:a.eval x=u at vx;cases vx;simp only[Ab,Ad] at h;obtain⟨rfl,rfl⟩:=h
     have Ws:(Instr.findKey kt (a.eval i) []).run P w=.ok none w:=by
      obtain⟨r',h1,h2⟩:=run_findKey (P:=P) hk vi (es:=[]) (ents:= #[]) (r:=none) rfl rfl (fun j hj=>absurd hj (Bh j))
      rcases h2 with ⟨_,rfl⟩|⟨j,av,vv,hh,_⟩
      . exact h1
      cases hh
     refine bT.pure' hw (u:=if ok then .tuple #[zv,.bool false] else zv) ?_ (by cases ok<;>simp <;>first|exact hzr|exact two hzr (.bool false));simp only[execOp,ho,dC,Instr.lookup,Sem.run_bind,run_underlying ht w,Result.andThen_ok,Sem.run_pure,aAn,Ws,hzero]
   . rename_i id bZ;rw[bZ] at vx;generalize dC:a.eval x=u at vx
     cases vx with
     |map _ l hl=>
      split at h
      . rename_i es hg;obtain⟨_,_,ents,clock,m1,m2,mb,m3⟩:=hw.fQ id l _ hl hg rfl;have hgo:=run_getObj_map (P:=P) m1;split at h
        . rename_i j av hf;simp only[Ab,Ad] at h;obtain⟨rfl,rfl⟩:=h;obtain⟨r',h1,h2⟩:=run_findKey (P:=P) hk vi hf m2 m3
          rcases h2 with ⟨hh,_⟩|⟨j',av',vv,e1,e2,e3,_⟩
          . cases hh
          cases e1;subst e2;refine bT.pure' hw (u:=if ok then .tuple #[vv,.bool true] else vv) ?_ (by cases ok<;>simp <;>first|exact e3|exact two e3 (.bool true));simp only[execOp,ho,dC,Instr.lookup,Sem.run_bind,run_underlying ht w,Result.andThen_ok,hgo,Sem.run_pure,aAn,h1]
        . rename_i hf;simp only[Ab,Ad] at h;obtain⟨rfl,rfl⟩:=h;obtain⟨r',h1,h2⟩:=run_findKey (P:=P) hk vi hf m2 m3
          rcases h2 with ⟨_,e2⟩|⟨j',av',vv,e1,_⟩
          . subst e2;refine bT.pure' hw (u:=if ok then .tuple #[zv,.bool false] else zv) ?_ (by cases ok<;>simp <;>first|exact hzr|exact two hzr (.bool false));simp only[execOp,ho,dC,Instr.lookup,Sem.run_bind,run_underlying ht w,Result.andThen_ok,hgo,Sem.run_pure,aAn,h1,hzero]
          cases e1
        cases h
      cases h
   cases h
 cases h
theorem WR.AG {G:Gh} {H:aA} {w w':World} (h:WR g G H w) {id:Nat} {l:Loc} {o o':dU} {x:Go.Obj} (hl:G.loc id=some l) (hg:H.get id=some o) (ho:o.cC=true) (ho':o'.cC=true)
 (jG:w'.heap=w.heap.setIfInBounds l.cC x) (sI:uY w w') (ar:(∀a u,VR G w a u->VR G w' a u)->w'.heap[l.cC]?=some x->DM g G w' l o'):
 WR g G (H.set id o') w'/\Ext G H w G (H.set id o') w':=by
 have iY:H.live id:=⟨_,hg,KD ho⟩;obtain⟨m1,m2,m3⟩:=h.fQ id l _ hl hg ho;have eW:=m3.lt ho
 have zO:∀b,b≠l.cC->w'.heap[b]?=w.heap[b]?:=fun b hb=>by rw[jG,Array.getElem?_setIfInBounds_ne];exact Ne.symm hb
 have sJ:w'.heap[l.cC]?=some x:=by rw[jG];simp[eW]
 have mS:∀b o,G.fB b o->b≠l.cC:=fun b o hi hb=>by obtain⟨v,hv⟩:=h.fU b o hi;obtain⟨c,el,fz,hc,_⟩:=vE hv;rw[hb] at hc;exact m3.wA ho hc
 have hic:∀b o,G.fB b o->w'.cell? ⟨b,o,none⟩=w.cell? ⟨b,o,none⟩:=fun b o hi=>eV (zO b (mS b o hi));have uI:∀{a u},VR G w a u->VR G w' a u:=fun hv=>hv.mono (fun _ _ h=>h) (fun b o hi=>⟨hi,hic b o hi⟩)
 have cF:∀{i l'},i≠id->G.loc i=some l'->H.live i->l'.cC≠l.cC:=fun {i l'} hi uP qN hb=>by
  obtain⟨ob,ar,hov⟩:=qN
  cases ob with
  |cells cs dH=>obtain⟨c,el,fz,hc,_⟩:=h.room i l' uP (.inl ⟨cs,dH,ar⟩);rw[hb] at hc;exact m3.wA ho hc
  |tok=>obtain⟨c,el,fz,hc,_⟩:=h.room i l' uP (.inr ar);rw[hb] at hc;exact m3.wA ho hc
  |dead=>cases hov
  |_=>
   obtain⟨n1,n2,_⟩:=h.fQ i l' _ uP ar rfl
   rcases h.iN i id l' l hi uP hl ⟨_,ar,rfl⟩ iY with hd|hd|hd
   . exact hd hb
   . omega
   omega
 have cJ:∀{m},m≠id->(H.set id o').get m=H.get m:=fun hm=>by rw[aA.aI,if_neg hm]
 have aAw:(H.set id o').get id=some o':=by rw[aA.aI,if_pos rfl]
 have nF:∀{m},(H.set id o').live m->H.live m:=fun {m} hv=>by
  rcases aA.iP.1 hv with ⟨rfl,_⟩|⟨_,hv⟩
  . exact iY
  exact hv
 refine⟨{
  cells:=fun i l' cs dH h1 h2=>by
   have hi:i≠id:=fun e=>by rw[e,aAw] at h2;cases h2;cases ho'
   rw[cJ hi] at h2;obtain⟨a1,a2,a3,a4,a5⟩:=h.cells i l' cs dH h1 h2;refine⟨a1,a2,a3,a4,fun j hj=>?_⟩;obtain⟨u,hu,GR⟩:=a5 j hj;exact⟨u,by rw[eV (zO _ (cF hi h1 ⟨_,h2,rfl⟩))];exact hu,uI GR⟩
  room:=fun i l' h1 h2=>by
   have hi:i≠id:=fun e=>by rw[e,aAw] at h2;rcases h2 with ⟨_,_,h2⟩|h2<;>cases h2<;>cases ho'
   rw[cJ hi] at h2;obtain⟨c,el,fz,a1,a2,a3⟩:=h.room i l' h1 h2;have hb:=cF hi h1 (by rcases h2 with ⟨cs,dH,h2⟩|h2<;>exact⟨_,h2,rfl⟩);exact⟨c,el,fz,by rw[zO _ hb];exact a1,a2,fun j hj=>by rw[iR (zO _ hb)];exact a3 j hj⟩
  iN:=fun i i' l1 l2 hn h1 h2 qN DH=>h.iN i i' l1 l2 hn h1 h2 (nF qN) (nF DH)
  gW:=fun i l' h1 qN=>h.gW i l' h1 (nF qN)
  fQ:=fun i l' ob h1 h2 hk=>by
   by_cases hi:i=id
   . subst hi;obtain rfl:=Aa (h1.symm.trans hl);rw[aAw] at h2;cases h2;exact⟨m1,m2,ar (fun _ _=>uI) sJ⟩
   rw[cJ hi] at h2;obtain⟨a1,a2,a3⟩:=h.fQ i l' ob h1 h2 hk;exact⟨a1,a2,a3.mono (zO _ (cF hi h1 ⟨_,h2,KD hk⟩)) fun _ _=>uI⟩
  lt:=h.lt
  fU:=fun b o hi=>by rw[hic b o hi];exact h.fU b o hi
  fY:=fun n cs hn=>uI (h.fY n cs hn)
  xA:=fun n cs hn h0=>let⟨c,el,fz,a1,a2⟩:=h.xA n cs hn h0;⟨c,el,fz,by rw[zO n (fun e=>m3.wA ho (e▸a1))];exact a1,a2⟩
  mo:=h.mo},?_⟩
 have e0:=Ext.refl G H w
 exact {
  loc:=fun _ _ h=>h
  fB:=fun b o hi=>⟨hi,hic b o hi⟩
  size:=by rw[jG];simp
  frame:=fun b hb hn=>zO b (fun e=>hn id l hl iY e.symm)
  jK:=fun i l' h1 qN=>.inr ⟨i,l',h1,nF qN,rfl⟩
  mU:=fun _ _ h=>.inl h
  next:=Ai _
  news:=fun _ _ h h'=>by rw[h] at h';cases h'
  dead:=fun _ _ _ hv=>nF hv
  mo:=rfl
  same:=sI.toB _}
theorem WR.ZT {G:Gh} {H:aA} {w w':World} (h:WR g G H w) {id:Nat} {l:Loc} {es es':List (AV×AV)} {ents ents':Array MapEntry} {clock clock':Nat} (hl:G.loc id=some l) (hg:H.get id=some (.map es))
 (hm:w.heap[l.cC]?=some (.map ents clock)) (jG:w'.heap=w.heap.setIfInBounds l.cC (.map ents' clock')) (sI:uY w w') (lY:ents'.size=es'.length) (hbn:Oe ents' clock')
 (hv:∀j,j<es'.length->VR G w (es'.getD j (aC,aC)).1 (ents'.getD j default).key/\VR G w (es'.getD j (aC,aC)).2 (ents'.getD j default).val):
 WR g G (H.set id (.map es')) w'/\Ext G H w G (H.set id (.map es')) w':=
 h.AG hl hg rfl rfl jG sI fun uI sJ=>⟨ents',clock',sJ,lY,hbn,fun j hj=>⟨uI _ _ (hv j hj).1,uI _ _ (hv j hj).2⟩⟩
theorem sD (ents:Array MapEntry) (i:Nat) (f:MapEntry->MapEntry) (j:Nat) (hj:j<ents.size):(ents.modify i f).getD j default=if i=j then f (ents.getD j default) else ents.getD j default:=by
 simp only[Ba,Ft];split
 . simp[hj]
 rfl
theorem Oe.modify {ents:Array MapEntry} {clock:Nat} (h:Oe ents clock) (i:Nat) (f:MapEntry->MapEntry) (hf:∀e,(f e).born=e.born):Oe (ents.modify i f) clock:=by
 have hb:∀j,j<ents.size->((ents.modify i f).getD j default).born=(ents.getD j default).born:=fun j hj=>by
  rw[sD _ _ _ _ hj];split
  . rw[hf]
  rfl
 refine⟨fun j hj=>?_,fun j k hj hk he=>?_⟩
 . rw[Array.size_modify] at hj;rw[hb j hj];exact h.1 j hj
 rw[Array.size_modify] at hj hk;rw[hb j hj,hb k hk] at he;exact h.2 j k hj hk he
theorem Oe.push {ents:Array MapEntry} {clock:Nat} (h:Oe ents clock) (e:MapEntry) (he:e.born=clock):Oe (ents.push e) (clock+1):=by
 have hb:∀j,j<(ents.push e).size->((ents.push e).getD j default).born=if j<ents.size then(ents.getD j default).born else clock:=fun j hj=>by
  rw[Array.size_push] at hj;simp only[Ba,Jd];by_cases h1:j<ents.size
  . rw[if_neg (by omega),if_pos h1]
  rw[if_pos (by omega),if_neg h1];exact he
 refine⟨fun j hj=>?_,fun j k hj hk Tt=>?_⟩
 . rw[hb j hj];by_cases h1:j<ents.size
   . rw[if_pos h1];have :=h.1 j h1;omega
   rw[if_neg h1];omega
 rw[hb j hj,hb k hk] at Tt;rw[Array.size_push] at hj hk;by_cases h1:j<ents.size<;>by_cases h2:k<ents.size
 . rw[if_pos h1,if_pos h2] at Tt;exact h.2 j k h1 h2 Tt
 . rw[if_pos h1,if_neg h2] at Tt;have :=h.1 j h1;omega
 . rw[if_neg h1,if_pos h2] at Tt;have :=h.1 k h2;omega
 omega
theorem FK {G:Gh} {w:World} (d:Nat):∀(sh:List Sk) (xs ys:List AV) (us vs:List Value),cE sh xs ys=some true->fJ G w xs us->fJ G w ys vs->
 us.length=vs.length/\(vs.zip us).all (fun p=>Instr.sameBits d p.1 p.2)=true
 |[],xs,ys,us,vs,h,hx,hy=>by
  cases xs<;>cases ys<;>simp only[cE] at h<;>first|(cases h;done)|skip
  have h1:=hx.1;have h2:=hy.1;simp only[Ar,Gp] at h1 h2;subst h1 h2;simp
 |k::sh,xs,ys,us,vs,h,hx,hy=>by
  cases xs with
  |nil=>cases k<;>simp[cE] at h
  |cons x xs=>
   cases ys with
   |nil=>cases k<;>cases x<;>simp[cE] at h
   |cons y ys=>
    have h1:=hx.1;have h2:=hy.1
    cases us with
    |nil=>simp at h1
    |cons u us=>
     cases vs with
     |nil=>simp at h2
     |cons v vs=>
      have hxu:=hx.2 0 (by simp);have qu:=hy.2 0 (by simp);simp only[Di] at hxu qu;have tx:fJ G w xs us:=⟨by simpa using h1,fun j hj=>by have :=hx.2 (j+1) (by simpa using hj);simpa using this⟩;have ty:fJ G w ys vs:=⟨by simpa using h2,fun j hj=>by have :=hy.2 (j+1) (by simpa using hj);simpa using this⟩
      have fin:∀{b:Bool},(cE sh xs ys).map (b&& ·)=some true->(b=true->Instr.sameBits d v u=true)->(u::us).length=(v::vs).length/\((v::vs).zip (u::us)).all (fun p=>Instr.sameBits d p.1 p.2)=true:=by intro b hm hb;simp only[Af,Aj] at hm;obtain⟨r,hr,vR,rfl⟩:=hm;obtain⟨g1,g2⟩:=FK d sh xs ys us vs hr tx ty;refine⟨by simp[g1],?_⟩;simp only[List.zip_cons_cons,Hg,hb vR,Cu];exact g2
      cases k<;>cases x<;>cases y<;>simp only[cE] at h<;>first|(cases h;done)|skip
      . refine fin h fun hb=>?_;simp only[Dr] at hb;subst hb;rw[hxu.gO,qu.gO];cases d<;>simp[Instr.sameBits]
      . split at h
        . rename_i Tt;refine fin h fun hb=>?_;simp only[Dr] at hb;subst hb Tt;rw[hxu.fS,qu.fS];cases d<;>simp[Instr.sameBits]
        cases h
      refine fin h fun hb=>?_;simp only[Dr] at hb;subst hb;rw[hxu.jB,qu.jB];cases d<;>simp only[Instr.sameBits]<;>rw[beq_toListBytes]<;>simp
theorem OD {G:Gh} {w:World} {k:Sk} {x y:AV} {u v:Value} (d:Nat) (h:sameKey k x y=some true) (hx:VR G w x u) (hy:VR G w y v):Instr.sameBits (d+1) v u=true:=by
 cases x<;>cases y<;>simp only[sameKey] at h<;>first
  |(cases h;done)
  |skip
 . cases k<;>simp only[] at h<;>first|(cases h;done)|skip
   simp at h;subst h;rw[hx.gO,hy.gO];simp[Instr.sameBits]
 . cases k<;>simp only[] at h<;>first|(cases h;done)|skip
   split at h
   . rename_i hc;simp at h;subst hc;subst h;rw[hx.fS,hy.fS];simp[Instr.sameBits]
   cases h
 . cases k<;>simp only[] at h<;>first|(cases h;done)|skip
   simp at h;subst h;rw[hx.jB,hy.jB];simp only[Instr.sameBits];rw[beq_toListBytes];simp
 cases k<;>simp only[] at h<;>first|(cases h;done)|skip
 rename_i xs ys sh;obtain⟨us,e1,l1,_,v1⟩:=hx.qP;obtain⟨vs,e2,l2,_,v2⟩:=hy.qP;obtain⟨g1,g2⟩:=FK d sh xs ys us vs h ⟨l1,v1⟩ ⟨l2,v2⟩;rw[e1,e2];simp only[Instr.sameBits,Fc,g1,Eu,Cu];exact g2
theorem QI {t kt vt:TypeId} {k:Sk} {x i y:Operand} {x' i' y':Arg} (ho:o.op=.mapUpdate t x i y\/o.op=.insert t x i y) (hx:aX g x=some x') (hi:aX g i=some i') (hy:aX g y=some y')
 (ht:P.underlying t=some (.map kt vt)) (hk:BX P kt=some k):bT P g o (.KH k x' i' y'):=by
 intro s a G H w v H' hw hs h;have vx:=aW hw hs hx;have vi:=aW hw hs hi;have vy:=aW hw hs hy;have aKi:Jy k (Arg.eval g s i')=true->(Instr.checkKey false 10000 kt (a.eval i)).run P w=.ok () w:=fun hko=>run_checkKey hk false 9940 vi hko;simp only[cD] at h;split at h
 . rename_i hko;have hck:=aKi hko;split at h
   . rename_i id bZ;rw[bZ] at vx;generalize dC:a.eval x=u at vx
     cases vx with
     |map _ l hl=>
      split at h
      . rename_i es hg;obtain⟨_,_,ents,clock,m1,m2,mb,m3⟩:=hw.fQ id l _ hl hg rfl;have hgo:=run_getObj_map (P:=P) m1
        have fZ:∀{w':World},(Instr.mapUpdate t (.map (some l.cC)) (a.eval i) (a.eval y)).run P w=.ok () w'->(execOp a.eval o).run P w=.ok .skip w':=fun hr=>by rcases ho with ho|ho<;>simp[execOp,ho,dC,hr]
        have sK:∀(en:Array MapEntry) (cl:Nat),(setObj l.cC (.map en cl)).run P w=.ok () {w with heap:=w.heap.setIfInBounds l.cC (.map en cl)}:=fun en cl=>by simp[setObj,Sem.run,m1]
        split at h
        . rename_i j av hf;simp only[Ab,Ad] at h;obtain⟨rfl,rfl⟩:=h;obtain⟨r',h1,h2⟩:=run_findKey (P:=P) hk vi hf m2 m3
          rcases h2 with ⟨hh,_⟩|⟨j',av',vv,e1,e2,e3,e4,e5⟩
          . cases hh
          cases e1;subst e2;have hsb:=OD 9999 e5 vi (m3 j e4).1
          obtain⟨r1,r2⟩:=hw.ZT (es':=es.set j (Arg.eval g s i',Arg.eval g s y')) (ents':=ents.modify j fun e=>{e with key:=a.eval i,val:=a.eval y}) (clock':=clock) (w':={w with heap:=w.heap.setIfInBounds l.cC (.map (ents.modify j fun e=>{e with key:=a.eval i,val:=a.eval y}) clock)}) hl hg m1 rfl .now (by simp[m2]) (mb.modify _ _ fun _=>rfl) (fun q hq=>by
           simp only[Ho] at hq;rw[sD _ _ _ _ (by omega),getD_eq,Eh];by_cases gu:j=q
           . rw[if_pos gu,if_pos gu];subst gu;rw[if_pos e4];exact⟨vi,vy⟩
           rw[if_neg gu,if_neg gu]
           exact m3 q hq)
          refine⟨.skip,undef,_,G,fZ ?_,.inr ⟨rfl,rfl⟩,r1,r2,VR.kN G _⟩
          have YN:((ents[j]?).map (·.key)).getD (a.eval i)=(ents.getD j default).key:=by have pq:j<ents.size:=(by omega);simp[Array.getD,pq]
          simp only[Instr.mapUpdate,Sem.run_bind,run_underlying ht w,Result.andThen_ok,hgo,hck,h1,Instr.keyThatStays,YN,hsb,if_true,Sem.run_pure,sK]
        . rename_i hf;simp only[Ab,Ad] at h;obtain⟨rfl,rfl⟩:=h;obtain⟨r',h1,h2⟩:=run_findKey (P:=P) hk vi hf m2 m3
          rcases h2 with ⟨_,e2⟩|⟨j',av',vv,e1,_⟩
          . subst e2
            obtain⟨r1,r2⟩:=hw.ZT (es':=es++[(Arg.eval g s i',Arg.eval g s y')]) (ents':=ents.push {key:=a.eval i,val:=a.eval y,born:=clock}) (clock':=clock+1) (w':={w with heap:=w.heap.setIfInBounds l.cC (.map (ents.push {key:=a.eval i,val:=a.eval y,born:=clock}) (clock+1))}) hl hg m1 rfl .now (by simp[m2]) (mb.push _ rfl) (fun q hq=>by
             simp only[Ag,Ak,Ar] at hq;rw[getD_eq,Cz,Ba,Jd];by_cases gu:q<es.length
             . rw[if_pos gu,if_neg (by omega)];have :=m3 q gu
               rwa [Ba] at this
             rw[if_neg gu,if_pos (by omega)];have hq0:q -es.length=0:=(by omega);rw[hq0]
             exact⟨vi,vy⟩)
            refine⟨.skip,undef,_,G,fZ ?_,.inr ⟨rfl,rfl⟩,r1,r2,VR.kN G _⟩;simp only[Instr.mapUpdate,Sem.run_bind,run_underlying ht w,Result.andThen_ok,hgo,hck,h1,sK]
          cases e1
        cases h
      cases h
   cases h
 cases h
end
end
end Go.Av
