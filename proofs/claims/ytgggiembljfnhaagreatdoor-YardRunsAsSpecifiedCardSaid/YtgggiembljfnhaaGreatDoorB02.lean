/-
  Part of the proof of statement 12
-/
import Derived.Test.YtgggiembljfnhaaGreatDoorB01
import Derived.Laws.StructEq
import Derived.ChangeKeysEq
import Derived.Laws.BytesArg
set_option linter.unusedVariables false
set_option linter.unusedSimpArgs false
namespace Go.Av
open Go
section
def CL (P:Program) (sh:TypeId->Option (List Sk)):Nat->List Field->Option (List Sk)
 |_,[]=>some []
 |off,f::fs=>
  if f.name≠ "_" /\f.offset=off then
   match sh f.type with
   |some k=>if kG P f.type=some k.length then(CL P sh (off+k.length) fs).map (k++ ·) else none
   |none=>none
  else none
def oH (P:Program):Nat->TypeId->Option (List Sk)
 |0,_=>none
 |d+1,t=>
  match P.underlying t with
  |some .bool=>some [.b]
  |some (.int _)=>some [.i]
  |some .string=>some [.s]
  |some (.struct fs)=>if P.stoodInHeld t then none else CL P (oH P d) 0 fs.toList
  |some (.array n e)=>
   match oH P d e with
   |some k=>if kG P e=some k.length then some (List.replicate n k).flatten else none
   |none=>none
  |_=>none
theorem vB:∀(k1 k2:List Sk) (xs ys:List AV) (r:Bool),cL (k1++k2) xs ys=some r->
 ∃r1 r2,cL k1 (xs.take k1.length) (ys.take k1.length)=some r1/\cL k2 (xs.drop k1.length) (ys.drop k1.length)=some r2/\r=(r1&&r2)
 |[],k2,xs,ys,r,h=>⟨true,r,rfl,by simpa using h,by simp⟩
 |k::k1,k2,xs,ys,r,h=>by
  have step:∀{x y:AV} {xs' ys':List AV} {c:Bool},xs=x::xs'->ys=y::ys'->(cL (k1++k2) xs' ys').map (c&& ·)=some r->
   (∀l m,cL (k::k1) (x::l) (y::m)=(cL k1 l m).map (c&& ·))->
   ∃r1 r2,cL (k::k1) (xs.take (k::k1).length) (ys.take (k::k1).length)=some r1/\cL k2 (xs.drop (k::k1).length) (ys.drop (k::k1).length)=some r2/\r=(r1&&r2):=by
   intro x y xs' ys' c hx hy hm hc;simp only[Ah] at hm;obtain⟨r',hr',rfl⟩:=hm;obtain⟨r1,r2,h1,h2,h3⟩:=vB k1 k2 xs' ys' r' hr';subst hx hy;refine⟨c&&r1,r2,?_,by simpa using h2,by rw[h3,Bool.and_assoc]⟩;simp only[As,Dp];rw[hc,h1];rfl
  cases k<;>cases xs with
  |nil=>simp[cL] at h
  |cons x xs'=>
   cases ys with
   |nil=>cases x<;>simp[cL] at h
   |cons y ys'=>
    cases x<;>cases y<;>simp only[Er,cL] at h<;>first
     |(cases h;done)
     |exact step rfl rfl h (fun l m=>rfl)
     |(split at h
       . rename_i wo;subst wo;exact step rfl rfl h (fun l m=>by simp[cL])
       cases h)
def valOf (agg:Bool) (us:List Value):Value:=if agg then .agg us.toArray else us.getD 0 undef
theorem mL {P:Program} {t:TypeId} {n:Nat} {b:Bool} (hn:kG P t=some n) (hb:fT P t=some b) (w:World) {us:List Value} {off:Nat} (gT:off+n<=us.length) (KK:b=false->n=1):
 (part t us.toArray off).run P w=.ok (valOf b ((us.drop off).take n)) w:=by
 cases b with
 |true=>simp only[part,Sem.run_bind,qK hb w,Result.andThen_ok,if_true,eI hn w,Sem.run_pure,valOf];congr 2;apply Fk;simp[Hl]
 |false=>have :=KK rfl;simp only[part,Sem.run_bind,qK hb w,Result.andThen_ok,Bb,Bp,Eb,qF us undef off (by omega),valOf];rw[eY _ _ _ _ _ (by omega)];rfl
theorem iO.take_drop {G:Gh} {w:World} {xs:List AV} {us:List Value} (h:iO G w xs us) (off n:Nat) (gT:off+n<=xs.length):iO G w ((xs.drop off).take n) ((us.drop off).take n):=by have hl:=h.1;refine⟨by simp;omega,fun j hj=>?_⟩;simp at hj;rw[eY _ _ _ _ _ (by omega),eY _ _ _ _ _ (by omega)];exact h.2 _ (by omega)
theorem DJ:∀{ks:List Sk} {xs ys:List AV} {r:Bool},cL ks xs ys=some r->xs.length=ks.length/\ys.length=ks.length
 |[],[],[],_,_=>⟨rfl,rfl⟩
 |[],_::_,ys,r,h=>by cases ys<;>simp[cL] at h
 |[],[],_::_,r,h=>by simp[cL] at h
 |k::ks,[],ys,r,h=>by cases k<;>simp[cL] at h
 |k::ks,x::xs,[],r,h=>by cases k<;>cases x<;>simp[cL] at h
 |k::ks,x::xs,y::ys,r,h=>by
  have :∃r',cL ks xs ys=some r':=by
   cases k<;>cases x<;>cases y<;>simp only[cL] at h<;>first
    |(cases h;done)
    |(simp only[Ah] at h;obtain⟨r',h,_⟩:=h;exact⟨r',h⟩)
    |(split at h
      . simp only[Ah] at h;obtain⟨r',h,_⟩:=h;exact⟨r',h⟩
      cases h)
  obtain⟨r',h'⟩:=this;have :=DJ h';simp[this.1,this.2]
theorem yD {P:Program} {d:Nat} {t:TypeId} {ks:List Sk} (h:oH P d t=some ks):∃b,fT P t=some b/\(b=false->ks.length=1):=by
 cases d with
 |zero=>cases h
 |succ d=>
  simp only[oH] at h;unfold fT
  split at h<;>rename_i hu<;>first
   |(cases h;done)
   |(obtain rfl:=Aa h;exact⟨false,by rw[hu],fun _=>rfl⟩)
   |exact⟨true,by rw[hu],fun hf=>by cases hf⟩
theorem PY {P:Program} {e:TypeId} {n:Nat} (h:kG P e=some n):P.cellsOf e=n/\∃i,P.info? e=some i:=by simp only[kG,Ah] at h;obtain⟨i,hi,rfl⟩:=h;exact⟨by simp[Program.cellsOf,hi],i,hi⟩
theorem UZ {P:Program}:∀(f:Nat) (t:TypeId) (ks:List Sk),oH P f t=some ks->∀(b:Bool),fT P t=some b->∀(d:Nat) (G:Gh) (w:World) (xs ys:List AV) (us vs:List Value) (r:Bool),
 cL ks xs ys=some r->iO G w xs us->iO G w ys vs->(Op.equalIn (d+f) t (valOf b us) (valOf b vs)).run P w=.ok r w:=by
 intro f
 induction f with
 |zero=>intro t ks h;cases h
 |succ f ih=>
  intro t ks h b hb d G w xs ys us vs r hr hx hy;have hlen:=DJ hr
  have scalar:∀{k:Sk},ks=[k]->∃x y,xs=[x]/\ys=[y]/\VR G w x (us.getD 0 undef)/\VR G w y (vs.getD 0 undef):=fun {k} hk=>by
   subst hk
   match xs,ys,hlen with
   |[x],[y],_=>exact⟨x,y,rfl,rfl,by simpa using hx.2 0 (by simp),by simpa using hy.2 0 (by simp)⟩
  rw[show d+(f+1)=(d+f)+1 from rfl];simp only[oH] at h;split at h
  . rename_i hu;obtain rfl:=Aa h;have SQ:b=false:=by simp only[fT,hu,Ae] at hb;exact hb.symm
    subst SQ;obtain⟨x,y,rfl,rfl,h1,h2⟩:=scalar rfl;simp only[valOf,Bb,Bp]
    cases x<;>cases y<;>simp only[cL] at hr<;>first|(cases hr;done)|skip
    rename_i p q;rw[h1.jY,h2.jY,GX _ hu w];simp at hr;rw[<-hr]
  . rename_i k hu;obtain rfl:=Aa h;have SQ:b=false:=by simp only[fT,hu,Ae] at hb;exact hb.symm
    subst SQ;obtain⟨x,y,rfl,rfl,h1,h2⟩:=scalar rfl;simp only[valOf,Bb,Bp]
    cases x<;>cases y<;>simp only[cL] at hr<;>first|(cases hr;done)|skip
    rename_i j p j' q;split at hr
    . rename_i hj;subst hj;rw[h1.iZ,h2.iZ,run_equalIn_int w _ t j k p q hu];simp at hr;rw[<-hr]
    cases hr
  . rename_i hu;obtain rfl:=Aa h;have SQ:b=false:=by simp only[fT,hu,Ae] at hb;exact hb.symm
    subst SQ;obtain⟨x,y,rfl,rfl,h1,h2⟩:=scalar rfl;simp only[valOf,Bb,Bp]
    cases x<;>cases y<;>simp only[cL] at hr<;>first|(cases hr;done)|skip
    rename_i p q;rw[h1.lK,h2.lK,run_equalIn_string w _ t _ _ hu,ByteArray.toList_mk,ByteArray.toList_mk];simp at hr;rw[<-hr]
  . rename_i fs hu;split at h
    . cases h
    rename_i gV;have o9:b=true:=(by simp only[fT,hu,Ae] at hb;exact hb.symm);subst o9;simp only[valOf,if_true];have hfo:P.fieldsOf t=fs:=(by simp[Program.fieldsOf,hu]);rw[run_equalIn_struct w _ t _ _ (by rw[hfo];exact hu) (by simpa using gV),hfo];have hux:=hx.1;have huy:=hy.1
    have key:∀(l:List Field) (off:Nat) (ka:List Sk),CL P (oH P f) off l=some ka->off+ka.length<=xs.length->off+ka.length<=ys.length->∀r,cL ka ((xs.drop off).take ka.length) ((ys.drop off).take ka.length)=some r->
     (Op.eqFields (d+f) us.toArray vs.toArray l).run P w=.ok r w:=by
     intro l
     induction l with
     |nil=>intro off ka hs _ _ r hr;obtain rfl:=Aa hs;simp[cL] at hr;subst hr;simp[Op.eqFields]
     |cons fd l ihl=>
      intro off ka hs DO EY r hr;simp only[CL] at hs;split at hs
      . rename_i hc;obtain⟨SU,CT⟩:=hc;split at hs
        . rename_i k hk;split at hs
          . rename_i lE;simp only[Ah] at hs;obtain⟨ks2,hs2,rfl⟩:=hs;simp only[Ba] at DO EY hr;obtain⟨r1,r2,e1,e2,rfl⟩:=vB _ _ _ _ _ hr;obtain⟨bf,SQ,SS⟩:=yD hk
            have t1:∀(z:List AV),off+(k.length+ks2.length)<=z.length->List.take k.length (List.take (k.length+ks2.length) (z.drop off))=(z.drop off).take k.length:=fun z hz=>by rw[List.take_take];congr 1;omega
            have t2:∀(z:List AV),off+(k.length+ks2.length)<=z.length->List.drop k.length (List.take (k.length+ks2.length) (z.drop off))=(z.drop (off+k.length)).take ks2.length:=fun z hz=>by rw[List.drop_take,Jc];congr 1;omega
            rw[t1 _ DO,t1 _ EY] at e1;rw[t2 _ DO,t2 _ EY] at e2;have p1:=mL lE SQ w (us:=us) (off:=fd.offset) (by omega) SS;have p2:=mL lE SQ w (us:=vs) (off:=fd.offset) (by omega) SS;have p3:=ih fd.type k hk bf SQ d G w _ _ _ _ r1 e1 (hx.take_drop off k.length (by omega)) (hy.take_drop off k.length (by omega));rw[<-CT] at p3;simp only[Op.eqFields,if_pos SU,Sem.run_bind,p1,p2,p3,Result.andThen_ok]
            cases r1 with
            |false=>simp
            |true=>simp only[Gw,Bb,Bp,Co];exact ihl (off+k.length) ks2 hs2 (by omega) (by omega) r2 e2
          cases hs
        cases hs
      cases hs
    have :=key fs.toList 0 ks h (by omega) (by omega) r (by
     simp only[Ee];rw[Aq (by omega),Aq (by omega)]
     exact hr)
    exact this
  . rename_i n e hu;have o9:b=true:=by simp only[fT,hu,Ae] at hb;exact hb.symm
    subst o9;simp only[valOf,if_true];split at h
    . rename_i k hk;split at h
      . rename_i lE;obtain rfl:=Aa h;obtain⟨kJ,i,hi⟩:=PY lE;rw[run_equalIn_array w (d+f) _ _ hu hi,kJ];obtain⟨bf,SQ,SS⟩:=yD hk;have hux:=hx.1;have huy:=hy.1;have hlk:∀m,((List.replicate m k).flatten).length=m*k.length:=fun m=>by simp
        have key:∀(m j:Nat),(j+m)*k.length<=xs.length->(j+m)*k.length<=ys.length->∀r,cL (List.replicate m k).flatten ((xs.drop (j*k.length)).take (m*k.length)) ((ys.drop (j*k.length)).take (m*k.length))=some r->
         (Op.eqItems (d+f) e k.length us.toArray vs.toArray (List.range' j m)).run P w=.ok r w:=by
         intro m
         induction m with
         |zero=>intro j _ _ r hr;simp[cL] at hr;subst hr;simp[Op.eqItems]
         |succ m ihm=>
          intro j DO EY r hr;have hm1:(m+1)*k.length=k.length+m*k.length:=(by rw[Dw];omega);have KJ:(j+(m+1))*k.length=j*k.length+(k.length+m*k.length):=(by rw[Cs,hm1]);have MO:(j+1)*k.length=j*k.length+k.length:=(by rw[Dw]);rw[KJ] at DO EY;rw[hm1] at hr;rw[Dx,Bl] at hr;obtain⟨r1,r2,e1,e2,rfl⟩:=vB _ _ _ _ _ hr
          have t1:∀(z:List AV),List.take k.length (List.take (k.length+m*k.length) (z.drop (j*k.length)))=(z.drop (j*k.length)).take k.length:=fun z=>by rw[List.take_take];congr 1;omega
          have t2:∀(z:List AV),List.drop k.length (List.take (k.length+m*k.length) (z.drop (j*k.length)))=(z.drop ((j+1)*k.length)).take (m*k.length):=fun z=>by rw[List.drop_take,Jc,MO];congr 1;omega
          rw[t1,t1] at e1;rw[t2,t2] at e2;have p1:=mL lE SQ w (us:=us) (off:=j*k.length) (by omega) SS;have p2:=mL lE SQ w (us:=vs) (off:=j*k.length) (by omega) SS;have p3:=ih e k hk bf SQ d G w _ _ _ _ r1 e1 (hx.take_drop (j*k.length) k.length (by omega)) (hy.take_drop (j*k.length) k.length (by omega));simp only[List.range'_succ,Op.eqItems,Sem.run_bind,p1,p2,p3,Result.andThen_ok]
          cases r1 with
          |false=>simp
          |true=>simp only[Gw,Bb,Bp,Co];have hj3:(j+1+m)*k.length=j*k.length+(k.length+m*k.length):=(by rw[Cs,MO];omega);exact ihm (j+1) (by rw[hj3];exact DO) (by rw[hj3];exact EY) r2 e2
        have :=key n 0 (by rw[Cq];rw[hlk] at hlen;omega) (by rw[Cq];rw[hlk] at hlen;omega) r (by
         rw[hlk] at hlen;simp only[Iw,Ee];rw[Aq (by omega),Aq (by omega)]
         exact hr)
        rw[List.range_eq_range'];exact this
      cases h
    cases h
  cases h
section
variable {P:Program} {g:bG} {o:Oper}
theorem aTq {op:BinOp} {neg:Bool} {t t2:TypeId} {f:Nat} {ks:List Sk} {x y:Operand} {x' y':Arg} (ho:o.op=.binOp op t x y t2) (fK:op=if neg then .neq else .eql) (hf:f<=9999)
 (hk:oH P f t=some ks) (hb:fT P t=some true) (hg:P.eqGuardType P.depth t=false) (hx:bN g x=some x') (hy:bN g y=some y'):cP P g o (.eqf neg ks x' y'):=by
 intro s a G H w v H' hw hs h;have vx:=bM hw hs hx;have vy:=bM hw hs hy;simp only[dA] at h;split at h
 . rename_i xs ys h1 h2;rw[h1] at vx;rw[h2] at vy;obtain⟨us,e1,l1,_,v1⟩:=vx.uI;obtain⟨vs,e2,l2,_,v2⟩:=vy.uI;simp only[Ah,Ak] at h;obtain⟨r,hr,rfl,rfl⟩:=h;refine cP.pure' hw (u:=.bool (if neg then !r else r)) ?_ (.bool _);have sL:=run_eqGuard_agg (P:=P) w op t x y us.toArray vs.toArray hg;have heq:=UZ f t ks hk true hb (10000 -f) G w xs ys us vs r hr ⟨l1,v1⟩ ⟨l2,v2⟩;rw[show 10000 -f+f=10000 by omega] at heq;simp only[valOf,if_true] at heq;have bFd:(Op.equal t (.agg us.toArray) (.agg vs.toArray)).run P w=.ok r w:=heq;subst fK;cases neg<;>simp only[Bb,Bp,if_true] at ho sL<;>simp[execOp,ho,e1,e2,sL,Go.binOp,bFd]
 cases h
def nkP (P:Program) (t:TypeId):Option Nk:=
 match P.underlying t with
 |some (.pointer _)=>some .ptr
 |some (.interface _)=>some .ifc
 |some (.slice _)=>some .sli
 |some (.map _ _)=>some .mp
 |some (.func _ _ _)=>some .fn
 |_=>none
def AM:Value->Bool
 |.pointer none|.nilIface|.slice none _ _|.map none|.nilFunc=>true
 |_=>false
theorem VE {G:Gh} {w:World} {k:Nk} {a:AV} {u:Value} {b:Bool} (h:rU k a=some b) (hv:VR G w a u):AM u=b:=by
 cases hv<;>simp only[rU] at h<;>first
  |(cases h;done)
  |(split at h
    . obtain rfl:=Aa h;rfl
    cases h)
def XS:Nk->Value->Prop
 |.ptr,.pointer _=>True
 |.ifc,.nilIface|.ifc,.iface _ _=>True
 |.sli,.slice _ _ _=>True
 |.mp,.map _=>True
 |.fn,.nilFunc|.fn,.func _ _ _=>True
 |_,_=>False
theorem LU {G:Gh} {w:World} {k:Nk} {a:AV} {u:Value} {b:Bool} (h:rU k a=some b) (hv:VR G w a u):XS k u:=by
 cases hv<;>simp only[rU] at h<;>first
  |(cases h;done)
  |(split at h
    . rename_i hk;subst hk;trivial
    cases h)
theorem MB (d:Nat) {t:TypeId} {k:Nk} (hk:nkP P t=some k) (w:World) {u v:Value} (hu:XS k u) (hv:XS k v) (h:(AM u||AM v)=true):
 (Op.equalIn (d+1) t u v).run P w=.ok (AM u&&AM v) w:=by
 unfold nkP at hk;rw[Op.equalIn]
 split at hk<;>rename_i GA<;>first
  |(cases hk;done)
  |(obtain rfl:=Aa hk
    simp only[Sem.run_bind,run_underlying GA w,Result.andThen_ok]
    cases u<;>first|exact hu.elim|skip
    all_goals (cases v<;>first|exact hv.elim|skip)
    all_goals first
     |rfl
     |(rename_i p q;cases p<;>cases q<;>first|rfl|(simp[AM] at h;done))
     |(rename_i p _ _ q _ _;cases p<;>cases q<;>first|rfl|(simp[AM] at h;done))
     |(simp[AM] at h;done))
theorem aTr {op:BinOp} {neg:Bool} {t t2:TypeId} {k:Nk} {lit:Bool} {x y:Operand} {x' y':Arg} (ho:o.op=.binOp op t x y t2) (fK:op=if neg then .neq else .eql)
 (hk:nkP P t=some k) (xg:lit=true->(∃c,x=.const c)\/∃c,y=.const c) (hx:bN g x=some x') (hy:bN g y=some y'):cP P g o (.tz neg k lit x' y'):=by
 intro s a G H w v H' hw hs h;have vx:=bM hw hs hx;have vy:=bM hw hs hy;simp only[dA] at h;split at h
 . rename_i p q h1 h2;have f1:=LU h1 vx;have f2:=LU h2 vy;have n1:=VE h1 vx;have n2:=VE h2 vy;split at h
   . rename_i hc;simp only[Ae,Ak] at h;obtain⟨rfl,rfl⟩:=h;simp only[Al] at hc;obtain⟨SU,CT⟩:=hc;refine cP.pure' hw (u:=.bool (if neg then !(p&&q) else(p&&q))) ?_ (.bool _);generalize e1:a.eval x=u1 at *;generalize e2:a.eval y=u2 at *
     have heq:(Op.equal t u1 u2).run P w=.ok (p&&q) w:=by have :=MB (P:=P) 9999 hk w f1 f2 (by rw[n1,n2];exact SU);rw[n1,n2] at this;exact this
     have sL:(eqGuard op t x y u1 u2).run P w=.ok () w:=by
      unfold eqGuard;by_cases aJe:u1=.nilIface/\u2=.nilIface
      . obtain⟨rfl,rfl⟩:=aJe
        have wx:k=.ifc:=(by cases k<;>first|rfl|exact f1.elim);have hp:p=true:=n1.symm;have hq:q=true:=n2.symm;subst wx hp hq;simp at CT
        rcases xg CT with ⟨c,rfl⟩|⟨c,rfl⟩
        . cases op<;>simp
        cases op<;>simp
      cases u1<;>first
       |(cases k<;>exact f1.elim)
       |(cases op<;>rfl)
       |(cases u2<;>first|exact absurd ⟨rfl,rfl⟩ aJe|(cases op<;>rfl))
     have bEt:(Go.binOp op t u1 u2).run P w=.ok (.bool (if neg then !(p&&q) else(p&&q))) w:=by
      subst fK
      cases neg with
      |false=>
       simp only[Bb,Bp]
       cases u1<;>first
        |(cases k<;>exact f1.elim)
        |(cases u2<;>first
           |(cases k<;>first|exact f1.elim|exact f2.elim)
           |simp[Go.binOp,heq])
      |true=>
       simp only[if_true]
       cases u1<;>first
        |(cases k<;>exact f1.elim)
        |(cases u2<;>first
           |(cases k<;>first|exact f1.elim|exact f2.elim)
           |simp[Go.binOp,heq])
     simp only[execOp,ho,e1,e2,Sem.run_bind,sL,bEt,Result.andThen_ok];rfl
   cases h
 cases h
end
end
section
theorem AH (off:Nat):∀(l:List Value) (k:Nat) (cells:Array Value),
 ((l.zipIdx k).foldl (fun(cs:Array Value) (p:Value×Nat)=>cs.setIfInBounds (off+p.2) p.1) cells).size=cells.size/\
 ∀i,((l.zipIdx k).foldl (fun(cs:Array Value) (p:Value×Nat)=>cs.setIfInBounds (off+p.2) p.1) cells)[i]?=
  if off+k<=i/\i<off+k+l.length/\i<cells.size then l[i -(off+k)]? else cells[i]?
 |[],k,cells=>⟨rfl,fun i=>by
    rw[if_neg]
    . rfl
    simp only[Bm];omega⟩
 |v::r,k,cells=>by
  have ih:=AH off r (k+1) (cells.setIfInBounds (off+k) v);simp only[List.zipIdx_cons,Ho];refine⟨by rw[ih.1];simp,fun i=>?_⟩;rw[ih.2 i];simp only[As,Array.size_setIfInBounds];by_cases h1:off+(k+1)<=i/\i<off+(k+1)+r.length/\i<cells.size
  . rw[if_pos h1,if_pos (by omega)];rw[show i -(off+k)=(i -(off+(k+1)))+1 by omega];simp
  rw[if_neg h1,Fj];by_cases h2:off+k=i
  . subst h2;by_cases h3:off+k<cells.size
    . simp[h3]
    rw[if_pos rfl,if_neg h3,if_neg (by omega),Jr (by omega)]
  have lE:(cells.setIfInBounds (off+k) v).size=cells.size:=by simp
  rw[if_neg h2,if_neg (by omega)]
theorem iI (a:Array Value) (j:Nat) (d:Value):a.toList.getD j d=(a[j]?).getD d:=by rw[getD_eq,Array.getElem?_toList]
theorem Qn (off:Nat) (arr cells:Array Value):
 (arr.zipIdx.foldl (fun(cs:Array Value) (p:Value×Nat)=>cs.setIfInBounds (off+p.2) p.1) cells).size=cells.size/\
 ∀i,(arr.zipIdx.foldl (fun(cs:Array Value) (p:Value×Nat)=>cs.setIfInBounds (off+p.2) p.1) cells)[i]?=
  if off<=i/\i<off+arr.size/\i<cells.size then arr[i -off]? else cells[i]?:=by
 have h:=AH off arr.toList 0 cells;rw[<-Array.foldl_toList];simp only[Array.toList_zipIdx];simpa using h
theorem ui {G:Gh} {w:World} {cs vs:List AV} {cells arr:Array Value} {off:Nat} (h:iO G w cs cells.toList) (hv:iO G w vs arr.toList) (gT:off+vs.length<=cs.length):
 iO G w (fW cs off vs) (arr.zipIdx.foldl (fun(cs:Array Value) (p:Value×Nat)=>cs.setIfInBounds (off+p.2) p.1) cells).toList:=by
 obtain⟨h1,h2⟩:=Qn off arr cells;have l1:=h.1;have l2:=hv.1;simp only[Dc] at l1 l2;refine⟨by rw[qR _ _ _ gT,Dc,h1,l1],fun j hj=>?_⟩;rw[qR _ _ _ gT] at hj;rw[LN _ _ _ _ gT,iI,h2 j];by_cases hc:off<=j/\j<off+vs.length
 . rw[if_pos hc,if_pos (by omega)];have :=hv.2 (j -off) (by omega)
   rwa [iI] at this
 rw[if_neg hc,if_neg (by omega)];have :=h.2 j hj
 rwa [iI] at this
def vH (g:bG) (place:Nat->Option (Nat×Nat)):List (Nat×Operand)->Option (List (Nat×Nat×Arg))
 |[]=>some []
 |(i,x)::r=>match place i,bN g x,vH g place r with
  |some (off,n),some y,some ys=>some ((off,n,y)::ys)
  |_,_,_=>none
theorem Nc {g:bG} {G:Gh} {H:aA} {w:World} {s:List AV} {a:Act} (hw:WR g G H w) (hs:SR G w s a) {place place':Nat->Option (Nat×Nat)} (hp:∀i p,place i=some p->place' i=some p):
 ∀(parts:List (Nat×Operand)) (ps:List (Nat×Nat×Arg)) (cs Lr:List AV) (cells:Array Value),vH g place parts=some ps->GY (Arg.eval g s) cs ps=some Lr->iO G w cs cells.toList->(∀c∈cs,c.one=true)->
  ∃iS,Instr.fill place' cells (parts.map fun(i,x)=>(i,a.eval x))=some iS/\iO G w Lr iS.toList/\∀c∈Lr,c.one=true
 |[],ps,cs,Lr,cells,h1,h2,hc,h3=>by obtain rfl:=Aa h1;obtain rfl:=Aa h2;exact⟨cells,rfl,hc,h3⟩
 |(i,x)::r,ps,cs,Lr,cells,h1,h2,hc,h3=>by
  unfold vH at h1;split at h1
  . rename_i off n y ys nS hy MU;obtain rfl:=Aa h1;simp only[GY] at h2;split at h2
    . rename_i eW;obtain⟨c1,c2,c3⟩:=eW;have vx:=(bM hw hs hy).cellsOf c3;have hlen:=hc.1;have hlx:=vx.1.1;simp only[Dc] at hlen hlx;have gR:=ui hc vx.1 (by omega:off+_<=cs.length);obtain⟨iS,hf,hr⟩:=Nc hw hs hp r ys _ Lr _ MU h2 gR (fun c hc'=>(OP hc').elim (h3 c) (vx.2 c));refine⟨iS,?_,hr⟩;simp only[Cb,Instr.fill,hp _ _ nS]
      have aSa:(decide ((a.eval x).cells.size≠n)||decide (off+(a.eval x).cells.size>cells.size))=false:=by simp;omega
      rw[aSa];exact hf
    cases h2
  cases h1
def IQ (P:Program):List Field->Option (List (Nat×Nat))
 |[]=>some []
 |f::r=>match kG P f.type,IQ P r with
  |some n,some l=>some ((f.offset,n)::l)
  |_,_=>none
theorem run_places {P:Program} (w:World):∀{fs:List Field} {l:List (Nat×Nat)},IQ P fs=some l->
 (fs.mapM (fun f=>do pure (f.offset,<-sizeOf f.type):Field->Sem (Nat×Nat))).run P w=.ok l w
 |[],l,h=>by obtain rfl:=Aa h;rfl
 |f::r,l,h=>by
  unfold IQ at h;split at h
  . rename_i n l' hn hl;obtain rfl:=Aa h;have ih:=run_places w hl;simp only[List.mapM_cons,Sem.run_bind,eI hn w,Result.andThen_ok,Sem.run_pure,ih]
  cases h
section
variable {P:Program} {g:bG} {o:Oper}
theorem Ly {t:TypeId} {parts:Array (Nat×Operand)} {fs:Array Field} {l:List (Nat×Nat)} {z:Value} {zs:List AV} {ps:List (Nat×Nat×Arg)} (ho:o.op=.build t parts) (hu:P.underlying t=some (.struct fs))
 (hz:lL P t=some z) (BZ:jT z.cells.toList=some zs) (hl:IQ P fs.toList=some l) (hp:vH g (l[·]?) parts.toList=some ps):cP P g o (.build zs ps):=by
 intro s a G H w v H' hw hs h;simp only[dA,Ah,Ak] at h;obtain⟨cs,EW,rfl,rfl⟩:=h;have hc:=lS BZ G w;obtain⟨iS,hf,hv,h1⟩:=Nc hw hs (place':=(l.toArray[·]?)) (fun i p hp=>by simpa using hp) parts.toList ps zs cs z.cells hp EW hc.1 hc.2;refine cP.pure' hw (u:=.agg iS) ?_ (by simpa using VR.Wo hv h1);have nS:=run_places w hl;simp only[execOp,ho,Instr.build,Sem.run_bind,lA hz w,run_underlying hu w,Result.andThen_ok,Array.mapM_eq_mapM_toList,Sem.run_map,nS,Ij,hf];rfl
theorem OW {t e:TypeId} {n sz:Nat} {parts:Array (Nat×Operand)} {z:Value} {zs:List AV} {ps:List (Nat×Nat×Arg)} (ho:o.op=.build t parts) (hu:P.underlying t=some (.array n e))
 (lE:kG P e=some sz) (hz:lL P t=some z) (BZ:jT z.cells.toList=some zs) (hp:vH g (fun i=>some (i*sz,sz)) parts.toList=some ps):cP P g o (.build zs ps):=by
 intro s a G H w v H' hw hs h;simp only[dA,Ah,Ak] at h;obtain⟨cs,EW,rfl,rfl⟩:=h;have hc:=lS BZ G w;obtain⟨iS,hf,hv,h1⟩:=Nc hw hs (place':=fun i=>some (i*sz,sz)) (fun i p hp=>hp) parts.toList ps zs cs z.cells hp EW hc.1 hc.2;refine cP.pure' hw (u:=.agg iS) ?_ (by simpa using VR.Wo hv h1);simp only[execOp,ho,Instr.build,Sem.run_bind,lA hz w,run_underlying hu w,Result.andThen_ok,eI lE w,Ij,hf];rfl
def IB (g:bG):Nat->List (Nat×Operand)->Option (List Arg)
 |_,[]=>some []
 |k,(i,x)::r=>if i=k then match bN g x,IB g (k+1) r with
  |some y,some ys=>some (y::ys)
  |_,_=>none
  else none
theorem RH {ev:Arg->AV} {sz:Nat}:∀{ys:List Arg} {bB:List (List AV)},KQ ev sz ys=some bB->∀e∈bB,e.length=sz
 |[],bB,h=>by obtain rfl:=Aa h;intro e he;cases he
 |y::ys,bB,h=>by
  simp only[KQ] at h;split at h
  . rename_i hc;simp only[Ah] at h;obtain⟨els',h',rfl⟩:=h;intro e he
    rcases Am.1 he with rfl|he
    . exact hc.1
    exact RH h' e he
  cases h
theorem Nb {G:Gh} {H:aA} {w:World} {s:List AV} {a:Act} (hw:WR g G H w) (hs:SR G w s a) (sz:Nat):
 ∀(parts:List (Nat×Operand)) (ys:List Arg) (k:Nat) (bB:List (List AV)) (pre:List AV) (cells:Array Value),IB g k parts=some ys->KQ (Arg.eval g s) sz ys=some bB->
  pre.length=k*sz->cells.size=(k+parts.length)*sz->(∀j,j<k*sz->VR G w (pre.getD j aD) (cells.toList.getD j undef))->(∀c∈pre,c.one=true)->
  ∃iS,Instr.fill (fun i=>some (i*sz,sz)) cells (parts.map fun(i,x)=>(i,a.eval x))=some iS/\iO G w (pre++bB.flatten) iS.toList/\∀c∈pre++bB.flatten,c.one=true
 |[],ys,k,bB,pre,cells,h1,h2,hp,hc,hv,h3=>by obtain rfl:=Aa h1;obtain rfl:=Aa h2;refine⟨cells,rfl,⟨by simp at hc ⊢;omega,fun j hj=>?_⟩,by simpa using h3⟩;simp only[List.flatten_nil,Ch] at hj ⊢;exact hv j (by omega)
 |(i,x)::r,ys,k,bB,pre,cells,h1,h2,hp,hc,hv,h3=>by
  simp only[IB] at h1;split at h1
  . rename_i hi;subst hi;split at h1
    . rename_i y ys' hy MU;obtain rfl:=Aa h1;simp only[KQ] at h2;split at h2
      . rename_i eW;simp only[Ah] at h2;obtain⟨els',h2,rfl⟩:=h2;obtain⟨c1,c3⟩:=eW;have vx:=(bM hw hs hy).cellsOf c3;have hlx:=vx.1.1;simp only[Dc] at hlx;have hm:(i+(r.length+1))*sz=i*sz+sz+r.length*sz:=(by rw[Cs,Dw];omega);have hm1:(i+1)*sz=i*sz+sz:=Dw i sz;simp only[As] at hc;obtain⟨f1,f2⟩:=Qn (i*sz) (a.eval x).cells cells
        obtain⟨iS,hf,hr,ho⟩:=Nb hw hs sz r ys' (i+1) els' (pre++(Arg.eval g s y).cells) ((a.eval x).cells.zipIdx.foldl (fun(cs:Array Value) (p:Value×Nat)=>cs.setIfInBounds (i*sz+p.2) p.1) cells) MU h2
         (by simp[hp,c1,hm1]) (by rw[f1,hc];congr 1;omega) (fun j hj=>by
           rw[iI,f2 j,getD_eq,Du];by_cases KJ:j<pre.length
           . rw[if_pos KJ,if_neg (by omega)];have :=hv j (by omega)
             rwa [getD_eq,iI] at this
           . rw[if_neg KJ,if_pos (by omega)];have :=vx.1.2 (j -pre.length) (by omega);rw[getD_eq,iI] at this;rw[<-hp]
             exact this) (fun c hc=>by
           rcases Ao.1 hc with hc|hc
           . exact h3 c hc
           exact vx.2 c hc)
        refine⟨iS,?_,by simpa [Ek] using hr,by simpa [Ek] using ho⟩;simp only[Cb,Instr.fill]
        have aSa:(decide ((a.eval x).cells.size≠sz)||decide (i*sz+(a.eval x).cells.size>cells.size))=false:=by simp;omega
        rw[aSa];exact hf
      cases h2
    cases h1
  cases h1
theorem zu {t e:TypeId} {sz len:Nat} {z:Value} {parts:Array (Nat×Operand)} {ys:List Arg} (ho:o.op=.buildSlice t len parts) (ht:nC P t=some (e,sz)) (hz:lL P e=some z)
 (hlen:len=parts.size) (EV:len*sz<=2^24) (hp:IB g 0 parts.toList=some ys):cP P g o (.OR sz ys):=by
 intro s a G H w v H' hw hs h;obtain⟨hu,lE⟩:=kK ht;simp only[dA,Ah,Ak] at h;obtain⟨bB,sK,rfl,rfl⟩:=h;have GA:=RH sK
 have FB:bB.length=parts.size:=by
  have k1:∀{l:List (Nat×Operand)} {k:Nat} {ys:List Arg},IB g k l=some ys->ys.length=l.length:=by
   intro l
   induction l with
   |nil=>intro k ys h;obtain rfl:=Aa h;rfl
   |cons p r ih=>
    intro k ys h;exact ZbA
  have k2:∀{ys:List Arg} {bB:List (List AV)},KQ (Arg.eval g s) sz ys=some bB->bB.length=ys.length:=by
   intro ys
   induction ys with
   |nil=>intro bB h;obtain rfl:=Aa h;rfl
   |cons y r ih=>
    intro bB h;simp only[KQ] at h;split at h
    . simp only[Ah] at h;obtain⟨els',h',rfl⟩:=h;simp[ih h']
    cases h
  rw[k2 sK,k1 hp];simp
 let zr:Array Value:=if len*sz=0 then #[] else z.cells
 obtain⟨iS,hf,hv,h1⟩:=Nb hw hs sz parts.toList ys 0 bB [] ((Array.range (len*sz)).map (zr[· %zr.size]!)) hp sK (by simp) (by simp[hlen]) (fun j hj=>by simp at hj) (fun c hc=>by cases hc);simp only[Db] at hv h1;have hp':iR w {w with heap:=w.heap.push (.cells iS e)} (.cells (iS.toList++[]).toArray e (0,0)):=⟨by simp,.now⟩;obtain⟨r1,r2,r3⟩:=hw.cg bB.flatten iS.toList [] hv hp';refine⟨.value (.slice (some ⟨w.heap.size,0,none⟩) len len),_,_,_,?_,.inl rfl,r1,r2,?_⟩
 . have hb:¬len*sz>2^24:=by omega
   by_cases h0:len*sz=0
   . simp only[zr,if_pos h0] at hf;simp only[execOp,ho,Instr.buildSlice,Sem.run_bind,run_underlying hu w,eI lE w,Result.andThen_ok,if_neg hb,if_pos h0,Sem.run_pure,Ij,hf];rfl
   simp only[zr,if_neg h0] at hf;simp only[execOp,ho,Instr.buildSlice,Sem.run_bind,run_underlying hu w,eI lE w,Result.andThen_ok,if_neg hb,if_neg h0,lA hz w,Sem.run_pure,Ij,hf];rfl
 rw[hlen,<-FB];exact VR.bD 1 sz bB w.heap.size 0 bB.length (fun j=>iS.toList.getD j undef) GA (fun j hj=>⟨(r3 j hj).1,(r3 j hj).2.1,h1 _ (IF hj)⟩) (fun j hj=>(r3 j hj).2.2) ⟨Ab _,rfl⟩
def OV:Option Value->Option Nat->Prop
 |none,none=>True
 |some u,some m=>∃k,u=.int k (m:Int)
 |_,_=>False
theorem oW {G:Gh} {H:aA} {w:World} {s:List AV} {a:Act} (hw:WR g G H w) (hs:SR G w s a) {x:Option Operand} {y:Option Arg} {n:Option Nat} (hx:mZ g x=some y)
 (hn:eB (Arg.eval g s) y=some n):OV (x.map a.eval) n:=by
 cases x with
 |none=>obtain rfl:=Aa hx;obtain rfl:=Aa hn;trivial
 |some x=>simp only[mZ,Ah] at hx;obtain⟨y',hy,rfl⟩:=hx;simp only[eB,Ah] at hn;obtain⟨m,hm,rfl⟩:=hn;obtain⟨k,_,hk⟩:=tE hm (bM hw hs hy);exact⟨k,hk⟩
theorem run_sliceBound {k:IntKind} {m y:Nat} {c:BoundsCode} (h:m<=y) (w:World):(Instr.sliceBound (.int k (m:Int)) y c).run P w=.ok m w:=by
 have h0:(0:Int)<=(m:Int)/\(m:Int)<=(y:Int):=by omega
 simp only[Instr.sliceBound,asIntOf,Sem.run_bind,Sem.run_pure,Result.andThen_ok,if_pos h0,Dr]
theorem rW {isS:Bool} {len cap:Nat} {low high max:Option Value} {lo hi mx:Option Nat} (h1:OV low lo) (h2:OV high hi) (h3:OV max mx) (h4:mx.isSome->hi.isSome)
 (hl:lo.getD 0<=hi.getD len) (hh:hi.isSome->hi.getD len<=mx.getD cap) (hm:mx.getD cap<=cap) (w:World):
 (Instr.sliceBounds isS len cap low high max).run P w=.ok (lo.getD 0,hi.getD len,mx.getD cap) w:=by
 cases max<;>cases mx<;>first|exact h3.elim|skip
 . cases high<;>cases hi<;>first|exact h2.elim|skip
   . cases low<;>cases lo<;>first|exact h1.elim|skip
     . simp[Instr.sliceBounds]
     obtain⟨k1,rfl⟩:=h1;simp only[Bi,Ef] at hl;simp[Instr.sliceBounds,run_sliceBound hl w]
   obtain⟨k2,rfl⟩:=h2;have hh:=hh rfl;simp only[Bi,Ef] at hh hl
   cases low<;>cases lo<;>first|exact h1.elim|skip
   . simp[Instr.sliceBounds,run_sliceBound hh w]
   obtain⟨k1,rfl⟩:=h1;simp only[Bi] at hl;simp[Instr.sliceBounds,run_sliceBound hl w,run_sliceBound hh w]
 obtain⟨k3,rfl⟩:=h3
 cases high<;>cases hi<;>first|exact h2.elim|skip
 . simp at h4
 obtain⟨k2,rfl⟩:=h2;have hh:=hh rfl;simp only[Bi] at hh hm hl
 cases low<;>cases lo<;>first|exact h1.elim|skip
 . simp[Instr.sliceBounds,run_sliceBound hh w,run_sliceBound hm w]
 obtain⟨k1,rfl⟩:=h1;simp only[Bi] at hl;simp[Instr.sliceBounds,run_sliceBound hl w,run_sliceBound hh w,run_sliceBound hm w]
theorem zy {t:TypeId} {x:Operand} {lo hi:Option Operand} {x':Arg} {WV gQ:Option Arg} (ho:o.op=.slice t x lo hi none) (hx:bN g x=some x') (Ti:mZ g lo=some WV)
 (Lt:mZ g hi=some gQ) (ht:P.underlying t=some .string):cP P g o (.Oz x' WV gQ):=by
 intro s a G H w v H' hw hs h;have vx:=bM hw hs hx;simp only[dA] at h;split at h
 . rename_i str l r h1 h2 h3;rw[h1] at vx;have e1:=vx.lK;have o1:=oW hw hs Ti h2;have o2:=oW hw hs Lt h3;split at h
   . rename_i hc;obtain⟨c1,c2⟩:=hc;simp only[Ae,Ak] at h;obtain⟨rfl,rfl⟩:=h;have lE:(⟨str.toArray⟩:ByteArray).size=str.length:=(by simp[ByteArray.size]);have hb:=rW (P:=P) (isS:=false) (len:=str.length) (cap:=str.length) (max:=none) (mx:=none) o1 o2 trivial (by simp) c1 (fun _=>by simpa using c2) (by simp) w;refine cP.pure' hw (u:=.string ((⟨str.toArray⟩:ByteArray).extract (l.getD 0) (r.getD str.length))) ?_ ?_
     . simp only[execOp,ho,Instr.sliceAt,Sem.run_bind,run_underlying ht w,Result.andThen_ok,Instr.slice,e1,lE,Option.map_none,hb,Cj,Bb,Bp];rfl
     have :(⟨str.toArray⟩:ByteArray).extract (l.getD 0) (r.getD str.length)=⟨((str.drop (l.getD 0)).take (r.getD str.length -l.getD 0)).toArray⟩:=by apply ByteArray.ext;simp[ByteArray.data_extract,Hl]
     rw[this];exact VR.Yo _ _ _
   cases h
 cases h
theorem SN {bB:List (List AV)} {sz:Nat} (hu:∀e∈bB,e.length=sz) (l:Nat):(bB.drop l).flatten=bB.flatten.drop (l*sz):=by
 induction bB generalizing l with
 |nil=>simp
 |cons e r ih=>
  cases l with
  |zero=>simp
  |succ l=>have he:e.length=sz:=hu e (by simp);rw[Iu,ih (fun e he=>hu e (by simp[he])),Bl,Dw,Fa,<-he,Iy]
theorem GZ {bB:List (List AV)} {sz:Nat} (hu:∀e∈bB,e.length=sz) (l:Nat):(bB.take l).flatten=bB.flatten.take (l*sz):=by
 induction bB generalizing l with
 |nil=>simp
 |cons e r ih=>
  cases l with
  |zero=>simp
  |succ l=>have he:e.length=sz:=hu e (by simp);rw[Dp,Bl,ih (fun e he=>hu e (by simp[he])),Bl,Dw,Fa,<-he,List.take_length_add_append]
theorem VR.VH {G:Gh} {w:World} {sz:Nat} {bB:List (List AV)} {b o':Nat} {us:Nat->Value} (hu:∀e∈bB,e.length=sz)
 (h:∀j,j<bB.flatten.length->G.iB b (o'+j)/\w.cell? ⟨b,o'+j,none⟩=some (us j)/\(bB.flatten.getD j aD).one=true)
 (hv:∀j,j<bB.flatten.length->VR G w (bB.flatten.getD j aD) (us j)) (l n:Nat) (hn:l+n<=bB.length) {tag cap:Nat}
 (ht:aIs G tag b (o'+l*sz+n*sz) sz n cap):VR G w (.bD tag sz ((bB.drop l).take n)) (.slice (some ⟨b,o'+l*sz,none⟩) n cap):=by
 have hu1:∀e∈bB.drop l,e.length=sz:=fun e he=>hu e (Dt he);have hu2:∀e∈(bB.drop l).take n,e.length=sz:=fun e he=>hu1 e (By he);have vD:((bB.drop l).take n).flatten=(bB.flatten.drop (l*sz)).take (n*sz):=by rw[GZ hu1,SN hu]
 have hlen:((bB.drop l).take n).length=n:=by simp;omega
 have bGt:=length_flatten hu;have hb:l*sz+n*sz<=bB.flatten.length:=by rw[bGt,<-Cs];exact Cx _ hn
 have :=VR.bD (G:=G) (w:=w) tag sz ((bB.drop l).take n) b (o'+l*sz) cap (fun j=>us (l*sz+j)) hu2 (fun j hj=>by
  rw[vD] at hj ⊢;simp only[Cz,Fq] at hj;rw[eY _ _ _ _ _ (by omega),Br]
  exact h _ (by omega)) (fun j hj=>by
  rw[vD] at hj ⊢;simp only[Cz,Fq] at hj;rw[eY _ _ _ _ _ (by omega)]
  exact hv _ (by omega)) (by rw[hlen];exact ht)
 rwa [hlen] at this
theorem VR.qH {G:Gh} {w:World} (sz b o' cap:Nat) (tag:Nat) (ht:tag=0\/(tag=1/\cap=0)):VR G w (.bD tag sz []) (.slice (some ⟨b,o',none⟩) 0 cap):=
 VR.bD tag sz [] b o' cap (fun _=>undef) (fun e he=>by cases he) (fun j hj=>by simp at hj) (fun j hj=>by simp at hj) (by
  refine⟨Az _,?_⟩
  rcases ht with rfl|⟨rfl,rfl⟩
  . trivial
  rfl)
theorem aGx {t e:TypeId} {sz:Nat} {x:Operand} {lo hi mx:Option Operand} {x':Arg} {WV gQ mx':Option Arg} (ho:o.op=.slice t x lo hi mx) (hx:bN g x=some x') (Ti:mZ g lo=some WV)
 (Lt:mZ g hi=some gQ) (pr:mZ g mx=some mx') (ht:nC P t=some (e,sz)):cP P g o (.Yk sz x' WV gQ mx'):=by
 intro s a G H w v H' hw hs h;have vx:=bM hw hs hx;obtain⟨hu,lE⟩:=kK ht;simp only[dA] at h;split at h
 . rename_i l r m h1 h2 h3;have o1:=oW hw hs Ti h1;have o2:=oW hw hs Lt h2;have o3:=oW hw hs pr h3;split at h
   . rename_i hms;simp only[Ah,Ak] at h;obtain⟨v',h,rfl,rfl⟩:=h
     have jH:∀(p:Option Addr) (len cap:Nat),a.eval x=.slice p len cap->l.getD 0<=r.getD len->(r.isSome->r.getD len<=m.getD cap)->m.getD cap<=cap->
      (execOp a.eval o).run P w=.ok (.value (.slice (if m.getD cap=l.getD 0 then p else p.map (·.add (l.getD 0*sz))) (r.getD len -l.getD 0) (m.getD cap -l.getD 0))) w:=by
      intro p len cap eG c1 c2 c3;have hb:=rW (P:=P) (isS:=true) (len:=len) (cap:=cap) o1 o2 o3 hms c1 c2 c3 w;simp only[execOp,ho,Instr.sliceAt,Sem.run_bind,run_underlying hu w,Result.andThen_ok,Instr.slice,eG,hb,eI lE w];rfl
     unfold vM at h;split at h
     . rename_i dC;rw[dC] at vx;generalize eG:a.eval x=u at vx;cases vx;split at h
       . rename_i hc;obtain⟨c1,c2,c3⟩:=hc;obtain rfl:=Aa h;have :=jH none 0 0 eG (by omega) (fun _=>by rw[c2,c3];exact Ab _) (by rw[c3];exact Ab _);rw[c1,c2,c3] at this;exact cP.pure' hw this .aO
       cases h
     . rename_i tag eR bB dC;rw[dC] at vx;generalize eG:a.eval x=u at vx
       cases vx with
       |bD _ _ _ b o' cap us GA hh hv rS=>
        have xQ:=rS.1;simp only at h;split at h
        . rename_i hc;obtain⟨rfl,c1,c2⟩:=hc;have Uu:=VR.VH GA hh hv;split at h
          . rename_i m';split at h
            . rename_i CT;obtain⟨c3,c4⟩:=CT;obtain rfl:=Aa h;have :=jH _ _ _ eG c1 (fun _=>by simpa using c3) Zah;simp only[Bi,Bu,jX] at this;refine cP.pure' hw this ?_;by_cases yW:m'=l.getD 0
              . rw[if_pos yW];have h0:r.getD bB.length -l.getD 0=0:=(by omega);have Nl:m' -l.getD 0=0:=(by omega);rw[h0,Nl,Fc];exact VR.qH _ _ _ _ _ (by by_cases Us:m'=r.getD bB.length<;>simp[Us])
              rw[if_neg yW];refine Uu _ _ (by omega) ⟨by omega,?_⟩;by_cases Us:m'=r.getD bB.length
              . rw[if_pos Us];omega
              rw[if_neg Us];trivial
            cases h
          have Xj:=jH _ _ _ eG c1 (fun _=>by simp;omega) (by simp);simp only[Ef,Bu,jX] at Xj;split at h
          . rename_i CT;obtain⟨c3,c4⟩:=CT;obtain rfl:=Aa h;rw[c3] at Xj;refine cP.pure' hw Xj ?_;by_cases Ze:cap=l.getD 0
            . rw[if_pos Ze];have h0:bB.length -l.getD 0=0:=(by omega);have hd:bB.drop (l.getD 0)=[]:=Gs (by omega);rw[h0,hd]
              rcases c4 with c4|c4
              . omega
              match tag,c4,rS with
              |0,_,_=>exact VR.qH _ _ _ _ _ (.inl rfl)
              |1,_,rS=>exact VR.qH _ _ _ _ _ (.inr ⟨rfl,by omega⟩)
            rw[if_neg Ze];have hd:bB.drop (l.getD 0)=(bB.drop (l.getD 0)).take (bB.length -l.getD 0):=(by rw[Aq];simp);rw[hd];refine Uu _ _ (by omega) ⟨by omega,?_⟩;have h2:=rS.2
            have hmul:o'+l.getD 0*eR+(bB.length -l.getD 0)*eR=o'+bB.length*eR:=by rw[Br,<-Cs];congr 2;omega
            match tag,h2,c4 with
            |0,_,_=>trivial
            |1,h2,_=>show cap -l.getD 0=bB.length -l.getD 0;rw[h2]
            |k+2,⟨lc,h2,h3,h4,h5,h6⟩,_=>refine⟨lc,h2,h3,by rw[hmul];exact h4,h5,?_⟩;rw[h6];congr 1;omega
          obtain rfl:=Aa h;refine cP.pure' hw Xj ?_;by_cases Ze:cap=l.getD 0
          . rw[if_pos Ze];have h0:r.getD bB.length -l.getD 0=0:=(by omega);rw[h0,Fc];exact VR.qH _ _ _ _ _ (.inl rfl)
          rw[if_neg Ze];exact Uu _ _ (by omega) ⟨by omega,trivial⟩
        cases h
       |vE _ _ b o' s' rS=>
        simp only[Bm] at h;split at h
        . rename_i hc;obtain⟨rfl,c1,c2⟩:=hc;have Qw:l.getD 0=0:=(by omega);have Xj:r.getD 0=0:=(by omega);split at h
          . rename_i m';split at h
            . rename_i CT;obtain⟨c3,c4⟩:=CT;obtain rfl:=Aa h;have MR:m'=0:=(by omega);subst MR;have :=jH _ _ _ eG (by omega) (fun _=>by simpa using c3) (by simp);simp only[Bi,Qw,Xj,if_true,Ix] at this;refine cP.pure' hw this ?_;rw[Kk,List.take_nil];exact .vE _ _ _ _ _ Za4
            cases h
          have hr1:=jH _ _ _ eG (by omega) (fun _=>by simp;omega) (by simp);simp only[Ef,Qw,Xj,if_true,Ix] at hr1;split at h
          . obtain rfl:=Aa h;refine cP.pure' hw hr1 ?_;rw[Kk];exact .vE _ _ _ _ _ rS
          obtain rfl:=Aa h;refine cP.pure' hw hr1 ?_;rw[Kk,List.take_nil];exact .vE _ _ _ _ _ (by omega)
        cases h
     . rename_i id eR off len cap dC;rw[dC] at vx;generalize eG:a.eval x=u at vx
       cases vx with
       |sl _ _ _ _ _ kA lc hl hlen gT pQ=>
        simp only at h;split at h
        . rename_i hc;obtain⟨rfl,c1⟩:=hc;have hcc:cap<=kA:=(by omega);split at h
          . rename_i m';split at h
            . rename_i CT;obtain⟨c3,c4⟩:=CT;have :=jH _ _ _ eG c1 (fun _=>by simpa using c3) Zah;simp only[Bi,Bu,jX] at this;split at h
              . rename_i yW;obtain rfl:=Aa h;rw[if_pos yW] at this;have h0:r.getD len -l.getD 0=0:=(by omega);have Nl:m' -l.getD 0=0:=(by omega);rw[h0,Nl] at this;exact cP.pure' hw this (.sl id eR off 0 0 0 lc hl (Ab _) (by have :off+cap*eR<=lc.Tl:=gT;omega) (.inl rfl))
              rename_i yW;obtain rfl:=Aa h;rw[if_neg yW,Br] at this;refine cP.pure' hw this (.sl id eR (off+l.getD 0*eR) _ _ _ lc hl (by omega) ?_ (.inl rfl));have e1:off+l.getD 0*eR+(m' -l.getD 0)*eR=off+m'*eR:=(by rw[Br,<-Cs];congr 2;omega);have e2:m'*eR<=cap*eR:=Cx _ c4;omega
            cases h
          split at h
          . rename_i c3;have :=jH _ _ _ eG c1 (fun _=>by simp;omega) (by simp);simp only[Ef,Bu,jX] at this;split at h
            . rename_i MQ;obtain rfl:=Aa h;have h0:r.getD len -l.getD 0=0:=(by omega);rw[h0] at this;refine cP.pure' hw this ?_;split
              . exact VR.qH _ _ _ _ _ (.inl rfl)
              exact VR.qH _ _ _ _ _ (.inl rfl)
            rename_i MQ;obtain rfl:=Aa h;rw[if_neg (by omega),Br] at this;have e1:off+l.getD 0*eR+(cap -l.getD 0)*eR=off+cap*eR:=(by rw[Br,<-Cs];congr 2;omega);have e2:off+l.getD 0*eR+(kA -l.getD 0)*eR=off+kA*eR:=(by rw[Br,<-Cs];congr 2;omega);refine cP.pure' hw this (.sl id eR (off+l.getD 0*eR) _ _ _ lc hl (by omega) (by omega) ?_)
            rcases pQ with pQ|⟨q1,q2,q3⟩
            . exact .inl (by omega)
            exact .inr ⟨by omega,by omega,by omega⟩
          cases h
        cases h
     cases h
   cases h
 cases h
theorem iG (sz:Nat):∀(n:Nat) (cs:List AV),n*sz<=cs.length->(fI sz n cs).flatten=cs.take (n*sz)/\(fI sz n cs).length=n/\∀e∈fI sz n cs,e.length=sz
 |0,cs,_=>⟨by simp[fI],rfl,fun e he=>by cases he⟩
 |n+1,cs,h=>by
  have hm:(n+1)*sz=sz+n*sz:=by rw[Dw];omega
  obtain⟨h1,h2,h3⟩:=iG sz n (cs.drop sz) Zah;refine⟨?_,by simp[fI,h2],fun e he=>?_⟩
  . rw[fI,Bl,h1,hm,List.take_add]
  rcases Am.1 he with rfl|he
  . simp;omega
  exact h3 e he
theorem zx {t:TypeId} {n sz:Nat} {b:Bool} {x:Operand} {lo hi mx:Option Operand} {x':Arg} {WV gQ mx':Option Arg} (ho:o.op=.slice t x lo hi mx) (hx:bN g x=some x') (Ti:mZ g lo=some WV)
 (Lt:mZ g hi=some gQ) (pr:mZ g mx=some mx') (ht:zL P t=some (n,sz,b)):cP P g o (.DY n sz x' WV gQ mx'):=by
 intro s a G H w v H' hw hs h;have vx:=bM hw hs hx;obtain⟨e,hu,lE,hb⟩:=zN ht;simp only[dA] at h;split at h
 . rename_i l r m h1 h2 h3;have o1:=oW hw hs Ti h1;have o2:=oW hw hs Lt h2;have o3:=oW hw hs pr h3;simp only[Ah,Ak] at h;obtain⟨v',h,rfl,rfl⟩:=h;unfold mM at h;simp only at h;split at h
   . rename_i hc;obtain⟨c1,c2,c3,c4⟩:=hc;have hbd:=rW (P:=P) (isS:=false) (len:=n) (cap:=n) o1 o2 o3 c4 c1 (fun _=>c2) c3 w
     have jH:∀bl o',a.eval x=.pointer (some ⟨bl,o',none⟩)->
      (execOp a.eval o).run P w=.ok (.value (.slice (some (if m.getD n=l.getD 0 then⟨bl,o',none⟩ else⟨bl,o'+l.getD 0*sz,none⟩)) (r.getD n -l.getD 0) (m.getD n -l.getD 0))) w:=by
      intro bl o' eG;simp only[execOp,ho,Instr.sliceAt,Sem.run_bind,run_underlying hu w,Result.andThen_ok,eG,Instr.sureAddr,Sem.run_pure,hbd,eI lE w,jX]
     split at h
     . rename_i id off dC;rw[dC] at vx;split at h
       . rename_i cs EW;obtain⟨eN,hg⟩:=aA.pF EW;split at h
         . rename_i gT;generalize eG:a.eval x=u at vx
           cases vx with
           |ref _ _ lc hl=>
            have bJt:=(hw.cells id lc cs eN hl hg).1;have Xj:=jH _ _ eG;split at h
            . rename_i yW;obtain rfl:=Aa h;rw[if_pos yW] at Xj;have h0:r.getD n -l.getD 0=0:=(by omega);have Nl:m.getD n -l.getD 0=0:=(by omega);rw[h0,Nl] at Xj;exact cP.pure' hw Xj (.sl id sz off 0 0 0 lc hl (Ab _) (by omega) (.inl rfl))
            rename_i yW;obtain rfl:=Aa h;rw[if_neg yW,Br] at Xj;refine cP.pure' hw Xj (.sl id sz (off+l.getD 0*sz) _ _ _ lc hl (by omega) ?_ (.inl rfl));have e1:off+l.getD 0*sz+(m.getD n -l.getD 0)*sz=off+m.getD n*sz:=(by rw[Br,<-Cs];congr 2;omega);have e2:m.getD n*sz<=n*sz:=Cx _ c3;omega
         cases h
       cases h
     . rename_i cs dC;rw[dC] at vx;split at h
       . rename_i gT;obtain rfl:=Aa h;generalize eG:a.eval x=u at vx
         cases vx with
         |pl _ b' o' us hh hv=>
          have Xj:=jH _ _ eG;refine cP.pure' hw Xj ?_;obtain⟨f1,f2,f3⟩:=iG sz n cs gT;by_cases yW:m.getD n=l.getD 0
          . rw[if_pos yW];have h0:r.getD n -l.getD 0=0:=(by omega);have Nl:m.getD n -l.getD 0=0:=(by omega);rw[h0,Nl,Fc];exact VR.qH _ _ _ _ _ (by by_cases Us:m.getD n=r.getD n<;>simp[Us])
          rw[if_neg yW];refine VR.VH (us:=us) f3 (fun j hj=>?_) (fun j hj=>?_) _ _ (by omega) ⟨by omega,?_⟩
          . rw[f1] at hj ⊢;simp at hj;rw[getD_take _ _ _ _ (by omega)];exact hh j (by omega)
          . rw[f1] at hj ⊢;simp at hj;rw[getD_take _ _ _ _ (by omega)];exact hv j (by omega)
          by_cases Us:m.getD n=r.getD n
          . rw[if_pos Us];omega
          rw[if_neg Us];trivial
       cases h
     cases h
   cases h
 cases h
theorem aGw {t e:TypeId} {n:Nat} {x:Operand} {x':Arg} (ho:o.op=.sliceToArrayPointer t x) (hx:bN g x=some x') (ht:P.underlying t=some (.array n e)):cP P g o (.Yh n x'):=by
 intro s a G H w v H' hw hs h;have vx:=bM hw hs hx
 have jH:∀(p:Option Addr) (len cap:Nat),a.eval x=.slice p len cap->n<=len->(execOp a.eval o).run P w=.ok (.value (.pointer p)) w:=by
  intro p len cap eG hle;have :¬len<n:=by omega
  simp[execOp,ho,Instr.arrayAt,run_underlying ht w,eG,this]
 simp only[dA] at h;split at h
 . rename_i tag sz bB dC;rw[dC] at vx;generalize eG:a.eval x=u at vx
   cases vx with
   |bD _ _ _ b o' cap us GA hh hv rS=>
    split at h
    . rename_i hle;simp only[Ae,Ak] at h;obtain⟨rfl,rfl⟩:=h;exact cP.pure' hw (jH _ _ _ eG hle.1) (.pl _ b o' us hh hv)
    cases h
   |vE=>simp at h
 . rename_i id sz off len cap dC;rw[dC] at vx;generalize eG:a.eval x=u at vx
   cases vx with
   |sl _ _ _ _ _ kA lc hl hlen gT pQ=>
    split at h
    . rename_i hle;simp only[Ae,Ak] at h;obtain⟨rfl,rfl⟩:=h;exact cP.pure' hw (jH _ _ _ eG hle) (.ref id off lc hl)
    cases h
 cases h
end
end
section
theorem iO.append {G:Gh} {w:World} {xs ys:List AV} {us vs:List Value} (h1:iO G w xs us) (h2:iO G w ys vs):iO G w (xs++ys) (us++vs):=by
 have l1:=h1.1;have l2:=h2.1;refine⟨by simp[l1,l2],fun j hj=>?_⟩;simp at hj;rw[getD_eq,getD_eq,Du,Du];by_cases hc:j<xs.length
 . rw[if_pos hc,if_pos (by omega)];exact h1.2 j hc
 rw[if_neg hc,if_neg (by omega)];have :=h2.2 (j -xs.length) (by omega);rw[getD_eq,getD_eq] at this;rw[l1];exact this
theorem iO.take {G:Gh} {w:World} {xs:List AV} {us:List Value} (h:iO G w xs us) (n:Nat):iO G w (xs.take n) (us.take n):=by have l:=h.1;refine⟨by simp[l],fun j hj=>?_⟩;simp only[Cz] at hj;rw[getD_take _ _ _ _ (by omega),getD_take _ _ _ _ (by omega)];exact h.2 j (by omega)
theorem oP (P:Program) {g:bG} {G:Gh} {H:aA} {w:World} (hw:WR g G H w) {sz:Nat} {x:AV} {u:Value} {ys:List (List AV)} (h:cK H sz x=some ys) (hv:VR G w x u):
 (∀e∈ys,e.length=sz)/\(∀c∈ys.flatten,c.one=true)/\(Builtin.lenOf u).run P w=.ok ys.length w/\
 ∃vs:List Value,iO G w ys.flatten vs/\∀n,n<=ys.length->(Builtin.firstCells sz n u).run P w=.ok (vs.take (n*sz)).toArray w:=by
 have aTt:∀{l:List AV},(∀j,j<l.length->(l.getD j aD).one=true)->∀c∈l,c.one=true:=fun {l} hl c hc=>by obtain⟨j,hj,rfl⟩:=Hg.1 hc;have :=hl j hj;simpa [getD_eq,Ad hj] using this
 have cells:∀{b o':Nat} {l:List AV},(∀j,j<l.length->∃v,w.cell? ⟨b,o'+j,none⟩=some v/\VR G w (l.getD j aD) v)->
  ∃vs:List Value,iO G w l vs/\∀m,m<=l.length->(loadCells ⟨b,o',none⟩ m).run P w=.ok (vs.take m).toArray w:=fun {b o' l} hc=>by
  obtain⟨us,h1,h2,h3⟩:=NI hc;refine⟨us,⟨h1,h3⟩,fun m hm=>?_⟩
  have :=uR P w b o' (us.take m) (fun j hj=>by
   simp at hj;rw[getD_take _ _ _ _ (by omega)]
   exact h2 j (by omega))
  rwa [show(us.take m).length=m by simp;omega] at this
 cases hv with
 |aO=>obtain rfl:=Aa h;refine⟨fun e he=>(by cases he),fun c hc=>(by simp at hc),rfl,[],iO.nil G w,fun n hn=>?_⟩;simp[Builtin.firstCells]
 |bD tag eR bB b o' cap us GA hh hvv rS=>
  simp only[cK] at h;split at h
  . rename_i hs;subst hs;obtain rfl:=Aa h;obtain⟨vs,h1,h2⟩:=cells (l:=bB.flatten) (b:=b) (o':=o') (fun j hj=>⟨us j,(hh j hj).2.1,hvv j hj⟩);refine⟨GA,aTt fun j hj=>(hh j hj).2.2,rfl,vs,h1,fun n hn=>?_⟩;have :=h2 (n*eR) (by rw[length_flatten GA];exact Cx _ hn);simpa [Builtin.firstCells] using this
  cases h
 |vE tag eR b o' s' rS=>
  simp only[cK] at h;split at h
  . obtain rfl:=Aa h;refine⟨fun e he=>(by cases he),fun c hc=>(by simp at hc),rfl,[],iO.nil G w,fun n hn=>?_⟩;obtain rfl:n=0:=by simpa using hn
    simp[Builtin.firstCells,loadCells,loadCellsFrom]
  cases h
 |str str=>
  simp only[cK] at h;split at h
  . rename_i hs;subst hs;obtain rfl:=Aa h
    have vD:(WY str.data.toList).flatten=str.data.toList.map fun b=>AV.int .u8 b.toNat:=by
     unfold WY
     induction str.data.toList with
     |nil=>rfl
     |cons b r ih=>simp[ih]
    refine⟨fun e he=>?_,fun c hc=>?_,?_,str.data.toList.map fun b=>.int .u8 b.toNat,?_,fun n hn=>?_⟩
    . simp only[WY,Bf] at he;obtain⟨b,_,rfl⟩:=he;rfl
    . rw[vD] at hc;simp only[Bf] at hc;obtain⟨b,_,rfl⟩:=hc;rfl
    . have :str.size=(WY str.data.toList).length:=(by rw[WY,Af,Dc];rfl);simp only[Builtin.lenOf,this];rfl
    . rw[vD];refine⟨by simp,fun j hj=>?_⟩;simp at hj;simp only[getD_eq,Cv,Ad (show j<str.data.toList.length by simpa using hj),Bu,Bi];exact .int _ _
    simp only[Builtin.firstCells,Ed]
    have :((str.extract 0 n).data.map fun b=>(Value.int .u8 b.toNat))=((str.data.toList.map fun b=>Value.int .u8 b.toNat).take n).toArray:=by apply Fk;simp[ByteArray.data_extract,Hl]
    rw[<-this];rfl
  cases h
 |sl id eR off len cap kA l hl hlen gT pQ=>
  simp only[cK] at h;split at h
  . rename_i hs;subst hs;split at h
    . rename_i cs EW;obtain⟨eN,hg⟩:=aA.pF EW;split at h
      . rename_i hle;obtain rfl:=Aa h;obtain⟨f1,f2,f3⟩:=iG eR len (cs.drop off) Zah;have xP:=(hw.cells id l cs eN hl hg).2.2.2.1
        obtain⟨vs,h1,h2⟩:=cells (l:=(cs.drop off).take (len*eR)) (b:=l.dB) (o':=l.base+off) (fun j hj=>by
         simp at hj
         exact KY hw hl hg hle j (by omega))
        refine⟨f3,?_,by simp[Builtin.lenOf,f2],vs,by rw[f1];exact h1,fun n hn=>?_⟩
        . rw[f1];exact fun c hc=>xP c (Dt (By hc))
        rw[f2] at hn;have e2:n*eR<=len*eR:=Cx _ hn;have :=h2 (n*eR) Zah;simpa [Builtin.firstCells] using this
      cases h
    cases h
  cases h
 |_=>simp[cK] at h
theorem Qr (TG:Nat):∀(r c:Nat),Builtin.growBy TG r c<=max c (TG+(TG+768) / 4)
 |0,c=>Nat.le_max_left _ _
 |r+1,c=>by
  simp only[Builtin.growBy];split
  . exact Nat.le_max_left _ _
  have :=Qr TG r (c+(c+768) / 4);omega
theorem nextslicecap_le {need cap:Nat} (h:cap<need):Builtin.nextslicecap need cap<=2*need+192:=by
 unfold Builtin.nextslicecap;split
 . omega
 split
 . omega
 have :=Qr need 4 cap;omega
def KG (w:World) (o:Go.Obj):World:={w with heap:=w.heap.push o,drawn:=w.drawn+1}
section
variable {P:Program}
theorem vK {elem:TypeId} {i:TypeInfo} (h:P.info? elem=some i) (w:World):(typeInfo elem).run P w=.ok i w:=by simp[typeInfo,program,Sem.run,h]
theorem pO {w:World} {t t2 elem ty:TypeId} {d:TypeDesc} {sz n sLen sCap:Nat} {base:Option Addr} {u:Value} {vs:List Value} (ht:P.underlying t=some (.slice elem)) (lE:kG P elem=some sz)
 (h2:P.underlying t2=some d) (hd:∀k,d≠ .int k) (hlen:(Builtin.lenOf u).run P w=.ok n w) (hf:(Builtin.firstCells sz n u).run P w=.ok vs.toArray w) (vq:sLen+n<=sCap):
 (Builtin.append_ #[t,t2] ty #[.slice base sLen sCap,u]).run P w=
   ((match base with|some a=>storeCells (a.add (sLen*sz)) vs|none=>pure ():Sem Unit).run P w).andThen fun _ w'=>.ok (.slice base (sLen+n) sCap) w':=by
 have hz:(match d with|.int _=>true|_=>false)=false:=by cases d<;>first|rfl|exact absurd rfl (hd _)
 unfold Builtin.append_;simp only[Eb,Gj,Gk,Sem.run_bind,run_underlying ht w,run_underlying h2 w,eI lE w,Result.andThen_ok,Sem.run_pure,hz,Bb,Bp,hlen,if_pos vq,Gb,if_true,hf];cases base<;>simp
theorem BD {need CE:Nat} {e:TypeId} (w:World):∃c,need<=c/\(choose (.appendCap need CE e)).run P w=.ok c {w with drawn:=w.drawn+1}:=
 ⟨need+(w.tape w.drawn (.appendCap need CE e))%(2^63 -need),by omega,by simp[choose,Sem.run,Question.forced,Question.cut]⟩
theorem run_askRoom (n:Nat) (w:World):(askRoom n).run P w=.ok () w:=by unfold askRoom;split<;>rfl
theorem run_append_grow {w:World} {t t2 elem ty:TypeId} {d:TypeDesc} {i:TypeInfo} {sz n sLen sCap:Nat} {base:Option Addr} {u z:Value} {os vs:List Value} (ht:P.underlying t=some (.slice elem)) (lE:kG P elem=some sz)
 (h2:P.underlying t2=some d) (hd:∀k,d≠ .int k) (hi:P.info? elem=some i) (eQ:1<=i.bytes) (hz:lL P elem=some z) (BZ:z.cells.size=sz) (hlen:(Builtin.lenOf u).run P w=.ok n w)
 (ho:(Builtin.firstCells sz sLen (.slice base sLen sCap)).run P {w with drawn:=w.drawn+1}=.ok os.toArray {w with drawn:=w.drawn+1})
 (hf:(Builtin.firstCells sz n u).run P {w with drawn:=w.drawn+1}=.ok vs.toArray {w with drawn:=w.drawn+1}) (vq:¬sLen+n<=sCap) (EV:(sLen+n)*i.bytes<=2^40):
 ∃cap rest,sLen+n<=cap/\rest.length=(cap -(sLen+n))*sz/\
  (Builtin.append_ #[t,t2] ty #[.slice base sLen sCap,u]).run P w=.ok (.slice (some ⟨w.heap.size,0,none⟩) (sLen+n) cap) (KG w (.cells (os++vs++rest).toArray elem)):=by
 have hz':(match d with|.int _=>true|_=>false)=false:=by cases d<;>first|rfl|exact absurd rfl (hd _)
 obtain⟨cap,SU,CT⟩:=BD (P:=P) (need:=sLen+n) (CE:=sCap) (e:=elem) w;have KK:¬((((sLen+n:Nat):Int)>IntKind.i64.max)/\(False\/i.bytes=0)):=fun hh=>hh.2.elim id (fun h0=>by omega);have hns:=nextslicecap_le (need:=sLen+n) (cap:=sCap) (by omega)
 have KM:sLen+n<=2^40:=by have :(sLen+n)*1<=(sLen+n)*i.bytes:=Eu _ eQ;omega
 have hmul:Builtin.nextslicecap (sLen+n) sCap*i.bytes<=(2*(sLen+n)+192)*i.bytes:=Cx _ hns;have bJe:(2*(sLen+n)+192)*i.bytes=2*((sLen+n)*i.bytes)+192*i.bytes:=by rw[Cs,Gu]
 have hib:i.bytes<=(sLen+n)*i.bytes:=Jn _ (by omega);have SY:¬Builtin.nextslicecap (sLen+n) sCap*i.bytes>2^48:=by omega
 refine⟨cap,(Builtin.zeroCells z.cells (cap -(sLen+n))).toList,SU,by simp[Builtin.zeroCells,BZ],?_⟩;unfold Builtin.append_;simp only[Eb,Gj,Gk,Sem.run_bind,run_underlying ht w,run_underlying h2 w,eI lE w,Result.andThen_ok,Sem.run_pure,hz',Bb,Bp,hlen,if_neg vq,Gb,if_true,vK hi w,if_neg KK,if_neg SY,CT,vK hi {w with drawn:=w.drawn+1},run_askRoom,ho,hf,lA hz {w with drawn:=w.drawn+1}]
 have he:os.toArray++vs.toArray++Builtin.zeroCells z.cells (cap -(sLen+n))=(os++vs++(Builtin.zeroCells z.cells (cap -(sLen+n))).toList).toArray:=by apply Fk;simp
 rw[he];rfl
theorem Pf (w:World) (o:Go.Obj):iR w (KG w o) o:=⟨rfl,.now⟩
theorem Xx {g:bG} {G:Gh} {H:aA} {w:World} (hw:WR g G H w) (mu:Bool) {sz:Nat} {bB:List (List AV)} {vs rest:List Value} {e:TypeId} {cap:Nat}
 (hu:∀x∈bB,x.length=sz) (h1:∀c∈bB.flatten,c.one=true) (hv:iO G w bB.flatten vs) (pQ:bB.length<=cap) (aJn:rest.length=(cap -bB.length)*sz):
 ∃G',WR g G' (kS H mu sz bB).2 (KG w (.cells (vs++rest).toArray e))/\Ext G H w G' (kS H mu sz bB).2 (KG w (.cells (vs++rest).toArray e))/\
  VR G' (KG w (.cells (vs++rest).toArray e)) (kS H mu sz bB).1 (.slice (some ⟨w.heap.size,0,none⟩) bB.length cap):=by
 have hp:=Pf w (.cells (vs++rest).toArray e);have vD:=length_flatten hu;have Ps:=hv.1;have hmul:bB.length*sz+(cap -bB.length)*sz=cap*sz:=by rw[<-Cs];congr 1;omega
 cases mu with
 |true=>
  obtain⟨r1,r2⟩:=hw.aHm bB.flatten vs rest hv h1 true (fun h=>by cases h) (Clear.zero _) hp;refine⟨_,r1,r2,?_⟩
  have :=VR.sl (G:=G.dY H.next ⟨w.heap.size,0,bB.flatten.length,(vs++rest).length⟩) (w:=KG w (.cells (vs++rest).toArray e)) H.next sz 0 bB.length bB.length cap
   ⟨w.heap.size,0,bB.flatten.length,(vs++rest).length⟩ (by simp only[Gh.dY,if_true]) (Ab _) (by simp only[vD];omega)
   (.inr ⟨by simp only[vD];omega,pQ,by simp only[Ba,Ps,vD,aJn];omega⟩)
  exact this
 |false=>obtain⟨G',hl,r1,r2,r3⟩:=hw.aHn bB.flatten vs rest hv (Clear.zero _) hp;refine⟨G',r1,r2,?_⟩;refine VR.bD (H.next+2) sz bB w.heap.size 0 cap (fun j=>vs.getD j undef) hu (fun j hj=>⟨(r3 j hj).1,(r3 j hj).2.1,h1 _ (IF hj)⟩) (fun j hj=>(r3 j hj).2.2) ⟨pQ,?_⟩;exact⟨_,hl,rfl,by simp only[vD];omega,rfl,aJn⟩
theorem WR.drew {g:bG} {G:Gh} {H:aA} {w:World} (h:WR g G H w):WR g G H {w with drawn:=w.drawn+1}:=h.of_heap rfl
theorem VR.drew {G:Gh} {w:World} {a:AV} {u:Value} (h:VR G w a u):VR G {w with drawn:=w.drawn+1} a u:=
 h.mono (fun _ _ h=>h) (fun b o hi=>⟨hi,rfl⟩)
theorem kg {g:bG} {o:Oper} {c:Call} {x y:Operand} {x' y':Arg} {t t2 elem:TypeId} {d:TypeDesc} {i:TypeInfo} {z:Value} {sz:Nat} {mu:Bool} (ho:o.op=.call c) (hc:c.callee=.builtin .append) (ha:c.args= #[x,y])
 (hx:bN g x=some x') (hy:bN g y=some y') (Pj:c.argTypes= #[t,t2]) (ht:P.underlying t=some (.slice elem)) (lE:kG P elem=some sz) (h2:P.underlying t2=some d) (hd:∀k,d≠ .int k)
 (hi:P.info? elem=some i) (eQ:1<=i.bytes) (hz:lL P elem=some z) (BZ:z.cells.size=sz):cP P g o (.append sz i.bytes mu x' y'):=by
 intro s a G H w v H' hw hs h;have vx:=bM hw hs hx;have vy:=bM hw hs hy;simp only[dA] at h;split at h
 . rename_i ys MU;obtain⟨yu,y1,Tc,DZ,yv,yf⟩:=oP P hw MU vy;have yf0:=yf ys.length (Ab _);obtain⟨_,_,_,aIo,yv',yf'⟩:=oP P hw.drew MU vy.drew;have yfl:=length_flatten yu;have ye:∀{m:Nat} {l:List Value},l.length=m->l.take m=l:=fun {m l} hl=>by rw[Aq (by omega)]
   have aIn:(Builtin.firstCells sz ys.length (a.eval y)).run P w=.ok DZ.toArray w:=by rw[yf0,ye (by rw[yv.1,yfl])]
   have bJc:(Builtin.firstCells sz ys.length (a.eval y)).run P {w with drawn:=w.drawn+1}=.ok aIo.toArray {w with drawn:=w.drawn+1}:=by rw[yf' ys.length (Ab _),ye (by rw[yv'.1,yfl])]
   have yvw:iO G w ys.flatten aIo:=⟨yv'.1,fun j hj=>(yv'.2 j hj).mono (fun _ _ h=>h) (fun b o hi=>⟨hi,rfl⟩)⟩
   have fK:∀{p:Option Addr} {sl sc:Nat} {r:Value} {w':World},a.eval x=.slice p sl sc->(Builtin.append_ #[t,t2] o.type #[.slice p sl sc,a.eval y]).run P w=.ok r w'->(execOp a.eval o).run P w=.ok (.value r) w':=by intro p sl sc r w' eG hr;simp[execOp,ho,resolve,hc,ha,Pj,invoke,builtin,eG,hr]
   have Zq:ys=[]->∀{p:Option Addr} {sl sc:Nat},a.eval x=.slice p sl sc->sl<=sc->(execOp a.eval o).run P w=.ok (.value (.slice p sl sc)) w:=by intro jy p sl sc eG hle;subst jy;have MT:DZ=[]:=(by have :=yv.1;simpa using this);subst MT;refine fK eG ?_;have :=pO (P:=P) (ty:=o.type) (base:=p) (sLen:=sl) (sCap:=sc) ht lE h2 hd Tc aIn (by simpa using hle);rw[this];cases p<;>rfl
   have Qv:∀(mu:Bool) {p:Option Addr} {sl sc:Nat} {bB:List (List AV)} {os:List Value} {G0:Gh} {H0:aA},WR g G0 H0 w->Ext G H w G0 H0 w->a.eval x=.slice p sl sc->bB.length=sl->(∀e∈bB,e.length=sz)->(∀c∈bB.flatten,c.one=true)->
    iO G0 w bB.flatten os->(Builtin.firstCells sz sl (.slice p sl sc)).run P {w with drawn:=w.drawn+1}=.ok os.toArray {w with drawn:=w.drawn+1}->¬sl+ys.length<=sc->(sl+ys.length)*i.bytes<=2^40->
    ∃n u w' G',(execOp a.eval o).run P w=.ok n w'/\QI n u/\WR g G' (kS H0 mu sz (bB++ys)).2 w'/\Ext G H w G' (kS H0 mu sz (bB++ys)).2 w'/\VR G' w' (kS H0 mu sz (bB++ys)).1 u:=by
    intro mu p sl sc bB os G0 H0 hw0 he0 eG hl hu h1 hv hf fS EV;obtain⟨cap,rest,c1,c2,hr⟩:=run_append_grow (P:=P) (ty:=o.type) ht lE h2 hd hi eQ hz BZ Tc hf bJc fS EV;have bGx:iO G0 w ys.flatten aIo:=yvw.ext he0
    obtain⟨G',r1,r2,r3⟩:=Xx hw0 mu (sz:=sz) (bB:=bB++ys) (vs:=os++aIo) (rest:=rest) (e:=elem) (cap:=cap)
     (fun e he=>(Ao.1 he).elim (hu e) (yu e)) (fun c hc=>by rw[Fm] at hc;exact(Ao.1 hc).elim (h1 c) (y1 c)) (by rw[Fm];exact hv.append bGx)
     (by simp[hl];exact c1) (by simp[hl];exact c2)
    refine⟨_,_,_,G',fK eG hr,.inl rfl,r1,he0.trans r2,?_⟩;have hlen:(bB++ys).length=sl+ys.length:=(by simp[hl]);rw[hlen] at r3;exact r3
   unfold dR at h;split at h
   . rename_i aSf;have jy:ys=[]:=by simpa using aSf
     have fin:∀{p:Option Addr} {sl sc:Nat} {va:AV},a.eval x=.slice p sl sc->sl<=sc->VR G w va (.slice p sl sc)->
      ∃n u w' G',(execOp a.eval o).run P w=.ok n w'/\QI n u/\WR g G' H w'/\Ext G H w G' H w'/\VR G' w' va u:=
      fun eG hle hva=>cP.pure' hw (Zq jy eG hle) hva
     have vx0:=vx;split at h
     . rename_i dC;simp only[Ae,Ak] at h;obtain⟨rfl,rfl⟩:=h;rw[dC] at vx;generalize eG:a.eval x=u at vx vx0;cases vx;exact fin eG (Ab _) vx0
     . rename_i dC;simp only[Ae,Ak] at h;obtain⟨rfl,rfl⟩:=h;rw[dC] at vx;generalize eG:a.eval x=u at vx vx0
       cases vx with
       |bD _ _ _ _ _ _ _ _ _ _ rS=>exact fin eG rS.1 vx0
       |vE=>exact fin eG (Ab _) vx0
     . rename_i dC;simp only[Ae,Ak] at h;obtain⟨rfl,rfl⟩:=h;rw[dC] at vx;generalize eG:a.eval x=u at vx vx0
       cases vx with
       |sl _ _ _ _ _ _ _ _ hlen _ pQ=>exact fin eG (by omega) vx0
     cases h
   rename_i aSf
   have bJh:1<=ys.length:=by
    cases ys with
    |nil=>simp at aSf
    |cons _ _=>simp
   split at h
   . rename_i dC;rw[dC] at vx;generalize eG:a.eval x=u at vx;cases vx;split at h
     . rename_i EV;simp only[Ae] at h;have :=Qv mu (bB:=[]) (os:=[]) hw (Ext.refl G H w) eG rfl (fun e he=>by cases he) (fun c hc=>by simp at hc) (iO.nil G w) (by simp[Builtin.firstCells]) (by omega) (by simpa using EV);simp only[Db] at this;rw[h] at this;exact this
     cases h
   . rename_i tag eR bB dC;rw[dC] at vx;split at h
     . rename_i hc;obtain⟨rfl,EV⟩:=hc;generalize eG:a.eval x=u at vx;obtain⟨eu,e1,_,JX,ev',ef'⟩:=oP P hw.drew (sz:=eR) (x:=.bD tag eR bB) (ys:=bB) (by simp[cK]) vx.drew;have evw:iO G w bB.flatten JX:=⟨ev'.1,fun j hj=>(ev'.2 j hj).mono (fun _ _ h=>h) (fun b o hi=>⟨hi,rfl⟩)⟩;have efl:=length_flatten eu
       have ef1:∀{q:Value},q=u->(Builtin.firstCells eR bB.length q).run P {w with drawn:=w.drawn+1}=.ok JX.toArray {w with drawn:=w.drawn+1}:=fun hq=>by rw[hq,ef' bB.length (Ab _),ye (by rw[ev'.1,efl])]
       cases vx with
       |vE _ _ b o' s' rS=>
        match tag,h,rS with
        |0,h,_=>cases h
        |1,h,_=>simp only[Ae] at h;have :=Qv mu (bB:=[]) (os:=JX) hw (Ext.refl G H w) eG rfl eu e1 evw (ef1 rfl) (by omega) EV;rw[h] at this;exact this
       |bD _ _ _ b o' cap us GA hh hv rS=>
        match tag,h,rS with
        |0,h,_=>cases h
        |1,h,rS=>simp only[Ae] at h;have Ze:cap=bB.length:=rS.2;have :=Qv mu (bB:=bB) (os:=JX) hw (Ext.refl G H w) eG rfl eu e1 evw (ef1 rfl) (by omega) EV;rw[h] at this;exact this
        |k+2,h,rS=>
         obtain⟨l,t1,qd,t3,t4,t5⟩:=rS.2;have hle:=rS.1;simp only at h;split at h
         . rename_i Zk;simp only[Ae,Ak] at h;obtain⟨rfl,rfl⟩:=h;have lH:H.live k:=⟨_,Zk,rfl⟩;have hk:=hw.kill k;have WN:=(Ext.refl G H w).kill k;by_cases wF:bB.length+ys.length<=cap
           ·
            obtain⟨ca,el,fz,q1,q2,q3⟩:=hw.room k l t1 (.inr Zk)
            have yW:ys.length*eR+(cap -bB.length -ys.length)*eR=l.ext:=by rw[t5,<-Cs];congr 1;omega
            have yvl:DZ.length=ys.length*eR:=(by rw[yv.1,yfl]);have FG:∀j,j<DZ.length->j<l.ext:=fun j hj=>by omega
            obtain⟨w',hr,hu⟩:=fE P b (o'+bB.length*eR) DZ 0 w ⟨ca,el,fz,by rw[<-qd];exact q1,by omega⟩
             (fun j hj=>by rw[Cw,<-t3,<-qd];exact q3 j (FG j hj)) (oV yv y1)
            rw[Cw] at hu
            have pJ:∀j,j<DZ.length->¬G.iB b (o'+bB.length*eR+j):=fun j hj=>by rw[<-t3,<-qd];exact hw.kE k l t1 lH j (FG j hj)
            have tP:∀id l',G.loc id=some l'->(H.set k .dead).live id->l.dB≠l'.dB\/l.base+l.ext<=l'.base\/l'.base+l'.ext<=l.base:=fun id l' pA mX=>by
             rcases aA.kV.1 mX with ⟨_,hh⟩|⟨cQ,mX⟩
             . cases hh
             exact hw.kT k id l l' (Ne.symm cQ) t1 pA lH mX
            have RB:=hk.write hu pJ (fun id l' pA mX=>by
             rcases tP id l' pA mX with rM|rM|rM
             . exact .inl (by rw[<-qd];exact Ne.symm rM)
             . exact .inr (.inr (by omega))
             exact .inr (.inl (by omega))) ⟨ca,el,fz,by rw[<-qd];exact q1⟩
            have hblk:w.heap.size<=b\/∃eX l0,G.loc eX=some l0/\H.live eX/\l0.dB=b:=.inr ⟨k,l,t1,lH,qd⟩;have Tf:=WN.write hu pJ hw.jA hblk;obtain⟨ca',u1,u2,u3,u4⟩:=hu.row ca el fz (by rw[<-qd];exact q1)
            have Zp:∀j,j<DZ.length->w'.cell? ⟨b,o'+bB.length*eR+j,none⟩=some (DZ.getD j undef):=fun j hj=>by rw[lQ u1];exact u4 j hj (by have :=FG j hj;omega)
            have BY:=RB.nY b (o'+bB.length*eR) DZ.length (fun j hj=>⟨_,Zp j hj⟩) (fun id l' pA mX=>by
             rcases tP id l' pA mX with rM|rM|rM
             . exact .inl (by rw[<-qd];exact Ne.symm rM)
             . exact .inr (.inr (by omega))
             exact .inr (.inl (by omega)))
            have XZ:=Tf.nY b (o'+bB.length*eR) DZ.length hblk;have jt:=XZ.My .tok ⟨b,o'+bB.length*eR+DZ.length,0,l.ext -DZ.length⟩ BY.lt hblk
            have MS:=BY.My .tok ⟨b,o'+bB.length*eR+DZ.length,0,l.ext -DZ.length⟩ (fun id l' pA mX=>by
             rcases tP id l' pA mX with rM|rM|rM
             . exact .inl (by rw[<-qd];exact rM)
             . exact .inr (.inl (by simp only;omega))
             . exact .inr (.inr (by simp only;omega))) (fun j hj hi=>by
             simp only at hj hi
             rcases hi with hi|⟨_,_,hi⟩
             . have :=hw.kE k l t1 lH (DZ.length+j) (by omega);rw[qd,t3,<-Br] at this;exact this hi
             . omega) (fun Lr aAd xN=>by cases xN) (fun _=>⟨ca',el,fz,u1,by simp only;omega,fun j hj=>by
             simp only at hj ⊢;rw[hu.frozen (by rw[<-qd];exact q1)];have :=q3 (DZ.length+j) (by omega);rw[qd,t3,<-Br] at this
             exact this⟩) (fun xN=>by cases xN)
            refine⟨.value (.slice (some ⟨b,o',none⟩) (bB.length+ys.length) cap),.slice (some ⟨b,o',none⟩) (bB.length+ys.length) cap,w',_,fK eG ?_,.inl rfl,MS,jt,?_⟩
            . have :=pO (P:=P) (ty:=o.type) (base:=some ⟨b,o',none⟩) (sLen:=bB.length) (sCap:=cap) ht lE h2 hd Tc aIn wF;rw[this];simp only[jX,hr,Result.andThen_ok]
            have hlen:(bB++ys).length=bB.length+ys.length:=(by simp);rw[<-hlen]
            have hga:∀j,(bB.flatten++ys.flatten).getD j aD=if j<bB.flatten.length then bB.flatten.getD j aD else ys.flatten.getD (j -bB.flatten.length) aD:=fun j=>by rw[getD_eq,Du];split<;>rfl
            refine VR.bD (H.next+2) eR (bB++ys) b o' cap (fun j=>if j<bB.flatten.length then us j else DZ.getD (j -bB.flatten.length) undef)
             (fun e he=>(Ao.1 he).elim (eu e) (yu e)) (fun j hj=>?_) (fun j hj=>?_) ⟨by simp;exact wF,?_⟩
            . rw[Fm] at hj ⊢;rw[hga];by_cases KJ:j<bB.flatten.length
              . rw[if_pos KJ,if_pos KJ];have :=hh j KJ;refine⟨(jt.iB _ _ this.1).1,by rw[(jt.iB _ _ this.1).2];exact this.2.1,this.2.2⟩
              rw[if_neg KJ,if_neg KJ];simp only[Ba] at hj;have MO:j -bB.flatten.length<DZ.length:=(by rw[yv.1];omega);have Lu:o'+j=o'+bB.length*eR+(j -bB.flatten.length):=(by rw[efl] at KJ ⊢;omega);refine⟨.inr ⟨rfl,by omega,by omega⟩,by rw[Lu];exact Zp _ MO,?_⟩;exact y1 _ (IF (by rw[<-yv.1];exact MO))
            . rw[Fm] at hj ⊢;rw[hga];by_cases KJ:j<bB.flatten.length
              . rw[if_pos KJ,if_pos KJ];exact(hv j KJ).ext jt
              rw[if_neg KJ,if_neg KJ];simp only[Ba] at hj;exact(yv.2 (j -bB.flatten.length) (by omega)).ext jt
            refine⟨⟨b,o'+bB.length*eR+DZ.length,0,l.ext -DZ.length⟩,by simp only[Gh.dY,aA.aW,if_true],rfl,?_,rfl,?_⟩
            . simp only[hlen,Cs];omega
            simp only[hlen];rw[yvl,<-yW,Nat.add_sub_cancel_left];congr 1;omega
           exact Qv false (bB:=bB) (os:=JX) hk WN eG rfl eu e1 evw (ef1 rfl) wF EV
         cases h
     cases h
   . rename_i id eR off len cap dC;rw[dC] at vx;split at h
     . rename_i hc;obtain⟨rfl,EV,aSv⟩:=hc;split at h
       . rename_i cs eN hg;generalize eG:a.eval x=u at vx
         cases vx with
         |sl _ _ _ _ _ kA l hl hlen gT pQ=>
          obtain⟨a1,a2,a3,a4,a5⟩:=hw.cells id l cs eN hl hg;obtain⟨ca,el,fz,b1,b2,b3⟩:=hw.room id l hl (.inl ⟨cs,eN,hg⟩);split at h
          . rename_i wF;split at h
            . rename_i bJl;simp only[Ae,Ak] at h;obtain⟨rfl,rfl⟩:=h;have yvl:DZ.length=ys.length*eR:=(by rw[yv.1,yfl]);have hm1:len*eR+ys.length*eR<=cap*eR:=by rw[<-Cs];exact Cx _ wF
              obtain⟨w',hr,hu⟩:=fE P l.dB (l.base+off+len*eR) DZ 0 w ⟨ca,el,fz,b1,by omega⟩
               (fun j hj=>by rw[Cw,Br,Br];exact b3 (off+(len*eR+j)) (by omega)) (oV yv y1)
              rw[Cw,Br] at hu;obtain⟨r1,r2⟩:=hw.store hl hg yv y1 (by rw[yfl];omega) hu;refine⟨.value (.slice (some ⟨l.dB,l.base+off,none⟩) (len+ys.length) kA),.slice (some ⟨l.dB,l.base+off,none⟩) (len+ys.length) kA,w',G,fK eG ?_,.inl rfl,r1,r2,VR.sl id eR off (len+ys.length) cap kA l hl wF gT pQ⟩;have :=pO (P:=P) (ty:=o.type) (base:=some ⟨l.dB,l.base+off,none⟩) (sLen:=len) (sCap:=kA) ht lE h2 hd Tc aIn (by omega);rw[this];simp only[jX,hr,Result.andThen_ok]
            cases h
          rename_i wF;split at h
          . rename_i CT;obtain⟨c1,c2⟩:=CT
            have aSg:kA=cap:=by
             rcases pQ with pQ|⟨p1,p2,p3⟩
             . exact pQ
             rcases c2 with c2|c2
             . have :=a3 c2;have hms:kA*eR=cap*eR:=(by omega);exact Nat.eq_of_mul_eq_mul_right aSv hms
             omega
            subst aSg
            obtain⟨eu,e1,_,JX,ev',ef'⟩:=oP P hw.drew (sz:=eR) (x:=.sl id eR off len kA) (ys:=fI eR len (cs.drop off)) (by
             have hca:H.eS id=some cs:=by simp[aA.eS,hg]
             simp[cK,hca,c1]) (VR.sl id eR off len kA kA l hl hlen gT pQ:VR G w _ _).drew
            have evw:iO G w (fI eR len (cs.drop off)).flatten JX:=⟨ev'.1,fun j hj=>(ev'.2 j hj).mono (fun _ _ h=>h) (fun b o hi=>⟨hi,rfl⟩)⟩;obtain⟨f1,f2,f3⟩:=iG eR len (cs.drop off) Zah;have efl:=length_flatten eu
            have ef1:(Builtin.firstCells eR len (.slice (some ⟨l.dB,l.base+off,none⟩) len kA)).run P {w with drawn:=w.drawn+1}=.ok JX.toArray {w with drawn:=w.drawn+1}:=by rw[ef' len (by omega),ye (by rw[ev'.1,efl,f2])]
            simp only[Ae] at h;have :=Qv mu (bB:=fI eR len (cs.drop off)) (os:=JX) hw (Ext.refl G H w) eG f2 eu e1 evw ef1 (by omega) EV;rw[h] at this;exact this
          split at h
          . rename_i vj;obtain⟨hmu,bGb,MQ,EW⟩:=vj;subst hmu bGb MQ;simp only[Ae,Ak] at h;obtain⟨rfl,rfl⟩:=h
            obtain⟨eu,e1,_,JX,ev',ef'⟩:=oP P hw.drew (sz:=eR) (x:=.sl id eR 0 len len) (ys:=fI eR len (cs.drop 0)) (by
             have hca:H.eS id=some cs:=by simp[aA.eS,hg]
             simp[cK,hca,EW]) (VR.sl id eR 0 len len kA l hl hlen gT pQ:VR G w _ _).drew
            have evw:iO G w (fI eR len (cs.drop 0)).flatten JX:=⟨ev'.1,fun j hj=>(ev'.2 j hj).mono (fun _ _ h=>h) (fun b o hi=>⟨hi,rfl⟩)⟩;obtain⟨f1,f2,f3⟩:=iG eR len (cs.drop 0) Zah;have efl:=length_flatten eu
            have ef1:(Builtin.firstCells eR len (.slice (some ⟨l.dB,l.base+0,none⟩) len kA)).run P {w with drawn:=w.drawn+1}=.ok JX.toArray {w with drawn:=w.drawn+1}:=by rw[ef' len (by omega),ye (by rw[ev'.1,efl,f2])]
            have fcs:(fI eR len (cs.drop 0)).flatten=cs:=(by rw[f1,Ee,Aq (by omega)]);have lH:H.live id:=⟨_,hg,rfl⟩;have hk:=hw.kill id;have WN:=(Ext.refl G H w).kill id;by_cases Se:len+ys.length<=kA
            ·
             have aVl:len*eR=l.Tl/\len<=kA/\kA*eR=l.ext:=by
              rcases pQ with hh|⟨p1,p2,p3⟩
              . omega
              exact⟨by omega,p2,by omega⟩
             obtain⟨g1,g2,g3⟩:=aVl;have yvl:DZ.length=ys.length*eR:=(by rw[yv.1,yfl]);have hm1:len*eR+ys.length*eR<=kA*eR:=by rw[<-Cs];exact Cx _ Se
             obtain⟨w',hr,hu⟩:=fE P l.dB (l.base+0+len*eR) DZ 0 w ⟨ca,el,fz,b1,by omega⟩
              (fun j hj=>by rw[Cw,Cw,Br];exact b3 (len*eR+j) (by omega)) (oV yv y1)
             rw[Cw,Cw] at hu
             have pJ:∀j,j<DZ.length->¬G.iB l.dB (l.base+len*eR+j):=fun j hj=>by rw[Br];exact hw.kE id l hl lH _ (by omega)
             have tP:∀kU l',G.loc kU=some l'->(H.set id .dead).live kU->l.dB≠l'.dB\/l.base+l.ext<=l'.base\/l'.base+l'.ext<=l.base:=fun kU l' pA mX=>by
              rcases aA.kV.1 mX with ⟨_,hh⟩|⟨cQ,mX⟩
              . cases hh
              exact hw.kT id kU l l' (Ne.symm cQ) hl pA lH mX
             have RB:=hk.write hu pJ (fun kU l' pA mX=>by
              rcases tP kU l' pA mX with rM|rM|rM
              . exact .inl (Ne.symm rM)
              . exact .inr (.inr (by omega))
              exact .inr (.inl (by omega))) ⟨ca,el,fz,b1⟩
             have hblk:w.heap.size<=l.dB\/∃eX l0,G.loc eX=some l0/\H.live eX/\l0.dB=l.dB:=.inr ⟨id,l,hl,lH,rfl⟩;have Tf:=WN.write hu pJ hw.jA hblk;obtain⟨ca',u1,u2,u3,u4⟩:=hu.row ca el fz b1
             have Zp:∀j,j<DZ.length->w'.cell? ⟨l.dB,l.base+len*eR+j,none⟩=some (DZ.getD j undef):=fun j hj=>by rw[lQ u1];exact u4 j hj (by omega)
             have FB:(cs++ys.flatten).length=(len+ys.length)*eR:=by rw[Ba,EW,yfl,Cs]
             have hga:∀j,(cs++ys.flatten).getD j aD=if j<cs.length then cs.getD j aD else ys.flatten.getD (j -cs.length) aD:=fun j=>by rw[getD_eq,Du];split<;>rfl
             have jt:=Tf.My (.cells (cs++ys.flatten) true) ⟨l.dB,l.base,(cs++ys.flatten).length,l.ext⟩ RB.lt hblk
             have MS:=RB.My (.cells (cs++ys.flatten) true) ⟨l.dB,l.base,(cs++ys.flatten).length,l.ext⟩ tP
              (fun j hj hi=>hw.kE id l hl lH j hj hi)
              (fun Lr aAd xN=>by
                simp only[fB.cells.injEq] at xN;obtain⟨rfl,rfl⟩:=xN;refine⟨rfl,(by simp only;rw[FB,Cs];omega),(fun hh=>(by cases hh)),fun c hc=>(Ao.1 hc).elim (a4 c) (y1 c),fun j hj=>?_⟩;rw[hga];by_cases KJ:j<cs.length
                . rw[if_pos KJ];obtain⟨u,v1,v2⟩:=a5 j KJ;exact⟨u,(show w'.cell? ⟨l.dB,l.base+j,none⟩=some u from hu.cell (.inr (.inl (by omega))) v1),v2.ext Tf⟩
                rw[if_neg KJ];simp only[Ba] at hj;have MO:j -cs.length<DZ.length:=(by rw[yv.1];omega);have Lu:l.base+j=l.base+len*eR+(j -cs.length):=(by omega);refine⟨_,(show w'.cell? ⟨l.dB,l.base+j,none⟩=_ from ?_),(yv.2 (j -cs.length) (by omega)).ext Tf⟩;rw[Lu]
                exact Zp _ MO)
              (fun _=>⟨ca',el,fz,u1,by simp only;omega,fun j hj=>by
                simp only at hj ⊢;rw[hu.frozen b1]
                exact b3 j hj⟩) (fun xN=>by cases xN)
             refine⟨.value (.slice (some ⟨l.dB,l.base+0,none⟩) (len+ys.length) kA),.slice (some ⟨l.dB,l.base+0,none⟩) (len+ys.length) kA,w',_,fK eG ?_,.inl rfl,MS,jt,?_⟩
             . have :=pO (P:=P) (ty:=o.type) (base:=some ⟨l.dB,l.base+0,none⟩) (sLen:=len) (sCap:=kA) ht lE h2 hd Tc aIn Se;rw[this];simp only[jX,hr,Result.andThen_ok]
             exact VR.sl H.next eR 0 (len+ys.length) (len+ys.length) kA ⟨l.dB,l.base,(cs++ys.flatten).length,l.ext⟩ (by simp only[Gh.dY,aA.aW,if_true]) (Ab _)
              (by simp only;rw[FB];omega) (.inr ⟨by simp only;rw[FB];omega,Se,by simp only;omega⟩)
            have hn:=Qv true (bB:=fI eR len (cs.drop 0)) (os:=JX) hk WN eG f2 eu e1 evw ef1 Se EV
            have e0:kS (H.set id .dead) true eR (fI eR len (cs.drop 0)++ys)=(.sl H.next eR 0 (len+ys.length) (len+ys.length),(H.set id .dead).alloc (.cells (cs++ys.flatten) true)):=by simp only[kS,if_true,Ba,f2,Fm,fcs,aA.aW]
            rw[e0] at hn;exact hn
          cases h
       cases h
     cases h
   cases h
 cases h
end
end
section
theorem pI (zs:List AV):∀(n k:Nat),k<n*zs.length->(List.replicate n zs).flatten.getD k aD=zs.getD (k%zs.length) aD
 |0,k,h=>by simp at h
 |n+1,k,h=>by
  rw[Dx,Bl,getD_eq,Du];rw[Dw] at h;by_cases hk:k<zs.length
  . rw[if_pos hk,Dl hk];rfl
  rw[if_neg hk];have :=pI zs n (k -zs.length) (by omega);rw[getD_eq] at this;rw[this,<-Nat.mod_eq_sub_mod (by omega)]
theorem Rn {G:Gh} {w:World} {zs:List AV} {z:Array Value} (h:iO G w zs z.toList) (Lu:1<=zs.length) (n m:Nat) (hm:m=n*zs.length):
 iO G w (List.replicate n zs).flatten ((Array.range m).map fun i=>z[i%z.size]!).toList:=by
 have hl:=h.1;simp only[Dc] at hl;refine⟨by simp[hm],fun k hk=>?_⟩;have rR:k<n*zs.length:=by simpa using hk
 rw[pI zs n k rR,iI];have hkm:k<m:=by omega
 have bFt:k%zs.length<zs.length:=Di _ Lu;have :=h.2 (k%zs.length) bFt;rw[iI] at this
 have e:((Array.range m).map fun i=>z[i%z.size]!)[k]?=some (z[k%z.size]!):=by simp[hkm]
 rw[e]
 have e2:z[k%z.size]! =(z[k%zs.length]?).getD undef:=by
  rw[hl];have :k%zs.length<z.size:=by omega
  simp[getElem!_pos,this]
 simp only[Bi];rw[e2];exact this
section
variable {P:Program} {g:bG} {o:Oper}
theorem DT {zs:List AV} (h1:∀c∈zs,c.one=true) (n:Nat):∀c∈(List.replicate n zs).flatten,c.one=true:=fun c hc=>by simp only[Ii,List.mem_replicate] at hc;obtain⟨l,⟨_,rfl⟩,hc⟩:=hc;exact h1 c hc
theorem WH (n:Nat) (h:n<=2^40):IntKind.i64.wrap (n:Int)=(n:Int):=by
 have hs:IntKind.i64.signed=true:=rfl;have hb:IntKind.i64.bits=64:=rfl;unfold IntKind.wrap;simp only[hs,hb,Co];have e:((n:Int)%2^64)=n:=by omega
 rw[e];have :¬((n:Int)≥2^(64 -1)):=by omega
 rw[Ag this];rfl
theorem LL {t e:TypeId} {sz:Nat} {i:TypeInfo} {z:Value} {zs:List AV} {x y:Operand} {x' y':Arg} (ho:o.op=.makeSlice t x y) (hx:bN g x=some x') (hy:bN g y=some y') (ht:nC P t=some (e,sz))
 (hi:P.info? e=some i) (hz:lL P e=some z) (BZ:jT z.cells.toList=some zs) (Lu:1<=sz) (eQ:1<=i.bytes):DE P g o (.jJ sz i.bytes zs x' y'):=by
 intro s a G H H' w ob val eX hw hs h dC cY AJ fJ;have vx:=bM hw hs hx;have vy:=bM hw hs hy;obtain⟨hu,lE⟩:=kK ht;simp only[xB] at h;split at h
 . rename_i l c hl hc;obtain⟨k1,e1,f1⟩:=tE hl vx;obtain⟨k2,e2,f2⟩:=tE hc vy;split at h
   . rename_i eW;obtain⟨c1,c2,c3⟩:=eW;simp only[Ae,Ak] at h;obtain⟨rfl,rfl⟩:=h;have jr:=lS BZ G w
     have bEu:c<=2^40:=by have :1*c<=i.bytes*c:=Cx _ eQ;omega
     have w1:=WH l (by omega);have w2:=WH c bEu;have aSw:z.cells.size=zs.length:=(by simpa using jr.1.1);have aWd:1<=zs.length:=(by omega);have hz1:=Rn jr.1 aWd c (c*sz) (by rw[c3]);have hp:iR w {w with heap:=w.heap.push (.cells ((Array.range (c*sz)).map fun i=>z.cells[i%z.cells.size]!) e)} (.cells (((Array.range (c*sz)).map fun i=>z.cells[i%z.cells.size]!).toList++[]).toArray e (0,0)):=⟨by rw[Ch,Array.toArray_toList],.now⟩;have hm:=hw.wR eX dC _ _ [] hz1 (DT jr.2 c) false (fun _=>rfl) cY AJ fJ (Clear.zero _) hp;refine⟨.slice (some ⟨w.heap.size,0,none⟩) l c,_,_,?_,hm,?_⟩
     . have t1:(decide ((c:Int)<0)||decide ((i.bytes:Int)*(c:Int)>2^48))=false:=by
        have :(i.bytes:Int)*(c:Int)<=2^40:=(by exact_mod_cast c2);simp;omega
       have t2:¬((l:Int)<0):=(by omega);have t3:¬((l:Int)>(c:Int)):=(by omega);simp only[execOp,ho,Instr.makeSlice,Sem.run_bind,run_underlying hu w,Result.andThen_ok,f1,f2,asInt,asIntOf,Sem.run_pure,vK hi w,w1,w2,t1,Ag t2,Ag t3,Kl,Bb,Bp,run_askRoom,Dr,eI lE w];by_cases h0:c*sz=0
       . have hA:∀f:Nat->Value,(Array.range 0).map f= #[]:=fun f=>by simp
         simp only[h0,if_true,Sem.run_bind,Sem.run_pure,Result.andThen_ok,hA];rfl
       simp only[h0,Bp,Sem.run_bind,lA hz w,Sem.run_pure,Result.andThen_ok];rfl
     have hlen:(List.replicate c zs).flatten.length=c*sz:=(by simp[c3]);refine VR.sl eX sz 0 l c c ⟨w.heap.size,0,(List.replicate c zs).flatten.length,(((Array.range (c*sz)).map fun i=>z.cells[i%z.cells.size]!).toList++[]).length⟩ (by simp only[Gh.dY,if_true]) c1 (by simp only[hlen];omega) (.inl rfl)
   cases h
 cases h
theorem YB {t e:TypeId} {sz:Nat} {i:TypeInfo} {z:Value} {zs:List AV} {x y:Operand} {x' y':Arg} (ho:o.op=.makeSlice t x y) (hx:bN g x=some x') (hy:bN g y=some y') (ht:nC P t=some (e,sz))
 (hi:P.info? e=some i) (hz:lL P e=some z) (BZ:jT z.cells.toList=some zs) (Lu:1<=sz) (eQ:1<=i.bytes):cP P g o (.jJ sz i.bytes zs x' y'):=
 (LL ho hx hy ht hi hz BZ Lu eQ).op fun _ _=>rfl
theorem y9:∀{l:List (Nat×Operand)} {k:Nat} {ys:List Arg},IB g k l=some ys->ys.length=l.length:=by
 intro l
 induction l with
 |nil=>intro k ys h;obtain rfl:=Aa h;rfl
 |cons p r ih=>
  intro k ys h;exact ZbA
def TP (mu:Bool) (sz:Nat) (ys:List Arg):Bool:=mu&&Nat.beq sz 1&&(match ys with|[.const (.str [])]=>true|_=>false)
theorem Nf {mu:Bool} {t e:TypeId} {sz len:Nat} {z:Value} {parts:Array (Nat×Operand)} {ys:List Arg} (ho:o.op=.buildSlice t len parts) (ht:nC P t=some (e,sz)) (hz:lL P e=some z)
 (hlen:len=parts.size) (EV:len*sz<=2^24) (hp:IB g 0 parts.toList=some ys) (hr:TP mu sz ys=true):DE P g o (.jJ 1 1 [.str []] (.const (.int .i64 1)) (.const (.int .i64 1))):=by
 intro s a G H H' w ob val eX hw hs h dC cY AJ fJ;obtain⟨hu,lE⟩:=kK ht;simp only[TP,Al] at hr;obtain⟨⟨_,aSv⟩,MU⟩:=hr;obtain rfl:sz=1:=Be aSv
 have MU:ys=[.const (.str [])]:=by
  split at MU
  . rfl
  cases MU
 subst MU;have Uv:parts.size=1:=by have :=y9 hp;simpa using this.symm
 obtain rfl:len=1:=by omega
 have fK:ob=.cells [.str []] false/\val=fun id=>.sl id 1 0 1 1:=by
  have e:xB (Arg.eval g s) (.jJ 1 1 [.str []] (.const (.int .i64 1)) (.const (.int .i64 1)))=some (.cells [.str []] false,fun id=>.sl id 1 0 1 1):=by simp[xB,Arg.eval,asNat]
  rw[e] at h;simp only[Ae,Ak] at h;exact⟨h.1.symm,h.2.symm⟩
 obtain⟨rfl,rfl⟩:=fK;obtain⟨iS,hf,hv,h1⟩:=Nb hw hs 1 parts.toList [.const (.str [])] 0 [[.str []]] [] ((Array.range (1*1)).map (z.cells[· %z.cells.size]!)) hp rfl (by simp) (by simp[Uv]) (fun j hj=>by simp at hj) (fun c hc=>by cases hc);have hp':iR w {w with heap:=w.heap.push (.cells iS e)} (.cells (iS.toList++[]).toArray e (0,0)):=⟨by simp,.now⟩;have hm:=hw.wR eX dC [.str []] iS.toList [] hv h1 false (fun _=>rfl) cY AJ fJ (Clear.zero _) hp';refine⟨.slice (some ⟨w.heap.size,0,none⟩) 1 1,_,_,?_,hm,?_⟩
 . simp only[execOp,ho,Instr.buildSlice,Sem.run_bind,run_underlying hu w,eI lE w,Result.andThen_ok,if_neg (show ¬1*1>2^24 by omega),if_neg (show ¬1*1=0 by omega),lA hz w,Sem.run_pure,Ij,hf];rfl
 exact VR.sl eX 1 0 1 1 1 ⟨w.heap.size,0,1,(iS.toList++[]).length⟩ (by simp only[Gh.dY,if_true];rfl) (Ab _) (by simp) (.inl rfl)
theorem kh {mu:Bool} {t e:TypeId} {sz len:Nat} {z:Value} {parts:Array (Nat×Operand)} {ys:List Arg} (ho:o.op=.buildSlice t len parts) (ht:nC P t=some (e,sz)) (hz:lL P e=some z)
 (hlen:len=parts.size) (EV:len*sz<=2^24) (hp:IB g 0 parts.toList=some ys) (hr:TP mu sz ys=true):cP P g o (.jJ 1 1 [.str []] (.const (.int .i64 1)) (.const (.int .i64 1))):=
 (Nf ho ht hz hlen EV hp hr).op fun _ _=>rfl
theorem aGk {c:Call} {x y:Operand} {x' y':Arg} {t elem:TypeId} {sz:Nat} (ho:o.op=.call c) (hc:c.callee=.builtin .copy) (ha:c.args= #[x,y])
 (hx:bN g x=some x') (hy:bN g y=some y') (Pj:c.argTypes[0]?=some t) (ht:P.underlying t=some (.slice elem)) (lE:kG P elem=some sz):cP P g o (.copy sz x' y'):=by
 intro s a G H w v H' hw hs h;have vx:=bM hw hs hx;have vy:=bM hw hs hy;simp only[dA] at h
 have fK:∀{p:Option Addr} {dl dc:Nat} {n:Nat} {vs:List Value},a.eval x=.slice p dl dc->(Builtin.lenOf (a.eval y)).run P w=.ok n w->(Builtin.firstCells sz (Nat.min n dl) (a.eval y)).run P w=.ok vs.toArray w->
  ∀{w':World},((match p with|some q=>storeCells q vs|none=>pure ():Sem Unit).run P w=.ok () w')->(execOp a.eval o).run P w=.ok (.value (.int .i64 (Nat.min n dl:Nat))) w':=by
  intro p dl dc n vs eG hl hf w' hr;simp only[execOp,ho,resolve,hc,ha,List.map_toArray,Cb,Fo,eG,Sem.run_bind,Sem.run_pure,Result.andThen_ok,invoke,builtin,Builtin.copy_,Pj,Eb,Gj,Gk,run_underlying ht w,hl,eI lE w,hf]
  cases p with
  |none=>simp at hr;subst hr;simp[goInt]
  |some q=>simp only at hr;simp[hr,goInt]
 split at h
 . rename_i ys MU dC;rw[dC] at vx;generalize eG:a.eval x=u at vx;cases vx;simp only[Ae,Ak] at h;obtain⟨rfl,rfl⟩:=h;obtain⟨yu,y1,Tc,DZ,yv,yf⟩:=oP P hw MU vy
   have :=fK eG Tc (vs:=[]) (by
    have :=yf 0 (Az _);rw[show Nat.min ys.length 0=0 from Nat.min_zero _]
    simpa using this) (w':=w) rfl
   exact cP.pure' hw this (.int _ _)
 . rename_i ys id eR off len cap MU dC;rw[dC] at vx;obtain⟨yu,y1,Tc,DZ,yv,yf⟩:=oP P hw MU vy;split at h
   . rename_i xy;subst xy;split at h
     . rename_i cs eN hg;split at h
       . rename_i gT;simp only[Ae,Ak] at h;obtain⟨rfl,rfl⟩:=h;generalize eG:a.eval x=u at vx
         cases vx with
         |sl _ _ _ _ _ kA l hl hlen bFk pQ=>
          obtain⟨a1,a2,a3,a4,a5⟩:=hw.cells id l cs eN hl hg;obtain⟨ca,el,fz,b1,b2,b3⟩:=hw.room id l hl (.inl ⟨cs,eN,hg⟩);have yfl:=length_flatten yu;have hmn:min ys.length len<=ys.length:=Nat.min_le_left _ _;have hmul:min ys.length len*eR<=ys.length*eR:=Cx _ hmn;have hyl:=yv.1;have hft:(ys.take (min ys.length len)).flatten=ys.flatten.take (min ys.length len*eR):=GZ yu _;have yvt:=yv.take (min ys.length len*eR);rw[<-hft] at yvt;have Ps:(DZ.take (min ys.length len*eR)).length=min ys.length len*eR:=by simp;omega
          obtain⟨w',hr,hu⟩:=fE P l.dB (l.base+off) (DZ.take (min ys.length len*eR)) 0 w ⟨ca,el,fz,b1,by omega⟩
           (fun j hj=>by rw[Cw,Br];exact b3 (off+j) (by omega)) (oV yvt (fun c hc=>by
             rw[hft] at hc
             exact y1 c (By hc)))
          rw[Cw] at hu;obtain⟨r1,r2⟩:=hw.store hl hg yvt (fun c hc=>by rw[hft] at hc;exact y1 c (By hc)) (by rw[hft];simp;omega) hu;refine⟨_,_,w',G,fK eG Tc (yf _ hmn) hr,.inl rfl,r1,r2,.int _ _⟩
       cases h
     cases h
   cases h
 cases h
theorem aTo {c:Call} {x:Operand} {x':Arg} {t elem:TypeId} {sz:Nat} {z:Value} {zs:List AV} (ho:o.op=.call c) (hc:c.callee=.builtin .clear) (ha:c.args= #[x])
 (hx:bN g x=some x') (Pj:c.argTypes[0]?=some t) (ht:P.underlying t=some (.slice elem)) (hz:lL P elem=some z) (BZ:jT z.cells.toList=some zs):cP P g o (.clr sz zs x'):=by
 intro s a G H w v H' hw hs h;have vx:=bM hw hs hx
 have fK:∀{u:Value} {w':World},a.eval x=u->(Builtin.clear_ c.argTypes o.type #[u]).run P w=.ok (.tuple #[]) w'->(execOp a.eval o).run P w=.ok (.value (.tuple #[])) w':=by intro u w' eG hr;simp[execOp,ho,resolve,hc,ha,invoke,builtin,eG,hr]
 simp only[dA] at h;split at h
 . exact ZaS
 . rename_i dC;rw[dC] at vx;generalize eG:a.eval x=u at vx;simp only[Ae,Ak] at h;obtain⟨rfl,rfl⟩:=h;cases vx<;>exact cP.pure' hw (fK eG (by simp[Builtin.clear_,Pj,run_underlying ht w])) (VR.oK G w)
 . exact ZaS
 . rename_i id eR off len cap hnz dC;rw[dC] at vx;split at h
   . rename_i xy;obtain⟨xy,hzl⟩:=xy;subst xy;split at h
     . rename_i cs eN hg;split at h
       . rename_i gT;simp only[Ae,Ak] at h;obtain⟨rfl,rfl⟩:=h;generalize eG:a.eval x=u at vx
         cases vx with
         |sl _ _ _ _ _ kA l hl hlen bFk pQ=>
          obtain⟨a1,a2,a3,a4,a5⟩:=hw.cells id l cs eN hl hg;obtain⟨ca,el,fz,b1,b2,b3⟩:=hw.room id l hl (.inl ⟨cs,eN,hg⟩);have jr:=lS BZ G w;have aSw:z.cells.size=zs.length:=(by simpa using jr.1.1);have vD:(List.replicate len zs).flatten.length=len*eR:=by simp[hzl]
          have hvz:iO G w (List.replicate len zs).flatten (Builtin.zeroCells z.cells len).toList:=by
           by_cases bJu:0<eR
           . exact Rn jr.1 (by omega) len (len*z.cells.size) (by rw[aSw])
           have h0:eR=0:=(by omega);have Pu:zs=[]:=Hw.1 (by omega);refine⟨?_,fun j hj=>?_⟩
           . rw[vD];simp[Builtin.zeroCells,aSw,hzl]
           rw[vD,h0,Nat.mul_zero] at hj;omega
          have xP:=DT jr.2 len;have Ps:=hvz.1
          obtain⟨w',hr,hu⟩:=fE P l.dB (l.base+off) (Builtin.zeroCells z.cells len).toList 0 w ⟨ca,el,fz,b1,by omega⟩
           (fun j hj=>by rw[Cw,Br];exact b3 (off+j) (by omega)) (oV hvz xP)
          rw[Cw] at hu;obtain⟨r1,r2⟩:=hw.store hl hg hvz xP (by rw[vD];exact gT) hu;have Xf:len≠0:=fun e=>hnz e;refine⟨_,_,w',G,fK eG ?_,.inl rfl,r1,r2,VR.oK G w'⟩
          cases len with
          |zero=>exact absurd rfl Xf
          |succ n=>simp only[Builtin.clear_,Pj,Eb,Gj,Sem.run_bind,run_underlying ht w,Result.andThen_ok,lA hz w,hr,Sem.run_pure]
       cases h
     cases h
   cases h
 cases h
theorem zo {src dst e:TypeId} {x:Operand} {x':Arg} (ho:o.op=.convert src dst x) (hx:bN g x=some x') (Xk:P.underlying src=some (.slice e)) (CU:P.underlying dst=some .string)
 (he:P.underlying e=some (.int .u8)):cP P g o (.DH x'):=by
 intro s a G H w v H' hw hs h;have vx:=bM hw hs hx;simp only[dA] at h;generalize hva:Arg.eval g s x'=va at vx h;split at h
 . cases h
 rename_i aWa;split at h
 . rename_i bB sK;simp only[Ah,Ak] at h;obtain⟨bs,Zd,rfl,rfl⟩:=h;obtain⟨eu,e1,bJi,evs,ev,ef⟩:=oP P hw sK vx;have efl:=length_flatten eu;have hev:evs.length=bB.length:=by rw[ev.1,efl,Ed]
   have ef0:=ef bB.length (Ab _);rw[Ed,Aq (by omega)] at ef0
   have key:∀(bB:List (List AV)) (bs:List UInt8),bytesOf bB=some bs->∃ns:List Int,bB.flatten=ns.map (fun n=>AV.int .u8 n)/\bs=ns.map fun n=>UInt8.ofNat n.toNat:=by
    intro bB
    induction bB with
    |nil=>intro bs hb;obtain rfl:=Aa hb;exact⟨[],rfl,rfl⟩
    |cons e r ih=>
     intro bs hb
     match e,hb with
     |[.int .u8 n],hb=>simp only[bytesOf,Ah] at hb;obtain⟨bs',HM,rfl⟩:=hb;obtain⟨ns,h1,h2⟩:=ih bs' HM;exact⟨n::ns,by simp[h1],by simp[h2]⟩
   obtain⟨ns,k1,k2⟩:=key bB bs Zd
   have hns:evs=ns.map (fun n=>Value.int .u8 n):=by
    apply Gd;intro j;have Xc:bB.flatten.length=ns.length:=(by rw[k1];simp);by_cases hj:j<ns.length
    . have :=ev.2 j (by omega);rw[k1] at this;have e2:(ns.map fun n=>AV.int .u8 n).getD j aD=.int .u8 (ns[j]):=(by simp[getD_eq,hj]);rw[e2] at this;have :=this.iZ;rw[qF evs undef j (by rw[ev.1];omega),this];simp[hj]
    rw[Bv (by rw[ev.1];omega),Bv Zah]
   have bGp:VR G w (.str bs) (.string ⟨bs.toArray⟩):=VR.Yo _ _ _
   have fin:∀u:Value,a.eval x=u->(convert src dst u).run P w=.ok (.string ⟨bs.toArray⟩) w->∃n u w' G',(execOp a.eval o).run P w=.ok n w'/\QI n u/\WR g G' H w'/\Ext G H w G' H w'/\VR G' w' (.str bs) u:=fun u hu hr=>cP.pure' hw (by simp[execOp,ho,hu,hr]) bGp
   generalize eG:a.eval x=u at vx ef0
   have slc:∀{b o' len cap:Nat},u=.slice (some ⟨b,o',none⟩) len cap->len=bB.length->(convert src dst u).run P w=.ok (.string ⟨bs.toArray⟩) w:=by
    intro b o' len cap hu' pA;subst hu' pA
    have hld:(loadCells ⟨b,o',none⟩ bB.length).run P w=.ok (ns.map (Value.int .u8)).toArray w:=by rw[hns] at ef0;simpa [Builtin.firstCells] using ef0
    rw[run_convert_bytes_string w src dst e _ bB.length cap Xk he CU,run_bytesToString w _ bB.length cap ns hld,foldl_push_bytes,k2];simp[ByteArray.empty,ByteArray.emptyWithCapacity];rfl
   cases vx with
   |aO=>simp[cK] at sK;subst sK;simp[bytesOf] at Zd;subst Zd;refine fin _ eG ?_;simp only[convert,Sem.run_bind,run_underlying Xk w,run_underlying CU w,Result.andThen_ok,run_underlying he w,Conv.bytesToString];rfl
   |bD tag eR els' b o' cap us GA hh hv rS=>
    simp only[cK] at sK;split at sK
    . obtain rfl:=Aa sK;exact fin _ eG (slc rfl rfl)
    cases sK
   |vE tag eR b o' s' rS=>
    simp only[cK] at sK;split at sK
    . obtain rfl:=Aa sK;simp[bytesOf] at Zd;subst Zd;refine fin _ eG ?_;rw[run_convert_bytes_string w src dst e _ 0 0 Xk he CU,run_bytesToString w _ 0 0 [] (by simp[loadCells,loadCellsFrom])];rfl
    cases sK
   |sl id eR off len cap kA l hl hlen gT pQ=>
    refine fin _ eG (slc rfl ?_);simp only[cK] at sK;split at sK
    . split at sK
      . split at sK
        . rename_i EW hle;obtain rfl:=Aa sK;rename_i hs1 cs;have :=(iG 1 len (cs.drop off) Zah).2.1;omega
        cases sK
      cases sK
    cases sK
   |str s=>exact absurd rfl (aWa _)
   |_=>simp[cK] at sK
 cases h
end
end
section
section
variable {P:Program} {g:bG} {o:Oper}
theorem Vb (h:Array Go.Obj) (x:Go.Obj) (f:Go.Obj->Go.Obj):(h.push x).modify h.size f=h.push (f x):=by
 apply Array.ext
 . simp
 intro i h1 h2;simp only[Array.size_push] at h2;rw[Array.getElem_modify];by_cases hi:i=h.size
 . subst hi;simp
 have :i<h.size:=by omega
 rw[if_neg (Ne.symm hi)];simp[Array.getElem_push,this]
theorem Ql {src dst e:TypeId} {x:Operand} {x':Arg} (ho:o.op=.convert src dst x) (hx:bN g x=some x') (Xk:P.underlying src=some .string) (CU:P.underlying dst=some (.slice e))
 (he:P.underlying e=some (.int .u8)):DE P g o (.BG x'):=by
 intro s a G H H' w ob val eX hw hs h dC cY AJ fJ;have vx:=bM hw hs hx;simp only[xB] at h;split at h
 . rename_i str aVt;rw[aVt] at vx;have eG:=vx.lK;simp only[Ae,Ak] at h;obtain⟨rfl,rfl⟩:=h;have lE:(⟨str.toArray⟩:ByteArray).size=str.length:=by simp[ByteArray.size]
   obtain⟨cap,SU,CT⟩:=BD (P:=P) (need:=str.length) (CE:=0) (e:=e) w
   let vs:List Value:=str.map fun b=>.int .u8 b.toNat
   let rest:List Value:=List.replicate (cap -str.length) (.int .u8 0);let w':World:={w with heap:=w.heap.push (.cells (vs++rest).toArray e (cap,cap+1)),drawn:=w.drawn+1}
   have vD:(WY str).flatten=str.map fun b=>AV.int .u8 b.toNat:=by
    unfold WY;clear aVt vx eG lE SU CT
    induction str with
    |nil=>rfl
    |cons b r ih=>simp[ih]
   have Ps:vs.length=str.length:=(by simp[vs]);have CV:rest.length=cap -str.length:=by simp[rest]
   have hv:iO G w (WY str).flatten vs:=by rw[vD];refine⟨by simp[vs],fun j hj=>?_⟩;simp at hj;simp only[vs,getD_eq,Cv,Ad hj,Bu,Bi];exact .int _ _
   have hp:iR w w' (.cells (vs++rest).toArray e (cap,cap+1)):=⟨rfl,.now⟩
   obtain⟨G',hl,hm,r3⟩:=hw.RU eX dC _ vs rest hv cY AJ fJ (fz:=(cap,cap+1)) (fun o' jz=>by
    simp only[Gz,Ba,Ps,CV] at jz
    simp;omega) hp
   have GA:∀x∈WY str,x.length=1:=fun x hx=>by simp only[WY,Bf] at hx;obtain⟨b,_,rfl⟩:=hx;rfl
   have hlen:(WY str).length=str.length:=(by simp[WY]);have bFf:(WY str).flatten.length=str.length:=(by rw[vD];simp);refine⟨.slice (some ⟨w.heap.size,0,none⟩) str.length cap,w',G',?_,hm,?_⟩
   . have aVo:(convert src dst (.string ⟨str.toArray⟩)).run P w=(Conv.stringToBytes e ⟨str.toArray⟩).run P w:=by
      simp only[convert,Sem.run_bind,run_underlying Xk w,run_underlying CU w,Result.andThen_ok,run_underlying he w]
     have rB:(((⟨str.toArray⟩:ByteArray).data.map fun b=>(Value.int .u8 b.toNat))++Array.replicate (cap -str.length) (.int .u8 0))=(vs++rest).toArray:=by apply Fk;simp[vs,rest]
     have hsb:(Conv.stringToBytes e ⟨str.toArray⟩).run P w=.ok (.slice (some ⟨w.heap.size,0,none⟩) str.length cap) w':=by simp only[Conv.stringToBytes,lE,Sem.run_bind,CT,Result.andThen_ok,rB];simp only[newRow,newObj,markStringish,shape,freeze,Sem.run_bind,Sem.run,Result.andThen_ok,World.shape?,Array.getElem?_push_size,World.freeze,Nat.one_ne_zero,Bp,Sem.run_pure];rw[Vb];simp only[Gz,Ba,Ps,CV];have :str.length+(cap -str.length)=cap:=(by omega);simp[this,w']
     simp[execOp,ho,eG,aVo,hsb]
   have :=VR.bD (G:=G') (w:=w') (eX+2) 1 (WY str) w.heap.size 0 cap (fun j=>vs.getD j undef) GA (fun j hj=>⟨(r3 j hj).1,(r3 j hj).2.1,by
    rw[vD] at hj ⊢;simp at hj;simp only[getD_eq,Cv,Ad hj,Bu,Bi]
    rfl⟩) (fun j hj=>(r3 j hj).2.2) ⟨by omega,⟨_,hl,rfl,by simp only[bFf,hlen];omega,rfl,by simp only[CV,hlen,Ed]⟩⟩
   rw[hlen] at this;exact this
 cases h
theorem z8 {src dst e:TypeId} {x:Operand} {x':Arg} (ho:o.op=.convert src dst x) (hx:bN g x=some x') (Xk:P.underlying src=some .string) (CU:P.underlying dst=some (.slice e))
 (he:P.underlying e=some (.int .u8)):cP P g o (.BG x'):=
 (Ql ho hx Xk CU he).op fun _ _=>rfl
theorem WR.CF {G:Gh} {H H':aA} {w w':World} (h:WR g G H w) (eX:Nat) (o:fB) (x:Go.Obj) (ho:o.dB=true) (dC:G.loc eX=none) (cY:∀m,H'.get m=if m=eX then some o else H.get m) (AJ:H.next<=H'.next) (FD:eX<H'.next)
 (p:iR w w' x) (SZ:(∀a u,VR G w a u->VR G w' a u)->JO g G w' ⟨w.heap.size,0,0,1⟩ o):Made g G H w eX o (G.dY eX ⟨w.heap.size,0,0,1⟩) H' w':=by
 have hp:=h.FM p;have he:=Ext.FM h p
 refine⟨hp.GP eX _ _ dC cY AJ FD (fun id l' hl hv=>.inl (Ne.symm (Nat.ne_of_lt (h.mQ hl hv)))) (fun j _ hi=>?_) (fun Lr aAd xN=>by rw[xN] at ho;cases ho) (fun hh=>?_) (fun _=>?_),
  ⟨⟨w.heap.size,0,0,1⟩,rfl,by simp only[Gh.dY,if_true],fun id cQ=>by simp only[Gh.dY];rw[if_neg cQ]⟩,fun {G0 H0 w0} e0 LQ=>(e0.trans he).GP eX _ _ dC cY AJ LQ (.inl e0.size),fun b o hi=>.inl hi,fun b o hi=>hi,p.size,p.CE⟩
 . obtain⟨v,hv⟩:=h.jA _ _ hi;have :=vW hv;simp at this
 . rcases hh with ⟨_,_,hh⟩|hh<;>rw[hh] at ho<;>cases ho
 exact⟨rfl,rfl,SZ fun a u hv=>hv.mono he.loc he.iB⟩
theorem WR.kz {G:Gh} {H H':aA} {w w':World} (h:WR g G H w) (eX:Nat) (dC:G.loc eX=none) (cY:∀m,H'.get m=if m=eX then some (.map []) else H.get m) (AJ:H.next<=H'.next) (FD:eX<H'.next)
 (p:iR w w' (.map #[] 0)):Made g G H w eX (.map []) (G.dY eX ⟨w.heap.size,0,0,1⟩) H' w':=
 h.CF eX _ _ rfl dC cY AJ FD p fun _=>⟨#[],0,p.new,rfl,⟨fun i hi=>absurd hi (Ap i),fun i j hi=>absurd hi (Ap i)⟩,fun j hj=>absurd hj (Ap j)⟩
theorem KD {t:TypeId} {r:Option Operand} {kt vt:TypeId} (ho:o.op=.makeMap t r) (ht:P.underlying t=some (.map kt vt)) (hr:r=none\/∃k n,r=some (.const (.int k n))):DE P g o .yO:=by
 intro s a G H H' w ob val eX hw hs h dC cY AJ fJ;simp only[xB,Ae,Ak] at h;obtain⟨rfl,rfl⟩:=h;have hp:iR w {w with heap:=w.heap.push (.map #[] 0)} (.map #[] 0):=⟨rfl,.now⟩;have hm:=hw.kz eX dC cY AJ fJ hp;refine⟨.map (some w.heap.size),_,_,?_,hm,?_⟩
 . rcases hr with rfl|⟨k,n,rfl⟩
   . simp[execOp,ho,Instr.makeMap,newObj,Sem.run]
   simp[execOp,ho,Instr.makeMap,run_underlying ht w,Act.eval,asInt,asIntOf,newObj,Sem.run]
 exact VR.map eX ⟨w.heap.size,0,0,1⟩ (by simp only[Gh.dY,if_true])
theorem VS {t:TypeId} {r:Option Operand} {kt vt:TypeId} (ho:o.op=.makeMap t r) (ht:P.underlying t=some (.map kt vt)) (hr:r=none\/∃k n,r=some (.const (.int k n))):cP P g o .yO:=
 (KD ho ht hr).op fun _ _=>rfl
def HV (P:Program) (t:TypeId):Option Sk:=
 match P.underlying t with
 |some .bool=>some .b
 |some (.int _)=>some .i
 |some .string=>some .s
 |some (.struct _)|some (.array _ _)=>(oH P 60 t).map .f
 |_=>none
def Ma:Sk->Bool
 |.f _=>false
 |_=>true
theorem Lk {G:Gh} {w:World} {kt:TypeId} {k:Sk} {d:TypeDesc} (hk:HV P kt=some k) (hp:Ma k=true) (hd:P.underlying kt=some d) {x y:AV} {u v:Value} {b:Bool} (h:sameKey k x y=some b) (hx:VR G w x u) (hy:VR G w y v):
 Instr.sameNow d u v=some b:=by
 unfold HV at hk;rw[hd] at hk
 cases x<;>cases y<;>simp only[sameKey] at h<;>first
  |(cases h;done)
  |skip
 . cases k<;>simp only[] at h<;>first|(cases h;done)|skip
   obtain rfl:=Aa h;rw[hx.jY,hy.jY];cases d<;>simp at hk<;>rfl
 . cases k<;>simp only[] at h<;>first|(cases h;done)|skip
   split at h
   . rename_i pg;obtain rfl:=Aa h;subst pg;rw[hx.iZ,hy.iZ];cases d<;>simp at hk<;>simp[Instr.sameNow]
   cases h
 . cases k<;>simp only[] at h<;>first|(cases h;done)|skip
   obtain rfl:=Aa h;rw[hx.lK,hy.lK];cases d<;>simp at hk;simp only[Instr.sameNow,Ae];rw[beq_toListBytes,ByteArray.toList_mk,ByteArray.toList_mk]
 cases k<;>simp only[] at h<;>first|(cases h;done)|(cases hp;done)
theorem yA {α:Type} (P:Program) (w:World) (f:α->PUnit->Sem (ForInStep PUnit)):∀(l:List α),(∀x∈l,∀r,(f x r).run P w=.ok (.yield PUnit.unit) w)->(forIn l PUnit.unit f:Sem PUnit).run P w=.ok PUnit.unit w
 |[],_=>by simp
 |x::l,h=>by simp only[List.forIn_cons,Sem.run_bind,h x (by simp),Result.andThen_ok];exact yA P w f l fun y hy=>h y (by simp[hy])
theorem FP {P:Program} (w:World) (em:Bool):∀(f:Nat) (t:TypeId) (ks:List Sk),oH P f t=some ks->∀(d:Nat) (b:Bool) (us:List Value),fT P t=some b->us.length=ks.length->
 (Instr.checkKey em (d+f) t (valOf b us)).run P w=.ok () w:=by
 intro f
 induction f with
 |zero=>intro t ks h;cases h
 |succ f ih=>
  intro t ks h d b us hb hl;rw[show d+(f+1)=(d+f)+1 from rfl,Instr.checkKey];simp only[oH] at h;split at h
  . rename_i hu;exact Za1
  . rename_i hu;exact Za1
  . rename_i hu;exact Za1
  . rename_i fs hu;split at h
    . cases h
    have o9:b=true:=(by simp only[fT,hu,Ae] at hb;exact hb.symm);subst o9;simp only[valOf,if_true,Sem.run_bind,run_underlying hu w,Result.andThen_ok]
    have key:∀(l:List Field) (off:Nat) (ka:List Sk),CL P (oH P f) off l=some ka->off+ka.length<=us.length->
     ∀x∈l,(if x.name≠ "_" then(do Instr.checkKey em (d+f) x.type (←part x.type us.toArray x.offset)) else pure ():Sem Unit).run P w=.ok () w:=by
     intro l
     induction l with
     |nil=>intro off ka _ _ x hx;cases hx
     |cons fd l ihl=>
      intro off ka hs hi x hx;simp only[CL] at hs;split at hs
      . rename_i hc;split at hs
        . rename_i k hk;split at hs
          . rename_i lE;simp only[Ah] at hs;obtain⟨ks2,hs2,rfl⟩:=hs;simp only[Ba] at hi
            rcases Am.1 hx with rfl|hx
            . obtain⟨bf,SQ,SS⟩:=yD hk;have p1:=mL lE SQ w (us:=us) (off:=x.offset) (by omega) SS;simp only[ne_eq,if_pos hc.1,Sem.run_bind,p1,Result.andThen_ok];exact ih x.type k hk d bf _ SQ Zah
            exact ihl (off+k.length) ks2 hs2 (by omega) x hx
          cases hs
        cases hs
      cases hs
    have h1:=key fs.toList 0 ks h (by omega)
    rw[<-Array.forIn_toList,yA P w _ fs.toList (fun x hx r=>by
     have :=h1 x hx;split at this
     . rename_i hn;rw[if_pos hn];simp only[Sem.run_bind] at this ⊢;generalize (part x.type us.toArray x.offset).run P w=rr at this ⊢
       cases rr with
       |ok p w1=>simp only[Result.andThen_ok] at this ⊢;rw[this];simp
       |halt q w1=>cases this
     rename_i hn;rw[if_neg hn]
     simp)]
    simp
  . rename_i n e hu;have o9:b=true:=by simp only[fT,hu,Ae] at hb;exact hb.symm
    subst o9;split at h
    . rename_i k hk;split at h
      . rename_i lE;obtain rfl:=Aa h;obtain⟨bf,SQ,SS⟩:=yD hk;simp only[valOf,if_true,Sem.run_bind,run_underlying hu w,Result.andThen_ok];have hlk:((List.replicate n k).flatten).length=n*k.length:=(by simp);rw[hlk] at hl;simp only[Std.Legacy.Range.forIn_eq_forIn_range',Std.Legacy.Range.size,Ix,Nat.add_one_sub_one,Nat.div_one]
        rw[yA P w _ (List.range' 0 n) (fun i hi r=>by
         have gQ:i<n:=by have :=List.mem_range'_1.1 hi;omega
         have gT:i*k.length+k.length<=us.length:=by rw[hl,<-Dw];exact Cx _ gQ
         have p1:=mL lE SQ w (us:=us) (off:=i*k.length) gT SS
         simp only[Sem.run_bind,eI lE w,Result.andThen_ok,p1,ih e k hk d bf _ SQ (show((us.drop (i*k.length)).take k.length).length=k.length by simp;omega),Sem.run_pure])]
        simp
      cases h
    cases h
  cases h
theorem Xn {kt:TypeId} {sh:List Sk} (hk:HV P kt=some (.f sh)):oH P 60 kt=some sh/\fT P kt=some true/\∃d,P.underlying kt=some d/\(∀u v,Instr.sameNow d u v=none):=by
 unfold HV at hk
 split at hk<;>rename_i hu<;>first
  |(cases hk;done)
  |(simp only[Ah,Sk.f.injEq] at hk
    obtain⟨_,h1,rfl⟩:=hk;refine⟨h1,by simp[fT,hu],_,hu,fun u v=>?_⟩
    cases u<;>cases v<;>rfl)
theorem run_checkKey {G:Gh} {kt:TypeId} {k:Sk} (hk:HV P kt=some k) (b:Bool) (d:Nat) {x:AV} {u:Value} {w:World} (hx:VR G w x u) (qP:HT k x=true):
 (Instr.checkKey b (d+60) kt u).run P w=.ok () w:=by
 by_cases hp:Ma k=true
 . have rR:=hk;unfold HV at hk;rw[show d+60=(d+59)+1 from rfl,Instr.checkKey]
   split at hk<;>rename_i hu<;>first
    |(cases hk;done)
    |(simp only[Ah] at hk;obtain⟨_,_,rfl⟩:=hk;cases hp;done)
    |(simp only[Sem.run_bind,run_underlying hu w,Result.andThen_ok]
      rfl)
 cases k with
 |f sh=>
  obtain⟨h1,h2,_⟩:=Xn hk
  cases x<;>simp only[HT] at qP<;>first|(cases qP;done)|skip
  rename_i xs;obtain⟨us,e1,l1,_,_⟩:=hx.uI;subst e1;have :=FP w b 60 kt sh h1 d true us h2 (by rw[l1];exact Cu qP);simpa [valOf] using this
 |_=>exact absurd rfl hp
theorem LK {G:Gh} {w:World} {kt:TypeId} {k:Sk} {d:TypeDesc} (hk:HV P kt=some k) (hp:Ma k=true) (hd:P.underlying kt=some d) {x:AV} {u:Value} (hx:VR G w x u):
 ∀(es:List (AV×AV)) (ents:List MapEntry) (i:Nat) (r:Option (Nat×AV)),kD k x es i=some r->ents.length=es.length->
  (∀j,j<es.length->VR G w (es.getD j (aD,aD)).1 (ents.getD j default).key/\VR G w (es.getD j (aD,aD)).2 (ents.getD j default).val)->
  ∃r',Instr.findNow d u ents i=some r'/\((r=none/\r'=none)\/∃j av vv,r=some (j,av)/\r'=some (j,vv)/\VR G w av vv/\i<=j/\j<i+es.length/\sameKey k x (es.getD (j -i) (aD,aD)).1=some true)
 |[],[],i,r,h,hl,hv=>by obtain rfl:=Aa h;exact⟨none,rfl,.inl ⟨rfl,rfl⟩⟩
 |[],_::_,i,r,h,hl,hv=>by simp at hl
 |(y,z)::es,[],i,r,h,hl,hv=>by simp at hl
 |(y,z)::es,e::ents,i,r,h,hl,hv=>by
  have h0:=hv 0 (by simp);simp only[Dy] at h0;simp only[kD] at h;split at h
  . rename_i hs;obtain rfl:=Aa h;have hn:=Lk hk hp hd hs hx h0.1;refine⟨some (i,e.val),by simp[Instr.findNow,hn],.inr ⟨i,z,e.val,rfl,rfl,h0.2,Ab _,by simp,by simpa using hs⟩⟩
  . rename_i hs;have hn:=Lk hk hp hd hs hx h0.1
    obtain⟨r',h1,h2⟩:=LK hk hp hd hx es ents (i+1) r h (by simpa using hl) (fun j hj=>by
     have :=hv (j+1) ZaC
     simpa using this)
    refine⟨r',by simp only[Instr.findNow,hn];exact h1,?_⟩
    exact Za3
  cases h
theorem LJ {G:Gh} {w:World} {kt:TypeId} {sh:List Sk} (hk:HV P kt=some (.f sh)) {x:AV} {u:Value} (hx:VR G w x u):
 ∀(es:List (AV×AV)) (ents:List MapEntry) (i:Nat) (r:Option (Nat×AV)),kD (.f sh) x es i=some r->ents.length=es.length->
  (∀j,j<es.length->VR G w (es.getD j (aD,aD)).1 (ents.getD j default).key/\VR G w (es.getD j (aD,aD)).2 (ents.getD j default).val)->
  ∃r',(Instr.findAsking kt u ents i).run P w=.ok r' w/\((r=none/\r'=none)\/∃j av vv,r=some (j,av)/\r'=some (j,vv)/\VR G w av vv/\i<=j/\j<i+es.length/\sameKey (.f sh) x (es.getD (j -i) (aD,aD)).1=some true)
 |[],[],i,r,h,hl,hv=>by obtain rfl:=Aa h;exact⟨none,by simp[Instr.findAsking],.inl ⟨rfl,rfl⟩⟩
 |[],_::_,i,r,h,hl,hv=>by simp at hl
 |(y,z)::es,[],i,r,h,hl,hv=>by simp at hl
 |(y,z)::es,e::ents,i,r,h,hl,hv=>by
  obtain⟨h1,h2,_⟩:=Xn hk;have h0:=hv 0 (by simp);simp only[Dy] at h0;simp only[kD] at h
  have heq:∀b,sameKey (.f sh) x y=some b->(Op.equal kt u e.key).run P w=.ok b w:=by
   intro b hs
   cases x<;>cases y<;>simp only[sameKey] at hs<;>first|(cases hs;done)|skip
   rename_i xs ys;obtain⟨us,e1,l1,_,v1⟩:=hx.uI;obtain⟨vs,e2,l2,_,v2⟩:=h0.1.uI;rw[e1,e2];have :=UZ 60 kt sh h1 true h2 (10000 -60) G w xs ys us vs b hs ⟨l1,v1⟩ ⟨l2,v2⟩;have h3:(Op.equalIn 10000 kt (.agg us.toArray) (.agg vs.toArray)).run P w=.ok b w:=(by simpa [valOf] using this);exact h3
  split at h
  . rename_i hs;obtain rfl:=Aa h;refine⟨some (i,e.val),by simp[Instr.findAsking,heq _ hs],.inr ⟨i,z,e.val,rfl,rfl,h0.2,Ab _,by simp,by simpa using hs⟩⟩
  . rename_i hs
    obtain⟨r',h1,h2⟩:=LJ hk hx es ents (i+1) r h (by simpa using hl) (fun j hj=>by
     have :=hv (j+1) ZaC
     simpa using this)
    refine⟨r',by simp[Instr.findAsking,heq _ hs];exact h1,?_⟩
    exact Za3
  cases h
theorem run_findKey {G:Gh} {w:World} {kt:TypeId} {k:Sk} (hk:HV P kt=some k) {x:AV} {u:Value} (hx:VR G w x u) {es:List (AV×AV)} {ents:Array MapEntry} {r:Option (Nat×AV)} (h:kD k x es 0=some r) (hl:ents.size=es.length)
 (hv:∀j,j<es.length->VR G w (es.getD j (aD,aD)).1 (ents.getD j default).key/\VR G w (es.getD j (aD,aD)).2 (ents.getD j default).val):
 ∃r',(Instr.findKey kt u ents.toList).run P w=.ok r' w/\((r=none/\r'=none)\/∃j av vv,r=some (j,av)/\r'=some (j,vv)/\VR G w av vv/\j<es.length/\sameKey k x (es.getD j (aD,aD)).1=some true):=by
 have mX:∀j,j<es.length->VR G w (es.getD j (aD,aD)).1 (ents.toList.getD j default).key/\VR G w (es.getD j (aD,aD)).2 (ents.toList.getD j default).val:=fun j hj=>by
  have :=hv j hj
  have e:ents.toList.getD j default=ents.getD j default:=by simp[List.getD,Bo]
  rw[e];exact this
 have fin:∀{r':Option (Nat×Value)},((r=none/\r'=none)\/∃j av vv,r=some (j,av)/\r'=some (j,vv)/\VR G w av vv/\0<=j/\j<0+es.length/\sameKey k x (es.getD (j -0) (aD,aD)).1=some true)->
  ((r=none/\r'=none)\/∃j av vv,r=some (j,av)/\r'=some (j,vv)/\VR G w av vv/\j<es.length/\sameKey k x (es.getD j (aD,aD)).1=some true):=by
  intro r' h2
  rcases h2 with h2|⟨j,av,vv,a1,a2,a3,a4,a5,a6⟩
  . exact .inl h2
  exact .inr ⟨j,av,vv,a1,a2,a3,by omega,by simpa using a6⟩
 by_cases hp:Ma k=true
 . obtain⟨d,hd⟩:∃d,P.underlying kt=some d:=by
    unfold HV at hk
    split at hk<;>rename_i hu<;>first|(cases hk;done)|exact⟨_,hu⟩
   obtain⟨r',h1,h2⟩:=LK hk hp hd hx es ents.toList 0 r h (by simpa using hl) mX;refine⟨r',?_,fin h2⟩;simp only[Instr.findKey,Sem.run_bind,run_underlying hd w,Result.andThen_ok,h1];rfl
 cases k with
 |f sh=>
  obtain⟨_,_,d,hd,hn⟩:=Xn hk;obtain⟨r',h1,h2⟩:=LJ hk hx es ents.toList 0 r h (by simpa using hl) mX;refine⟨r',?_,fin h2⟩;simp only[Instr.findKey,Sem.run_bind,run_underlying hd w,Result.andThen_ok]
  cases WO:ents.toList with
  |nil=>rw[WO] at h1;simp only[Instr.findAsking,Sem.run_pure,Result.ok.injEq,Kb] at h1;subst h1;simp[Instr.findNow]
  |cons e l=>rw[WO] at h1;simp only[Instr.findNow,hn];exact h1
 |_=>exact absurd rfl hp
theorem run_getObj_map {w:World} {r:Nat} {ents:Array MapEntry} {clock:Nat} (h:w.heap[r]?=some (.map ents clock)):(getObj r).run P w=.ok (.map ents clock) w:=by simp[getObj,Sem.run,h]
theorem ki {t kt vt:TypeId} {k:Sk} {zv:Value} {z:AV} {ok:Bool} {x i:Operand} {x' i':Arg} (ho:o.op=.lookup t x i ok) (hx:bN g x=some x') (hi:bN g i=some i') (ht:P.underlying t=some (.map kt vt))
 (hk:HV P kt=some k) (hz:lL P vt=some zv) (hzc:ofConst zv=some z):cP P g o (.lookup k z ok x' i'):=by
 intro s a G H w v H' hw hs h;have vx:=bM hw hs hx;have vi:=bM hw hs hi;have hzero:=lA hz w;have hzr:=FK hzc G w
 have two:∀{p q:AV} {u1 u2:Value},VR G w p u1->VR G w q u2->VR G w (.iA [p,q]) (.tuple #[u1,u2]):=fun h1 h2=>.iA [_,_] [_,_] rfl (h1.cons (h2.cons (iO.nil G w))).2
 simp only[dA] at h;split at h
 . rename_i ph;have aRz:∀b,(Instr.checkKey b 10000 kt (a.eval i)).run P w=.ok () w:=fun b=>run_checkKey hk b 9940 vi ph;split at h
   . rename_i dC;rw[dC] at vx;generalize eG:a.eval x=u at vx;cases vx;simp only[Ae,Ak] at h;obtain⟨rfl,rfl⟩:=h
     have Xa:(Instr.findKey kt (a.eval i) []).run P w=.ok none w:=by
      obtain⟨r',h1,h2⟩:=run_findKey (P:=P) hk vi (es:=[]) (ents:= #[]) (r:=none) rfl rfl (fun j hj=>absurd hj (Ap j))
      rcases h2 with ⟨_,rfl⟩|⟨j,av,vv,hh,_⟩
      . exact h1
      cases hh
     refine cP.pure' hw (u:=if ok then .tuple #[zv,.bool false] else zv) ?_ (by cases ok<;>simp <;>first|exact hzr|exact two hzr (.bool false));simp only[execOp,ho,eG,Instr.lookup,Sem.run_bind,run_underlying ht w,Result.andThen_ok,Sem.run_pure,aRz,Xa,hzero]
   . rename_i id dC;rw[dC] at vx;generalize eG:a.eval x=u at vx
     cases vx with
     |map _ l hl=>
      split at h
      . rename_i es hg;obtain⟨_,_,ents,clock,m1,m2,mb,m3⟩:=hw.iV id l _ hl hg rfl;have hgo:=run_getObj_map (P:=P) m1;split at h
        . rename_i j av hf;simp only[Ae,Ak] at h;obtain⟨rfl,rfl⟩:=h;obtain⟨r',h1,h2⟩:=run_findKey (P:=P) hk vi hf m2 m3
          rcases h2 with ⟨hh,_⟩|⟨j',av',vv,e1,e2,e3,_⟩
          . cases hh
          cases e1;subst e2;refine cP.pure' hw (u:=if ok then .tuple #[vv,.bool true] else vv) ?_ (by cases ok<;>simp <;>first|exact e3|exact two e3 (.bool true));simp only[execOp,ho,eG,Instr.lookup,Sem.run_bind,run_underlying ht w,Result.andThen_ok,hgo,Sem.run_pure,aRz,h1]
        . rename_i hf;simp only[Ae,Ak] at h;obtain⟨rfl,rfl⟩:=h;obtain⟨r',h1,h2⟩:=run_findKey (P:=P) hk vi hf m2 m3
          rcases h2 with ⟨_,e2⟩|⟨j',av',vv,e1,_⟩
          . subst e2;refine cP.pure' hw (u:=if ok then .tuple #[zv,.bool false] else zv) ?_ (by cases ok<;>simp <;>first|exact hzr|exact two hzr (.bool false));simp only[execOp,ho,eG,Instr.lookup,Sem.run_bind,run_underlying ht w,Result.andThen_ok,hgo,Sem.run_pure,aRz,h1,hzero]
          cases e1
        cases h
      cases h
   cases h
 cases h
theorem WR.FU {G:Gh} {H:aA} {w w':World} (h:WR g G H w) {id:Nat} {l:Loc} {o o':fB} {x:Go.Obj} (hl:G.loc id=some l) (hg:H.get id=some o) (ho:o.dB=true) (jz:o'.dB=true)
 (lM:w'.heap=w.heap.setIfInBounds l.dB x) (DQ:zA w w') (SZ:(∀a u,VR G w a u->VR G w' a u)->w'.heap[l.dB]?=some x->JO g G w' l o'):
 WR g G (H.set id o') w'/\Ext G H w G (H.set id o') w':=by
 have lH:H.live id:=⟨_,hg,OH ho⟩;obtain⟨m1,m2,m3⟩:=h.iV id l _ hl hg ho;have fJ:=m3.lt ho
 have FF:∀b,b≠l.dB->w'.heap[b]?=w.heap[b]?:=fun b hb=>by rw[lM,Array.getElem?_setIfInBounds_ne];exact Ne.symm hb
 have wG:w'.heap[l.dB]?=some x:=by rw[lM];simp[fJ]
 have pJ:∀b o,G.iB b o->b≠l.dB:=fun b o hi hb=>by obtain⟨v,hv⟩:=h.jA b o hi;obtain⟨c,el,fz,hc,_⟩:=zO hv;rw[hb] at hc;exact m3.AR ho hc
 have hic:∀b o,G.iB b o->w'.cell? ⟨b,o,none⟩=w.cell? ⟨b,o,none⟩:=fun b o hi=>gI (FF b (pJ b o hi));have yM:∀{a u},VR G w a u->VR G w' a u:=fun hv=>hv.mono (fun _ _ h=>h) (fun b o hi=>⟨hi,hic b o hi⟩)
 have cQ:∀{i l'},i≠id->G.loc i=some l'->H.live i->l'.dB≠l.dB:=fun {i l'} hi yV tR hb=>by
  obtain⟨ob,SZ,hov⟩:=tR
  cases ob with
  |cells cs eN=>obtain⟨c,el,fz,hc,_⟩:=h.room i l' yV (.inl ⟨cs,eN,SZ⟩);rw[hb] at hc;exact m3.AR ho hc
  |tok=>obtain⟨c,el,fz,hc,_⟩:=h.room i l' yV (.inr SZ);rw[hb] at hc;exact m3.AR ho hc
  |dead=>cases hov
  |_=>
   obtain⟨n1,n2,_⟩:=h.iV i l' _ yV SZ rfl
   rcases h.kT i id l' l hi yV hl ⟨_,SZ,rfl⟩ lH with hd|hd|hd
   . exact hd hb
   . omega
   omega
 have cY:∀{m},m≠id->(H.set id o').get m=H.get m:=fun hm=>by rw[aA.aC,if_neg hm]
 have aSk:(H.set id o').get id=some o':=by rw[aA.aC,if_pos rfl]
 have pR:∀{m},(H.set id o').live m->H.live m:=fun {m} hv=>by
  rcases aA.kV.1 hv with ⟨rfl,_⟩|⟨_,hv⟩
  . exact lH
  exact hv
 refine⟨{
  cells:=fun i l' cs eN h1 h2=>by
   have hi:i≠id:=fun e=>by rw[e,aSk] at h2;cases h2;cases jz
   rw[cY hi] at h2;obtain⟨a1,a2,a3,a4,a5⟩:=h.cells i l' cs eN h1 h2;refine⟨a1,a2,a3,a4,fun j hj=>?_⟩;obtain⟨u,hu,Lw⟩:=a5 j hj;exact⟨u,by rw[gI (FF _ (cQ hi h1 ⟨_,h2,rfl⟩))];exact hu,yM Lw⟩
  room:=fun i l' h1 h2=>by
   have hi:i≠id:=fun e=>by rw[e,aSk] at h2;rcases h2 with ⟨_,_,h2⟩|h2<;>cases h2<;>cases jz
   rw[cY hi] at h2;obtain⟨c,el,fz,a1,a2,a3⟩:=h.room i l' h1 h2;have hb:=cQ hi h1 (by rcases h2 with ⟨cs,eN,h2⟩|h2<;>exact⟨_,h2,rfl⟩);exact⟨c,el,fz,by rw[FF _ hb];exact a1,a2,fun j hj=>by rw[kY (FF _ hb)];exact a3 j hj⟩
  kT:=fun i i' l1 l2 hn h1 h2 tR sY=>h.kT i i' l1 l2 hn h1 h2 (pR tR) (pR sY)
  kE:=fun i l' h1 tR=>h.kE i l' h1 (pR tR)
  iV:=fun i l' ob h1 h2 hk=>by
   by_cases hi:i=id
   . subst hi;obtain rfl:=Aa (h1.symm.trans hl);rw[aSk] at h2;cases h2;exact⟨m1,m2,SZ (fun _ _=>yM) wG⟩
   rw[cY hi] at h2;obtain⟨a1,a2,a3⟩:=h.iV i l' ob h1 h2 hk;exact⟨a1,a2,a3.mono (FF _ (cQ hi h1 ⟨_,h2,OH hk⟩)) fun _ _=>yM⟩
  lt:=h.lt
  jA:=fun b o hi=>by rw[hic b o hi];exact h.jA b o hi
  jG:=fun n cs hn=>yM (h.jG n cs hn)
  BV:=fun n cs hn h0=>let⟨c,el,fz,a1,a2⟩:=h.BV n cs hn h0;⟨c,el,fz,by rw[FF n (fun e=>m3.AR ho (e▸a1))];exact a1,a2⟩
  mo:=h.mo},?_⟩
 have e0:=Ext.refl G H w
 exact {
  loc:=fun _ _ h=>h
  iB:=fun b o hi=>⟨hi,hic b o hi⟩
  size:=by rw[lM];simp
  frame:=fun b hb hn=>FF b (fun e=>hn id l hl lH e.symm)
  lP:=fun i l' h1 tR=>.inr ⟨i,l',h1,pR tR,rfl⟩
  pK:=fun _ _ h=>.inl h
  next:=Ab _
  news:=fun _ _ h h'=>by rw[h] at h';cases h'
  dead:=fun _ _ _ hv=>pR hv
  mo:=rfl
  same:=DQ.toB _}
theorem WR.aBq {G:Gh} {H:aA} {w w':World} (h:WR g G H w) {id:Nat} {l:Loc} {es es':List (AV×AV)} {ents ents':Array MapEntry} {clock clock':Nat} (hl:G.loc id=some l) (hg:H.get id=some (.map es))
 (hm:w.heap[l.dB]?=some (.map ents clock)) (lM:w'.heap=w.heap.setIfInBounds l.dB (.map ents' clock')) (DQ:zA w w') (pA:ents'.size=es'.length) (hbn:Tp ents' clock')
 (hv:∀j,j<es'.length->VR G w (es'.getD j (aD,aD)).1 (ents'.getD j default).key/\VR G w (es'.getD j (aD,aD)).2 (ents'.getD j default).val):
 WR g G (H.set id (.map es')) w'/\Ext G H w G (H.set id (.map es')) w':=
 h.FU hl hg rfl rfl lM DQ fun yM wG=>⟨ents',clock',wG,pA,hbn,fun j hj=>⟨yM _ _ (hv j hj).1,yM _ _ (hv j hj).2⟩⟩
theorem wA (ents:Array MapEntry) (i:Nat) (f:MapEntry->MapEntry) (j:Nat) (hj:j<ents.size):(ents.modify i f).getD j default=if i=j then f (ents.getD j default) else ents.getD j default:=by
 simp only[Bo,Gx];split
 . simp[hj]
 rfl
theorem Tp.modify {ents:Array MapEntry} {clock:Nat} (h:Tp ents clock) (i:Nat) (f:MapEntry->MapEntry) (hf:∀e,(f e).born=e.born):Tp (ents.modify i f) clock:=by
 have hb:∀j,j<ents.size->((ents.modify i f).getD j default).born=(ents.getD j default).born:=fun j hj=>by
  rw[wA _ _ _ _ hj];split
  . rw[hf]
  rfl
 refine⟨fun j hj=>?_,fun j k hj hk he=>?_⟩
 . rw[Array.size_modify] at hj;rw[hb j hj];exact h.1 j hj
 rw[Array.size_modify] at hj hk;rw[hb j hj,hb k hk] at he;exact h.2 j k hj hk he
theorem Tp.push {ents:Array MapEntry} {clock:Nat} (h:Tp ents clock) (e:MapEntry) (he:e.born=clock):Tp (ents.push e) (clock+1):=by
 have hb:∀j,j<(ents.push e).size->((ents.push e).getD j default).born=if j<ents.size then(ents.getD j default).born else clock:=fun j hj=>by
  rw[Array.size_push] at hj;simp only[Bo,Kj];by_cases h1:j<ents.size
  . rw[if_neg (by omega),if_pos h1]
  rw[if_pos (by omega),if_neg h1];exact he
 refine⟨fun j hj=>?_,fun j k hj hk wo=>?_⟩
 . rw[hb j hj];by_cases h1:j<ents.size
   . rw[if_pos h1];have :=h.1 j h1;omega
   rw[if_neg h1];omega
 rw[hb j hj,hb k hk] at wo;rw[Array.size_push] at hj hk;by_cases h1:j<ents.size<;>by_cases h2:k<ents.size
 . rw[if_pos h1,if_pos h2] at wo;exact h.2 j k h1 h2 wo
 . rw[if_pos h1,if_neg h2] at wo;have :=h.1 j h1;omega
 . rw[if_neg h1,if_pos h2] at wo;have :=h.1 k h2;omega
 omega
theorem LG {G:Gh} {w:World} (d:Nat):∀(sh:List Sk) (xs ys:List AV) (us vs:List Value),cL sh xs ys=some true->iO G w xs us->iO G w ys vs->
 us.length=vs.length/\(vs.zip us).all (fun p=>Instr.sameBits d p.1 p.2)=true
 |[],xs,ys,us,vs,h,hx,hy=>by
  cases xs<;>cases ys<;>simp only[cL] at h<;>first|(cases h;done)|skip
  have h1:=hx.1;have h2:=hy.1;simp only[Bm,Hw] at h1 h2;subst h1 h2;simp
 |k::sh,xs,ys,us,vs,h,hx,hy=>by
  cases xs with
  |nil=>cases k<;>simp[cL] at h
  |cons x xs=>
   cases ys with
   |nil=>cases k<;>cases x<;>simp[cL] at h
   |cons y ys=>
    have h1:=hx.1;have h2:=hy.1
    cases us with
    |nil=>simp at h1
    |cons u us=>
     cases vs with
     |nil=>simp at h2
     |cons v vs=>
      have hxu:=hx.2 0 (by simp);have hyv:=hy.2 0 (by simp);simp only[Dy] at hxu hyv;have tx:iO G w xs us:=⟨by simpa using h1,fun j hj=>by have :=hx.2 (j+1) ZaC;simpa using this⟩;have ty:iO G w ys vs:=⟨by simpa using h2,fun j hj=>by have :=hy.2 (j+1) ZaC;simpa using this⟩
      have fin:∀{b:Bool},(cL sh xs ys).map (b&& ·)=some true->(b=true->Instr.sameBits d v u=true)->(u::us).length=(v::vs).length/\((v::vs).zip (u::us)).all (fun p=>Instr.sameBits d p.1 p.2)=true:=by intro b hm hb;simp only[Ah,Al] at hm;obtain⟨r,hr,HM,rfl⟩:=hm;obtain⟨g1,g2⟩:=LG d sh xs ys us vs hr tx ty;refine⟨by simp[g1],?_⟩;simp only[List.zip_cons_cons,Ik,hb HM,Co];exact g2
      cases k<;>cases x<;>cases y<;>simp only[cL] at h<;>first|(cases h;done)|skip
      . refine fin h fun hb=>?_;simp only[Cf] at hb;subst hb;rw[hxu.jY,hyv.jY];cases d<;>simp[Instr.sameBits]
      . split at h
        . rename_i wo;refine fin h fun hb=>?_;simp only[Cf] at hb;subst hb wo;rw[hxu.iZ,hyv.iZ];cases d<;>simp[Instr.sameBits]
        cases h
      refine fin h fun hb=>?_;simp only[Cf] at hb;subst hb;rw[hxu.lK,hyv.lK];cases d<;>simp only[Instr.sameBits]<;>rw[beq_toListBytes]<;>simp
theorem TR {G:Gh} {w:World} {k:Sk} {x y:AV} {u v:Value} (d:Nat) (h:sameKey k x y=some true) (hx:VR G w x u) (hy:VR G w y v):Instr.sameBits (d+1) v u=true:=by
 cases x<;>cases y<;>simp only[sameKey] at h<;>first
  |(cases h;done)
  |skip
 . cases k<;>simp only[] at h<;>first|(cases h;done)|skip
   simp at h;subst h;rw[hx.jY,hy.jY];simp[Instr.sameBits]
 . cases k<;>simp only[] at h<;>first|(cases h;done)|skip
   split at h
   . rename_i hc;simp at h;subst hc;subst h;rw[hx.iZ,hy.iZ];simp[Instr.sameBits]
   cases h
 . cases k<;>simp only[] at h<;>first|(cases h;done)|skip
   simp at h;subst h;rw[hx.lK,hy.lK];simp only[Instr.sameBits];rw[beq_toListBytes];simp
 cases k<;>simp only[] at h<;>first|(cases h;done)|skip
 rename_i xs ys sh;obtain⟨us,e1,l1,_,v1⟩:=hx.uI;obtain⟨vs,e2,l2,_,v2⟩:=hy.uI;obtain⟨g1,g2⟩:=LG d sh xs ys us vs h ⟨l1,v1⟩ ⟨l2,v2⟩;rw[e1,e2];simp only[Instr.sameBits,Gz,g1,beq_self_eq_true,Co];exact g2
theorem VQ {t kt vt:TypeId} {k:Sk} {x i y:Operand} {x' i' y':Arg} (ho:o.op=.mapUpdate t x i y\/o.op=.insert t x i y) (hx:bN g x=some x') (hi:bN g i=some i') (hy:bN g y=some y')
 (ht:P.underlying t=some (.map kt vt)) (hk:HV P kt=some k):cP P g o (.OO k x' i' y'):=by
 intro s a G H w v H' hw hs h;have vx:=bM hw hs hx;have vi:=bM hw hs hi;have vy:=bM hw hs hy;have bEx:HT k (Arg.eval g s i')=true->(Instr.checkKey false 10000 kt (a.eval i)).run P w=.ok () w:=fun ph=>run_checkKey hk false 9940 vi ph;simp only[dA] at h;split at h
 . rename_i ph;have hck:=bEx ph;split at h
   . rename_i id dC;rw[dC] at vx;generalize eG:a.eval x=u at vx
     cases vx with
     |map _ l hl=>
      split at h
      . rename_i es hg;obtain⟨_,_,ents,clock,m1,m2,mb,m3⟩:=hw.iV id l _ hl hg rfl;have hgo:=run_getObj_map (P:=P) m1
        have jH:∀{w':World},(Instr.mapUpdate t (.map (some l.dB)) (a.eval i) (a.eval y)).run P w=.ok () w'->(execOp a.eval o).run P w=.ok .skip w':=fun hr=>by rcases ho with ho|ho<;>simp[execOp,ho,eG,hr]
        have Lv:∀(en:Array MapEntry) (cl:Nat),(setObj l.dB (.map en cl)).run P w=.ok () {w with heap:=w.heap.setIfInBounds l.dB (.map en cl)}:=fun en cl=>by simp[setObj,Sem.run,m1]
        split at h
        . rename_i j av hf;simp only[Ae,Ak] at h;obtain⟨rfl,rfl⟩:=h;obtain⟨r',h1,h2⟩:=run_findKey (P:=P) hk vi hf m2 m3
          rcases h2 with ⟨hh,_⟩|⟨j',av',vv,e1,e2,e3,e4,e5⟩
          . cases hh
          cases e1;subst e2;have hsb:=TR 9999 e5 vi (m3 j e4).1
          obtain⟨r1,r2⟩:=hw.aBq (es':=es.set j (Arg.eval g s i',Arg.eval g s y')) (ents':=ents.modify j fun e=>{e with key:=a.eval i,val:=a.eval y}) (clock':=clock) (w':={w with heap:=w.heap.setIfInBounds l.dB (.map (ents.modify j fun e=>{e with key:=a.eval i,val:=a.eval y}) clock)}) hl hg m1 rfl .now (by simp[m2]) (mb.modify _ _ fun _=>rfl) (fun q hq=>by
           simp only[Bx] at hq;rw[wA _ _ _ _ (by omega),getD_eq,Ha];by_cases hjq:j=q
           . rw[if_pos hjq,if_pos hjq];subst hjq;rw[if_pos e4];exact⟨vi,vy⟩
           rw[if_neg hjq,if_neg hjq]
           exact m3 q hq)
          refine⟨.skip,undef,_,G,jH ?_,.inr ⟨rfl,rfl⟩,r1,r2,VR.oK G _⟩
          have wu:((ents[j]?).map (·.key)).getD (a.eval i)=(ents.getD j default).key:=by have hjs:j<ents.size:=(by omega);simp[Array.getD,hjs]
          simp only[Instr.mapUpdate,Sem.run_bind,run_underlying ht w,Result.andThen_ok,hgo,hck,h1,Instr.keyThatStays,wu,hsb,if_true,Sem.run_pure,Lv]
        . rename_i hf;simp only[Ae,Ak] at h;obtain⟨rfl,rfl⟩:=h;obtain⟨r',h1,h2⟩:=run_findKey (P:=P) hk vi hf m2 m3
          rcases h2 with ⟨_,e2⟩|⟨j',av',vv,e1,_⟩
          . subst e2
            obtain⟨r1,r2⟩:=hw.aBq (es':=es++[(Arg.eval g s i',Arg.eval g s y')]) (ents':=ents.push {key:=a.eval i,val:=a.eval y,born:=clock}) (clock':=clock+1) (w':={w with heap:=w.heap.setIfInBounds l.dB (.map (ents.push {key:=a.eval i,val:=a.eval y,born:=clock}) (clock+1))}) hl hg m1 rfl .now (by simp[m2]) (mb.push _ rfl) (fun q hq=>by
             simp only[Ba,As,Bm] at hq;rw[getD_eq,Du,Bo,Kj];by_cases hjq:q<es.length
             . rw[if_pos hjq,if_neg (by omega)];have :=m3 q hjq
               rwa [Bo] at this
             rw[if_neg hjq,if_pos (by omega)];have Xi:q -es.length=0:=(by omega);rw[Xi]
             exact⟨vi,vy⟩)
            refine⟨.skip,undef,_,G,jH ?_,.inr ⟨rfl,rfl⟩,r1,r2,VR.oK G _⟩;simp only[Instr.mapUpdate,Sem.run_bind,run_underlying ht w,Result.andThen_ok,hgo,hck,h1,Lv]
          cases e1
        cases h
      cases h
   cases h
 cases h
end
end
end Go.Av
