/-
  Part of the proof of statement 11
-/
import Derived.Test.YtgggiembljfnhaaGreatDoorA01
import Derived.Laws.StructEq
import Derived.ChangeKeysEq
import Derived.Laws.BytesArg
set_option linter.unusedVariables false
set_option linter.unusedSimpArgs false
namespace Go.Av
open Go
section
def CP (P:Program) (sh:TypeId->Option (List Sk)):Nat->List Field->Option (List Sk)
 |_,[]=>some []
 |off,f::fs=>
  if f.name≠ "_" /\f.offset=off then
   match sh f.type with
   |some k=>if kB P f.type=some k.length then(CP P sh (off+k.length) fs).map (k++ ·) else none
   |none=>none
  else none
def oD (P:Program):Nat->TypeId->Option (List Sk)
 |0,_=>none
 |d+1,t=>
  match P.underlying t with
  |some .bool=>some [.b]
  |some (.int _)=>some [.i]
  |some .string=>some [.s]
  |some (.struct fs)=>if P.stoodInHeld t then none else CP P (oD P d) 0 fs.toList
  |some (.array n e)=>
   match oD P d e with
   |some k=>if kB P e=some k.length then some (List.replicate n k).flatten else none
   |none=>none
  |_=>none
theorem vG:∀(k1 k2:List Sk) (xs ys:List AV) (r:Bool),cK (k1++k2) xs ys=some r->
 ∃r1 r2,cK k1 (xs.take k1.length) (ys.take k1.length)=some r1/\cK k2 (xs.drop k1.length) (ys.drop k1.length)=some r2/\r=(r1&&r2)
 |[],k2,xs,ys,r,h=>⟨true,r,rfl,by simpa using h,by simp⟩
 |k::k1,k2,xs,ys,r,h=>by
  have step:∀{x y:AV} {xs' ys':List AV} {c:Bool},xs=x::xs'->ys=y::ys'->(cK (k1++k2) xs' ys').map (c&& ·)=some r->
   (∀l m,cK (k::k1) (x::l) (y::m)=(cK k1 l m).map (c&& ·))->
   ∃r1 r2,cK (k::k1) (xs.take (k::k1).length) (ys.take (k::k1).length)=some r1/\cK k2 (xs.drop (k::k1).length) (ys.drop (k::k1).length)=some r2/\r=(r1&&r2):=by
   intro x y xs' ys' c hx hy hm hc;simp only[Ah] at hm;obtain⟨r',hr',rfl⟩:=hm;obtain⟨r1,r2,h1,h2,h3⟩:=vG k1 k2 xs' ys' r' hr';subst hx hy;refine⟨c&&r1,r2,?_,by simpa using h2,by rw[h3,Bool.and_assoc]⟩;simp only[Aq,Dp];rw[hc,h1];rfl
  cases k<;>cases xs with
  |nil=>simp[cK] at h
  |cons x xs'=>
   cases ys with
   |nil=>cases x<;>simp[cK] at h
   |cons y ys'=>
    cases x<;>cases y<;>simp only[Ep,cK] at h<;>first
     |(cases h;done)
     |exact step rfl rfl h (fun l m=>rfl)
     |(split at h
       . rename_i vn;subst vn;exact step rfl rfl h (fun l m=>by simp[cK])
       cases h)
def valOf (agg:Bool) (us:List Value):Value:=if agg then .agg us.toArray else us.getD 0 undef
theorem mH {P:Program} {t:TypeId} {n:Nat} {b:Bool} (hn:kB P t=some n) (hb:fO P t=some b) (w:World) {us:List Value} {off:Nat} (gR:off+n<=us.length) (KN:b=false->n=1):
 (part t us.toArray off).run P w=.ok (valOf b ((us.drop off).take n)) w:=by
 cases b with
 |true=>simp only[part,Sem.run_bind,qG hb w,Result.andThen_ok,if_true,eI hn w,Sem.run_pure,valOf];congr 2;apply Fj;simp[Hj]
 |false=>have :=KN rfl;simp only[part,Sem.run_bind,qG hb w,Result.andThen_ok,Bb,Bq,Dy,qB us undef off (by omega),valOf];rw[eX _ _ _ _ _ (by omega)];rfl
theorem iK.take_drop {G:Gh} {w:World} {xs:List AV} {us:List Value} (h:iK G w xs us) (off n:Nat) (gR:off+n<=xs.length):iK G w ((xs.drop off).take n) ((us.drop off).take n):=by have hl:=h.1;refine⟨by simp;omega,fun j hj=>?_⟩;simp at hj;rw[eX _ _ _ _ _ (by omega),eX _ _ _ _ _ (by omega)];exact h.2 _ (by omega)
theorem DL:∀{ks:List Sk} {xs ys:List AV} {r:Bool},cK ks xs ys=some r->xs.length=ks.length/\ys.length=ks.length
 |[],[],[],_,_=>⟨rfl,rfl⟩
 |[],_::_,ys,r,h=>by cases ys<;>simp[cK] at h
 |[],[],_::_,r,h=>by simp[cK] at h
 |k::ks,[],ys,r,h=>by cases k<;>simp[cK] at h
 |k::ks,x::xs,[],r,h=>by cases k<;>cases x<;>simp[cK] at h
 |k::ks,x::xs,y::ys,r,h=>by
  have :∃r',cK ks xs ys=some r':=by
   cases k<;>cases x<;>cases y<;>simp only[cK] at h<;>first
    |(cases h;done)
    |(simp only[Ah] at h;obtain⟨r',h,_⟩:=h;exact⟨r',h⟩)
    |(split at h
      . simp only[Ah] at h;obtain⟨r',h,_⟩:=h;exact⟨r',h⟩
      cases h)
  obtain⟨r',h'⟩:=this;have :=DL h';simp[this.1,this.2]
theorem yG {P:Program} {d:Nat} {t:TypeId} {ks:List Sk} (h:oD P d t=some ks):∃b,fO P t=some b/\(b=false->ks.length=1):=by
 cases d with
 |zero=>cases h
 |succ d=>
  simp only[oD] at h;unfold fO
  split at h<;>rename_i hu<;>first
   |(cases h;done)
   |(obtain rfl:=Aa h;exact⟨false,by rw[hu],fun _=>rfl⟩)
   |exact⟨true,by rw[hu],fun hf=>by cases hf⟩
theorem PV {P:Program} {e:TypeId} {n:Nat} (h:kB P e=some n):P.cellsOf e=n/\∃i,P.info? e=some i:=by simp only[kB,Ah] at h;obtain⟨i,hi,rfl⟩:=h;exact⟨by simp[Program.cellsOf,hi],i,hi⟩
theorem UT {P:Program}:∀(f:Nat) (t:TypeId) (ks:List Sk),oD P f t=some ks->∀(b:Bool),fO P t=some b->∀(d:Nat) (G:Gh) (w:World) (xs ys:List AV) (us vs:List Value) (r:Bool),
 cK ks xs ys=some r->iK G w xs us->iK G w ys vs->(Op.equalIn (d+f) t (valOf b us) (valOf b vs)).run P w=.ok r w:=by
 intro f
 induction f with
 |zero=>intro t ks h;cases h
 |succ f ih=>
  intro t ks h b hb d G w xs ys us vs r hr hx hy;have hlen:=DL hr
  have scalar:∀{k:Sk},ks=[k]->∃x y,xs=[x]/\ys=[y]/\VR G w x (us.getD 0 undef)/\VR G w y (vs.getD 0 undef):=fun {k} hk=>by
   subst hk
   match xs,ys,hlen with
   |[x],[y],_=>exact⟨x,y,rfl,rfl,by simpa using hx.2 0 (by simp),by simpa using hy.2 0 (by simp)⟩
  rw[show d+(f+1)=(d+f)+1 from rfl];simp only[oD] at h;split at h
  . rename_i hu;obtain rfl:=Aa h;have SM:b=false:=by simp only[fO,hu,Ae] at hb;exact hb.symm
    subst SM;obtain⟨x,y,rfl,rfl,h1,h2⟩:=scalar rfl;simp only[valOf,Bb,Bq]
    cases x<;>cases y<;>simp only[cK] at hr<;>first|(cases hr;done)|skip
    rename_i p q;rw[h1.jT,h2.jT,HE _ hu w];simp at hr;rw[<-hr]
  . rename_i k hu;obtain rfl:=Aa h;have SM:b=false:=by simp only[fO,hu,Ae] at hb;exact hb.symm
    subst SM;obtain⟨x,y,rfl,rfl,h1,h2⟩:=scalar rfl;simp only[valOf,Bb,Bq]
    cases x<;>cases y<;>simp only[cK] at hr<;>first|(cases hr;done)|skip
    rename_i j p j' q;split at hr
    . rename_i hj;subst hj;rw[h1.iW,h2.iW,run_equalIn_int w _ t j k p q hu];simp at hr;rw[<-hr]
    cases hr
  . rename_i hu;obtain rfl:=Aa h;have SM:b=false:=by simp only[fO,hu,Ae] at hb;exact hb.symm
    subst SM;obtain⟨x,y,rfl,rfl,h1,h2⟩:=scalar rfl;simp only[valOf,Bb,Bq]
    cases x<;>cases y<;>simp only[cK] at hr<;>first|(cases hr;done)|skip
    rename_i p q;rw[h1.lG,h2.lG,run_equalIn_string w _ t _ _ hu,ByteArray.toList_mk,ByteArray.toList_mk];simp at hr;rw[<-hr]
  . rename_i fs hu;split at h
    . cases h
    rename_i fQ;have ot:b=true:=(by simp only[fO,hu,Ae] at hb;exact hb.symm);subst ot;simp only[valOf,if_true];have hfo:P.fieldsOf t=fs:=(by simp[Program.fieldsOf,hu]);rw[run_equalIn_struct w _ t _ _ (by rw[hfo];exact hu) (by simpa using fQ),hfo];have hux:=hx.1;have huy:=hy.1
    have key:∀(l:List Field) (off:Nat) (j9:List Sk),CP P (oD P f) off l=some j9->off+j9.length<=xs.length->off+j9.length<=ys.length->∀r,cK j9 ((xs.drop off).take j9.length) ((ys.drop off).take j9.length)=some r->
     (Op.eqFields (d+f) us.toArray vs.toArray l).run P w=.ok r w:=by
     intro l
     induction l with
     |nil=>intro off j9 hs _ _ r hr;obtain rfl:=Aa hs;simp[cK] at hr;subst hr;simp[Op.eqFields]
     |cons fd l ihl=>
      intro off j9 hs xG FB r hr;simp only[CP] at hs;split at hs
      . rename_i hc;obtain⟨SO,AM⟩:=hc;split at hs
        . rename_i k hk;split at hs
          . rename_i kZ;simp only[Ah] at hs;obtain⟨ks2,hs2,rfl⟩:=hs;simp only[Ba] at xG FB hr;obtain⟨r1,r2,e1,e2,rfl⟩:=vG _ _ _ _ _ hr;obtain⟨bf,SM,SN⟩:=yG hk
            have t1:∀(z:List AV),off+(k.length+ks2.length)<=z.length->List.take k.length (List.take (k.length+ks2.length) (z.drop off))=(z.drop off).take k.length:=fun z hz=>by rw[List.take_take];congr 1;omega
            have t2:∀(z:List AV),off+(k.length+ks2.length)<=z.length->List.drop k.length (List.take (k.length+ks2.length) (z.drop off))=(z.drop (off+k.length)).take ks2.length:=fun z hz=>by rw[List.drop_take,Jb];congr 1;omega
            rw[t1 _ xG,t1 _ FB] at e1;rw[t2 _ xG,t2 _ FB] at e2;have p1:=mH kZ SM w (us:=us) (off:=fd.offset) (by omega) SN;have p2:=mH kZ SM w (us:=vs) (off:=fd.offset) (by omega) SN;have p3:=ih fd.type k hk bf SM d G w _ _ _ _ r1 e1 (hx.take_drop off k.length (by omega)) (hy.take_drop off k.length (by omega));rw[<-AM] at p3;simp only[Op.eqFields,if_pos SO,Sem.run_bind,p1,p2,p3,Result.andThen_ok]
            cases r1 with
            |false=>simp
            |true=>simp only[Gv,Bb,Bq,Co];exact ihl (off+k.length) ks2 hs2 (by omega) (by omega) r2 e2
          cases hs
        cases hs
      cases hs
    have :=key fs.toList 0 ks h (by omega) (by omega) r (by
     simp only[El];rw[As (by omega),As (by omega)]
     exact hr)
    exact this
  . rename_i n e hu;have ot:b=true:=by simp only[fO,hu,Ae] at hb;exact hb.symm
    subst ot;simp only[valOf,if_true];split at h
    . rename_i k hk;split at h
      . rename_i kZ;obtain rfl:=Aa h;obtain⟨kE,i,hi⟩:=PV kZ;rw[run_equalIn_array w (d+f) _ _ hu hi,kE];obtain⟨bf,SM,SN⟩:=yG hk;have hux:=hx.1;have huy:=hy.1;have hlk:∀m,((List.replicate m k).flatten).length=m*k.length:=fun m=>by simp
        have key:∀(m j:Nat),(j+m)*k.length<=xs.length->(j+m)*k.length<=ys.length->∀r,cK (List.replicate m k).flatten ((xs.drop (j*k.length)).take (m*k.length)) ((ys.drop (j*k.length)).take (m*k.length))=some r->
         (Op.eqItems (d+f) e k.length us.toArray vs.toArray (List.range' j m)).run P w=.ok r w:=by
         intro m
         induction m with
         |zero=>intro j _ _ r hr;simp[cK] at hr;subst hr;simp[Op.eqItems]
         |succ m ihm=>
          intro j xG FB r hr;have hm1:(m+1)*k.length=k.length+m*k.length:=(by rw[Ea];omega);have KM:(j+(m+1))*k.length=j*k.length+(k.length+m*k.length):=(by rw[Cr,hm1]);have MM:(j+1)*k.length=j*k.length+k.length:=(by rw[Ea]);rw[KM] at xG FB;rw[hm1] at hr;rw[Fk,Bp] at hr;obtain⟨r1,r2,e1,e2,rfl⟩:=vG _ _ _ _ _ hr
          have t1:∀(z:List AV),List.take k.length (List.take (k.length+m*k.length) (z.drop (j*k.length)))=(z.drop (j*k.length)).take k.length:=fun z=>by rw[List.take_take];congr 1;omega
          have t2:∀(z:List AV),List.drop k.length (List.take (k.length+m*k.length) (z.drop (j*k.length)))=(z.drop ((j+1)*k.length)).take (m*k.length):=fun z=>by rw[List.drop_take,Jb,MM];congr 1;omega
          rw[t1,t1] at e1;rw[t2,t2] at e2;have p1:=mH kZ SM w (us:=us) (off:=j*k.length) (by omega) SN;have p2:=mH kZ SM w (us:=vs) (off:=j*k.length) (by omega) SN;have p3:=ih e k hk bf SM d G w _ _ _ _ r1 e1 (hx.take_drop (j*k.length) k.length (by omega)) (hy.take_drop (j*k.length) k.length (by omega));simp only[List.range'_succ,Op.eqItems,Sem.run_bind,p1,p2,p3,Result.andThen_ok]
          cases r1 with
          |false=>simp
          |true=>simp only[Gv,Bb,Bq,Co];have hj3:(j+1+m)*k.length=j*k.length+(k.length+m*k.length):=(by rw[Cr,MM];omega);exact ihm (j+1) (by rw[hj3];exact xG) (by rw[hj3];exact FB) r2 e2
        have :=key n 0 (by rw[Cs];rw[hlk] at hlen;omega) (by rw[Cs];rw[hlk] at hlen;omega) r (by
         rw[hlk] at hlen;simp only[Iw,El];rw[As (by omega),As (by omega)]
         exact hr)
        rw[List.range_eq_range'];exact this
      cases h
    cases h
  cases h
section
variable {P:Program} {g:bG} {o:Oper}
theorem aTb {op:BinOp} {neg:Bool} {t t2:TypeId} {f:Nat} {ks:List Sk} {x y:Operand} {x' y':Arg} (ho:o.op=.binOp op t x y t2) (fL:op=if neg then .neq else .eql) (hf:f<=9999)
 (hk:oD P f t=some ks) (hb:fO P t=some true) (hg:P.eqGuardType P.depth t=false) (hx:bN g x=some x') (hy:bN g y=some y'):cN P g o (.eqf neg ks x' y'):=by
 intro s a G H w v H' hw hs h;have vx:=bM hw hs hx;have vy:=bM hw hs hy;simp only[dA] at h;split at h
 . rename_i xs ys h1 h2;rw[h1] at vx;rw[h2] at vy;obtain⟨us,e1,l1,_,v1⟩:=vx.uL;obtain⟨vs,e2,l2,_,v2⟩:=vy.uL;simp only[Ah,Ai] at h;obtain⟨r,hr,rfl,rfl⟩:=h;refine cN.pure' hw (u:=.bool (if neg then !r else r)) ?_ (.bool _);have sH:=run_eqGuard_agg (P:=P) w op t x y us.toArray vs.toArray hg;have heq:=UT f t ks hk true hb (10000 -f) G w xs ys us vs r hr ⟨l1,v1⟩ ⟨l2,v2⟩;rw[show 10000 -f+f=10000 by omega] at heq;simp only[valOf,if_true] at heq;have bEl:(Op.equal t (.agg us.toArray) (.agg vs.toArray)).run P w=.ok r w:=heq;subst fL;cases neg<;>simp only[Bb,Bq,if_true] at ho sH<;>simp[execOp,ho,e1,e2,sH,Go.binOp,bEl]
 cases h
def nkP (P:Program) (t:TypeId):Option Nk:=
 match P.underlying t with
 |some (.pointer _)=>some .ptr
 |some (.interface _)=>some .ifc
 |some (.slice _)=>some .sli
 |some (.map _ _)=>some .mp
 |some (.func _ _ _)=>some .fn
 |_=>none
def AR:Value->Bool
 |.pointer none|.nilIface|.slice none _ _|.map none|.nilFunc=>true
 |_=>false
theorem VA {G:Gh} {w:World} {k:Nk} {a:AV} {u:Value} {b:Bool} (h:rS k a=some b) (hv:VR G w a u):AR u=b:=by
 cases hv<;>simp only[rS] at h<;>first
  |(cases h;done)
  |(split at h
    . obtain rfl:=Aa h;rfl
    cases h)
def XM:Nk->Value->Prop
 |.ptr,.pointer _=>True
 |.ifc,.nilIface|.ifc,.iface _ _=>True
 |.sli,.slice _ _ _=>True
 |.mp,.map _=>True
 |.fn,.nilFunc|.fn,.func _ _ _=>True
 |_,_=>False
theorem LQ {G:Gh} {w:World} {k:Nk} {a:AV} {u:Value} {b:Bool} (h:rS k a=some b) (hv:VR G w a u):XM k u:=by
 cases hv<;>simp only[rS] at h<;>first
  |(cases h;done)
  |(split at h
    . rename_i hk;subst hk;trivial
    cases h)
theorem MA (d:Nat) {t:TypeId} {k:Nk} (hk:nkP P t=some k) (w:World) {u v:Value} (hu:XM k u) (hv:XM k v) (h:(AR u||AR v)=true):
 (Op.equalIn (d+1) t u v).run P w=.ok (AR u&&AR v) w:=by
 unfold nkP at hk;rw[Op.equalIn]
 split at hk<;>rename_i GG<;>first
  |(cases hk;done)
  |(obtain rfl:=Aa hk
    simp only[Sem.run_bind,run_underlying GG w,Result.andThen_ok]
    cases u<;>first|exact hu.elim|skip
    all_goals (cases v<;>first|exact hv.elim|skip)
    all_goals first
     |rfl
     |(rename_i p q;cases p<;>cases q<;>first|rfl|(simp[AR] at h;done))
     |(rename_i p _ _ q _ _;cases p<;>cases q<;>first|rfl|(simp[AR] at h;done))
     |(simp[AR] at h;done))
theorem aTc {op:BinOp} {neg:Bool} {t t2:TypeId} {k:Nk} {lit:Bool} {x y:Operand} {x' y':Arg} (ho:o.op=.binOp op t x y t2) (fL:op=if neg then .neq else .eql)
 (hk:nkP P t=some k) (wg:lit=true->(∃c,x=.const c)\/∃c,y=.const c) (hx:bN g x=some x') (hy:bN g y=some y'):cN P g o (.tt neg k lit x' y'):=by
 intro s a G H w v H' hw hs h;have vx:=bM hw hs hx;have vy:=bM hw hs hy;simp only[dA] at h;split at h
 . rename_i p q h1 h2;have f1:=LQ h1 vx;have f2:=LQ h2 vy;have n1:=VA h1 vx;have n2:=VA h2 vy;split at h
   . rename_i hc;simp only[Ae,Ai] at h;obtain⟨rfl,rfl⟩:=h;simp only[Al] at hc;obtain⟨SO,AM⟩:=hc;refine cN.pure' hw (u:=.bool (if neg then !(p&&q) else(p&&q))) ?_ (.bool _);generalize e1:a.eval x=u1 at *;generalize e2:a.eval y=u2 at *
     have heq:(Op.equal t u1 u2).run P w=.ok (p&&q) w:=by have :=MA (P:=P) 9999 hk w f1 f2 (by rw[n1,n2];exact SO);rw[n1,n2] at this;exact this
     have sH:(eqGuard op t x y u1 u2).run P w=.ok () w:=by
      unfold eqGuard;by_cases aIp:u1=.nilIface/\u2=.nilIface
      . obtain⟨rfl,rfl⟩:=aIp
        have vq:k=.ifc:=(by cases k<;>first|rfl|exact f1.elim);have hp:p=true:=n1.symm;have hq:q=true:=n2.symm;subst vq hp hq;simp at AM
        rcases wg AM with ⟨c,rfl⟩|⟨c,rfl⟩
        . cases op<;>simp
        cases op<;>simp
      cases u1<;>first
       |(cases k<;>exact f1.elim)
       |(cases op<;>rfl)
       |(cases u2<;>first|exact absurd ⟨rfl,rfl⟩ aIp|(cases op<;>rfl))
     have bEb:(Go.binOp op t u1 u2).run P w=.ok (.bool (if neg then !(p&&q) else(p&&q))) w:=by
      subst fL
      cases neg with
      |false=>
       simp only[Bb,Bq]
       cases u1<;>first
        |(cases k<;>exact f1.elim)
        |(cases u2<;>first
           |(cases k<;>first|exact f1.elim|exact f2.elim)
           |simp[Go.binOp,heq])
      |true=>
       simp only[if_true]
       cases u1<;>first
        |(cases k<;>exact f1.elim)
        |(cases u2<;>first
           |(cases k<;>first|exact f1.elim|exact f2.elim)
           |simp[Go.binOp,heq])
     simp only[execOp,ho,e1,e2,Sem.run_bind,sH,bEb,Result.andThen_ok];rfl
   cases h
 cases h
end
end
section
theorem AK (off:Nat):∀(l:List Value) (k:Nat) (cells:Array Value),
 ((l.zipIdx k).foldl (fun(cs:Array Value) (p:Value×Nat)=>cs.setIfInBounds (off+p.2) p.1) cells).size=cells.size/\
 ∀i,((l.zipIdx k).foldl (fun(cs:Array Value) (p:Value×Nat)=>cs.setIfInBounds (off+p.2) p.1) cells)[i]?=
  if off+k<=i/\i<off+k+l.length/\i<cells.size then l[i -(off+k)]? else cells[i]?
 |[],k,cells=>⟨rfl,fun i=>by
    rw[if_neg]
    . rfl
    simp only[Bm];omega⟩
 |v::r,k,cells=>by
  have ih:=AK off r (k+1) (cells.setIfInBounds (off+k) v);simp only[List.zipIdx_cons,Hl];refine⟨by rw[ih.1];simp,fun i=>?_⟩;rw[ih.2 i];simp only[Aq,Array.size_setIfInBounds];by_cases h1:off+(k+1)<=i/\i<off+(k+1)+r.length/\i<cells.size
  . rw[if_pos h1,if_pos (by omega)];rw[show i -(off+k)=(i -(off+(k+1)))+1 by omega];simp
  rw[if_neg h1,Fh];by_cases h2:off+k=i
  . subst h2;by_cases h3:off+k<cells.size
    . simp[h3]
    rw[if_pos rfl,if_neg h3,if_neg (by omega),Jq (by omega)]
  have kZ:(cells.setIfInBounds (off+k) v).size=cells.size:=by simp
  rw[if_neg h2,if_neg (by omega)]
theorem iG (a:Array Value) (j:Nat) (d:Value):a.toList.getD j d=(a[j]?).getD d:=by rw[getD_eq,Array.getElem?_toList]
theorem Qk (off:Nat) (arr cells:Array Value):
 (arr.zipIdx.foldl (fun(cs:Array Value) (p:Value×Nat)=>cs.setIfInBounds (off+p.2) p.1) cells).size=cells.size/\
 ∀i,(arr.zipIdx.foldl (fun(cs:Array Value) (p:Value×Nat)=>cs.setIfInBounds (off+p.2) p.1) cells)[i]?=
  if off<=i/\i<off+arr.size/\i<cells.size then arr[i -off]? else cells[i]?:=by
 have h:=AK off arr.toList 0 cells;rw[<-Array.foldl_toList];simp only[Array.toList_zipIdx];simpa using h
theorem ue {G:Gh} {w:World} {cs vs:List AV} {cells arr:Array Value} {off:Nat} (h:iK G w cs cells.toList) (hv:iK G w vs arr.toList) (gR:off+vs.length<=cs.length):
 iK G w (fW cs off vs) (arr.zipIdx.foldl (fun(cs:Array Value) (p:Value×Nat)=>cs.setIfInBounds (off+p.2) p.1) cells).toList:=by
 obtain⟨h1,h2⟩:=Qk off arr cells;have l1:=h.1;have l2:=hv.1;simp only[Cu] at l1 l2;refine⟨by rw[qO _ _ _ gR,Cu,h1,l1],fun j hj=>?_⟩;rw[qO _ _ _ gR] at hj;rw[LK _ _ _ _ gR,iG,h2 j];by_cases hc:off<=j/\j<off+vs.length
 . rw[if_pos hc,if_pos (by omega)];have :=hv.2 (j -off) (by omega)
   rwa [iG] at this
 rw[if_neg hc,if_neg (by omega)];have :=h.2 j hj
 rwa [iG] at this
def vN (g:bG) (place:Nat->Option (Nat×Nat)):List (Nat×Operand)->Option (List (Nat×Nat×Arg))
 |[]=>some []
 |(i,x)::r=>match place i,bN g x,vN g place r with
  |some (off,n),some y,some ys=>some ((off,n,y)::ys)
  |_,_,_=>none
theorem NZ {g:bG} {G:Gh} {H:aA} {w:World} {s:List AV} {a:Act} (hw:WR g G H w) (hs:SR G w s a) {place place':Nat->Option (Nat×Nat)} (hp:∀i p,place i=some p->place' i=some p):
 ∀(parts:List (Nat×Operand)) (ps:List (Nat×Nat×Arg)) (cs Lo:List AV) (cells:Array Value),vN g place parts=some ps->HF (Arg.eval g s) cs ps=some Lo->iK G w cs cells.toList->(∀c∈cs,c.one=true)->
  ∃iQ,Instr.fill place' cells (parts.map fun(i,x)=>(i,a.eval x))=some iQ/\iK G w Lo iQ.toList/\∀c∈Lo,c.one=true
 |[],ps,cs,Lo,cells,h1,h2,hc,h3=>by obtain rfl:=Aa h1;obtain rfl:=Aa h2;exact⟨cells,rfl,hc,h3⟩
 |(i,x)::r,ps,cs,Lo,cells,h1,h2,hc,h3=>by
  unfold vN at h1;split at h1
  . rename_i off n y ys mN hy MR;obtain rfl:=Aa h1;simp only[HF] at h2;split at h2
    . rename_i eU;obtain⟨c1,c2,c3⟩:=eU;have vx:=(bM hw hs hy).cellsOf c3;have hlen:=hc.1;have hlx:=vx.1.1;simp only[Cu] at hlen hlx;have gP:=ue hc vx.1 (by omega:off+_<=cs.length);obtain⟨iQ,hf,hr⟩:=NZ hw hs hp r ys _ Lo _ MR h2 gP (fun c hc'=>(ON hc').elim (h3 c) (vx.2 c));refine⟨iQ,?_,hr⟩;simp only[Cd,Instr.fill,hp _ _ mN]
      have aRl:(decide ((a.eval x).cells.size≠n)||decide (off+(a.eval x).cells.size>cells.size))=false:=by simp;omega
      rw[aRl];exact hf
    cases h2
  cases h1
def IT (P:Program):List Field->Option (List (Nat×Nat))
 |[]=>some []
 |f::r=>match kB P f.type,IT P r with
  |some n,some l=>some ((f.offset,n)::l)
  |_,_=>none
theorem run_places {P:Program} (w:World):∀{fs:List Field} {l:List (Nat×Nat)},IT P fs=some l->
 (fs.mapM (fun f=>do pure (f.offset,<-sizeOf f.type):Field->Sem (Nat×Nat))).run P w=.ok l w
 |[],l,h=>by obtain rfl:=Aa h;rfl
 |f::r,l,h=>by
  unfold IT at h;split at h
  . rename_i n l' hn hl;obtain rfl:=Aa h;have ih:=run_places w hl;simp only[List.mapM_cons,Sem.run_bind,eI hn w,Result.andThen_ok,Sem.run_pure,ih]
  cases h
section
variable {P:Program} {g:bG} {o:Oper}
theorem Lx {t:TypeId} {parts:Array (Nat×Operand)} {fs:Array Field} {l:List (Nat×Nat)} {z:Value} {zs:List AV} {ps:List (Nat×Nat×Arg)} (ho:o.op=.build t parts) (hu:P.underlying t=some (.struct fs))
 (hz:lH P t=some z) (CE:jO z.cells.toList=some zs) (hl:IT P fs.toList=some l) (hp:vN g (l[·]?) parts.toList=some ps):cN P g o (.build zs ps):=by
 intro s a G H w v H' hw hs h;simp only[dA,Ah,Ai] at h;obtain⟨cs,MI,rfl,rfl⟩:=h;have hc:=lO CE G w;obtain⟨iQ,hf,hv,h1⟩:=NZ hw hs (place':=(l.toArray[·]?)) (fun i p hp=>by simpa using hp) parts.toList ps zs cs z.cells hp MI hc.1 hc.2;refine cN.pure' hw (u:=.agg iQ) ?_ (by simpa using VR.Wi hv h1);have mN:=run_places w hl;simp only[execOp,ho,Instr.build,Sem.run_bind,kV hz w,run_underlying hu w,Result.andThen_ok,Array.mapM_eq_mapM_toList,Sem.run_map,mN,Ij,hf];rfl
theorem OT {t e:TypeId} {n sz:Nat} {parts:Array (Nat×Operand)} {z:Value} {zs:List AV} {ps:List (Nat×Nat×Arg)} (ho:o.op=.build t parts) (hu:P.underlying t=some (.array n e))
 (kZ:kB P e=some sz) (hz:lH P t=some z) (CE:jO z.cells.toList=some zs) (hp:vN g (fun i=>some (i*sz,sz)) parts.toList=some ps):cN P g o (.build zs ps):=by
 intro s a G H w v H' hw hs h;simp only[dA,Ah,Ai] at h;obtain⟨cs,MI,rfl,rfl⟩:=h;have hc:=lO CE G w;obtain⟨iQ,hf,hv,h1⟩:=NZ hw hs (place':=fun i=>some (i*sz,sz)) (fun i p hp=>hp) parts.toList ps zs cs z.cells hp MI hc.1 hc.2;refine cN.pure' hw (u:=.agg iQ) ?_ (by simpa using VR.Wi hv h1);simp only[execOp,ho,Instr.build,Sem.run_bind,kV hz w,run_underlying hu w,Result.andThen_ok,eI kZ w,Ij,hf];rfl
def ID (g:bG):Nat->List (Nat×Operand)->Option (List Arg)
 |_,[]=>some []
 |k,(i,x)::r=>if i=k then match bN g x,ID g (k+1) r with
  |some y,some ys=>some (y::ys)
  |_,_=>none
  else none
theorem RD {ev:Arg->AV} {sz:Nat}:∀{ys:List Arg} {aY:List (List AV)},KS ev sz ys=some aY->∀e∈aY,e.length=sz
 |[],aY,h=>by obtain rfl:=Aa h;intro e he;cases he
 |y::ys,aY,h=>by
  simp only[KS] at h;split at h
  . rename_i hc;simp only[Ah] at h;obtain⟨els',h',rfl⟩:=h;intro e he
    rcases Am.1 he with rfl|he
    . exact hc.1
    exact RD h' e he
  cases h
theorem NY {G:Gh} {H:aA} {w:World} {s:List AV} {a:Act} (hw:WR g G H w) (hs:SR G w s a) (sz:Nat):
 ∀(parts:List (Nat×Operand)) (ys:List Arg) (k:Nat) (aY:List (List AV)) (pre:List AV) (cells:Array Value),ID g k parts=some ys->KS (Arg.eval g s) sz ys=some aY->
  pre.length=k*sz->cells.size=(k+parts.length)*sz->(∀j,j<k*sz->VR G w (pre.getD j aC) (cells.toList.getD j undef))->(∀c∈pre,c.one=true)->
  ∃iQ,Instr.fill (fun i=>some (i*sz,sz)) cells (parts.map fun(i,x)=>(i,a.eval x))=some iQ/\iK G w (pre++aY.flatten) iQ.toList/\∀c∈pre++aY.flatten,c.one=true
 |[],ys,k,aY,pre,cells,h1,h2,hp,hc,hv,h3=>by obtain rfl:=Aa h1;obtain rfl:=Aa h2;refine⟨cells,rfl,⟨by simp at hc ⊢;omega,fun j hj=>?_⟩,by simpa using h3⟩;simp only[List.flatten_nil,Ch] at hj ⊢;exact hv j (by omega)
 |(i,x)::r,ys,k,aY,pre,cells,h1,h2,hp,hc,hv,h3=>by
  simp only[ID] at h1;split at h1
  . rename_i hi;subst hi;split at h1
    . rename_i y ys' hy MR;obtain rfl:=Aa h1;simp only[KS] at h2;split at h2
      . rename_i eU;simp only[Ah] at h2;obtain⟨els',h2,rfl⟩:=h2;obtain⟨c1,c3⟩:=eU;have vx:=(bM hw hs hy).cellsOf c3;have hlx:=vx.1.1;simp only[Cu] at hlx;have hm:(i+(r.length+1))*sz=i*sz+sz+r.length*sz:=(by rw[Cr,Ea];omega);have hm1:(i+1)*sz=i*sz+sz:=Ea i sz;simp only[Aq] at hc;obtain⟨f1,f2⟩:=Qk (i*sz) (a.eval x).cells cells
        obtain⟨iQ,hf,hr,ho⟩:=NY hw hs sz r ys' (i+1) els' (pre++(Arg.eval g s y).cells) ((a.eval x).cells.zipIdx.foldl (fun(cs:Array Value) (p:Value×Nat)=>cs.setIfInBounds (i*sz+p.2) p.1) cells) MR h2
         (by simp[hp,c1,hm1]) (by rw[f1,hc];congr 1;omega) (fun j hj=>by
           rw[iG,f2 j,getD_eq,Du];by_cases KM:j<pre.length
           . rw[if_pos KM,if_neg (by omega)];have :=hv j (by omega)
             rwa [getD_eq,iG] at this
           . rw[if_neg KM,if_pos (by omega)];have :=vx.1.2 (j -pre.length) (by omega);rw[getD_eq,iG] at this;rw[<-hp]
             exact this) (fun c hc=>by
           rcases Ap.1 hc with hc|hc
           . exact h3 c hc
           exact vx.2 c hc)
        refine⟨iQ,?_,by simpa [Eb] using hr,by simpa [Eb] using ho⟩;simp only[Cd,Instr.fill]
        have aRl:(decide ((a.eval x).cells.size≠sz)||decide (i*sz+(a.eval x).cells.size>cells.size))=false:=by simp;omega
        rw[aRl];exact hf
      cases h2
    cases h1
  cases h1
theorem ze {t e:TypeId} {sz len:Nat} {z:Value} {parts:Array (Nat×Operand)} {ys:List Arg} (ho:o.op=.buildSlice t len parts) (ht:nA P t=some (e,sz)) (hz:lH P e=some z)
 (hlen:len=parts.size) (EY:len*sz<=2^24) (hp:ID g 0 parts.toList=some ys):cN P g o (.OP sz ys):=by
 intro s a G H w v H' hw hs h;obtain⟨hu,kZ⟩:=kF ht;simp only[dA,Ah,Ai] at h;obtain⟨aY,sG,rfl,rfl⟩:=h;have GG:=RD sG
 have FF:aY.length=parts.size:=by
  have k1:∀{l:List (Nat×Operand)} {k:Nat} {ys:List Arg},ID g k l=some ys->ys.length=l.length:=by
   intro l
   induction l with
   |nil=>intro k ys h;obtain rfl:=Aa h;rfl
   |cons p r ih=>
    intro k ys h;obtain⟨i,x⟩:=p;simp only[ID] at h;split at h
    . split at h
      . rename_i y ys' _ h';obtain rfl:=Aa h;simp[ih h']
      cases h
    cases h
  have k2:∀{ys:List Arg} {aY:List (List AV)},KS (Arg.eval g s) sz ys=some aY->aY.length=ys.length:=by
   intro ys
   induction ys with
   |nil=>intro aY h;obtain rfl:=Aa h;rfl
   |cons y r ih=>
    intro aY h;simp only[KS] at h;split at h
    . simp only[Ah] at h;obtain⟨els',h',rfl⟩:=h;simp[ih h']
    cases h
  rw[k2 sG,k1 hp];simp
 let zr:Array Value:=if len*sz=0 then #[] else z.cells
 obtain⟨iQ,hf,hv,h1⟩:=NY hw hs sz parts.toList ys 0 aY [] ((Array.range (len*sz)).map (zr[· %zr.size]!)) hp sG (by simp) (by simp[hlen]) (fun j hj=>by simp at hj) (fun c hc=>by cases hc);simp only[Dc] at hv h1;have hp':iP w {w with heap:=w.heap.push (.cells iQ e)} (.cells (iQ.toList++[]).toArray e (0,0)):=⟨by simp,.now⟩;obtain⟨r1,r2,r3⟩:=hw.bu aY.flatten iQ.toList [] hv hp';refine⟨.value (.slice (some ⟨w.heap.size,0,none⟩) len len),_,_,_,?_,.inl rfl,r1,r2,?_⟩
 . have hb:¬len*sz>2^24:=by omega
   by_cases h0:len*sz=0
   . simp only[zr,if_pos h0] at hf;simp only[execOp,ho,Instr.buildSlice,Sem.run_bind,run_underlying hu w,eI kZ w,Result.andThen_ok,if_neg hb,if_pos h0,Sem.run_pure,Ij,hf];rfl
   simp only[zr,if_neg h0] at hf;simp only[execOp,ho,Instr.buildSlice,Sem.run_bind,run_underlying hu w,eI kZ w,Result.andThen_ok,if_neg hb,if_neg h0,kV hz w,Sem.run_pure,Ij,hf];rfl
 rw[hlen,<-FF];exact VR.bB 1 sz aY w.heap.size 0 aY.length (fun j=>iQ.toList.getD j undef) GG (fun j hj=>⟨(r3 j hj).1,(r3 j hj).2.1,h1 _ (II hj)⟩) (fun j hj=>(r3 j hj).2.2) ⟨Ab _,rfl⟩
def OV:Option Value->Option Nat->Prop
 |none,none=>True
 |some u,some m=>∃k,u=.int k (m:Int)
 |_,_=>False
theorem oR {G:Gh} {H:aA} {w:World} {s:List AV} {a:Act} (hw:WR g G H w) (hs:SR G w s a) {x:Option Operand} {y:Option Arg} {n:Option Nat} (hx:mY g x=some y)
 (hn:dZ (Arg.eval g s) y=some n):OV (x.map a.eval) n:=by
 cases x with
 |none=>obtain rfl:=Aa hx;obtain rfl:=Aa hn;trivial
 |some x=>simp only[mY,Ah] at hx;obtain⟨y',hy,rfl⟩:=hx;simp only[dZ,Ah] at hn;obtain⟨m,hm,rfl⟩:=hn;obtain⟨k,_,hk⟩:=tD hm (bM hw hs hy);exact⟨k,hk⟩
theorem run_sliceBound {k:IntKind} {m y:Nat} {c:BoundsCode} (h:m<=y) (w:World):(Instr.sliceBound (.int k (m:Int)) y c).run P w=.ok m w:=by
 have h0:(0:Int)<=(m:Int)/\(m:Int)<=(y:Int):=by omega
 simp only[Instr.sliceBound,asIntOf,Sem.run_bind,Sem.run_pure,Result.andThen_ok,if_pos h0,Dr]
theorem rU {isS:Bool} {len cap:Nat} {low high max:Option Value} {lo hi mx:Option Nat} (h1:OV low lo) (h2:OV high hi) (h3:OV max mx) (h4:mx.isSome->hi.isSome)
 (hl:lo.getD 0<=hi.getD len) (hh:hi.isSome->hi.getD len<=mx.getD cap) (hm:mx.getD cap<=cap) (w:World):
 (Instr.sliceBounds isS len cap low high max).run P w=.ok (lo.getD 0,hi.getD len,mx.getD cap) w:=by
 cases max<;>cases mx<;>first|exact h3.elim|skip
 . cases high<;>cases hi<;>first|exact h2.elim|skip
   . cases low<;>cases lo<;>first|exact h1.elim|skip
     . simp[Instr.sliceBounds]
     obtain⟨k1,rfl⟩:=h1;simp only[Bi,Ee] at hl;simp[Instr.sliceBounds,run_sliceBound hl w]
   obtain⟨k2,rfl⟩:=h2;have hh:=hh rfl;simp only[Bi,Ee] at hh hl
   cases low<;>cases lo<;>first|exact h1.elim|skip
   . simp[Instr.sliceBounds,run_sliceBound hh w]
   obtain⟨k1,rfl⟩:=h1;simp only[Bi] at hl;simp[Instr.sliceBounds,run_sliceBound hl w,run_sliceBound hh w]
 obtain⟨k3,rfl⟩:=h3
 cases high<;>cases hi<;>first|exact h2.elim|skip
 . simp at h4
 obtain⟨k2,rfl⟩:=h2;have hh:=hh rfl;simp only[Bi] at hh hm hl
 cases low<;>cases lo<;>first|exact h1.elim|skip
 . simp[Instr.sliceBounds,run_sliceBound hh w,run_sliceBound hm w]
 obtain⟨k1,rfl⟩:=h1;simp only[Bi] at hl;simp[Instr.sliceBounds,run_sliceBound hl w,run_sliceBound hh w,run_sliceBound hm w]
theorem zh {t:TypeId} {x:Operand} {lo hi:Option Operand} {x':Arg} {WQ gO:Option Arg} (ho:o.op=.slice t x lo hi none) (hx:bN g x=some x') (Tb:mY g lo=some WQ)
 (Lq:mY g hi=some gO) (ht:P.underlying t=some .string):cN P g o (.Ow x' WQ gO):=by
 intro s a G H w v H' hw hs h;have vx:=bM hw hs hx;simp only[dA] at h;split at h
 . rename_i str l r h1 h2 h3;rw[h1] at vx;have e1:=vx.lG;have o1:=oR hw hs Tb h2;have o2:=oR hw hs Lq h3;split at h
   . rename_i hc;obtain⟨c1,c2⟩:=hc;simp only[Ae,Ai] at h;obtain⟨rfl,rfl⟩:=h;have kZ:(⟨str.toArray⟩:ByteArray).size=str.length:=(by simp[ByteArray.size]);have hb:=rU (P:=P) (isS:=false) (len:=str.length) (cap:=str.length) (max:=none) (mx:=none) o1 o2 trivial (by simp) c1 (fun _=>by simpa using c2) (by simp) w;refine cN.pure' hw (u:=.string ((⟨str.toArray⟩:ByteArray).extract (l.getD 0) (r.getD str.length))) ?_ ?_
     . simp only[execOp,ho,Instr.sliceAt,Sem.run_bind,run_underlying ht w,Result.andThen_ok,Instr.slice,e1,kZ,Option.map_none,hb,Ci,Bb,Bq];rfl
     have :(⟨str.toArray⟩:ByteArray).extract (l.getD 0) (r.getD str.length)=⟨((str.drop (l.getD 0)).take (r.getD str.length -l.getD 0)).toArray⟩:=by apply ByteArray.ext;simp[ByteArray.data_extract,Hj]
     rw[this];exact VR.Yl _ _ _
   cases h
 cases h
theorem SJ {aY:List (List AV)} {sz:Nat} (hu:∀e∈aY,e.length=sz) (l:Nat):(aY.drop l).flatten=aY.flatten.drop (l*sz):=by
 induction aY generalizing l with
 |nil=>simp
 |cons e r ih=>
  cases l with
  |zero=>simp
  |succ l=>have he:e.length=sz:=hu e (by simp);rw[Iu,ih (fun e he=>hu e (by simp[he])),Bp,Ea,Fo,<-he,Iy]
theorem HG {aY:List (List AV)} {sz:Nat} (hu:∀e∈aY,e.length=sz) (l:Nat):(aY.take l).flatten=aY.flatten.take (l*sz):=by
 induction aY generalizing l with
 |nil=>simp
 |cons e r ih=>
  cases l with
  |zero=>simp
  |succ l=>have he:e.length=sz:=hu e (by simp);rw[Dp,Bp,ih (fun e he=>hu e (by simp[he])),Bp,Ea,Fo,<-he,List.take_length_add_append]
theorem VR.VD {G:Gh} {w:World} {sz:Nat} {aY:List (List AV)} {b o':Nat} {us:Nat->Value} (hu:∀e∈aY,e.length=sz)
 (h:∀j,j<aY.flatten.length->G.gZ b (o'+j)/\w.cell? ⟨b,o'+j,none⟩=some (us j)/\(aY.flatten.getD j aC).one=true)
 (hv:∀j,j<aY.flatten.length->VR G w (aY.flatten.getD j aC) (us j)) (l n:Nat) (hn:l+n<=aY.length) {tag cap:Nat}
 (ht:aId G tag b (o'+l*sz+n*sz) sz n cap):VR G w (.bB tag sz ((aY.drop l).take n)) (.slice (some ⟨b,o'+l*sz,none⟩) n cap):=by
 have hu1:∀e∈aY.drop l,e.length=sz:=fun e he=>hu e (Dt he);have hu2:∀e∈(aY.drop l).take n,e.length=sz:=fun e he=>hu1 e (Bz he);have vI:((aY.drop l).take n).flatten=(aY.flatten.drop (l*sz)).take (n*sz):=by rw[HG hu1,SJ hu]
 have hlen:((aY.drop l).take n).length=n:=by simp;omega
 have bGa:=length_flatten hu;have hb:l*sz+n*sz<=aY.flatten.length:=by rw[bGa,<-Cr];exact Cz _ hn
 have :=VR.bB (G:=G) (w:=w) tag sz ((aY.drop l).take n) b (o'+l*sz) cap (fun j=>us (l*sz+j)) hu2 (fun j hj=>by
  rw[vI] at hj ⊢;simp only[Db,Ex] at hj;rw[eX _ _ _ _ _ (by omega),Br]
  exact h _ (by omega)) (fun j hj=>by
  rw[vI] at hj ⊢;simp only[Db,Ex] at hj;rw[eX _ _ _ _ _ (by omega)]
  exact hv _ (by omega)) (by rw[hlen];exact ht)
 rwa [hlen] at this
theorem VR.qD {G:Gh} {w:World} (sz b o' cap:Nat) (tag:Nat) (ht:tag=0\/(tag=1/\cap=0)):VR G w (.bB tag sz []) (.slice (some ⟨b,o',none⟩) 0 cap):=
 VR.bB tag sz [] b o' cap (fun _=>undef) (fun e he=>by cases he) (fun j hj=>by simp at hj) (fun j hj=>by simp at hj) (by
  refine⟨Az _,?_⟩
  rcases ht with rfl|⟨rfl,rfl⟩
  . trivial
  rfl)
theorem aGh {t e:TypeId} {sz:Nat} {x:Operand} {lo hi mx:Option Operand} {x':Arg} {WQ gO mx':Option Arg} (ho:o.op=.slice t x lo hi mx) (hx:bN g x=some x') (Tb:mY g lo=some WQ)
 (Lq:mY g hi=some gO) (o7:mY g mx=some mx') (ht:nA P t=some (e,sz)):cN P g o (.Yi sz x' WQ gO mx'):=by
 intro s a G H w v H' hw hs h;have vx:=bM hw hs hx;obtain⟨hu,kZ⟩:=kF ht;simp only[dA] at h;split at h
 . rename_i l r m h1 h2 h3;have o1:=oR hw hs Tb h1;have o2:=oR hw hs Lq h2;have o3:=oR hw hs o7 h3;split at h
   . rename_i hms;simp only[Ah,Ai] at h;obtain⟨v',h,rfl,rfl⟩:=h
     have jE:∀(p:Option Addr) (len cap:Nat),a.eval x=.slice p len cap->l.getD 0<=r.getD len->(r.isSome->r.getD len<=m.getD cap)->m.getD cap<=cap->
      (execOp a.eval o).run P w=.ok (.value (.slice (if m.getD cap=l.getD 0 then p else p.map (·.add (l.getD 0*sz))) (r.getD len -l.getD 0) (m.getD cap -l.getD 0))) w:=by
      intro p len cap eF c1 c2 c3;have hb:=rU (P:=P) (isS:=true) (len:=len) (cap:=cap) o1 o2 o3 hms c1 c2 c3 w;simp only[execOp,ho,Instr.sliceAt,Sem.run_bind,run_underlying hu w,Result.andThen_ok,Instr.slice,eF,hb,eI kZ w];rfl
     unfold vR at h;split at h
     . rename_i dB;rw[dB] at vx;generalize eF:a.eval x=u at vx;cases vx;split at h
       . rename_i hc;obtain⟨c1,c2,c3⟩:=hc;obtain rfl:=Aa h;have :=jE none 0 0 eF (by omega) (fun _=>by rw[c2,c3];exact Ab _) (by rw[c3];exact Ab _);rw[c1,c2,c3] at this;exact cN.pure' hw this .aR
       cases h
     . rename_i tag eP aY dB;rw[dB] at vx;generalize eF:a.eval x=u at vx
       cases vx with
       |bB _ _ _ b o' cap us GG hh hv rP=>
        have sJ:=rP.1;simp only at h;split at h
        . rename_i hc;obtain⟨rfl,c1,c2⟩:=hc;have Uq:=VR.VD GG hh hv;split at h
          . rename_i m';split at h
            . rename_i AM;obtain⟨c3,c4⟩:=AM;obtain rfl:=Aa h;have :=jE _ _ _ eF c1 (fun _=>by simpa using c3) Zai;simp only[Bi,Bx,jS] at this;refine cN.pure' hw this ?_;by_cases yZ:m'=l.getD 0
              . rw[if_pos yZ];have h0:r.getD aY.length -l.getD 0=0:=(by omega);have Ni:m' -l.getD 0=0:=(by omega);rw[h0,Ni,Fb];exact VR.qD _ _ _ _ _ (by by_cases Uo:m'=r.getD aY.length<;>simp[Uo])
              rw[if_neg yZ];refine Uq _ _ (by omega) ⟨by omega,?_⟩;by_cases Uo:m'=r.getD aY.length
              . rw[if_pos Uo];omega
              rw[if_neg Uo];trivial
            cases h
          have Xf:=jE _ _ _ eF c1 (fun _=>by simp;omega) (by simp);simp only[Ee,Bx,jS] at Xf;split at h
          . rename_i AM;obtain⟨c3,c4⟩:=AM;obtain rfl:=Aa h;rw[c3] at Xf;refine cN.pure' hw Xf ?_;by_cases Zd:cap=l.getD 0
            . rw[if_pos Zd];have h0:aY.length -l.getD 0=0:=(by omega);have hd:aY.drop (l.getD 0)=[]:=Ia (by omega);rw[h0,hd]
              rcases c4 with c4|c4
              . omega
              match tag,c4,rP with
              |0,_,_=>exact VR.qD _ _ _ _ _ (.inl rfl)
              |1,_,rP=>exact VR.qD _ _ _ _ _ (.inr ⟨rfl,by omega⟩)
            rw[if_neg Zd];have hd:aY.drop (l.getD 0)=(aY.drop (l.getD 0)).take (aY.length -l.getD 0):=(by rw[As];simp);rw[hd];refine Uq _ _ (by omega) ⟨by omega,?_⟩;have h2:=rP.2
            have hmul:o'+l.getD 0*eP+(aY.length -l.getD 0)*eP=o'+aY.length*eP:=by rw[Br,<-Cr];congr 2;omega
            match tag,h2,c4 with
            |0,_,_=>trivial
            |1,h2,_=>show cap -l.getD 0=aY.length -l.getD 0;rw[h2]
            |k+2,⟨lc,h2,h3,h4,h5,h6⟩,_=>refine⟨lc,h2,h3,by rw[hmul];exact h4,h5,?_⟩;rw[h6];congr 1;omega
          obtain rfl:=Aa h;refine cN.pure' hw Xf ?_;by_cases Zd:cap=l.getD 0
          . rw[if_pos Zd];have h0:r.getD aY.length -l.getD 0=0:=(by omega);rw[h0,Fb];exact VR.qD _ _ _ _ _ (.inl rfl)
          rw[if_neg Zd];exact Uq _ _ (by omega) ⟨by omega,trivial⟩
        cases h
       |vK _ _ b o' s' rP=>
        simp only[Bm] at h;split at h
        . rename_i hc;obtain⟨rfl,c1,c2⟩:=hc;have Qs:l.getD 0=0:=(by omega);have Xf:r.getD 0=0:=(by omega);split at h
          . rename_i m';split at h
            . rename_i AM;obtain⟨c3,c4⟩:=AM;obtain rfl:=Aa h;have MO:m'=0:=(by omega);subst MO;have :=jE _ _ _ eF (by omega) (fun _=>by simpa using c3) (by simp);simp only[Bi,Qs,Xf,if_true,Ix] at this;refine cN.pure' hw this ?_;rw[Kh,List.take_nil];exact .vK _ _ _ _ _ (by split<;>omega)
            cases h
          have hr1:=jE _ _ _ eF (by omega) (fun _=>by simp;omega) (by simp);simp only[Ee,Qs,Xf,if_true,Ix] at hr1;split at h
          . obtain rfl:=Aa h;refine cN.pure' hw hr1 ?_;rw[Kh];exact .vK _ _ _ _ _ rP
          obtain rfl:=Aa h;refine cN.pure' hw hr1 ?_;rw[Kh,List.take_nil];exact .vK _ _ _ _ _ (by omega)
        cases h
     . rename_i id eP off len cap dB;rw[dB] at vx;generalize eF:a.eval x=u at vx
       cases vx with
       |sl _ _ _ _ _ jV lc hl hlen gR pL=>
        simp only at h;split at h
        . rename_i hc;obtain⟨rfl,c1⟩:=hc;have hcc:cap<=jV:=(by omega);split at h
          . rename_i m';split at h
            . rename_i AM;obtain⟨c3,c4⟩:=AM;have :=jE _ _ _ eF c1 (fun _=>by simpa using c3) Zai;simp only[Bi,Bx,jS] at this;split at h
              . rename_i yZ;obtain rfl:=Aa h;rw[if_pos yZ] at this;have h0:r.getD len -l.getD 0=0:=(by omega);have Ni:m' -l.getD 0=0:=(by omega);rw[h0,Ni] at this;exact cN.pure' hw this (.sl id eP off 0 0 0 lc hl (Ab _) (by have :off+cap*eP<=lc.Tf:=gR;omega) (.inl rfl))
              rename_i yZ;obtain rfl:=Aa h;rw[if_neg yZ,Br] at this;refine cN.pure' hw this (.sl id eP (off+l.getD 0*eP) _ _ _ lc hl (by omega) ?_ (.inl rfl));have e1:off+l.getD 0*eP+(m' -l.getD 0)*eP=off+m'*eP:=(by rw[Br,<-Cr];congr 2;omega);have e2:m'*eP<=cap*eP:=Cz _ c4;omega
            cases h
          split at h
          . rename_i c3;have :=jE _ _ _ eF c1 (fun _=>by simp;omega) (by simp);simp only[Ee,Bx,jS] at this;split at h
            . rename_i Ph;obtain rfl:=Aa h;have h0:r.getD len -l.getD 0=0:=(by omega);rw[h0] at this;refine cN.pure' hw this ?_;split
              . exact VR.qD _ _ _ _ _ (.inl rfl)
              exact VR.qD _ _ _ _ _ (.inl rfl)
            rename_i Ph;obtain rfl:=Aa h;rw[if_neg (by omega),Br] at this;have e1:off+l.getD 0*eP+(cap -l.getD 0)*eP=off+cap*eP:=(by rw[Br,<-Cr];congr 2;omega);have e2:off+l.getD 0*eP+(jV -l.getD 0)*eP=off+jV*eP:=(by rw[Br,<-Cr];congr 2;omega);refine cN.pure' hw this (.sl id eP (off+l.getD 0*eP) _ _ _ lc hl (by omega) (by omega) ?_)
            rcases pL with pL|⟨q1,q2,q3⟩
            . exact .inl (by omega)
            exact .inr ⟨by omega,by omega,by omega⟩
          cases h
        cases h
     cases h
   cases h
 cases h
theorem iE (sz:Nat):∀(n:Nat) (cs:List AV),n*sz<=cs.length->(fM sz n cs).flatten=cs.take (n*sz)/\(fM sz n cs).length=n/\∀e∈fM sz n cs,e.length=sz
 |0,cs,_=>⟨by simp[fM],rfl,fun e he=>by cases he⟩
 |n+1,cs,h=>by
  have hm:(n+1)*sz=sz+n*sz:=by rw[Ea];omega
  obtain⟨h1,h2,h3⟩:=iE sz n (cs.drop sz) Zai;refine⟨?_,by simp[fM,h2],fun e he=>?_⟩
  . rw[fM,Bp,h1,hm,List.take_add]
  rcases Am.1 he with rfl|he
  . simp;omega
  exact h3 e he
theorem zg {t:TypeId} {n sz:Nat} {b:Bool} {x:Operand} {lo hi mx:Option Operand} {x':Arg} {WQ gO mx':Option Arg} (ho:o.op=.slice t x lo hi mx) (hx:bN g x=some x') (Tb:mY g lo=some WQ)
 (Lq:mY g hi=some gO) (o7:mY g mx=some mx') (ht:zQ P t=some (n,sz,b)):cN P g o (.EA n sz x' WQ gO mx'):=by
 intro s a G H w v H' hw hs h;have vx:=bM hw hs hx;obtain⟨e,hu,kZ,hb⟩:=zS ht;simp only[dA] at h;split at h
 . rename_i l r m h1 h2 h3;have o1:=oR hw hs Tb h1;have o2:=oR hw hs Lq h2;have o3:=oR hw hs o7 h3;simp only[Ah,Ai] at h;obtain⟨v',h,rfl,rfl⟩:=h;unfold mI at h;simp only at h;split at h
   . rename_i hc;obtain⟨c1,c2,c3,c4⟩:=hc;have hbd:=rU (P:=P) (isS:=false) (len:=n) (cap:=n) o1 o2 o3 c4 c1 (fun _=>c2) c3 w
     have jE:∀bl o',a.eval x=.pointer (some ⟨bl,o',none⟩)->
      (execOp a.eval o).run P w=.ok (.value (.slice (some (if m.getD n=l.getD 0 then⟨bl,o',none⟩ else⟨bl,o'+l.getD 0*sz,none⟩)) (r.getD n -l.getD 0) (m.getD n -l.getD 0))) w:=by
      intro bl o' eF;simp only[execOp,ho,Instr.sliceAt,Sem.run_bind,run_underlying hu w,Result.andThen_ok,eF,Instr.sureAddr,Sem.run_pure,hbd,eI kZ w,jS]
     split at h
     . rename_i id off dB;rw[dB] at vx;split at h
       . rename_i cs MI;obtain⟨eM,hg⟩:=aA.oZ MI;split at h
         . rename_i gR;generalize eF:a.eval x=u at vx
           cases vx with
           |ref _ _ lc hl=>
            have bJa:=(hw.cells id lc cs eM hl hg).1;have Xf:=jE _ _ eF;split at h
            . rename_i yZ;obtain rfl:=Aa h;rw[if_pos yZ] at Xf;have h0:r.getD n -l.getD 0=0:=(by omega);have Ni:m.getD n -l.getD 0=0:=(by omega);rw[h0,Ni] at Xf;exact cN.pure' hw Xf (.sl id sz off 0 0 0 lc hl (Ab _) (by omega) (.inl rfl))
            rename_i yZ;obtain rfl:=Aa h;rw[if_neg yZ,Br] at Xf;refine cN.pure' hw Xf (.sl id sz (off+l.getD 0*sz) _ _ _ lc hl (by omega) ?_ (.inl rfl));have e1:off+l.getD 0*sz+(m.getD n -l.getD 0)*sz=off+m.getD n*sz:=(by rw[Br,<-Cr];congr 2;omega);have e2:m.getD n*sz<=n*sz:=Cz _ c3;omega
         cases h
       cases h
     . rename_i cs dB;rw[dB] at vx;split at h
       . rename_i gR;obtain rfl:=Aa h;generalize eF:a.eval x=u at vx
         cases vx with
         |pl _ b' o' us hh hv=>
          have Xf:=jE _ _ eF;refine cN.pure' hw Xf ?_;obtain⟨f1,f2,f3⟩:=iE sz n cs gR;by_cases yZ:m.getD n=l.getD 0
          . rw[if_pos yZ];have h0:r.getD n -l.getD 0=0:=(by omega);have Ni:m.getD n -l.getD 0=0:=(by omega);rw[h0,Ni,Fb];exact VR.qD _ _ _ _ _ (by by_cases Uo:m.getD n=r.getD n<;>simp[Uo])
          rw[if_neg yZ];refine VR.VD (us:=us) f3 (fun j hj=>?_) (fun j hj=>?_) _ _ (by omega) ⟨by omega,?_⟩
          . rw[f1] at hj ⊢;simp at hj;rw[getD_take _ _ _ _ (by omega)];exact hh j (by omega)
          . rw[f1] at hj ⊢;simp at hj;rw[getD_take _ _ _ _ (by omega)];exact hv j (by omega)
          by_cases Uo:m.getD n=r.getD n
          . rw[if_pos Uo];omega
          rw[if_neg Uo];trivial
       cases h
     cases h
   cases h
 cases h
theorem aGg {t e:TypeId} {n:Nat} {x:Operand} {x':Arg} (ho:o.op=.sliceToArrayPointer t x) (hx:bN g x=some x') (ht:P.underlying t=some (.array n e)):cN P g o (.Yf n x'):=by
 intro s a G H w v H' hw hs h;have vx:=bM hw hs hx
 have jE:∀(p:Option Addr) (len cap:Nat),a.eval x=.slice p len cap->n<=len->(execOp a.eval o).run P w=.ok (.value (.pointer p)) w:=by
  intro p len cap eF hle;have :¬len<n:=by omega
  simp[execOp,ho,Instr.arrayAt,run_underlying ht w,eF,this]
 simp only[dA] at h;split at h
 . rename_i tag sz aY dB;rw[dB] at vx;generalize eF:a.eval x=u at vx
   cases vx with
   |bB _ _ _ b o' cap us GG hh hv rP=>
    split at h
    . rename_i hle;simp only[Ae,Ai] at h;obtain⟨rfl,rfl⟩:=h;exact cN.pure' hw (jE _ _ _ eF hle.1) (.pl _ b o' us hh hv)
    cases h
   |vK=>simp at h
 . rename_i id sz off len cap dB;rw[dB] at vx;generalize eF:a.eval x=u at vx
   cases vx with
   |sl _ _ _ _ _ jV lc hl hlen gR pL=>
    split at h
    . rename_i hle;simp only[Ae,Ai] at h;obtain⟨rfl,rfl⟩:=h;exact cN.pure' hw (jE _ _ _ eF hle) (.ref id off lc hl)
    cases h
 cases h
end
end
section
theorem iK.append {G:Gh} {w:World} {xs ys:List AV} {us vs:List Value} (h1:iK G w xs us) (h2:iK G w ys vs):iK G w (xs++ys) (us++vs):=by
 have l1:=h1.1;have l2:=h2.1;refine⟨by simp[l1,l2],fun j hj=>?_⟩;simp at hj;rw[getD_eq,getD_eq,Du,Du];by_cases hc:j<xs.length
 . rw[if_pos hc,if_pos (by omega)];exact h1.2 j hc
 rw[if_neg hc,if_neg (by omega)];have :=h2.2 (j -xs.length) (by omega);rw[getD_eq,getD_eq] at this;rw[l1];exact this
theorem iK.take {G:Gh} {w:World} {xs:List AV} {us:List Value} (h:iK G w xs us) (n:Nat):iK G w (xs.take n) (us.take n):=by have l:=h.1;refine⟨by simp[l],fun j hj=>?_⟩;simp only[Db] at hj;rw[getD_take _ _ _ _ (by omega),getD_take _ _ _ _ (by omega)];exact h.2 j (by omega)
theorem oK (P:Program) {g:bG} {G:Gh} {H:aA} {w:World} (hw:WR g G H w) {sz:Nat} {x:AV} {u:Value} {ys:List (List AV)} (h:cL H sz x=some ys) (hv:VR G w x u):
 (∀e∈ys,e.length=sz)/\(∀c∈ys.flatten,c.one=true)/\(Builtin.lenOf u).run P w=.ok ys.length w/\
 ∃vs:List Value,iK G w ys.flatten vs/\∀n,n<=ys.length->(Builtin.firstCells sz n u).run P w=.ok (vs.take (n*sz)).toArray w:=by
 have aTf:∀{l:List AV},(∀j,j<l.length->(l.getD j aC).one=true)->∀c∈l,c.one=true:=fun {l} hl c hc=>by obtain⟨j,hj,rfl⟩:=Hd.1 hc;have :=hl j hj;simpa [getD_eq,Ad hj] using this
 have cells:∀{b o':Nat} {l:List AV},(∀j,j<l.length->∃v,w.cell? ⟨b,o'+j,none⟩=some v/\VR G w (l.getD j aC) v)->
  ∃vs:List Value,iK G w l vs/\∀m,m<=l.length->(loadCells ⟨b,o',none⟩ m).run P w=.ok (vs.take m).toArray w:=fun {b o' l} hc=>by
  obtain⟨us,h1,h2,h3⟩:=NG hc;refine⟨us,⟨h1,h3⟩,fun m hm=>?_⟩
  have :=uV P w b o' (us.take m) (fun j hj=>by
   simp at hj;rw[getD_take _ _ _ _ (by omega)]
   exact h2 j (by omega))
  rwa [show(us.take m).length=m by simp;omega] at this
 cases hv with
 |aR=>obtain rfl:=Aa h;refine⟨fun e he=>(by cases he),fun c hc=>(by simp at hc),rfl,[],iK.nil G w,fun n hn=>?_⟩;simp[Builtin.firstCells]
 |bB tag eP aY b o' cap us GG hh hvv rP=>
  simp only[cL] at h;split at h
  . rename_i hs;subst hs;obtain rfl:=Aa h;obtain⟨vs,h1,h2⟩:=cells (l:=aY.flatten) (b:=b) (o':=o') (fun j hj=>⟨us j,(hh j hj).2.1,hvv j hj⟩);refine⟨GG,aTf fun j hj=>(hh j hj).2.2,rfl,vs,h1,fun n hn=>?_⟩;have :=h2 (n*eP) (by rw[length_flatten GG];exact Cz _ hn);simpa [Builtin.firstCells] using this
  cases h
 |vK tag eP b o' s' rP=>
  simp only[cL] at h;split at h
  . obtain rfl:=Aa h;refine⟨fun e he=>(by cases he),fun c hc=>(by simp at hc),rfl,[],iK.nil G w,fun n hn=>?_⟩;obtain rfl:n=0:=by simpa using hn
    simp[Builtin.firstCells,loadCells,loadCellsFrom]
  cases h
 |str str=>
  simp only[cL] at h;split at h
  . rename_i hs;subst hs;obtain rfl:=Aa h
    have vI:(WU str.data.toList).flatten=str.data.toList.map fun b=>AV.int .u8 b.toNat:=by
     unfold WU
     induction str.data.toList with
     |nil=>rfl
     |cons b r ih=>simp[ih]
    refine⟨fun e he=>?_,fun c hc=>?_,?_,str.data.toList.map fun b=>.int .u8 b.toNat,?_,fun n hn=>?_⟩
    . simp only[WU,Bj] at he;obtain⟨b,_,rfl⟩:=he;rfl
    . rw[vI] at hc;simp only[Bj] at hc;obtain⟨b,_,rfl⟩:=hc;rfl
    . have :str.size=(WU str.data.toList).length:=(by rw[WU,Af,Cu];rfl);simp only[Builtin.lenOf,this];rfl
    . rw[vI];refine⟨by simp,fun j hj=>?_⟩;simp at hj;simp only[getD_eq,Cw,Ad (show j<str.data.toList.length by simpa using hj),Bx,Bi];exact .int _ _
    simp only[Builtin.firstCells,Ed]
    have :((str.extract 0 n).data.map fun b=>(Value.int .u8 b.toNat))=((str.data.toList.map fun b=>Value.int .u8 b.toNat).take n).toArray:=by apply Fj;simp[ByteArray.data_extract,Hj]
    rw[<-this];rfl
  cases h
 |sl id eP off len cap jV l hl hlen gR pL=>
  simp only[cL] at h;split at h
  . rename_i hs;subst hs;split at h
    . rename_i cs MI;obtain⟨eM,hg⟩:=aA.oZ MI;split at h
      . rename_i hle;obtain rfl:=Aa h;obtain⟨f1,f2,f3⟩:=iE eP len (cs.drop off) Zai;have xU:=(hw.cells id l cs eM hl hg).2.2.2.1
        obtain⟨vs,h1,h2⟩:=cells (l:=(cs.drop off).take (len*eP)) (b:=l.cZ) (o':=l.base+off) (fun j hj=>by
         simp at hj
         exact KZ hw hl hg hle j (by omega))
        refine⟨f3,?_,by simp[Builtin.lenOf,f2],vs,by rw[f1];exact h1,fun n hn=>?_⟩
        . rw[f1];exact fun c hc=>xU c (Dt (Bz hc))
        rw[f2] at hn;have e2:n*eP<=len*eP:=Cz _ hn;have :=h2 (n*eP) Zai;simpa [Builtin.firstCells] using this
      cases h
    cases h
  cases h
 |_=>simp[cL] at h
theorem Qo (Sz:Nat):∀(r c:Nat),Builtin.growBy Sz r c<=max c (Sz+(Sz+768) / 4)
 |0,c=>Nat.le_max_left _ _
 |r+1,c=>by
  simp only[Builtin.growBy];split
  . exact Nat.le_max_left _ _
  have :=Qo Sz r (c+(c+768) / 4);omega
theorem nextslicecap_le {need cap:Nat} (h:cap<need):Builtin.nextslicecap need cap<=2*need+192:=by
 unfold Builtin.nextslicecap;split
 . omega
 split
 . omega
 have :=Qo need 4 cap;omega
def KL (w:World) (o:Go.Obj):World:={w with heap:=w.heap.push o,drawn:=w.drawn+1}
section
variable {P:Program}
theorem vQ {elem:TypeId} {i:TypeInfo} (h:P.info? elem=some i) (w:World):(typeInfo elem).run P w=.ok i w:=by simp[typeInfo,program,Sem.run,h]
theorem pJ {w:World} {t t2 elem ty:TypeId} {d:TypeDesc} {sz n sLen sCap:Nat} {base:Option Addr} {u:Value} {vs:List Value} (ht:P.underlying t=some (.slice elem)) (kZ:kB P elem=some sz)
 (h2:P.underlying t2=some d) (hd:∀k,d≠ .int k) (hlen:(Builtin.lenOf u).run P w=.ok n w) (hf:(Builtin.firstCells sz n u).run P w=.ok vs.toArray w) (vg:sLen+n<=sCap):
 (Builtin.append_ #[t,t2] ty #[.slice base sLen sCap,u]).run P w=
   ((match base with|some a=>storeCells (a.add (sLen*sz)) vs|none=>pure ():Sem Unit).run P w).andThen fun _ w'=>.ok (.slice base (sLen+n) sCap) w':=by
 have hz:(match d with|.int _=>true|_=>false)=false:=by cases d<;>first|rfl|exact absurd rfl (hd _)
 unfold Builtin.append_;simp only[Dy,Gj,Gk,Sem.run_bind,run_underlying ht w,run_underlying h2 w,eI kZ w,Result.andThen_ok,Sem.run_pure,hz,Bb,Bq,hlen,if_pos vg,Gb,if_true,hf];cases base<;>simp
theorem BH {need CI:Nat} {e:TypeId} (w:World):∃c,need<=c/\(choose (.appendCap need CI e)).run P w=.ok c {w with drawn:=w.drawn+1}:=
 ⟨need+(w.tape w.drawn (.appendCap need CI e))%(2^63 -need),by omega,by simp[choose,Sem.run,Question.forced,Question.cut]⟩
theorem run_askRoom (n:Nat) (w:World):(askRoom n).run P w=.ok () w:=by unfold askRoom;split<;>rfl
theorem run_append_grow {w:World} {t t2 elem ty:TypeId} {d:TypeDesc} {i:TypeInfo} {sz n sLen sCap:Nat} {base:Option Addr} {u z:Value} {os vs:List Value} (ht:P.underlying t=some (.slice elem)) (kZ:kB P elem=some sz)
 (h2:P.underlying t2=some d) (hd:∀k,d≠ .int k) (hi:P.info? elem=some i) (eC:1<=i.bytes) (hz:lH P elem=some z) (CE:z.cells.size=sz) (hlen:(Builtin.lenOf u).run P w=.ok n w)
 (ho:(Builtin.firstCells sz sLen (.slice base sLen sCap)).run P {w with drawn:=w.drawn+1}=.ok os.toArray {w with drawn:=w.drawn+1})
 (hf:(Builtin.firstCells sz n u).run P {w with drawn:=w.drawn+1}=.ok vs.toArray {w with drawn:=w.drawn+1}) (vg:¬sLen+n<=sCap) (EY:(sLen+n)*i.bytes<=2^40):
 ∃cap rest,sLen+n<=cap/\rest.length=(cap -(sLen+n))*sz/\
  (Builtin.append_ #[t,t2] ty #[.slice base sLen sCap,u]).run P w=.ok (.slice (some ⟨w.heap.size,0,none⟩) (sLen+n) cap) (KL w (.cells (os++vs++rest).toArray elem)):=by
 have hz':(match d with|.int _=>true|_=>false)=false:=by cases d<;>first|rfl|exact absurd rfl (hd _)
 obtain⟨cap,SO,AM⟩:=BH (P:=P) (need:=sLen+n) (CI:=sCap) (e:=elem) w;have KN:¬((((sLen+n:Nat):Int)>IntKind.i64.max)/\(False\/i.bytes=0)):=fun hh=>hh.2.elim id (fun h0=>by omega);have hns:=nextslicecap_le (need:=sLen+n) (cap:=sCap) (by omega)
 have DS:sLen+n<=2^40:=by have :(sLen+n)*1<=(sLen+n)*i.bytes:=Et _ eC;omega
 have hmul:Builtin.nextslicecap (sLen+n) sCap*i.bytes<=(2*(sLen+n)+192)*i.bytes:=Cz _ hns;have bIm:(2*(sLen+n)+192)*i.bytes=2*((sLen+n)*i.bytes)+192*i.bytes:=by rw[Cr,Gt]
 have hib:i.bytes<=(sLen+n)*i.bytes:=Jm _ (by omega);have SQ:¬Builtin.nextslicecap (sLen+n) sCap*i.bytes>2^48:=by omega
 refine⟨cap,(Builtin.zeroCells z.cells (cap -(sLen+n))).toList,SO,by simp[Builtin.zeroCells,CE],?_⟩;unfold Builtin.append_;simp only[Dy,Gj,Gk,Sem.run_bind,run_underlying ht w,run_underlying h2 w,eI kZ w,Result.andThen_ok,Sem.run_pure,hz',Bb,Bq,hlen,if_neg vg,Gb,if_true,vQ hi w,if_neg KN,if_neg SQ,AM,vQ hi {w with drawn:=w.drawn+1},run_askRoom,ho,hf,kV hz {w with drawn:=w.drawn+1}]
 have he:os.toArray++vs.toArray++Builtin.zeroCells z.cells (cap -(sLen+n))=(os++vs++(Builtin.zeroCells z.cells (cap -(sLen+n))).toList).toArray:=by apply Fj;simp
 rw[he];rfl
theorem Pc (w:World) (o:Go.Obj):iP w (KL w o) o:=⟨rfl,.now⟩
theorem Xt {g:bG} {G:Gh} {H:aA} {w:World} (hw:WR g G H w) (mu:Bool) {sz:Nat} {aY:List (List AV)} {vs rest:List Value} {e:TypeId} {cap:Nat}
 (hu:∀x∈aY,x.length=sz) (h1:∀c∈aY.flatten,c.one=true) (hv:iK G w aY.flatten vs) (pL:aY.length<=cap) (aIy:rest.length=(cap -aY.length)*sz):
 ∃G',WR g G' (kL H mu sz aY).2 (KL w (.cells (vs++rest).toArray e))/\Ext G H w G' (kL H mu sz aY).2 (KL w (.cells (vs++rest).toArray e))/\
  VR G' (KL w (.cells (vs++rest).toArray e)) (kL H mu sz aY).1 (.slice (some ⟨w.heap.size,0,none⟩) aY.length cap):=by
 have hp:=Pc w (.cells (vs++rest).toArray e);have vI:=length_flatten hu;have Lu:=hv.1;have hmul:aY.length*sz+(cap -aY.length)*sz=cap*sz:=by rw[<-Cr];congr 1;omega
 cases mu with
 |true=>
  obtain⟨r1,r2⟩:=hw.aGx aY.flatten vs rest hv h1 true (fun h=>by cases h) (Clear.zero _) hp;refine⟨_,r1,r2,?_⟩
  have :=VR.sl (G:=G.dX H.next ⟨w.heap.size,0,aY.flatten.length,(vs++rest).length⟩) (w:=KL w (.cells (vs++rest).toArray e)) H.next sz 0 aY.length aY.length cap
   ⟨w.heap.size,0,aY.flatten.length,(vs++rest).length⟩ (by simp only[Gh.dX,if_true]) (Ab _) (by simp only[vI];omega)
   (.inr ⟨by simp only[vI];omega,pL,by simp only[Ba,Lu,vI,aIy];omega⟩)
  exact this
 |false=>obtain⟨G',hl,r1,r2,r3⟩:=hw.aGy aY.flatten vs rest hv (Clear.zero _) hp;refine⟨G',r1,r2,?_⟩;refine VR.bB (H.next+2) sz aY w.heap.size 0 cap (fun j=>vs.getD j undef) hu (fun j hj=>⟨(r3 j hj).1,(r3 j hj).2.1,h1 _ (II hj)⟩) (fun j hj=>(r3 j hj).2.2) ⟨pL,?_⟩;exact⟨_,hl,rfl,by simp only[vI];omega,rfl,aIy⟩
theorem WR.drew {g:bG} {G:Gh} {H:aA} {w:World} (h:WR g G H w):WR g G H {w with drawn:=w.drawn+1}:=h.of_heap rfl
theorem VR.drew {G:Gh} {w:World} {a:AV} {u:Value} (h:VR G w a u):VR G {w with drawn:=w.drawn+1} a u:=
 h.mono (fun _ _ h=>h) (fun b o hi=>⟨hi,rfl⟩)
theorem kf {g:bG} {o:Oper} {c:Call} {x y:Operand} {x' y':Arg} {t t2 elem:TypeId} {d:TypeDesc} {i:TypeInfo} {z:Value} {sz:Nat} {mu:Bool} (ho:o.op=.call c) (hc:c.callee=.builtin .append) (ha:c.args= #[x,y])
 (hx:bN g x=some x') (hy:bN g y=some y') (Pf:c.argTypes= #[t,t2]) (ht:P.underlying t=some (.slice elem)) (kZ:kB P elem=some sz) (h2:P.underlying t2=some d) (hd:∀k,d≠ .int k)
 (hi:P.info? elem=some i) (eC:1<=i.bytes) (hz:lH P elem=some z) (CE:z.cells.size=sz):cN P g o (.append sz i.bytes mu x' y'):=by
 intro s a G H w v H' hw hs h;have vx:=bM hw hs hx;have vy:=bM hw hs hy;simp only[dA] at h;split at h
 . rename_i ys MR;obtain⟨yu,y1,TV,EB,yv,yf⟩:=oK P hw MR vy;have yf0:=yf ys.length (Ab _);obtain⟨_,_,_,aHz,yv',yf'⟩:=oK P hw.drew MR vy.drew;have yfl:=length_flatten yu;have ye:∀{m:Nat} {l:List Value},l.length=m->l.take m=l:=fun {m l} hl=>by rw[As (by omega)]
   have aHy:(Builtin.firstCells sz ys.length (a.eval y)).run P w=.ok EB.toArray w:=by rw[yf0,ye (by rw[yv.1,yfl])]
   have bIk:(Builtin.firstCells sz ys.length (a.eval y)).run P {w with drawn:=w.drawn+1}=.ok aHz.toArray {w with drawn:=w.drawn+1}:=by rw[yf' ys.length (Ab _),ye (by rw[yv'.1,yfl])]
   have yvw:iK G w ys.flatten aHz:=⟨yv'.1,fun j hj=>(yv'.2 j hj).mono (fun _ _ h=>h) (fun b o hi=>⟨hi,rfl⟩)⟩
   have fL:∀{p:Option Addr} {sl sc:Nat} {r:Value} {w':World},a.eval x=.slice p sl sc->(Builtin.append_ #[t,t2] o.type #[.slice p sl sc,a.eval y]).run P w=.ok r w'->(execOp a.eval o).run P w=.ok (.value r) w':=by intro p sl sc r w' eF hr;simp[execOp,ho,resolve,hc,ha,Pf,invoke,builtin,eF,hr]
   have Zo:ys=[]->∀{p:Option Addr} {sl sc:Nat},a.eval x=.slice p sl sc->sl<=sc->(execOp a.eval o).run P w=.ok (.value (.slice p sl sc)) w:=by intro jv p sl sc eF hle;subst jv;have MQ:EB=[]:=(by have :=yv.1;simpa using this);subst MQ;refine fL eF ?_;have :=pJ (P:=P) (ty:=o.type) (base:=p) (sLen:=sl) (sCap:=sc) ht kZ h2 hd TV aHy (by simpa using hle);rw[this];cases p<;>rfl
   have Qr:∀(mu:Bool) {p:Option Addr} {sl sc:Nat} {aY:List (List AV)} {os:List Value} {G0:Gh} {H0:aA},WR g G0 H0 w->Ext G H w G0 H0 w->a.eval x=.slice p sl sc->aY.length=sl->(∀e∈aY,e.length=sz)->(∀c∈aY.flatten,c.one=true)->
    iK G0 w aY.flatten os->(Builtin.firstCells sz sl (.slice p sl sc)).run P {w with drawn:=w.drawn+1}=.ok os.toArray {w with drawn:=w.drawn+1}->¬sl+ys.length<=sc->(sl+ys.length)*i.bytes<=2^40->
    ∃n u w' G',(execOp a.eval o).run P w=.ok n w'/\QF n u/\WR g G' (kL H0 mu sz (aY++ys)).2 w'/\Ext G H w G' (kL H0 mu sz (aY++ys)).2 w'/\VR G' w' (kL H0 mu sz (aY++ys)).1 u:=by
    intro mu p sl sc aY os G0 H0 hw0 he0 eF hl hu h1 hv hf eW EY;obtain⟨cap,rest,c1,c2,hr⟩:=run_append_grow (P:=P) (ty:=o.type) ht kZ h2 hd hi eC hz CE TV hf bIk eW EY;have bGe:iK G0 w ys.flatten aHz:=yvw.ext he0
    obtain⟨G',r1,r2,r3⟩:=Xt hw0 mu (sz:=sz) (aY:=aY++ys) (vs:=os++aHz) (rest:=rest) (e:=elem) (cap:=cap)
     (fun e he=>(Ap.1 he).elim (hu e) (yu e)) (fun c hc=>by rw[Fm] at hc;exact(Ap.1 hc).elim (h1 c) (y1 c)) (by rw[Fm];exact hv.append bGe)
     (by simp[hl];exact c1) (by simp[hl];exact c2)
    refine⟨_,_,_,G',fL eF hr,.inl rfl,r1,he0.trans r2,?_⟩;have hlen:(aY++ys).length=sl+ys.length:=(by simp[hl]);rw[hlen] at r3;exact r3
   unfold eB at h;split at h
   . rename_i aRq;have jv:ys=[]:=by simpa using aRq
     have fin:∀{p:Option Addr} {sl sc:Nat} {va:AV},a.eval x=.slice p sl sc->sl<=sc->VR G w va (.slice p sl sc)->
      ∃n u w' G',(execOp a.eval o).run P w=.ok n w'/\QF n u/\WR g G' H w'/\Ext G H w G' H w'/\VR G' w' va u:=
      fun eF hle hva=>cN.pure' hw (Zo jv eF hle) hva
     have vx0:=vx;split at h
     . rename_i dB;simp only[Ae,Ai] at h;obtain⟨rfl,rfl⟩:=h;rw[dB] at vx;generalize eF:a.eval x=u at vx vx0;cases vx;exact fin eF (Ab _) vx0
     . rename_i dB;simp only[Ae,Ai] at h;obtain⟨rfl,rfl⟩:=h;rw[dB] at vx;generalize eF:a.eval x=u at vx vx0
       cases vx with
       |bB _ _ _ _ _ _ _ _ _ _ rP=>exact fin eF rP.1 vx0
       |vK=>exact fin eF (Ab _) vx0
     . rename_i dB;simp only[Ae,Ai] at h;obtain⟨rfl,rfl⟩:=h;rw[dB] at vx;generalize eF:a.eval x=u at vx vx0
       cases vx with
       |sl _ _ _ _ _ _ _ _ hlen _ pL=>exact fin eF (by omega) vx0
     cases h
   rename_i aRq
   have bIp:1<=ys.length:=by
    cases ys with
    |nil=>simp at aRq
    |cons _ _=>simp
   split at h
   . rename_i dB;rw[dB] at vx;generalize eF:a.eval x=u at vx;cases vx;split at h
     . rename_i EY;simp only[Ae] at h;have :=Qr mu (aY:=[]) (os:=[]) hw (Ext.refl G H w) eF rfl (fun e he=>by cases he) (fun c hc=>by simp at hc) (iK.nil G w) (by simp[Builtin.firstCells]) (by omega) (by simpa using EY);simp only[Dc] at this;rw[h] at this;exact this
     cases h
   . rename_i tag eP aY dB;rw[dB] at vx;split at h
     . rename_i hc;obtain⟨rfl,EY⟩:=hc;generalize eF:a.eval x=u at vx;obtain⟨eu,e1,_,KB,ev',ef'⟩:=oK P hw.drew (sz:=eP) (x:=.bB tag eP aY) (ys:=aY) (by simp[cL]) vx.drew;have evw:iK G w aY.flatten KB:=⟨ev'.1,fun j hj=>(ev'.2 j hj).mono (fun _ _ h=>h) (fun b o hi=>⟨hi,rfl⟩)⟩;have efl:=length_flatten eu
       have ef1:∀{q:Value},q=u->(Builtin.firstCells eP aY.length q).run P {w with drawn:=w.drawn+1}=.ok KB.toArray {w with drawn:=w.drawn+1}:=fun hq=>by rw[hq,ef' aY.length (Ab _),ye (by rw[ev'.1,efl])]
       cases vx with
       |vK _ _ b o' s' rP=>
        match tag,h,rP with
        |0,h,_=>cases h
        |1,h,_=>simp only[Ae] at h;have :=Qr mu (aY:=[]) (os:=KB) hw (Ext.refl G H w) eF rfl eu e1 evw (ef1 rfl) (by omega) EY;rw[h] at this;exact this
       |bB _ _ _ b o' cap us GG hh hv rP=>
        match tag,h,rP with
        |0,h,_=>cases h
        |1,h,rP=>simp only[Ae] at h;have Zd:cap=aY.length:=rP.2;have :=Qr mu (aY:=aY) (os:=KB) hw (Ext.refl G H w) eF rfl eu e1 evw (ef1 rfl) (by omega) EY;rw[h] at this;exact this
        |k+2,h,rP=>
         obtain⟨l,t1,pr,t3,t4,t5⟩:=rP.2;have hle:=rP.1;simp only at h;split at h
         . rename_i Zi;simp only[Ae,Ai] at h;obtain⟨rfl,rfl⟩:=h;have lD:H.live k:=⟨_,Zi,rfl⟩;have hk:=hw.kill k;have WI:=(Ext.refl G H w).kill k;by_cases wM:aY.length+ys.length<=cap
           ·
            obtain⟨ca,el,fz,q1,q2,q3⟩:=hw.room k l t1 (.inr Zi)
            have yZ:ys.length*eP+(cap -aY.length -ys.length)*eP=l.ext:=by rw[t5,<-Cr];congr 1;omega
            have yvl:EB.length=ys.length*eP:=(by rw[yv.1,yfl]);have FK:∀j,j<EB.length->j<l.ext:=fun j hj=>by omega
            obtain⟨w',hr,hu⟩:=fB P b (o'+aY.length*eP) EB 0 w ⟨ca,el,fz,by rw[<-pr];exact q1,by omega⟩
             (fun j hj=>by rw[Cy,<-t3,<-pr];exact q3 j (FK j hj)) (oQ yv y1)
            rw[Cy] at hu
            have pF:∀j,j<EB.length->¬G.gZ b (o'+aY.length*eP+j):=fun j hj=>by rw[<-t3,<-pr];exact hw.jZ k l t1 lD j (FK j hj)
            have tP:∀id l',G.loc id=some l'->(H.set k .dead).live id->l.cZ≠l'.cZ\/l.base+l.ext<=l'.base\/l'.base+l'.ext<=l.base:=fun id l' oU mT=>by
             rcases aA.kQ.1 mT with ⟨_,hh⟩|⟨cP,mT⟩
             . cases hh
             exact hw.kM k id l l' (Ne.symm cP) t1 oU lD mT
            have Qx:=hk.write hu pF (fun id l' oU mT=>by
             rcases tP id l' oU mT with sF|sF|sF
             . exact .inl (by rw[<-pr];exact Ne.symm sF)
             . exact .inr (.inr (by omega))
             exact .inr (.inl (by omega))) ⟨ca,el,fz,by rw[<-pr];exact q1⟩
            have hblk:w.heap.size<=b\/∃eV l0,G.loc eV=some l0/\H.live eV/\l0.cZ=b:=.inr ⟨k,l,t1,lD,pr⟩;have TY:=WI.write hu pF hw.iX hblk;obtain⟨ca',u1,u2,u3,u4⟩:=hu.row ca el fz (by rw[<-pr];exact q1)
            have Zn:∀j,j<EB.length->w'.cell? ⟨b,o'+aY.length*eP+j,none⟩=some (EB.getD j undef):=fun j hj=>by rw[lM u1];exact u4 j hj (by have :=FK j hj;omega)
            have CD:=Qx.nM b (o'+aY.length*eP) EB.length (fun j hj=>⟨_,Zn j hj⟩) (fun id l' oU mT=>by
             rcases tP id l' oU mT with sF|sF|sF
             . exact .inl (by rw[<-pr];exact Ne.symm sF)
             . exact .inr (.inr (by omega))
             exact .inr (.inl (by omega)))
            have XU:=TY.nM b (o'+aY.length*eP) EB.length hblk;have jo:=XU.Mw .tok ⟨b,o'+aY.length*eP+EB.length,0,l.ext -EB.length⟩ CD.lt hblk
            have MP:=CD.Mw .tok ⟨b,o'+aY.length*eP+EB.length,0,l.ext -EB.length⟩ (fun id l' oU mT=>by
             rcases tP id l' oU mT with sF|sF|sF
             . exact .inl (by rw[<-pr];exact sF)
             . exact .inr (.inl (by simp only;omega))
             . exact .inr (.inr (by simp only;omega))) (fun j hj hi=>by
             simp only at hj hi
             rcases hi with hi|⟨_,_,hi⟩
             . have :=hw.jZ k l t1 lD (EB.length+j) (by omega);rw[pr,t3,<-Br] at this;exact this hi
             . omega) (fun Lo zm xS=>by cases xS) (fun _=>⟨ca',el,fz,u1,by simp only;omega,fun j hj=>by
             simp only at hj ⊢;rw[hu.frozen (by rw[<-pr];exact q1)];have :=q3 (EB.length+j) (by omega);rw[pr,t3,<-Br] at this
             exact this⟩) (fun xS=>by cases xS)
            refine⟨.value (.slice (some ⟨b,o',none⟩) (aY.length+ys.length) cap),.slice (some ⟨b,o',none⟩) (aY.length+ys.length) cap,w',_,fL eF ?_,.inl rfl,MP,jo,?_⟩
            . have :=pJ (P:=P) (ty:=o.type) (base:=some ⟨b,o',none⟩) (sLen:=aY.length) (sCap:=cap) ht kZ h2 hd TV aHy wM;rw[this];simp only[jS,hr,Result.andThen_ok]
            have hlen:(aY++ys).length=aY.length+ys.length:=(by simp);rw[<-hlen]
            have hga:∀j,(aY.flatten++ys.flatten).getD j aC=if j<aY.flatten.length then aY.flatten.getD j aC else ys.flatten.getD (j -aY.flatten.length) aC:=fun j=>by rw[getD_eq,Du];split<;>rfl
            refine VR.bB (H.next+2) eP (aY++ys) b o' cap (fun j=>if j<aY.flatten.length then us j else EB.getD (j -aY.flatten.length) undef)
             (fun e he=>(Ap.1 he).elim (eu e) (yu e)) (fun j hj=>?_) (fun j hj=>?_) ⟨by simp;exact wM,?_⟩
            . rw[Fm] at hj ⊢;rw[hga];by_cases KM:j<aY.flatten.length
              . rw[if_pos KM,if_pos KM];have :=hh j KM;refine⟨(jo.gZ _ _ this.1).1,by rw[(jo.gZ _ _ this.1).2];exact this.2.1,this.2.2⟩
              rw[if_neg KM,if_neg KM];simp only[Ba] at hj;have MM:j -aY.flatten.length<EB.length:=(by rw[yv.1];omega);have Lr:o'+j=o'+aY.length*eP+(j -aY.flatten.length):=(by rw[efl] at KM ⊢;omega);refine⟨.inr ⟨rfl,by omega,by omega⟩,by rw[Lr];exact Zn _ MM,?_⟩;exact y1 _ (II (by rw[<-yv.1];exact MM))
            . rw[Fm] at hj ⊢;rw[hga];by_cases KM:j<aY.flatten.length
              . rw[if_pos KM,if_pos KM];exact(hv j KM).ext jo
              rw[if_neg KM,if_neg KM];simp only[Ba] at hj;exact(yv.2 (j -aY.flatten.length) (by omega)).ext jo
            refine⟨⟨b,o'+aY.length*eP+EB.length,0,l.ext -EB.length⟩,by simp only[Gh.dX,aA.bC,if_true],rfl,?_,rfl,?_⟩
            . simp only[hlen,Cr];omega
            simp only[hlen];rw[yvl,<-yZ,Nat.add_sub_cancel_left];congr 1;omega
           exact Qr false (aY:=aY) (os:=KB) hk WI eF rfl eu e1 evw (ef1 rfl) wM EY
         cases h
     cases h
   . rename_i id eP off len cap dB;rw[dB] at vx;split at h
     . rename_i hc;obtain⟨rfl,EY,aSg⟩:=hc;split at h
       . rename_i cs eM hg;generalize eF:a.eval x=u at vx
         cases vx with
         |sl _ _ _ _ _ jV l hl hlen gR pL=>
          obtain⟨a1,a2,a3,a4,a5⟩:=hw.cells id l cs eM hl hg;obtain⟨ca,el,fz,b1,b2,b3⟩:=hw.room id l hl (.inl ⟨cs,eM,hg⟩);split at h
          . rename_i wM;split at h
            . rename_i bIt;simp only[Ae,Ai] at h;obtain⟨rfl,rfl⟩:=h;have yvl:EB.length=ys.length*eP:=(by rw[yv.1,yfl]);have hm1:len*eP+ys.length*eP<=cap*eP:=by rw[<-Cr];exact Cz _ wM
              obtain⟨w',hr,hu⟩:=fB P l.cZ (l.base+off+len*eP) EB 0 w ⟨ca,el,fz,b1,by omega⟩
               (fun j hj=>by rw[Cy,Br,Br];exact b3 (off+(len*eP+j)) (by omega)) (oQ yv y1)
              rw[Cy,Br] at hu;obtain⟨r1,r2⟩:=hw.store hl hg yv y1 (by rw[yfl];omega) hu;refine⟨.value (.slice (some ⟨l.cZ,l.base+off,none⟩) (len+ys.length) jV),.slice (some ⟨l.cZ,l.base+off,none⟩) (len+ys.length) jV,w',G,fL eF ?_,.inl rfl,r1,r2,VR.sl id eP off (len+ys.length) cap jV l hl wM gR pL⟩;have :=pJ (P:=P) (ty:=o.type) (base:=some ⟨l.cZ,l.base+off,none⟩) (sLen:=len) (sCap:=jV) ht kZ h2 hd TV aHy (by omega);rw[this];simp only[jS,hr,Result.andThen_ok]
            cases h
          rename_i wM;split at h
          . rename_i AM;obtain⟨c1,c2⟩:=AM
            have aRr:jV=cap:=by
             rcases pL with pL|⟨p1,p2,p3⟩
             . exact pL
             rcases c2 with c2|c2
             . have :=a3 c2;have hms:jV*eP=cap*eP:=(by omega);exact Nat.eq_of_mul_eq_mul_right aSg hms
             omega
            subst aRr
            obtain⟨eu,e1,_,KB,ev',ef'⟩:=oK P hw.drew (sz:=eP) (x:=.sl id eP off len jV) (ys:=fM eP len (cs.drop off)) (by
             have hca:H.eY id=some cs:=by simp[aA.eY,hg]
             simp[cL,hca,c1]) (VR.sl id eP off len jV jV l hl hlen gR pL:VR G w _ _).drew
            have evw:iK G w (fM eP len (cs.drop off)).flatten KB:=⟨ev'.1,fun j hj=>(ev'.2 j hj).mono (fun _ _ h=>h) (fun b o hi=>⟨hi,rfl⟩)⟩;obtain⟨f1,f2,f3⟩:=iE eP len (cs.drop off) Zai;have efl:=length_flatten eu
            have ef1:(Builtin.firstCells eP len (.slice (some ⟨l.cZ,l.base+off,none⟩) len jV)).run P {w with drawn:=w.drawn+1}=.ok KB.toArray {w with drawn:=w.drawn+1}:=by rw[ef' len (by omega),ye (by rw[ev'.1,efl,f2])]
            simp only[Ae] at h;have :=Qr mu (aY:=fM eP len (cs.drop off)) (os:=KB) hw (Ext.refl G H w) eF f2 eu e1 evw ef1 (by omega) EY;rw[h] at this;exact this
          split at h
          . rename_i hc3;obtain⟨hmu,bFj,Ph,MI⟩:=hc3;subst hmu bFj Ph;simp only[Ae,Ai] at h;obtain⟨rfl,rfl⟩:=h
            obtain⟨eu,e1,_,KB,ev',ef'⟩:=oK P hw.drew (sz:=eP) (x:=.sl id eP 0 len len) (ys:=fM eP len (cs.drop 0)) (by
             have hca:H.eY id=some cs:=by simp[aA.eY,hg]
             simp[cL,hca,MI]) (VR.sl id eP 0 len len jV l hl hlen gR pL:VR G w _ _).drew
            have evw:iK G w (fM eP len (cs.drop 0)).flatten KB:=⟨ev'.1,fun j hj=>(ev'.2 j hj).mono (fun _ _ h=>h) (fun b o hi=>⟨hi,rfl⟩)⟩;obtain⟨f1,f2,f3⟩:=iE eP len (cs.drop 0) Zai;have efl:=length_flatten eu
            have ef1:(Builtin.firstCells eP len (.slice (some ⟨l.cZ,l.base+0,none⟩) len jV)).run P {w with drawn:=w.drawn+1}=.ok KB.toArray {w with drawn:=w.drawn+1}:=by rw[ef' len (by omega),ye (by rw[ev'.1,efl,f2])]
            have fcs:(fM eP len (cs.drop 0)).flatten=cs:=(by rw[f1,El,As (by omega)]);have lD:H.live id:=⟨_,hg,rfl⟩;have hk:=hw.kill id;have WI:=(Ext.refl G H w).kill id;by_cases SX:len+ys.length<=jV
            ·
             have aUu:len*eP=l.Tf/\len<=jV/\jV*eP=l.ext:=by
              rcases pL with hh|⟨p1,p2,p3⟩
              . omega
              exact⟨by omega,p2,by omega⟩
             obtain⟨g1,g2,g3⟩:=aUu;have yvl:EB.length=ys.length*eP:=(by rw[yv.1,yfl]);have hm1:len*eP+ys.length*eP<=jV*eP:=by rw[<-Cr];exact Cz _ SX
             obtain⟨w',hr,hu⟩:=fB P l.cZ (l.base+0+len*eP) EB 0 w ⟨ca,el,fz,b1,by omega⟩
              (fun j hj=>by rw[Cy,Cy,Br];exact b3 (len*eP+j) (by omega)) (oQ yv y1)
             rw[Cy,Cy] at hu
             have pF:∀j,j<EB.length->¬G.gZ l.cZ (l.base+len*eP+j):=fun j hj=>by rw[Br];exact hw.jZ id l hl lD _ (by omega)
             have tP:∀kP l',G.loc kP=some l'->(H.set id .dead).live kP->l.cZ≠l'.cZ\/l.base+l.ext<=l'.base\/l'.base+l'.ext<=l.base:=fun kP l' oU mT=>by
              rcases aA.kQ.1 mT with ⟨_,hh⟩|⟨cP,mT⟩
              . cases hh
              exact hw.kM id kP l l' (Ne.symm cP) hl oU lD mT
             have Qx:=hk.write hu pF (fun kP l' oU mT=>by
              rcases tP kP l' oU mT with sF|sF|sF
              . exact .inl (Ne.symm sF)
              . exact .inr (.inr (by omega))
              exact .inr (.inl (by omega))) ⟨ca,el,fz,b1⟩
             have hblk:w.heap.size<=l.cZ\/∃eV l0,G.loc eV=some l0/\H.live eV/\l0.cZ=l.cZ:=.inr ⟨id,l,hl,lD,rfl⟩;have TY:=WI.write hu pF hw.iX hblk;obtain⟨ca',u1,u2,u3,u4⟩:=hu.row ca el fz b1
             have Zn:∀j,j<EB.length->w'.cell? ⟨l.cZ,l.base+len*eP+j,none⟩=some (EB.getD j undef):=fun j hj=>by rw[lM u1];exact u4 j hj (by omega)
             have FF:(cs++ys.flatten).length=(len+ys.length)*eP:=by rw[Ba,MI,yfl,Cr]
             have hga:∀j,(cs++ys.flatten).getD j aC=if j<cs.length then cs.getD j aC else ys.flatten.getD (j -cs.length) aC:=fun j=>by rw[getD_eq,Du];split<;>rfl
             have jo:=TY.Mw (.cells (cs++ys.flatten) true) ⟨l.cZ,l.base,(cs++ys.flatten).length,l.ext⟩ Qx.lt hblk
             have MP:=Qx.Mw (.cells (cs++ys.flatten) true) ⟨l.cZ,l.base,(cs++ys.flatten).length,l.ext⟩ tP
              (fun j hj hi=>hw.jZ id l hl lD j hj hi)
              (fun Lo zm xS=>by
                simp only[fC.cells.injEq] at xS;obtain⟨rfl,rfl⟩:=xS;refine⟨rfl,(by simp only;rw[FF,Cr];omega),(fun hh=>(by cases hh)),fun c hc=>(Ap.1 hc).elim (a4 c) (y1 c),fun j hj=>?_⟩;rw[hga];by_cases KM:j<cs.length
                . rw[if_pos KM];obtain⟨u,v1,v2⟩:=a5 j KM;exact⟨u,(show w'.cell? ⟨l.cZ,l.base+j,none⟩=some u from hu.cell (.inr (.inl (by omega))) v1),v2.ext TY⟩
                rw[if_neg KM];simp only[Ba] at hj;have MM:j -cs.length<EB.length:=(by rw[yv.1];omega);have Lr:l.base+j=l.base+len*eP+(j -cs.length):=(by omega);refine⟨_,(show w'.cell? ⟨l.cZ,l.base+j,none⟩=_ from ?_),(yv.2 (j -cs.length) (by omega)).ext TY⟩;rw[Lr]
                exact Zn _ MM)
              (fun _=>⟨ca',el,fz,u1,by simp only;omega,fun j hj=>by
                simp only at hj ⊢;rw[hu.frozen b1]
                exact b3 j hj⟩) (fun xS=>by cases xS)
             refine⟨.value (.slice (some ⟨l.cZ,l.base+0,none⟩) (len+ys.length) jV),.slice (some ⟨l.cZ,l.base+0,none⟩) (len+ys.length) jV,w',_,fL eF ?_,.inl rfl,MP,jo,?_⟩
             . have :=pJ (P:=P) (ty:=o.type) (base:=some ⟨l.cZ,l.base+0,none⟩) (sLen:=len) (sCap:=jV) ht kZ h2 hd TV aHy SX;rw[this];simp only[jS,hr,Result.andThen_ok]
             exact VR.sl H.next eP 0 (len+ys.length) (len+ys.length) jV ⟨l.cZ,l.base,(cs++ys.flatten).length,l.ext⟩ (by simp only[Gh.dX,aA.bC,if_true]) (Ab _)
              (by simp only;rw[FF];omega) (.inr ⟨by simp only;rw[FF];omega,SX,by simp only;omega⟩)
            have hn:=Qr true (aY:=fM eP len (cs.drop 0)) (os:=KB) hk WI eF f2 eu e1 evw ef1 SX EY
            have e0:kL (H.set id .dead) true eP (fM eP len (cs.drop 0)++ys)=(.sl H.next eP 0 (len+ys.length) (len+ys.length),(H.set id .dead).alloc (.cells (cs++ys.flatten) true)):=by simp only[kL,if_true,Ba,f2,Fm,fcs,aA.bC]
            rw[e0] at hn;exact hn
          cases h
       cases h
     cases h
   cases h
 cases h
end
end
section
theorem pE (zs:List AV):∀(n k:Nat),k<n*zs.length->(List.replicate n zs).flatten.getD k aC=zs.getD (k%zs.length) aC
 |0,k,h=>by simp at h
 |n+1,k,h=>by
  rw[Fk,Bp,getD_eq,Du];rw[Ea] at h;by_cases hk:k<zs.length
  . rw[if_pos hk,Dl hk];rfl
  rw[if_neg hk];have :=pE zs n (k -zs.length) (by omega);rw[getD_eq] at this;rw[this,<-Nat.mod_eq_sub_mod (by omega)]
theorem Ri {G:Gh} {w:World} {zs:List AV} {z:Array Value} (h:iK G w zs z.toList) (Lr:1<=zs.length) (n m:Nat) (hm:m=n*zs.length):
 iK G w (List.replicate n zs).flatten ((Array.range m).map fun i=>z[i%z.size]!).toList:=by
 have hl:=h.1;simp only[Cu] at hl;refine⟨by simp[hm],fun k hk=>?_⟩;have rN:k<n*zs.length:=by simpa using hk
 rw[pE zs n k rN,iG];have hkm:k<m:=by omega
 have bFb:k%zs.length<zs.length:=Di _ Lr;have :=h.2 (k%zs.length) bFb;rw[iG] at this
 have e:((Array.range m).map fun i=>z[i%z.size]!)[k]?=some (z[k%z.size]!):=by simp[hkm]
 rw[e]
 have e2:z[k%z.size]! =(z[k%zs.length]?).getD undef:=by
  rw[hl];have :k%zs.length<z.size:=by omega
  simp[getElem!_pos,this]
 simp only[Bi];rw[e2];exact this
section
variable {P:Program} {g:bG} {o:Oper}
theorem DV {zs:List AV} (h1:∀c∈zs,c.one=true) (n:Nat):∀c∈(List.replicate n zs).flatten,c.one=true:=fun c hc=>by simp only[Ih,List.mem_replicate] at hc;obtain⟨l,⟨_,rfl⟩,hc⟩:=hc;exact h1 c hc
theorem WB (n:Nat) (h:n<=2^40):IntKind.i64.wrap (n:Int)=(n:Int):=by
 have hs:IntKind.i64.signed=true:=rfl;have hb:IntKind.i64.bits=64:=rfl;unfold IntKind.wrap;simp only[hs,hb,Co];have e:((n:Int)%2^64)=n:=by omega
 rw[e];have :¬((n:Int)≥2^(64 -1)):=by omega
 rw[Ag this];rfl
theorem LI {t e:TypeId} {sz:Nat} {i:TypeInfo} {z:Value} {zs:List AV} {x y:Operand} {x' y':Arg} (ho:o.op=.makeSlice t x y) (hx:bN g x=some x') (hy:bN g y=some y') (ht:nA P t=some (e,sz))
 (hi:P.info? e=some i) (hz:lH P e=some z) (CE:jO z.cells.toList=some zs) (Lr:1<=sz) (eC:1<=i.bytes):DG P g o (.jQ sz i.bytes zs x' y'):=by
 intro s a G H H' w ob val eV hw hs h dB cW AN fF;have vx:=bM hw hs hx;have vy:=bM hw hs hy;obtain⟨hu,kZ⟩:=kF ht;simp only[xQ] at h;split at h
 . rename_i l c hl hc;obtain⟨k1,e1,f1⟩:=tD hl vx;obtain⟨k2,e2,f2⟩:=tD hc vy;split at h
   . rename_i eU;obtain⟨c1,c2,c3⟩:=eU;simp only[Ae,Ai] at h;obtain⟨rfl,rfl⟩:=h;have jn:=lO CE G w
     have bEc:c<=2^40:=by have :1*c<=i.bytes*c:=Cz _ eC;omega
     have w1:=WB l (by omega);have w2:=WB c bEc;have aSh:z.cells.size=zs.length:=(by simpa using jn.1.1);have aVm:1<=zs.length:=(by omega);have xo:=Ri jn.1 aVm c (c*sz) (by rw[c3]);have hp:iP w {w with heap:=w.heap.push (.cells ((Array.range (c*sz)).map fun i=>z.cells[i%z.cells.size]!) e)} (.cells (((Array.range (c*sz)).map fun i=>z.cells[i%z.cells.size]!).toList++[]).toArray e (0,0)):=⟨by rw[Ch,Array.toArray_toList],.now⟩;have hm:=hw.wX eV dB _ _ [] xo (DV jn.2 c) false (fun _=>rfl) cW AN fF (Clear.zero _) hp;refine⟨.slice (some ⟨w.heap.size,0,none⟩) l c,_,_,?_,hm,?_⟩
     . have t1:(decide ((c:Int)<0)||decide ((i.bytes:Int)*(c:Int)>2^48))=false:=by
        have :(i.bytes:Int)*(c:Int)<=2^40:=(by exact_mod_cast c2);simp;omega
       have t2:¬((l:Int)<0):=(by omega);have t3:¬((l:Int)>(c:Int)):=(by omega);simp only[execOp,ho,Instr.makeSlice,Sem.run_bind,run_underlying hu w,Result.andThen_ok,f1,f2,asInt,asIntOf,Sem.run_pure,vQ hi w,w1,w2,t1,Ag t2,Ag t3,Ki,Bb,Bq,run_askRoom,Dr,eI kZ w];by_cases h0:c*sz=0
       . have hA:∀f:Nat->Value,(Array.range 0).map f= #[]:=fun f=>by simp
         simp only[h0,if_true,Sem.run_bind,Sem.run_pure,Result.andThen_ok,hA];rfl
       simp only[h0,Bq,Sem.run_bind,kV hz w,Sem.run_pure,Result.andThen_ok];rfl
     have hlen:(List.replicate c zs).flatten.length=c*sz:=(by simp[c3]);refine VR.sl eV sz 0 l c c ⟨w.heap.size,0,(List.replicate c zs).flatten.length,(((Array.range (c*sz)).map fun i=>z.cells[i%z.cells.size]!).toList++[]).length⟩ (by simp only[Gh.dX,if_true]) c1 (by simp only[hlen];omega) (.inl rfl)
   cases h
 cases h
theorem Xw {t e:TypeId} {sz:Nat} {i:TypeInfo} {z:Value} {zs:List AV} {x y:Operand} {x' y':Arg} (ho:o.op=.makeSlice t x y) (hx:bN g x=some x') (hy:bN g y=some y') (ht:nA P t=some (e,sz))
 (hi:P.info? e=some i) (hz:lH P e=some z) (CE:jO z.cells.toList=some zs) (Lr:1<=sz) (eC:1<=i.bytes):cN P g o (.jQ sz i.bytes zs x' y'):=
 (LI ho hx hy ht hi hz CE Lr eC).op fun _ _=>rfl
theorem yd:∀{l:List (Nat×Operand)} {k:Nat} {ys:List Arg},ID g k l=some ys->ys.length=l.length:=by
 intro l
 induction l with
 |nil=>intro k ys h;obtain rfl:=Aa h;rfl
 |cons p r ih=>
  intro k ys h;obtain⟨i,x⟩:=p;simp only[ID] at h;split at h
  . split at h
    . rename_i y ys' _ h';obtain rfl:=Aa h;simp[ih h']
    cases h
  cases h
def TI (mu:Bool) (sz:Nat) (ys:List Arg):Bool:=mu&&Nat.beq sz 1&&(match ys with|[.const (.str [])]=>true|_=>false)
theorem Nc {mu:Bool} {t e:TypeId} {sz len:Nat} {z:Value} {parts:Array (Nat×Operand)} {ys:List Arg} (ho:o.op=.buildSlice t len parts) (ht:nA P t=some (e,sz)) (hz:lH P e=some z)
 (hlen:len=parts.size) (EY:len*sz<=2^24) (hp:ID g 0 parts.toList=some ys) (hr:TI mu sz ys=true):DG P g o (.jQ 1 1 [.str []] (.const (.int .i64 1)) (.const (.int .i64 1))):=by
 intro s a G H H' w ob val eV hw hs h dB cW AN fF;obtain⟨hu,kZ⟩:=kF ht;simp only[TI,Al] at hr;obtain⟨⟨_,aSg⟩,MR⟩:=hr;obtain rfl:sz=1:=Be aSg
 have MR:ys=[.const (.str [])]:=by
  split at MR
  . rfl
  cases MR
 subst MR;have Ur:parts.size=1:=by have :=yd hp;simpa using this.symm
 obtain rfl:len=1:=by omega
 have fL:ob=.cells [.str []] false/\val=fun id=>.sl id 1 0 1 1:=by
  have e:xQ (Arg.eval g s) (.jQ 1 1 [.str []] (.const (.int .i64 1)) (.const (.int .i64 1)))=some (.cells [.str []] false,fun id=>.sl id 1 0 1 1):=by simp[xQ,Arg.eval,asNat]
  rw[e] at h;simp only[Ae,Ai] at h;exact⟨h.1.symm,h.2.symm⟩
 obtain⟨rfl,rfl⟩:=fL;obtain⟨iQ,hf,hv,h1⟩:=NY hw hs 1 parts.toList [.const (.str [])] 0 [[.str []]] [] ((Array.range (1*1)).map (z.cells[· %z.cells.size]!)) hp rfl (by simp) (by simp[Ur]) (fun j hj=>by simp at hj) (fun c hc=>by cases hc);have hp':iP w {w with heap:=w.heap.push (.cells iQ e)} (.cells (iQ.toList++[]).toArray e (0,0)):=⟨by simp,.now⟩;have hm:=hw.wX eV dB [.str []] iQ.toList [] hv h1 false (fun _=>rfl) cW AN fF (Clear.zero _) hp';refine⟨.slice (some ⟨w.heap.size,0,none⟩) 1 1,_,_,?_,hm,?_⟩
 . simp only[execOp,ho,Instr.buildSlice,Sem.run_bind,run_underlying hu w,eI kZ w,Result.andThen_ok,if_neg (show ¬1*1>2^24 by omega),if_neg (show ¬1*1=0 by omega),kV hz w,Sem.run_pure,Ij,hf];rfl
 exact VR.sl eV 1 0 1 1 1 ⟨w.heap.size,0,1,(iQ.toList++[]).length⟩ (by simp only[Gh.dX,if_true];rfl) (Ab _) (by simp) (.inl rfl)
theorem kg {mu:Bool} {t e:TypeId} {sz len:Nat} {z:Value} {parts:Array (Nat×Operand)} {ys:List Arg} (ho:o.op=.buildSlice t len parts) (ht:nA P t=some (e,sz)) (hz:lH P e=some z)
 (hlen:len=parts.size) (EY:len*sz<=2^24) (hp:ID g 0 parts.toList=some ys) (hr:TI mu sz ys=true):cN P g o (.jQ 1 1 [.str []] (.const (.int .i64 1)) (.const (.int .i64 1))):=
 (Nc ho ht hz hlen EY hp hr).op fun _ _=>rfl
theorem aFu {c:Call} {x y:Operand} {x' y':Arg} {t elem:TypeId} {sz:Nat} (ho:o.op=.call c) (hc:c.callee=.builtin .copy) (ha:c.args= #[x,y])
 (hx:bN g x=some x') (hy:bN g y=some y') (Pf:c.argTypes[0]?=some t) (ht:P.underlying t=some (.slice elem)) (kZ:kB P elem=some sz):cN P g o (.copy sz x' y'):=by
 intro s a G H w v H' hw hs h;have vx:=bM hw hs hx;have vy:=bM hw hs hy;simp only[dA] at h
 have fL:∀{p:Option Addr} {dl dc:Nat} {n:Nat} {vs:List Value},a.eval x=.slice p dl dc->(Builtin.lenOf (a.eval y)).run P w=.ok n w->(Builtin.firstCells sz (Nat.min n dl) (a.eval y)).run P w=.ok vs.toArray w->
  ∀{w':World},((match p with|some q=>storeCells q vs|none=>pure ():Sem Unit).run P w=.ok () w')->(execOp a.eval o).run P w=.ok (.value (.int .i64 (Nat.min n dl:Nat))) w':=by
  intro p dl dc n vs eF hl hf w' hr;simp only[execOp,ho,resolve,hc,ha,List.map_toArray,Cd,Fp,eF,Sem.run_bind,Sem.run_pure,Result.andThen_ok,invoke,builtin,Builtin.copy_,Pf,Dy,Gj,Gk,run_underlying ht w,hl,eI kZ w,hf]
  cases p with
  |none=>simp at hr;subst hr;simp[goInt]
  |some q=>simp only at hr;simp[hr,goInt]
 split at h
 . rename_i ys MR dB;rw[dB] at vx;generalize eF:a.eval x=u at vx;cases vx;simp only[Ae,Ai] at h;obtain⟨rfl,rfl⟩:=h;obtain⟨yu,y1,TV,EB,yv,yf⟩:=oK P hw MR vy
   have :=fL eF TV (vs:=[]) (by
    have :=yf 0 (Az _);rw[show Nat.min ys.length 0=0 from Nat.min_zero _]
    simpa using this) (w':=w) rfl
   exact cN.pure' hw this (.int _ _)
 . rename_i ys id eP off len cap MR dB;rw[dB] at vx;obtain⟨yu,y1,TV,EB,yv,yf⟩:=oK P hw MR vy;split at h
   . rename_i xl;subst xl;split at h
     . rename_i cs eM hg;split at h
       . rename_i gR;simp only[Ae,Ai] at h;obtain⟨rfl,rfl⟩:=h;generalize eF:a.eval x=u at vx
         cases vx with
         |sl _ _ _ _ _ jV l hl hlen bEs pL=>
          obtain⟨a1,a2,a3,a4,a5⟩:=hw.cells id l cs eM hl hg;obtain⟨ca,el,fz,b1,b2,b3⟩:=hw.room id l hl (.inl ⟨cs,eM,hg⟩);have yfl:=length_flatten yu;have hmn:min ys.length len<=ys.length:=Nat.min_le_left _ _;have hmul:min ys.length len*eP<=ys.length*eP:=Cz _ hmn;have hyl:=yv.1;have hft:(ys.take (min ys.length len)).flatten=ys.flatten.take (min ys.length len*eP):=HG yu _;have yvt:=yv.take (min ys.length len*eP);rw[<-hft] at yvt;have Lu:(EB.take (min ys.length len*eP)).length=min ys.length len*eP:=by simp;omega
          obtain⟨w',hr,hu⟩:=fB P l.cZ (l.base+off) (EB.take (min ys.length len*eP)) 0 w ⟨ca,el,fz,b1,by omega⟩
           (fun j hj=>by rw[Cy,Br];exact b3 (off+j) (by omega)) (oQ yvt (fun c hc=>by
             rw[hft] at hc
             exact y1 c (Bz hc)))
          rw[Cy] at hu;obtain⟨r1,r2⟩:=hw.store hl hg yvt (fun c hc=>by rw[hft] at hc;exact y1 c (Bz hc)) (by rw[hft];simp;omega) hu;refine⟨_,_,w',G,fL eF TV (yf _ hmn) hr,.inl rfl,r1,r2,.int _ _⟩
       cases h
     cases h
   cases h
 cases h
theorem aSz {c:Call} {x:Operand} {x':Arg} {t elem:TypeId} {sz:Nat} {z:Value} {zs:List AV} (ho:o.op=.call c) (hc:c.callee=.builtin .clear) (ha:c.args= #[x])
 (hx:bN g x=some x') (Pf:c.argTypes[0]?=some t) (ht:P.underlying t=some (.slice elem)) (hz:lH P elem=some z) (CE:jO z.cells.toList=some zs):cN P g o (.clr sz zs x'):=by
 intro s a G H w v H' hw hs h;have vx:=bM hw hs hx
 have fL:∀{u:Value} {w':World},a.eval x=u->(Builtin.clear_ c.argTypes o.type #[u]).run P w=.ok (.tuple #[]) w'->(execOp a.eval o).run P w=.ok (.value (.tuple #[])) w':=by intro u w' eF hr;simp[execOp,ho,resolve,hc,ha,invoke,builtin,eF,hr]
 simp only[dA] at h;split at h
 . rename_i dB;rw[dB] at vx;generalize eF:a.eval x=u at vx;cases vx;simp only[Ae,Ai] at h;obtain⟨rfl,rfl⟩:=h;exact cN.pure' hw (fL eF (by simp[Builtin.clear_,Pf,run_underlying ht w])) (VR.oG G w)
 . rename_i dB;rw[dB] at vx;generalize eF:a.eval x=u at vx;simp only[Ae,Ai] at h;obtain⟨rfl,rfl⟩:=h;cases vx<;>exact cN.pure' hw (fL eF (by simp[Builtin.clear_,Pf,run_underlying ht w])) (VR.oG G w)
 . rename_i dB;rw[dB] at vx;generalize eF:a.eval x=u at vx;cases vx;simp only[Ae,Ai] at h;obtain⟨rfl,rfl⟩:=h;exact cN.pure' hw (fL eF (by simp[Builtin.clear_,Pf,run_underlying ht w])) (VR.oG G w)
 . rename_i id eP off len cap hnz dB;rw[dB] at vx;split at h
   . rename_i xl;obtain⟨xl,hzl⟩:=xl;subst xl;split at h
     . rename_i cs eM hg;split at h
       . rename_i gR;simp only[Ae,Ai] at h;obtain⟨rfl,rfl⟩:=h;generalize eF:a.eval x=u at vx
         cases vx with
         |sl _ _ _ _ _ jV l hl hlen bEs pL=>
          obtain⟨a1,a2,a3,a4,a5⟩:=hw.cells id l cs eM hl hg;obtain⟨ca,el,fz,b1,b2,b3⟩:=hw.room id l hl (.inl ⟨cs,eM,hg⟩);have jn:=lO CE G w;have aSh:z.cells.size=zs.length:=(by simpa using jn.1.1);have vI:(List.replicate len zs).flatten.length=len*eP:=by simp[hzl]
          have hvz:iK G w (List.replicate len zs).flatten (Builtin.zeroCells z.cells len).toList:=by
           by_cases bJb:0<eP
           . exact Ri jn.1 (by omega) len (len*z.cells.size) (by rw[aSh])
           have h0:eP=0:=(by omega);have Pr:zs=[]:=Hu.1 (by omega);refine⟨?_,fun j hj=>?_⟩
           . rw[vI];simp[Builtin.zeroCells,aSh,hzl]
           rw[vI,h0,Nat.mul_zero] at hj;omega
          have xU:=DV jn.2 len;have Lu:=hvz.1
          obtain⟨w',hr,hu⟩:=fB P l.cZ (l.base+off) (Builtin.zeroCells z.cells len).toList 0 w ⟨ca,el,fz,b1,by omega⟩
           (fun j hj=>by rw[Cy,Br];exact b3 (off+j) (by omega)) (oQ hvz xU)
          rw[Cy] at hu;obtain⟨r1,r2⟩:=hw.store hl hg hvz xU (by rw[vI];exact gR) hu;have Xc:len≠0:=fun e=>hnz e;refine⟨_,_,w',G,fL eF ?_,.inl rfl,r1,r2,VR.oG G w'⟩
          cases len with
          |zero=>exact absurd rfl Xc
          |succ n=>simp only[Builtin.clear_,Pf,Dy,Gj,Sem.run_bind,run_underlying ht w,Result.andThen_ok,kV hz w,hr,Sem.run_pure]
       cases h
     cases h
   cases h
 cases h
theorem zb {src dst e:TypeId} {x:Operand} {x':Arg} (ho:o.op=.convert src dst x) (hx:bN g x=some x') (Xg:P.underlying src=some (.slice e)) (CY:P.underlying dst=some .string)
 (he:P.underlying e=some (.int .u8)):cN P g o (.DJ x'):=by
 intro s a G H w v H' hw hs h;have vx:=bM hw hs hx;simp only[dA] at h;generalize hva:Arg.eval g s x'=va at vx h;split at h
 . cases h
 rename_i aVj;split at h
 . rename_i aY sG;simp only[Ah,Ai] at h;obtain⟨bs,Zc,rfl,rfl⟩:=h;obtain⟨eu,e1,bIq,evs,ev,ef⟩:=oK P hw sG vx;have efl:=length_flatten eu;have hev:evs.length=aY.length:=by rw[ev.1,efl,Ed]
   have ef0:=ef aY.length (Ab _);rw[Ed,As (by omega)] at ef0
   have key:∀(aY:List (List AV)) (bs:List UInt8),bytesOf aY=some bs->∃ns:List Int,aY.flatten=ns.map (fun n=>AV.int .u8 n)/\bs=ns.map fun n=>UInt8.ofNat n.toNat:=by
    intro aY
    induction aY with
    |nil=>intro bs hb;obtain rfl:=Aa hb;exact⟨[],rfl,rfl⟩
    |cons e r ih=>
     intro bs hb
     match e,hb with
     |[.int .u8 n],hb=>simp only[bytesOf,Ah] at hb;obtain⟨bs',CV,rfl⟩:=hb;obtain⟨ns,h1,h2⟩:=ih bs' CV;exact⟨n::ns,by simp[h1],by simp[h2]⟩
   obtain⟨ns,k1,k2⟩:=key aY bs Zc
   have hns:evs=ns.map (fun n=>Value.int .u8 n):=by
    apply Gd;intro j;have XZ:aY.flatten.length=ns.length:=(by rw[k1];simp);by_cases hj:j<ns.length
    . have :=ev.2 j (by omega);rw[k1] at this;have e2:(ns.map fun n=>AV.int .u8 n).getD j aC=.int .u8 (ns[j]):=(by simp[getD_eq,hj]);rw[e2] at this;have :=this.iW;rw[qB evs undef j (by rw[ev.1];omega),this];simp[hj]
    rw[Bu (by rw[ev.1];omega),Bu Zai]
   have bFx:VR G w (.str bs) (.string ⟨bs.toArray⟩):=VR.Yl _ _ _
   have fin:∀u:Value,a.eval x=u->(convert src dst u).run P w=.ok (.string ⟨bs.toArray⟩) w->∃n u w' G',(execOp a.eval o).run P w=.ok n w'/\QF n u/\WR g G' H w'/\Ext G H w G' H w'/\VR G' w' (.str bs) u:=fun u hu hr=>cN.pure' hw (by simp[execOp,ho,hu,hr]) bFx
   generalize eF:a.eval x=u at vx ef0
   have slc:∀{b o' len cap:Nat},u=.slice (some ⟨b,o',none⟩) len cap->len=aY.length->(convert src dst u).run P w=.ok (.string ⟨bs.toArray⟩) w:=by
    intro b o' len cap hu' oU;subst hu' oU
    have hld:(loadCells ⟨b,o',none⟩ aY.length).run P w=.ok (ns.map (Value.int .u8)).toArray w:=by rw[hns] at ef0;simpa [Builtin.firstCells] using ef0
    rw[run_convert_bytes_string w src dst e _ aY.length cap Xg he CY,run_bytesToString w _ aY.length cap ns hld,foldl_push_bytes,k2];simp[ByteArray.empty,ByteArray.emptyWithCapacity];rfl
   cases vx with
   |aR=>simp[cL] at sG;subst sG;simp[bytesOf] at Zc;subst Zc;refine fin _ eF ?_;simp only[convert,Sem.run_bind,run_underlying Xg w,run_underlying CY w,Result.andThen_ok,run_underlying he w,Conv.bytesToString];rfl
   |bB tag eP els' b o' cap us GG hh hv rP=>
    simp only[cL] at sG;split at sG
    . obtain rfl:=Aa sG;exact fin _ eF (slc rfl rfl)
    cases sG
   |vK tag eP b o' s' rP=>
    simp only[cL] at sG;split at sG
    . obtain rfl:=Aa sG;simp[bytesOf] at Zc;subst Zc;refine fin _ eF ?_;rw[run_convert_bytes_string w src dst e _ 0 0 Xg he CY,run_bytesToString w _ 0 0 [] (by simp[loadCells,loadCellsFrom])];rfl
    cases sG
   |sl id eP off len cap jV l hl hlen gR pL=>
    refine fin _ eF (slc rfl ?_);simp only[cL] at sG;split at sG
    . split at sG
      . split at sG
        . rename_i MI hle;obtain rfl:=Aa sG;rename_i hs1 cs;have :=(iE 1 len (cs.drop off) Zai).2.1;omega
        cases sG
      cases sG
    cases sG
   |str s=>exact absurd rfl (aVj _)
   |_=>simp[cL] at sG
 cases h
end
end
section
section
variable {P:Program} {g:bG} {o:Oper}
theorem VX (h:Array Go.Obj) (x:Go.Obj) (f:Go.Obj->Go.Obj):(h.push x).modify h.size f=h.push (f x):=by
 apply Array.ext
 . simp
 intro i h1 h2;simp only[Array.size_push] at h2;rw[Array.getElem_modify];by_cases hi:i=h.size
 . subst hi;simp
 have :i<h.size:=by omega
 rw[if_neg (Ne.symm hi)];simp[Array.getElem_push,this]
theorem Qi {src dst e:TypeId} {x:Operand} {x':Arg} (ho:o.op=.convert src dst x) (hx:bN g x=some x') (Xg:P.underlying src=some .string) (CY:P.underlying dst=some (.slice e))
 (he:P.underlying e=some (.int .u8)):DG P g o (.BK x'):=by
 intro s a G H H' w ob val eV hw hs h dB cW AN fF;have vx:=bM hw hs hx;simp only[xQ] at h;split at h
 . rename_i str aVc;rw[aVc] at vx;have eF:=vx.lG;simp only[Ae,Ai] at h;obtain⟨rfl,rfl⟩:=h;have kZ:(⟨str.toArray⟩:ByteArray).size=str.length:=by simp[ByteArray.size]
   obtain⟨cap,SO,AM⟩:=BH (P:=P) (need:=str.length) (CI:=0) (e:=e) w
   let vs:List Value:=str.map fun b=>.int .u8 b.toNat
   let rest:List Value:=List.replicate (cap -str.length) (.int .u8 0);let w':World:={w with heap:=w.heap.push (.cells (vs++rest).toArray e (cap,cap+1)),drawn:=w.drawn+1}
   have vI:(WU str).flatten=str.map fun b=>AV.int .u8 b.toNat:=by
    unfold WU;clear aVc vx eF kZ SO AM
    induction str with
    |nil=>rfl
    |cons b r ih=>simp[ih]
   have Lu:vs.length=str.length:=(by simp[vs]);have FJ:rest.length=cap -str.length:=by simp[rest]
   have hv:iK G w (WU str).flatten vs:=by rw[vI];refine⟨by simp[vs],fun j hj=>?_⟩;simp at hj;simp only[vs,getD_eq,Cw,Ad hj,Bx,Bi];exact .int _ _
   have hp:iP w w' (.cells (vs++rest).toArray e (cap,cap+1)):=⟨rfl,.now⟩
   obtain⟨G',hl,hm,r3⟩:=hw.RQ eV dB _ vs rest hv cW AN fF (fz:=(cap,cap+1)) (fun o' o8=>by
    simp only[Gy,Ba,Lu,FJ] at o8
    simp;omega) hp
   have GG:∀x∈WU str,x.length=1:=fun x hx=>by simp only[WU,Bj] at hx;obtain⟨b,_,rfl⟩:=hx;rfl
   have hlen:(WU str).length=str.length:=(by simp[WU]);have bEn:(WU str).flatten.length=str.length:=(by rw[vI];simp);refine⟨.slice (some ⟨w.heap.size,0,none⟩) str.length cap,w',G',?_,hm,?_⟩
   . have aUx:(convert src dst (.string ⟨str.toArray⟩)).run P w=(Conv.stringToBytes e ⟨str.toArray⟩).run P w:=by
      simp only[convert,Sem.run_bind,run_underlying Xg w,run_underlying CY w,Result.andThen_ok,run_underlying he w]
     have qY:(((⟨str.toArray⟩:ByteArray).data.map fun b=>(Value.int .u8 b.toNat))++Array.replicate (cap -str.length) (.int .u8 0))=(vs++rest).toArray:=by apply Fj;simp[vs,rest]
     have hsb:(Conv.stringToBytes e ⟨str.toArray⟩).run P w=.ok (.slice (some ⟨w.heap.size,0,none⟩) str.length cap) w':=by simp only[Conv.stringToBytes,kZ,Sem.run_bind,AM,Result.andThen_ok,qY];simp only[newRow,newObj,markStringish,shape,freeze,Sem.run_bind,Sem.run,Result.andThen_ok,World.shape?,Array.getElem?_push_size,World.freeze,Nat.one_ne_zero,Bq,Sem.run_pure];rw[VX];simp only[Gy,Ba,Lu,FJ];have :str.length+(cap -str.length)=cap:=(by omega);simp[this,w']
     simp[execOp,ho,eF,aUx,hsb]
   have :=VR.bB (G:=G') (w:=w') (eV+2) 1 (WU str) w.heap.size 0 cap (fun j=>vs.getD j undef) GG (fun j hj=>⟨(r3 j hj).1,(r3 j hj).2.1,by
    rw[vI] at hj ⊢;simp at hj;simp only[getD_eq,Cw,Ad hj,Bx,Bi]
    rfl⟩) (fun j hj=>(r3 j hj).2.2) ⟨by omega,⟨_,hl,rfl,by simp only[bEn,hlen];omega,rfl,by simp only[FJ,hlen,Ed]⟩⟩
   rw[hlen] at this;exact this
 cases h
theorem zj {src dst e:TypeId} {x:Operand} {x':Arg} (ho:o.op=.convert src dst x) (hx:bN g x=some x') (Xg:P.underlying src=some .string) (CY:P.underlying dst=some (.slice e))
 (he:P.underlying e=some (.int .u8)):cN P g o (.BK x'):=
 (Qi ho hx Xg CY he).op fun _ _=>rfl
theorem WR.CJ {G:Gh} {H H':aA} {w w':World} (h:WR g G H w) (eV:Nat) (o:fC) (x:Go.Obj) (ho:o.cZ=true) (dB:G.loc eV=none) (cW:∀m,H'.get m=if m=eV then some o else H.get m) (AN:H.next<=H'.next) (FG:eV<H'.next)
 (p:iP w w' x) (SS:(∀a u,VR G w a u->VR G w' a u)->JS g G w' ⟨w.heap.size,0,0,1⟩ o):Made g G H w eV o (G.dX eV ⟨w.heap.size,0,0,1⟩) H' w':=by
 have hp:=h.FU p;have he:=Ext.FU h p
 refine⟨hp.GU eV _ _ dB cW AN FG (fun id l' hl hv=>.inl (Ne.symm (Nat.ne_of_lt (h.mP hl hv)))) (fun j _ hi=>?_) (fun Lo zm xS=>by rw[xS] at ho;cases ho) (fun hh=>?_) (fun _=>?_),
  ⟨⟨w.heap.size,0,0,1⟩,rfl,by simp only[Gh.dX,if_true],fun id cP=>by simp only[Gh.dX];rw[if_neg cP]⟩,fun {G0 H0 w0} e0 LN=>(e0.trans he).GU eV _ _ dB cW AN LN (.inl e0.size),fun b o hi=>.inl hi,fun b o hi=>hi,p.size,p.CI⟩
 . obtain⟨v,hv⟩:=h.iX _ _ hi;have :=wD hv;simp at this
 . rcases hh with ⟨_,_,hh⟩|hh<;>rw[hh] at ho<;>cases ho
 exact⟨rfl,rfl,SS fun a u hv=>hv.mono he.loc he.gZ⟩
theorem WR.ku {G:Gh} {H H':aA} {w w':World} (h:WR g G H w) (eV:Nat) (dB:G.loc eV=none) (cW:∀m,H'.get m=if m=eV then some (.map []) else H.get m) (AN:H.next<=H'.next) (FG:eV<H'.next)
 (p:iP w w' (.map #[] 0)):Made g G H w eV (.map []) (G.dX eV ⟨w.heap.size,0,0,1⟩) H' w':=
 h.CJ eV _ _ rfl dB cW AN FG p fun _=>⟨#[],0,p.new,rfl,⟨fun i hi=>absurd hi (An i),fun i j hi=>absurd hi (An i)⟩,fun j hj=>absurd hj (An j)⟩
theorem KI {t:TypeId} {r:Option Operand} {kt vt:TypeId} (ho:o.op=.makeMap t r) (ht:P.underlying t=some (.map kt vt)) (hr:r=none\/∃k n,r=some (.const (.int k n))):DG P g o .yQ:=by
 intro s a G H H' w ob val eV hw hs h dB cW AN fF;simp only[xQ,Ae,Ai] at h;obtain⟨rfl,rfl⟩:=h;have hp:iP w {w with heap:=w.heap.push (.map #[] 0)} (.map #[] 0):=⟨rfl,.now⟩;have hm:=hw.ku eV dB cW AN fF hp;refine⟨.map (some w.heap.size),_,_,?_,hm,?_⟩
 . rcases hr with rfl|⟨k,n,rfl⟩
   . simp[execOp,ho,Instr.makeMap,newObj,Sem.run]
   simp[execOp,ho,Instr.makeMap,run_underlying ht w,Act.eval,asInt,asIntOf,newObj,Sem.run]
 exact VR.map eV ⟨w.heap.size,0,0,1⟩ (by simp only[Gh.dX,if_true])
theorem VN {t:TypeId} {r:Option Operand} {kt vt:TypeId} (ho:o.op=.makeMap t r) (ht:P.underlying t=some (.map kt vt)) (hr:r=none\/∃k n,r=some (.const (.int k n))):cN P g o .yQ:=
 (KI ho ht hr).op fun _ _=>rfl
def HX (P:Program) (t:TypeId):Option Sk:=
 match P.underlying t with
 |some .bool=>some .b
 |some (.int _)=>some .i
 |some .string=>some .s
 |some (.struct _)|some (.array _ _)=>(oD P 60 t).map .f
 |_=>none
def MY:Sk->Bool
 |.f _=>false
 |_=>true
theorem Lh {G:Gh} {w:World} {kt:TypeId} {k:Sk} {d:TypeDesc} (hk:HX P kt=some k) (hp:MY k=true) (hd:P.underlying kt=some d) {x y:AV} {u v:Value} {b:Bool} (h:sameKey k x y=some b) (hx:VR G w x u) (hy:VR G w y v):
 Instr.sameNow d u v=some b:=by
 unfold HX at hk;rw[hd] at hk
 cases x<;>cases y<;>simp only[sameKey] at h<;>first
  |(cases h;done)
  |skip
 . cases k<;>simp only[] at h<;>first|(cases h;done)|skip
   obtain rfl:=Aa h;rw[hx.jT,hy.jT];cases d<;>simp at hk<;>rfl
 . cases k<;>simp only[] at h<;>first|(cases h;done)|skip
   split at h
   . rename_i ou;obtain rfl:=Aa h;subst ou;rw[hx.iW,hy.iW];cases d<;>simp at hk<;>simp[Instr.sameNow]
   cases h
 . cases k<;>simp only[] at h<;>first|(cases h;done)|skip
   obtain rfl:=Aa h;rw[hx.lG,hy.lG];cases d<;>simp at hk;simp only[Instr.sameNow,Ae];rw[beq_toListBytes,ByteArray.toList_mk,ByteArray.toList_mk]
 cases k<;>simp only[] at h<;>first|(cases h;done)|(cases hp;done)
theorem yE {α:Type} (P:Program) (w:World) (f:α->PUnit->Sem (ForInStep PUnit)):∀(l:List α),(∀x∈l,∀r,(f x r).run P w=.ok (.yield PUnit.unit) w)->(forIn l PUnit.unit f:Sem PUnit).run P w=.ok PUnit.unit w
 |[],_=>by simp
 |x::l,h=>by simp only[List.forIn_cons,Sem.run_bind,h x (by simp),Result.andThen_ok];exact yE P w f l fun y hy=>h y (by simp[hy])
theorem FX {P:Program} (w:World) (em:Bool):∀(f:Nat) (t:TypeId) (ks:List Sk),oD P f t=some ks->∀(d:Nat) (b:Bool) (us:List Value),fO P t=some b->us.length=ks.length->
 (Instr.checkKey em (d+f) t (valOf b us)).run P w=.ok () w:=by
 intro f
 induction f with
 |zero=>intro t ks h;cases h
 |succ f ih=>
  intro t ks h d b us hb hl;rw[show d+(f+1)=(d+f)+1 from rfl,Instr.checkKey];simp only[oD] at h;split at h
  . rename_i hu;simp only[Sem.run_bind,run_underlying hu w,Result.andThen_ok];rfl
  . rename_i hu;simp only[Sem.run_bind,run_underlying hu w,Result.andThen_ok];rfl
  . rename_i hu;simp only[Sem.run_bind,run_underlying hu w,Result.andThen_ok];rfl
  . rename_i fs hu;split at h
    . cases h
    have ot:b=true:=(by simp only[fO,hu,Ae] at hb;exact hb.symm);subst ot;simp only[valOf,if_true,Sem.run_bind,run_underlying hu w,Result.andThen_ok]
    have key:∀(l:List Field) (off:Nat) (j9:List Sk),CP P (oD P f) off l=some j9->off+j9.length<=us.length->
     ∀x∈l,(if x.name≠ "_" then(do Instr.checkKey em (d+f) x.type (←part x.type us.toArray x.offset)) else pure ():Sem Unit).run P w=.ok () w:=by
     intro l
     induction l with
     |nil=>intro off j9 _ _ x hx;cases hx
     |cons fd l ihl=>
      intro off j9 hs hi x hx;simp only[CP] at hs;split at hs
      . rename_i hc;split at hs
        . rename_i k hk;split at hs
          . rename_i kZ;simp only[Ah] at hs;obtain⟨ks2,hs2,rfl⟩:=hs;simp only[Ba] at hi
            rcases Am.1 hx with rfl|hx
            . obtain⟨bf,SM,SN⟩:=yG hk;have p1:=mH kZ SM w (us:=us) (off:=x.offset) (by omega) SN;simp only[ne_eq,if_pos hc.1,Sem.run_bind,p1,Result.andThen_ok];exact ih x.type k hk d bf _ SM Zai
            exact ihl (off+k.length) ks2 hs2 (by omega) x hx
          cases hs
        cases hs
      cases hs
    have h1:=key fs.toList 0 ks h (by omega)
    rw[<-Array.forIn_toList,yE P w _ fs.toList (fun x hx r=>by
     have :=h1 x hx;split at this
     . rename_i hn;rw[if_pos hn];simp only[Sem.run_bind] at this ⊢;generalize (part x.type us.toArray x.offset).run P w=rr at this ⊢
       cases rr with
       |ok p w1=>simp only[Result.andThen_ok] at this ⊢;rw[this];simp
       |halt q w1=>cases this
     rename_i hn;rw[if_neg hn]
     simp)]
    simp
  . rename_i n e hu;have ot:b=true:=by simp only[fO,hu,Ae] at hb;exact hb.symm
    subst ot;split at h
    . rename_i k hk;split at h
      . rename_i kZ;obtain rfl:=Aa h;obtain⟨bf,SM,SN⟩:=yG hk;simp only[valOf,if_true,Sem.run_bind,run_underlying hu w,Result.andThen_ok];have hlk:((List.replicate n k).flatten).length=n*k.length:=(by simp);rw[hlk] at hl;simp only[Std.Legacy.Range.forIn_eq_forIn_range',Std.Legacy.Range.size,Ix,Nat.add_one_sub_one,Nat.div_one]
        rw[yE P w _ (List.range' 0 n) (fun i hi r=>by
         have gO:i<n:=by have :=List.mem_range'_1.1 hi;omega
         have gR:i*k.length+k.length<=us.length:=by rw[hl,<-Ea];exact Cz _ gO
         have p1:=mH kZ SM w (us:=us) (off:=i*k.length) gR SN
         simp only[Sem.run_bind,eI kZ w,Result.andThen_ok,p1,ih e k hk d bf _ SM (show((us.drop (i*k.length)).take k.length).length=k.length by simp;omega),Sem.run_pure])]
        simp
      cases h
    cases h
  cases h
theorem Xj {kt:TypeId} {sh:List Sk} (hk:HX P kt=some (.f sh)):oD P 60 kt=some sh/\fO P kt=some true/\∃d,P.underlying kt=some d/\(∀u v,Instr.sameNow d u v=none):=by
 unfold HX at hk
 split at hk<;>rename_i hu<;>first
  |(cases hk;done)
  |(simp only[Ah,Sk.f.injEq] at hk
    obtain⟨_,h1,rfl⟩:=hk;refine⟨h1,by simp[fO,hu],_,hu,fun u v=>?_⟩
    cases u<;>cases v<;>rfl)
theorem run_checkKey {G:Gh} {kt:TypeId} {k:Sk} (hk:HX P kt=some k) (b:Bool) (d:Nat) {x:AV} {u:Value} {w:World} (hx:VR G w x u) (rO:HW k x=true):
 (Instr.checkKey b (d+60) kt u).run P w=.ok () w:=by
 by_cases hp:MY k=true
 . have rN:=hk;unfold HX at hk;rw[show d+60=(d+59)+1 from rfl,Instr.checkKey]
   split at hk<;>rename_i hu<;>first
    |(cases hk;done)
    |(simp only[Ah] at hk;obtain⟨_,_,rfl⟩:=hk;cases hp;done)
    |(simp only[Sem.run_bind,run_underlying hu w,Result.andThen_ok]
      rfl)
 cases k with
 |f sh=>
  obtain⟨h1,h2,_⟩:=Xj hk
  cases x<;>simp only[HW] at rO<;>first|(cases rO;done)|skip
  rename_i xs;obtain⟨us,e1,l1,_,_⟩:=hx.uL;subst e1;have :=FX w b 60 kt sh h1 d true us h2 (by rw[l1];exact Cp rO);simpa [valOf] using this
 |_=>exact absurd rfl hp
theorem LH {G:Gh} {w:World} {kt:TypeId} {k:Sk} {d:TypeDesc} (hk:HX P kt=some k) (hp:MY k=true) (hd:P.underlying kt=some d) {x:AV} {u:Value} (hx:VR G w x u):
 ∀(es:List (AV×AV)) (ents:List MapEntry) (i:Nat) (r:Option (Nat×AV)),jY k x es i=some r->ents.length=es.length->
  (∀j,j<es.length->VR G w (es.getD j (aC,aC)).1 (ents.getD j default).key/\VR G w (es.getD j (aC,aC)).2 (ents.getD j default).val)->
  ∃r',Instr.findNow d u ents i=some r'/\((r=none/\r'=none)\/∃j av vv,r=some (j,av)/\r'=some (j,vv)/\VR G w av vv/\i<=j/\j<i+es.length/\sameKey k x (es.getD (j -i) (aC,aC)).1=some true)
 |[],[],i,r,h,hl,hv=>by obtain rfl:=Aa h;exact⟨none,rfl,.inl ⟨rfl,rfl⟩⟩
 |[],_::_,i,r,h,hl,hv=>by simp at hl
 |(y,z)::es,[],i,r,h,hl,hv=>by simp at hl
 |(y,z)::es,e::ents,i,r,h,hl,hv=>by
  have h0:=hv 0 (by simp);simp only[Dw] at h0;simp only[jY] at h;split at h
  . rename_i hs;obtain rfl:=Aa h;have hn:=Lh hk hp hd hs hx h0.1;refine⟨some (i,e.val),by simp[Instr.findNow,hn],.inr ⟨i,z,e.val,rfl,rfl,h0.2,Ab _,by simp,by simpa using hs⟩⟩
  . rename_i hs;have hn:=Lh hk hp hd hs hx h0.1
    obtain⟨r',h1,h2⟩:=LH hk hp hd hx es ents (i+1) r h (by simpa using hl) (fun j hj=>by
     have :=hv (j+1) ZaC
     simpa using this)
    refine⟨r',by simp only[Instr.findNow,hn];exact h1,?_⟩
    rcases h2 with h2|⟨j,av,vv,a1,a2,a3,a4,a5,a6⟩
    . exact .inl h2
    refine .inr ⟨j,av,vv,a1,a2,a3,by omega,by simp;omega,?_⟩;rw[show j -i=(j -(i+1))+1 by omega,Gg];exact a6
  cases h
theorem LG {G:Gh} {w:World} {kt:TypeId} {sh:List Sk} (hk:HX P kt=some (.f sh)) {x:AV} {u:Value} (hx:VR G w x u):
 ∀(es:List (AV×AV)) (ents:List MapEntry) (i:Nat) (r:Option (Nat×AV)),jY (.f sh) x es i=some r->ents.length=es.length->
  (∀j,j<es.length->VR G w (es.getD j (aC,aC)).1 (ents.getD j default).key/\VR G w (es.getD j (aC,aC)).2 (ents.getD j default).val)->
  ∃r',(Instr.findAsking kt u ents i).run P w=.ok r' w/\((r=none/\r'=none)\/∃j av vv,r=some (j,av)/\r'=some (j,vv)/\VR G w av vv/\i<=j/\j<i+es.length/\sameKey (.f sh) x (es.getD (j -i) (aC,aC)).1=some true)
 |[],[],i,r,h,hl,hv=>by obtain rfl:=Aa h;exact⟨none,by simp[Instr.findAsking],.inl ⟨rfl,rfl⟩⟩
 |[],_::_,i,r,h,hl,hv=>by simp at hl
 |(y,z)::es,[],i,r,h,hl,hv=>by simp at hl
 |(y,z)::es,e::ents,i,r,h,hl,hv=>by
  obtain⟨h1,h2,_⟩:=Xj hk;have h0:=hv 0 (by simp);simp only[Dw] at h0;simp only[jY] at h
  have heq:∀b,sameKey (.f sh) x y=some b->(Op.equal kt u e.key).run P w=.ok b w:=by
   intro b hs
   cases x<;>cases y<;>simp only[sameKey] at hs<;>first|(cases hs;done)|skip
   rename_i xs ys;obtain⟨us,e1,l1,_,v1⟩:=hx.uL;obtain⟨vs,e2,l2,_,v2⟩:=h0.1.uL;rw[e1,e2];have :=UT 60 kt sh h1 true h2 (10000 -60) G w xs ys us vs b hs ⟨l1,v1⟩ ⟨l2,v2⟩;have h3:(Op.equalIn 10000 kt (.agg us.toArray) (.agg vs.toArray)).run P w=.ok b w:=(by simpa [valOf] using this);exact h3
  split at h
  . rename_i hs;obtain rfl:=Aa h;refine⟨some (i,e.val),by simp[Instr.findAsking,heq _ hs],.inr ⟨i,z,e.val,rfl,rfl,h0.2,Ab _,by simp,by simpa using hs⟩⟩
  . rename_i hs
    obtain⟨r',h1,h2⟩:=LG hk hx es ents (i+1) r h (by simpa using hl) (fun j hj=>by
     have :=hv (j+1) ZaC
     simpa using this)
    refine⟨r',by simp[Instr.findAsking,heq _ hs];exact h1,?_⟩
    rcases h2 with h2|⟨j,av,vv,a1,a2,a3,a4,a5,a6⟩
    . exact .inl h2
    refine .inr ⟨j,av,vv,a1,a2,a3,by omega,by simp;omega,?_⟩;rw[show j -i=(j -(i+1))+1 by omega,Gg];exact a6
  cases h
theorem run_findKey {G:Gh} {w:World} {kt:TypeId} {k:Sk} (hk:HX P kt=some k) {x:AV} {u:Value} (hx:VR G w x u) {es:List (AV×AV)} {ents:Array MapEntry} {r:Option (Nat×AV)} (h:jY k x es 0=some r) (hl:ents.size=es.length)
 (hv:∀j,j<es.length->VR G w (es.getD j (aC,aC)).1 (ents.getD j default).key/\VR G w (es.getD j (aC,aC)).2 (ents.getD j default).val):
 ∃r',(Instr.findKey kt u ents.toList).run P w=.ok r' w/\((r=none/\r'=none)\/∃j av vv,r=some (j,av)/\r'=some (j,vv)/\VR G w av vv/\j<es.length/\sameKey k x (es.getD j (aC,aC)).1=some true):=by
 have mT:∀j,j<es.length->VR G w (es.getD j (aC,aC)).1 (ents.toList.getD j default).key/\VR G w (es.getD j (aC,aC)).2 (ents.toList.getD j default).val:=fun j hj=>by
  have :=hv j hj
  have e:ents.toList.getD j default=ents.getD j default:=by simp[List.getD,Bo]
  rw[e];exact this
 have fin:∀{r':Option (Nat×Value)},((r=none/\r'=none)\/∃j av vv,r=some (j,av)/\r'=some (j,vv)/\VR G w av vv/\0<=j/\j<0+es.length/\sameKey k x (es.getD (j -0) (aC,aC)).1=some true)->
  ((r=none/\r'=none)\/∃j av vv,r=some (j,av)/\r'=some (j,vv)/\VR G w av vv/\j<es.length/\sameKey k x (es.getD j (aC,aC)).1=some true):=by
  intro r' h2
  rcases h2 with h2|⟨j,av,vv,a1,a2,a3,a4,a5,a6⟩
  . exact .inl h2
  exact .inr ⟨j,av,vv,a1,a2,a3,by omega,by simpa using a6⟩
 by_cases hp:MY k=true
 . obtain⟨d,hd⟩:∃d,P.underlying kt=some d:=by
    unfold HX at hk
    split at hk<;>rename_i hu<;>first|(cases hk;done)|exact⟨_,hu⟩
   obtain⟨r',h1,h2⟩:=LH hk hp hd hx es ents.toList 0 r h (by simpa using hl) mT;refine⟨r',?_,fin h2⟩;simp only[Instr.findKey,Sem.run_bind,run_underlying hd w,Result.andThen_ok,h1];rfl
 cases k with
 |f sh=>
  obtain⟨_,_,d,hd,hn⟩:=Xj hk;obtain⟨r',h1,h2⟩:=LG hk hx es ents.toList 0 r h (by simpa using hl) mT;refine⟨r',?_,fin h2⟩;simp only[Instr.findKey,Sem.run_bind,run_underlying hd w,Result.andThen_ok]
  cases WJ:ents.toList with
  |nil=>rw[WJ] at h1;simp only[Instr.findAsking,Sem.run_pure,Result.ok.injEq,Jy] at h1;subst h1;simp[Instr.findNow]
  |cons e l=>rw[WJ] at h1;simp only[Instr.findNow,hn];exact h1
 |_=>exact absurd rfl hp
theorem run_getObj_map {w:World} {r:Nat} {ents:Array MapEntry} {clock:Nat} (h:w.heap[r]?=some (.map ents clock)):(getObj r).run P w=.ok (.map ents clock) w:=by simp[getObj,Sem.run,h]
theorem kh {t kt vt:TypeId} {k:Sk} {zv:Value} {z:AV} {ok:Bool} {x i:Operand} {x' i':Arg} (ho:o.op=.lookup t x i ok) (hx:bN g x=some x') (hi:bN g i=some i') (ht:P.underlying t=some (.map kt vt))
 (hk:HX P kt=some k) (hz:lH P vt=some zv) (hzc:ofConst zv=some z):cN P g o (.lookup k z ok x' i'):=by
 intro s a G H w v H' hw hs h;have vx:=bM hw hs hx;have vi:=bM hw hs hi;have hzero:=kV hz w;have hzr:=FO hzc G w
 have two:∀{p q:AV} {u1 u2:Value},VR G w p u1->VR G w q u2->VR G w (.iA [p,q]) (.tuple #[u1,u2]):=fun h1 h2=>.iA [_,_] [_,_] rfl (h1.cons (h2.cons (iK.nil G w))).2
 simp only[dA] at h;split at h
 . rename_i ow;have aRk:∀b,(Instr.checkKey b 10000 kt (a.eval i)).run P w=.ok () w:=fun b=>run_checkKey hk b 9940 vi ow;split at h
   . rename_i dB;rw[dB] at vx;generalize eF:a.eval x=u at vx;cases vx;simp only[Ae,Ai] at h;obtain⟨rfl,rfl⟩:=h
     have XW:(Instr.findKey kt (a.eval i) []).run P w=.ok none w:=by
      obtain⟨r',h1,h2⟩:=run_findKey (P:=P) hk vi (es:=[]) (ents:= #[]) (r:=none) rfl rfl (fun j hj=>absurd hj (An j))
      rcases h2 with ⟨_,rfl⟩|⟨j,av,vv,hh,_⟩
      . exact h1
      cases hh
     refine cN.pure' hw (u:=if ok then .tuple #[zv,.bool false] else zv) ?_ (by cases ok<;>simp <;>first|exact hzr|exact two hzr (.bool false));simp only[execOp,ho,eF,Instr.lookup,Sem.run_bind,run_underlying ht w,Result.andThen_ok,Sem.run_pure,aRk,XW,hzero]
   . rename_i id dB;rw[dB] at vx;generalize eF:a.eval x=u at vx
     cases vx with
     |map _ l hl=>
      split at h
      . rename_i es hg;obtain⟨_,_,ents,clock,m1,m2,mb,m3⟩:=hw.iS id l _ hl hg rfl;have hgo:=run_getObj_map (P:=P) m1;split at h
        . rename_i j av hf;simp only[Ae,Ai] at h;obtain⟨rfl,rfl⟩:=h;obtain⟨r',h1,h2⟩:=run_findKey (P:=P) hk vi hf m2 m3
          rcases h2 with ⟨hh,_⟩|⟨j',av',vv,e1,e2,e3,_⟩
          . cases hh
          cases e1;subst e2;refine cN.pure' hw (u:=if ok then .tuple #[vv,.bool true] else vv) ?_ (by cases ok<;>simp <;>first|exact e3|exact two e3 (.bool true));simp only[execOp,ho,eF,Instr.lookup,Sem.run_bind,run_underlying ht w,Result.andThen_ok,hgo,Sem.run_pure,aRk,h1]
        . rename_i hf;simp only[Ae,Ai] at h;obtain⟨rfl,rfl⟩:=h;obtain⟨r',h1,h2⟩:=run_findKey (P:=P) hk vi hf m2 m3
          rcases h2 with ⟨_,e2⟩|⟨j',av',vv,e1,_⟩
          . subst e2;refine cN.pure' hw (u:=if ok then .tuple #[zv,.bool false] else zv) ?_ (by cases ok<;>simp <;>first|exact hzr|exact two hzr (.bool false));simp only[execOp,ho,eF,Instr.lookup,Sem.run_bind,run_underlying ht w,Result.andThen_ok,hgo,Sem.run_pure,aRk,h1,hzero]
          cases e1
        cases h
      cases h
   cases h
 cases h
theorem WR.FZ {G:Gh} {H:aA} {w w':World} (h:WR g G H w) {id:Nat} {l:Loc} {o o':fC} {x:Go.Obj} (hl:G.loc id=some l) (hg:H.get id=some o) (ho:o.cZ=true) (o8:o'.cZ=true)
 (lI:w'.heap=w.heap.setIfInBounds l.cZ x) (DR:zH w w') (SS:(∀a u,VR G w a u->VR G w' a u)->w'.heap[l.cZ]?=some x->JS g G w' l o'):
 WR g G (H.set id o') w'/\Ext G H w G (H.set id o') w':=by
 have lD:H.live id:=⟨_,hg,OF ho⟩;obtain⟨m1,m2,m3⟩:=h.iS id l _ hl hg ho;have fF:=m3.lt ho
 have FI:∀b,b≠l.cZ->w'.heap[b]?=w.heap[b]?:=fun b hb=>by rw[lI,Array.getElem?_setIfInBounds_ne];exact Ne.symm hb
 have wN:w'.heap[l.cZ]?=some x:=by rw[lI];simp[fF]
 have pF:∀b o,G.gZ b o->b≠l.cZ:=fun b o hi hb=>by obtain⟨v,hv⟩:=h.iX b o hi;obtain⟨c,el,fz,hc,_⟩:=zT hv;rw[hb] at hc;exact m3.AW ho hc
 have hic:∀b o,G.gZ b o->w'.cell? ⟨b,o,none⟩=w.cell? ⟨b,o,none⟩:=fun b o hi=>gI (FI b (pF b o hi));have yO:∀{a u},VR G w a u->VR G w' a u:=fun hv=>hv.mono (fun _ _ h=>h) (fun b o hi=>⟨hi,hic b o hi⟩)
 have cP:∀{i l'},i≠id->G.loc i=some l'->H.live i->l'.cZ≠l.cZ:=fun {i l'} hi yY tR hb=>by
  obtain⟨ob,SS,hov⟩:=tR
  cases ob with
  |cells cs eM=>obtain⟨c,el,fz,hc,_⟩:=h.room i l' yY (.inl ⟨cs,eM,SS⟩);rw[hb] at hc;exact m3.AW ho hc
  |tok=>obtain⟨c,el,fz,hc,_⟩:=h.room i l' yY (.inr SS);rw[hb] at hc;exact m3.AW ho hc
  |dead=>cases hov
  |_=>
   obtain⟨n1,n2,_⟩:=h.iS i l' _ yY SS rfl
   rcases h.kM i id l' l hi yY hl ⟨_,SS,rfl⟩ lD with hd|hd|hd
   . exact hd hb
   . omega
   omega
 have cW:∀{m},m≠id->(H.set id o').get m=H.get m:=fun hm=>by rw[aA.aD,if_neg hm]
 have aRv:(H.set id o').get id=some o':=by rw[aA.aD,if_pos rfl]
 have pO:∀{m},(H.set id o').live m->H.live m:=fun {m} hv=>by
  rcases aA.kQ.1 hv with ⟨rfl,_⟩|⟨_,hv⟩
  . exact lD
  exact hv
 refine⟨{
  cells:=fun i l' cs eM h1 h2=>by
   have hi:i≠id:=fun e=>by rw[e,aRv] at h2;cases h2;cases o8
   rw[cW hi] at h2;obtain⟨a1,a2,a3,a4,a5⟩:=h.cells i l' cs eM h1 h2;refine⟨a1,a2,a3,a4,fun j hj=>?_⟩;obtain⟨u,hu,Lv⟩:=a5 j hj;exact⟨u,by rw[gI (FI _ (cP hi h1 ⟨_,h2,rfl⟩))];exact hu,yO Lv⟩
  room:=fun i l' h1 h2=>by
   have hi:i≠id:=fun e=>by rw[e,aRv] at h2;rcases h2 with ⟨_,_,h2⟩|h2<;>cases h2<;>cases o8
   rw[cW hi] at h2;obtain⟨c,el,fz,a1,a2,a3⟩:=h.room i l' h1 h2;have hb:=cP hi h1 (by rcases h2 with ⟨cs,eM,h2⟩|h2<;>exact⟨_,h2,rfl⟩);exact⟨c,el,fz,by rw[FI _ hb];exact a1,a2,fun j hj=>by rw[kT (FI _ hb)];exact a3 j hj⟩
  kM:=fun i i' l1 l2 hn h1 h2 tR sU=>h.kM i i' l1 l2 hn h1 h2 (pO tR) (pO sU)
  jZ:=fun i l' h1 tR=>h.jZ i l' h1 (pO tR)
  iS:=fun i l' ob h1 h2 hk=>by
   by_cases hi:i=id
   . subst hi;obtain rfl:=Aa (h1.symm.trans hl);rw[aRv] at h2;cases h2;exact⟨m1,m2,SS (fun _ _=>yO) wN⟩
   rw[cW hi] at h2;obtain⟨a1,a2,a3⟩:=h.iS i l' ob h1 h2 hk;exact⟨a1,a2,a3.mono (FI _ (cP hi h1 ⟨_,h2,OF hk⟩)) fun _ _=>yO⟩
  lt:=h.lt
  iX:=fun b o hi=>by rw[hic b o hi];exact h.iX b o hi
  jD:=fun n cs hn=>yO (h.jD n cs hn)
  BZ:=fun n cs hn h0=>let⟨c,el,fz,a1,a2⟩:=h.BZ n cs hn h0;⟨c,el,fz,by rw[FI n (fun e=>m3.AW ho (e▸a1))];exact a1,a2⟩
  mo:=h.mo},?_⟩
 have e0:=Ext.refl G H w
 exact {
  loc:=fun _ _ h=>h
  gZ:=fun b o hi=>⟨hi,hic b o hi⟩
  size:=by rw[lI];simp
  frame:=fun b hb hn=>FI b (fun e=>hn id l hl lD e.symm)
  lL:=fun i l' h1 tR=>.inr ⟨i,l',h1,pO tR,rfl⟩
  pG:=fun _ _ h=>.inl h
  next:=Ab _
  news:=fun _ _ h h'=>by rw[h] at h';cases h'
  dead:=fun _ _ _ hv=>pO hv
  mo:=rfl
  same:=DR.toB _}
theorem WR.aBc {G:Gh} {H:aA} {w w':World} (h:WR g G H w) {id:Nat} {l:Loc} {es es':List (AV×AV)} {ents ents':Array MapEntry} {clock clock':Nat} (hl:G.loc id=some l) (hg:H.get id=some (.map es))
 (hm:w.heap[l.cZ]?=some (.map ents clock)) (lI:w'.heap=w.heap.setIfInBounds l.cZ (.map ents' clock')) (DR:zH w w') (oU:ents'.size=es'.length) (hbn:Tk ents' clock')
 (hv:∀j,j<es'.length->VR G w (es'.getD j (aC,aC)).1 (ents'.getD j default).key/\VR G w (es'.getD j (aC,aC)).2 (ents'.getD j default).val):
 WR g G (H.set id (.map es')) w'/\Ext G H w G (H.set id (.map es')) w':=
 h.FZ hl hg rfl rfl lI DR fun yO wN=>⟨ents',clock',wN,oU,hbn,fun j hj=>⟨yO _ _ (hv j hj).1,yO _ _ (hv j hj).2⟩⟩
theorem wJ (ents:Array MapEntry) (i:Nat) (f:MapEntry->MapEntry) (j:Nat) (hj:j<ents.size):(ents.modify i f).getD j default=if i=j then f (ents.getD j default) else ents.getD j default:=by
 simp only[Bo,Gw];split
 . simp[hj]
 rfl
theorem Tk.modify {ents:Array MapEntry} {clock:Nat} (h:Tk ents clock) (i:Nat) (f:MapEntry->MapEntry) (hf:∀e,(f e).born=e.born):Tk (ents.modify i f) clock:=by
 have hb:∀j,j<ents.size->((ents.modify i f).getD j default).born=(ents.getD j default).born:=fun j hj=>by
  rw[wJ _ _ _ _ hj];split
  . rw[hf]
  rfl
 refine⟨fun j hj=>?_,fun j k hj hk he=>?_⟩
 . rw[Array.size_modify] at hj;rw[hb j hj];exact h.1 j hj
 rw[Array.size_modify] at hj hk;rw[hb j hj,hb k hk] at he;exact h.2 j k hj hk he
theorem Tk.push {ents:Array MapEntry} {clock:Nat} (h:Tk ents clock) (e:MapEntry) (he:e.born=clock):Tk (ents.push e) (clock+1):=by
 have hb:∀j,j<(ents.push e).size->((ents.push e).getD j default).born=if j<ents.size then(ents.getD j default).born else clock:=fun j hj=>by
  rw[Array.size_push] at hj;simp only[Bo,Kg];by_cases h1:j<ents.size
  . rw[if_neg (by omega),if_pos h1]
  rw[if_pos (by omega),if_neg h1];exact he
 refine⟨fun j hj=>?_,fun j k hj hk vn=>?_⟩
 . rw[hb j hj];by_cases h1:j<ents.size
   . rw[if_pos h1];have :=h.1 j h1;omega
   rw[if_neg h1];omega
 rw[hb j hj,hb k hk] at vn;rw[Array.size_push] at hj hk;by_cases h1:j<ents.size<;>by_cases h2:k<ents.size
 . rw[if_pos h1,if_pos h2] at vn;exact h.2 j k h1 h2 vn
 . rw[if_pos h1,if_neg h2] at vn;have :=h.1 j h1;omega
 . rw[if_neg h1,if_pos h2] at vn;have :=h.1 k h2;omega
 omega
theorem LA {G:Gh} {w:World} (d:Nat):∀(sh:List Sk) (xs ys:List AV) (us vs:List Value),cK sh xs ys=some true->iK G w xs us->iK G w ys vs->
 us.length=vs.length/\(vs.zip us).all (fun p=>Instr.sameBits d p.1 p.2)=true
 |[],xs,ys,us,vs,h,hx,hy=>by
  cases xs<;>cases ys<;>simp only[cK] at h<;>first|(cases h;done)|skip
  have h1:=hx.1;have h2:=hy.1;simp only[Bm,Hu] at h1 h2;subst h1 h2;simp
 |k::sh,xs,ys,us,vs,h,hx,hy=>by
  cases xs with
  |nil=>cases k<;>simp[cK] at h
  |cons x xs=>
   cases ys with
   |nil=>cases k<;>cases x<;>simp[cK] at h
   |cons y ys=>
    have h1:=hx.1;have h2:=hy.1
    cases us with
    |nil=>simp at h1
    |cons u us=>
     cases vs with
     |nil=>simp at h2
     |cons v vs=>
      have hxu:=hx.2 0 (by simp);have hyv:=hy.2 0 (by simp);simp only[Dw] at hxu hyv;have tx:iK G w xs us:=⟨by simpa using h1,fun j hj=>by have :=hx.2 (j+1) ZaC;simpa using this⟩;have ty:iK G w ys vs:=⟨by simpa using h2,fun j hj=>by have :=hy.2 (j+1) ZaC;simpa using this⟩
      have fin:∀{b:Bool},(cK sh xs ys).map (b&& ·)=some true->(b=true->Instr.sameBits d v u=true)->(u::us).length=(v::vs).length/\((v::vs).zip (u::us)).all (fun p=>Instr.sameBits d p.1 p.2)=true:=by intro b hm hb;simp only[Ah,Al] at hm;obtain⟨r,hr,CV,rfl⟩:=hm;obtain⟨g1,g2⟩:=LA d sh xs ys us vs hr tx ty;refine⟨by simp[g1],?_⟩;simp only[List.zip_cons_cons,Ik,hb CV,Co];exact g2
      cases k<;>cases x<;>cases y<;>simp only[cK] at h<;>first|(cases h;done)|skip
      . refine fin h fun hb=>?_;simp only[Ca] at hb;subst hb;rw[hxu.jT,hyv.jT];cases d<;>simp[Instr.sameBits]
      . split at h
        . rename_i vn;refine fin h fun hb=>?_;simp only[Ca] at hb;subst hb vn;rw[hxu.iW,hyv.iW];cases d<;>simp[Instr.sameBits]
        cases h
      refine fin h fun hb=>?_;simp only[Ca] at hb;subst hb;rw[hxu.lG,hyv.lG];cases d<;>simp only[Instr.sameBits]<;>rw[beq_toListBytes]<;>simp
theorem TK {G:Gh} {w:World} {k:Sk} {x y:AV} {u v:Value} (d:Nat) (h:sameKey k x y=some true) (hx:VR G w x u) (hy:VR G w y v):Instr.sameBits (d+1) v u=true:=by
 cases x<;>cases y<;>simp only[sameKey] at h<;>first
  |(cases h;done)
  |skip
 . cases k<;>simp only[] at h<;>first|(cases h;done)|skip
   simp at h;subst h;rw[hx.jT,hy.jT];simp[Instr.sameBits]
 . cases k<;>simp only[] at h<;>first|(cases h;done)|skip
   split at h
   . rename_i hc;simp at h;subst hc;subst h;rw[hx.iW,hy.iW];simp[Instr.sameBits]
   cases h
 . cases k<;>simp only[] at h<;>first|(cases h;done)|skip
   simp at h;subst h;rw[hx.lG,hy.lG];simp only[Instr.sameBits];rw[beq_toListBytes];simp
 cases k<;>simp only[] at h<;>first|(cases h;done)|skip
 rename_i xs ys sh;obtain⟨us,e1,l1,_,v1⟩:=hx.uL;obtain⟨vs,e2,l2,_,v2⟩:=hy.uL;obtain⟨g1,g2⟩:=LA d sh xs ys us vs h ⟨l1,v1⟩ ⟨l2,v2⟩;rw[e1,e2];simp only[Instr.sameBits,Gy,g1,Jj,Co];exact g2
theorem VM {t kt vt:TypeId} {k:Sk} {x i y:Operand} {x' i' y':Arg} (ho:o.op=.mapUpdate t x i y\/o.op=.insert t x i y) (hx:bN g x=some x') (hi:bN g i=some i') (hy:bN g y=some y')
 (ht:P.underlying t=some (.map kt vt)) (hk:HX P kt=some k):cN P g o (.OM k x' i' y'):=by
 intro s a G H w v H' hw hs h;have vx:=bM hw hs hx;have vi:=bM hw hs hi;have vy:=bM hw hs hy;have bEf:HW k (Arg.eval g s i')=true->(Instr.checkKey false 10000 kt (a.eval i)).run P w=.ok () w:=fun ow=>run_checkKey hk false 9940 vi ow;simp only[dA] at h;split at h
 . rename_i ow;have hck:=bEf ow;split at h
   . rename_i id dB;rw[dB] at vx;generalize eF:a.eval x=u at vx
     cases vx with
     |map _ l hl=>
      split at h
      . rename_i es hg;obtain⟨_,_,ents,clock,m1,m2,mb,m3⟩:=hw.iS id l _ hl hg rfl;have hgo:=run_getObj_map (P:=P) m1
        have jE:∀{w':World},(Instr.mapUpdate t (.map (some l.cZ)) (a.eval i) (a.eval y)).run P w=.ok () w'->(execOp a.eval o).run P w=.ok .skip w':=fun hr=>by rcases ho with ho|ho<;>simp[execOp,ho,eF,hr]
        have Lt:∀(en:Array MapEntry) (cl:Nat),(setObj l.cZ (.map en cl)).run P w=.ok () {w with heap:=w.heap.setIfInBounds l.cZ (.map en cl)}:=fun en cl=>by simp[setObj,Sem.run,m1]
        split at h
        . rename_i j av hf;simp only[Ae,Ai] at h;obtain⟨rfl,rfl⟩:=h;obtain⟨r',h1,h2⟩:=run_findKey (P:=P) hk vi hf m2 m3
          rcases h2 with ⟨hh,_⟩|⟨j',av',vv,e1,e2,e3,e4,e5⟩
          . cases hh
          cases e1;subst e2;have hsb:=TK 9999 e5 vi (m3 j e4).1
          obtain⟨r1,r2⟩:=hw.aBc (es':=es.set j (Arg.eval g s i',Arg.eval g s y')) (ents':=ents.modify j fun e=>{e with key:=a.eval i,val:=a.eval y}) (clock':=clock) (w':={w with heap:=w.heap.setIfInBounds l.cZ (.map (ents.modify j fun e=>{e with key:=a.eval i,val:=a.eval y}) clock)}) hl hg m1 rfl .now (by simp[m2]) (mb.modify _ _ fun _=>rfl) (fun q hq=>by
           simp only[By] at hq;rw[wJ _ _ _ _ (by omega),getD_eq,Gz];by_cases hjq:j=q
           . rw[if_pos hjq,if_pos hjq];subst hjq;rw[if_pos e4];exact⟨vi,vy⟩
           rw[if_neg hjq,if_neg hjq]
           exact m3 q hq)
          refine⟨.skip,undef,_,G,jE ?_,.inr ⟨rfl,rfl⟩,r1,r2,VR.oG G _⟩
          have vo:((ents[j]?).map (·.key)).getD (a.eval i)=(ents.getD j default).key:=by have hjs:j<ents.size:=(by omega);simp[Array.getD,hjs]
          simp only[Instr.mapUpdate,Sem.run_bind,run_underlying ht w,Result.andThen_ok,hgo,hck,h1,Instr.keyThatStays,vo,hsb,if_true,Sem.run_pure,Lt]
        . rename_i hf;simp only[Ae,Ai] at h;obtain⟨rfl,rfl⟩:=h;obtain⟨r',h1,h2⟩:=run_findKey (P:=P) hk vi hf m2 m3
          rcases h2 with ⟨_,e2⟩|⟨j',av',vv,e1,_⟩
          . subst e2
            obtain⟨r1,r2⟩:=hw.aBc (es':=es++[(Arg.eval g s i',Arg.eval g s y')]) (ents':=ents.push {key:=a.eval i,val:=a.eval y,born:=clock}) (clock':=clock+1) (w':={w with heap:=w.heap.setIfInBounds l.cZ (.map (ents.push {key:=a.eval i,val:=a.eval y,born:=clock}) (clock+1))}) hl hg m1 rfl .now (by simp[m2]) (mb.push _ rfl) (fun q hq=>by
             simp only[Ba,Aq,Bm] at hq;rw[getD_eq,Du,Bo,Kg];by_cases hjq:q<es.length
             . rw[if_pos hjq,if_neg (by omega)];have :=m3 q hjq
               rwa [Bo] at this
             rw[if_neg hjq,if_pos (by omega)];have Xe:q -es.length=0:=(by omega);rw[Xe]
             exact⟨vi,vy⟩)
            refine⟨.skip,undef,_,G,jE ?_,.inr ⟨rfl,rfl⟩,r1,r2,VR.oG G _⟩;simp only[Instr.mapUpdate,Sem.run_bind,run_underlying ht w,Result.andThen_ok,hgo,hck,h1,Lt]
          cases e1
        cases h
      cases h
   cases h
 cases h
end
end
end Go.Av
