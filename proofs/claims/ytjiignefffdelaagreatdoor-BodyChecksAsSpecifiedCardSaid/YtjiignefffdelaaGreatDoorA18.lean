/-
  Parts of the proof of statement 4: AvRange, AvEqs, AvGo, AvDr, AvDef2
-/
import Derived.Test.YtjiignefffdelaaGreatDoorA17
set_option linter.unusedVariables false
set_option linter.unusedSimpArgs false
set_option linter.unusedSectionVars false
set_option linter.defProp false
namespace Go.Av
open Go
attribute [local congr] aN
theorem wrap_i64 {x:Int} (h0: -2^63≤x) (h1:x<2^63):IntKind.i64.wrap x=x:=by
 simp only[IntKind.wrap,IntKind.bits,IntKind.signed];simp;split<;>omega
def rangeLoop (id cmp ix ln nx:Nat) (B:ACode):ACode:=
 .block id (.loop (.seq (.ops [⟨some cmp,.bin .lss (.tmp ix) (.tmp ln),none⟩]) (.seq (.cond (.tmp cmp) .skip (.exit id)) (.seq B
  (.ops [⟨some nx,.bin .add (.tmp ix) (.const (.int .i64 1)),none⟩,⟨some ix,.mov (.tmp nx),none⟩])))))
theorem aMw {P:Program} {g:Genv} {n:Nat} {id cmp ix ln nx:Nat} {B:ACode} {f:Slt} {ds:List Dfr} {H:Heap} {Q:FQ} (J:Nat→Slt→Heap→Prop) (N:Nat) (hN:(N:Int)<2^63)
 (hs:cmp<n∧ix<n∧nx<n∧cmp≠ix∧cmp≠ln∧nx≠ix∧nx≠ln∧ix≠ln)
 (h1:f ix=.int .i64 0) (h2:f ln=.int .i64 N) (h0:J 0 f H)
 (st:∀(i:Nat) (f:Slt) (H:Heap) (d:Nat) (v:AV),d=cmp∨d=nx∨d=ix→J i f H→J i (upd f d v) H)
 (body:∀(i:Nat) (f:Slt) (H:Heap),i<N→f ix=.int .i64 i→f ln=.int .i64 N→J i f H→
   FC P g n B f ds H (thenF (fun f' ds' H'=>ds'=ds∧f' ix=.int .i64 i∧f' ln=.int .i64 N∧J (i+1) f' H') (inBlockF id Q)))
 (done:∀(f:Slt) (H:Heap),f ln=.int .i64 N→J N f H→Q .normal f ds H):FC P g n (rangeLoop id cmp ix ln nx B) f ds H Q:=by
 obtain⟨s1,s2,s3,s4,s5,s6,s7,s8⟩:=hs;refine aI (yU (fun m f' ds' H'=>ds'=ds∧∃i:Nat,i≤N∧m=N -i∧f' ix=.int .i64 i∧f' ln=.int .i64 N∧J i f' H') N ⟨rfl,0,Nat.zero_le _,by omega,h1,h2,h0⟩ ?_);rintro m f1 ds1 H1 ⟨rfl,i,hi,rfl,e1,e2,e3⟩;refine aA fun K hK=>?_;rw[qU,lB _ _ _ _ s1];simp only[aop,dA,e1,e2,binI,if_true,Option.map_some,aZ,jE,cN];apply hK;clear hK K;have st1:=st i f1 H1 cmp (.bool (decide ((i:Int)<N))) (.inl rfl) e3;refine aA fun K hK=>mF (decide ((i:Int)<N)) (by rw[dA,gD]) (fun ht=>?_) (fun ht=>?_)
 · rw[sT,cN]
   apply hK;clear hK K
   have hlt:i<N:=by have :=of_decide_eq_true ht;omega
   refine aA fun K hK=>?_;have hb:=body i _ H1 hlt (by rw[eT _ _ (Ne.symm s4)];exact e1) (by rw[eT _ _ (Ne.symm s5)];exact e2) st1;have mono:∀{c:ACode} {f:Slt} {ds:List Dfr} {H:Heap} {Q Q':FQ},(∀e f ds H,Q e f ds H→Q' e f ds H)→FC P g n c f ds H Q→FC P g n c f ds H Q':=fun {c f ds H Q Q'} hq h=>dG hq h;refine mono (fun e f2 ds2 H2 h=>?_) hb
   cases e with
   |normal=>
    obtain⟨rfl,b1,b2,b3⟩:=h;show K f2 ds2 H2;apply hK;rw[qU,lB _ _ _ _ s3]
    have hw:IntKind.i64.wrap ((i:Int)+1)=((i+1:Nat):Int):=by rw[wrap_i64 (by omega) (by omega)];rfl
    simp only[aop,dA,jG,b1,binI,if_true,Option.map_some,aZ];rw[oV _ _ s2];simp only[aop,dA,aZ,jE,cN,gD,hw];refine⟨N -(i+1),by omega,trivial,i+1,by omega,rfl,rfl,?_,?_⟩
    · rw[eT _ _ (Ne.symm s8),eT _ _ (Ne.symm s7)];exact b2
    · exact st _ _ _ _ _ (.inr (.inr rfl)) (st _ _ _ _ _ (.inr (.inl rfl)) b3)
   |_=>exact h
 · rw[sR,eS,eS,fU]
   have hge:i=N:=by have :=of_decide_eq_false ht;omega
   subst hge;exact done _ _ (by rw[eT _ _ (Ne.symm s5)];exact e2) st1
theorem aJs (ev:Arg→AV) (H:Heap) (zero:List AV):aop ev H (.alloc zero)=some (.ref H.next 0,H.alloc (.cells zero false)):=rfl
def symD:=And.intro aJs <| And.intro @aop.eq_1 <| And.intro @aop.eq_2 <| And.intro @aop.eq_4 <| And.intro @aop.eq_5 <| And.intro @aop.eq_6 <| And.intro @aop.eq_7 <| And.intro @aop.eq_8 <| And.intro @aop.eq_9 <| And.intro @aop.eq_10 <| And.intro @aop.eq_11 <| And.intro @aop.eq_12 <| And.intro @aop.eq_13 <| And.intro @aop.eq_14 <| And.intro @aop.eq_15 <| And.intro @aop.eq_16 <| And.intro @aop.eq_17 <| And.intro @aop.eq_18 <| And.intro @aop.eq_19 <| And.intro @aop.eq_20 <| And.intro @aop.eq_21 <| And.intro @aop.eq_22 <| And.intro @aop.eq_23 <| And.intro @aop.eq_24 <| And.intro @aop.eq_25 <| And.intro @aop.eq_26 <| And.intro @aop.eq_27 <| And.intro @aop.eq_28 <| And.intro @aop.eq_29 <| And.intro @aop.eq_30 <| And.intro @aop.eq_31 <| And.intro @aop.eq_32 <| And.intro @aop.eq_33 <| And.intro @aop.eq_34 <| And.intro @aop.eq_35 <| And.intro @aop.eq_36 <| And.intro @aop.eq_37 @aop.eq_38
def symE:=And.intro @binI.eq_1 <| And.intro @binI.eq_2 <| And.intro @binI.eq_3 <| And.intro @binI.eq_4 <| And.intro @binI.eq_5 <| And.intro @binI.eq_6 <| And.intro @binI.eq_7 <| And.intro @binI.eq_8 <| And.intro @binI.eq_9 <| And.intro @binI.eq_10 <| And.intro @binI.eq_11 <| And.intro @binI.eq_12 <| And.intro @binI.eq_13 <| And.intro @binI.eq_14 <| And.intro @binI.eq_15 <| And.intro @binI.eq_16 @binI.eq_17
section
def condK (v:AV) (A B:Prop):Prop:=
 match v with
 |.bool true=>A
 |.bool false=>B
 |_=>False
def guardK (v:AV) (b:Bool) (A B:Prop):Prop:=
 match v with
 |.bool c=>if c=b then A else B
 |_=>B
section
variable {P:Program} {g:Genv} {n:Nat} {r:List ROper} {f:Slt} {ds:List Dfr} {H:Heap} {Q:FQ}
theorem aBc (c:Arg) (a b:ACode):FC P g n (.cond c a b) f ds H Q=condK (evF g f c) (FC P g n a f ds H Q) (FC P g n b f ds H Q):=by
 refine bS (fun h=>?_) (fun h=>?_)
 · obtain⟨t,h1,h2⟩:=h
   rw[h1]
   cases t with
   |true=>exact h2
   |false=>exact h2
 · unfold condK at h
   split at h
   · rename_i hv;exact⟨true,hv,h⟩
   · rename_i hv;exact⟨false,hv,h⟩
   · exact h.elim
theorem nR (A B:Prop):condK (.bool true) A B=A:=bS id id
theorem lG (A B:Prop):condK (.bool false) A B=B:=bS id id
theorem aJy (p:Prop) [Decidable p] (A B:Prop):condK (.bool (decide p)) A B=((p→A)∧(¬p→B)):=by
 by_cases hp:p
 · simp[hp,nR]
 · simp[hp,lG]
theorem aJz (b:Bool) (A B:Prop):condK (.bool (!b)) A B=condK (.bool b) B A:=by
 cases b<;>rfl
theorem aO {v v':AV} (h:v=v') (A B:Prop):condK v A B=condK v' A B:=by rw[h]
theorem aUr (d x:Nat) (b:Bool) (op:ROp) (hd:d<n):
 FOps P g n (⟨some d,op,some (x,b)⟩::r) f ds H Q=guardK (f x) b (FOps P g n (⟨some d,op,none⟩::r) f ds H Q) (FOps P g n r (upd f d undefA) ds H Q):=by
 have :∀v,putF n f (some d) v=upd f d v:=fun v=>by simp[putF,hd]
 conv=>lhs;unfold FOps
 conv=>rhs;arg 3;unfold FOps
 simp only[wantedF,this,if_true];unfold guardK
 cases h:f x with
 |bool c=>by_cases hc:c=b<;>simp[hc]
 |_=>simp
theorem aKv (A B:Prop):guardK (.bool true) true A B=A:=bS id id
theorem aKs (A B:Prop):guardK (.bool false) false A B=A:=bS id id
theorem aKu (A B:Prop):guardK (.bool true) false A B=B:=bS id id
theorem aKt (A B:Prop):guardK (.bool false) true A B=B:=bS id id
theorem aM {v v':AV} (h:v=v') (b:Bool) (A B:Prop):guardK v b A B=guardK v' b A B:=by rw[h]
theorem aQq (a b:ACode):FC P g n (.seq a b) f ds H Q=FC P g n a f ds H (thenF (fun f ds H=>FC P g n b f ds H Q) Q):=bS id id
theorem aW {c:ACode} {f':Slt} (h:f=f'):FC P g n c f ds H Q=FC P g n c f' ds H Q:=by rw[h]
theorem aR {f':Slt} (h:f=f'):FOps P g n r f ds H Q=FOps P g n r f' ds H Q:=by rw[h]
theorem aP {K:Slt→List Dfr→Heap→Prop} {e:AEx} {f':Slt} (h:f=f'):thenF K Q e f ds H=thenF K Q e f' ds H:=by rw[h]
theorem aL {id:Nat} {e:AEx} {f':Slt} (h:f=f'):inBlockF id Q e f ds H=inBlockF id Q e f' ds H:=by rw[h]
end
theorem bCu:
 (∀(P:Program) (g:Genv) (n:Nat) (f:Slt) (ds:List Dfr) (H:Heap) (Q:FQ) (c:Arg) (a b:ACode),FC P g n (.cond c a b) f ds H Q=condK (evF g f c) (FC P g n a f ds H Q) (FC P g n b f ds H Q))∧
 (∀(A B:Prop),condK (.bool true) A B=A)∧
 (∀(A B:Prop),condK (.bool false) A B=B)∧
 (∀(P:Program) (g:Genv) (n:Nat) (r:List ROper) (f:Slt) (ds:List Dfr) (H:Heap) (Q:FQ) (d x:Nat) (b:Bool) (op:ROp) (hd:d<n),
   FOps P g n (⟨some d,op,some (x,b)⟩::r) f ds H Q=guardK (f x) b (FOps P g n (⟨some d,op,none⟩::r) f ds H Q) (FOps P g n r (upd f d undefA) ds H Q))∧
 (∀(A B:Prop),guardK (.bool true) true A B=A)∧
 (∀(A B:Prop),guardK (.bool false) false A B=A)∧
 (∀(A B:Prop),guardK (.bool true) false A B=B)∧
 (∀(A B:Prop),guardK (.bool false) true A B=B)∧
 (∀(P:Program) (g:Genv) (n:Nat) (f:Slt) (ds:List Dfr) (H:Heap) (Q:FQ) (a b:ACode),FC P g n (.seq a b) f ds H Q=FC P g n a f ds H (thenF (fun f ds H=>FC P g n b f ds H Q) Q)):=
 ⟨fun _ _ _ _ _ _ _ c a b=>aBc c a b,nR,lG,fun _ _ _ _ _ _ _ _ d x b op hd=>aUr d x b op hd,aKv,aKs,aKu,aKt,fun _ _ _ _ _ _ _ a b=>aQq a b⟩
def forLoop (id c:Nat) (ts:ACode) (B:ACode) (st:ACode):ACode:=
 .block id (.loop (.seq (.seq ts (.cond (.tmp c) .skip (.exit id))) (.seq B st)))
theorem aUp {P:Program} {g:Genv} {n:Nat} {id c:Nat} {ts B st:ACode} {f:Slt} {ds:List Dfr} {H:Heap} {Q:FQ} (J:Nat→Slt→Heap→Prop) (N:Nat)
 (h0:J 0 f H)
 (test:∀(i:Nat) (f:Slt) (H:Heap),i≤N→J i f H→∀(K:Slt→Prop),(∀f',f' c=.bool (decide (i<N))→J i f' H→K f')→∀Q':FQ,FC P g n ts f ds H (thenF (fun f' ds' H'=>ds'=ds∧H'=H∧K f') Q'))
 (body:∀(i:Nat) (f:Slt) (H:Heap),i<N→J i f H→
   FC P g n B f ds H (thenF (fun f' ds' H'=>ds'=ds∧FC P g n st f' ds H' (thenF (fun f' ds' H'=>ds'=ds∧J (i+1) f' H') (inBlockF id Q))) (inBlockF id Q)))
 (done:∀(f:Slt) (H:Heap),J N f H→Q .normal f ds H):FC P g n (forLoop id c ts B st) f ds H Q:=by
 have mono:∀{c:ACode} {f:Slt} {ds:List Dfr} {H:Heap} {Q Q':FQ},(∀e f ds H,Q e f ds H→Q' e f ds H)→FC P g n c f ds H Q→FC P g n c f ds H Q':=fun {c f ds H Q Q'} hq h=>dG hq h;refine aI (yU (fun m f' ds' H'=>ds'=ds∧∃i:Nat,i≤N∧m=N -i∧J i f' H') N ⟨rfl,0,Nat.zero_le _,by omega,h0⟩ ?_);rintro m f1 ds1 H1 ⟨rfl,i,hi,rfl,e3⟩;refine aA fun K hK=>?_;refine aA fun K2 hK2=>?_;refine mono (fun e f2 ds2 H2 h=>?_) (test i f1 H1 hi e3 (fun f'=>K2 f' ds1 H1) (fun f' h1 h2=>?_) (thenF K (inBlockF id Q) |> fun Z=>Z))
 · cases e with
   |normal=>obtain⟨rfl,rfl,h⟩:=h;exact h
   |_=>exact h
 · apply hK2
   rw[aBc,dA,h1];by_cases hlt:i<N
   · rw[decide_eq_true hlt,nR,sT,cN]
     apply hK;refine aA fun K3 hK3=>?_;refine mono (fun e f2 ds2 H2 h=>?_) (body i f' H1 hlt h2)
     cases e with
     |normal=>
      obtain⟨rfl,h⟩:=h;show K3 f2 ds2 H2;apply hK3;refine mono (fun e f3 ds3 H3 hh=>?_) h
      cases e with
      |normal=>
       obtain⟨h5,h6⟩:=hh;exact⟨N -(i+1),by omega,h5,i+1,by omega,rfl,h6⟩
      |_=>exact hh
     |_=>exact h
   · rw[decide_eq_false hlt,lG,sR,eS,eS,fU]
     obtain rfl:i=N:=by omega
     exact done f' H1 h2
theorem VR.oO {G:Gh} {w:World} {tag sz:Nat} {els:List (List AV)} {u:Value} (h:VR G w (.aT tag sz els) u):VR G w (.aT 0 sz els) u:=by
 cases h with
 |aT _ _ _ b o cap us hu h hv ht=>exact .aT 0 sz els b o cap us hu h hv ⟨ht.1,trivial⟩
 |lstE _ _ b o s ht=>exact .lstE _ _ b o s (by omega)
theorem Sound.oO {P:Program} {g:Genv} {f:FuncId} {sz:Nat} {els:List (List AV)} {rest:List AV} {H H':Heap} {out:Out} (h:Sound P g f (.aT 0 sz els::rest) H out H') (tag:Nat):
 Sound P g f (.aT tag sz els::rest) H out H':=by
 refine⟨h.1,fun G w vs hw hv=>h.2 G w vs hw ⟨hv.1,fun j hj=>?_⟩⟩;have :=hv.2 j hj
 cases j with
 |zero=>exact VR.oO this
 |succ j=>exact this
def OwnN (H:Heap) (sz:Nat) (v:AV) (els:List (List AV)):Prop:=Own H sz v els∧(els=[]→v=.nilsl)
theorem OwnN.nil (H:Heap) (sz:Nat):OwnN H sz .nilsl []:=⟨.nil H sz,fun _=>rfl⟩
theorem OwnN.alloc {H:Heap} {sz:Nat} {v:AV} {els:List (List AV)} (h:OwnN H sz v els) (o:AObj):OwnN (H.alloc o) sz v els:=⟨h.1.alloc o,h.2⟩
theorem OwnN.append {H:Heap} {sz bytes:Nat} {v:AV} {els:List (List AV)} {e:List AV} (h:OwnN H sz v els) (hb:(els.length+1)*bytes≤2^40):
 ∃v' H',appendA H sz bytes false v [e]=some (v',H')∧OwnN H' sz v' (els++[e])∧Grew H H' v:=by
 obtain⟨v',H',h1,h2,h3⟩:=h.1.append (bytes:=bytes) (ys:=[e]) (by simpa using hb);exact⟨v',H',h1,⟨h2,fun he=>by simp at he⟩,h3⟩
def ownV (H:Heap) (sz:Nat) (els:List (List AV)):AV:=if els=[] then .nilsl else .aT (H.next+2) sz els
def ownH (H:Heap) (els:List (List AV)):Heap:=if els=[] then H else H.alloc .tok
theorem OwnN.out (H:Heap) (sz:Nat) (els:List (List AV)):OwnN (ownH H els) sz (ownV H sz els) els:=by
 unfold ownH ownV;by_cases h:els=[]
 · subst h
   exact OwnN.nil _ _
 · rw[if_neg h,if_neg h]
   exact⟨Own.fresh _ _ _,fun he=>absurd he h⟩
theorem bFq:
 (∀{α:Type} (a b:α),(a≠b)=¬(a=b))∧((¬False)=True)∧(∀{α:Type} {_:Decidable True} (a b:α),(if True then a else b)=a)∧((false=true)=False)∧
 (∀{α:Type} {_:Decidable False} (a b:α),(if False then a else b)=b)∧(∀{α β:Type} (f:α→β) (a:α),Option.map f (some a)=some (f a))∧(∀{α:Type} (a:α) (l:List α),(a::l).length=l.length+1)∧
 (∀{α:Type},([]:List α).length=0)∧(∀n:Nat,0+n=n)∧(∀{α:Type} (a d:α) (l:List α),(a::l).getD 0 d=a)∧(∀{α:Type} (a d:α) (l:List α) (n:Nat),(a::l).getD (n+1) d=l.getD n d)∧
 (∀p:Prop,(p∧p)=p)∧(∀n:Nat,(n≤n)=True)∧(∀(p:Prop) [Decidable p] (A B:Prop),condK (.bool (decide p)) A B=((p→A)∧(¬p→B))):=
 ⟨fun a b=>ne_eq a b,not_false_eq_true,fun a b=>if_true a b,Bool.false_eq_true,fun a b=>if_false a b,fun f a=>rfl,fun a l=>rfl,rfl,Nat.zero_add,fun _ _ _=>rfl,fun _ _ _ _=>rfl,and_self,fun n=>eq_true (Nat.le_refl n),fun p _ A B=>aJy p A B⟩
def sy:=And.intro aC (And.intro bCu (And.intro symD (And.intro symE bFq)))
theorem sn:(∀n:Nat,n*1=n)∧(∀n:Nat,1*n=n)∧(∀n:Nat,0*n=0)∧(∀n:Nat,n -0=n)∧(∀n:Nat,n+0=n)∧(∀n:Nat,0+n=n):=
 ⟨Nat.mul_one,Nat.one_mul,Nat.zero_mul,Nat.sub_zero,Nat.add_zero,Nat.zero_add⟩
theorem sh:(∀n m:Nat,Heap.get ⟨n,.nil⟩ m=none)∧(∀(H:Heap) (o:AObj) (i:Nat),(H.alloc o).get i=if i=H.next then some o else H.get i)∧(∀(H:Heap) (j:Nat) (o:AObj) (i:Nat),(H.set j o).get i=if i=j then some o else H.get i)∧
 (∀(H:Heap) (o:AObj),(H.alloc o).next=H.next+1)∧(∀(H:Heap) (j:Nat) (o:AObj),(H.set j o).next=H.next)∧(∀n:Nat,0+n=n)∧
 (∀{α:Type} {_:Decidable True} (a b:α),(if True then a else b)=a)∧(∀{α:Type} {_:Decidable False} (a b:α),(if False then a else b)=b):=
 ⟨fun _ _=>rfl,fun _ _ _=>Heap.aH ..,fun _ _ _ _=>Heap.aB ..,fun _ _=>Heap.aX ..,fun _ _ _=>Heap.aS ..,Nat.zero_add,fun a b=>if_true a b,fun a b=>if_false a b⟩
theorem sl:
 (∀{α:Type} (a:α) (l:List α) (n:Nat),(a::l).take (n+1)=a::l.take n)∧(∀{α:Type} (a:α) (l:List α) (n:Nat),(a::l).drop (n+1)=l.drop n)∧(∀{α:Type} (l:List α),l.take 0=[])∧(∀{α:Type} (l:List α),l.drop 0=l)∧
 (∀{α:Type} (n:Nat),([]:List α).take n=[])∧(∀{α:Type} (n:Nat),([]:List α).drop n=[])∧(∀{α:Type} (a:α) (l m:List α),a::l++m=a::(l++m))∧(∀{α:Type} (l:List α),[]++l=l)∧(∀{α:Type} (l:List α),l++[]=l)∧
 (∀{α β:Type} (f:α→β) (a:α) (l:List α),(a::l).map f=f a::l.map f)∧(∀{α β:Type} (f:α→β),[].map f=[])∧(∀{α:Type} (a d:α) (l:List α),(a::l).getD 0 d=a)∧
 (∀{α:Type} (a d:α) (l:List α) (n:Nat),(a::l).getD (n+1) d=l.getD n d)∧(∀{α:Type} (a b:α) (l:List α),(a::l).set 0 b=b::l)∧(∀{α:Type} (a b:α) (l:List α) (n:Nat),(a::l).set (n+1) b=a::l.set n b):=
 ⟨fun _ _ _=>rfl,fun _ _ _=>rfl,fun l=>List.take_zero,fun _=>rfl,fun n=>List.take_nil,fun n=>List.drop_nil,fun _ _ _=>rfl,fun _=>rfl,fun l=>List.append_nil l,fun _ _ _=>rfl,fun _=>rfl,fun _ _ _=>rfl,fun _ _ _ _=>rfl,fun _ _ _=>rfl,fun _ _ _ _=>rfl⟩
theorem sm:(∀{α β:Type} (f:α→β) (a:α) (l:List α),(a::l).map f=f a::l.map f)∧(∀{α β:Type} (f:α→β),[].map f=[])∧(∀{α:Type} (a b:α),(a≠b)=¬(a=b))∧((¬False)=True)∧
 (∀{α:Type} (a d:α) (l:List α),(a::l).getD 0 d=a)∧(∀{α:Type} (a d:α) (l:List α) (n:Nat),(a::l).getD (n+1) d=l.getD n d):=
 ⟨fun _ _ _=>rfl,fun _=>rfl,fun a b=>ne_eq a b,not_false_eq_true,fun _ _ _=>rfl,fun _ _ _ _=>rfl⟩
end
section
def FD2 (P:Program) (g:Genv) (n:Nat) (pairs:List (Nat×Nat)) (base:Nat):Nat→Nat→List ROper→List (Nat×Nat)→List (Nat×Heap×Heap)→Slt→Heap→(Slt→Heap→Prop)→Prop
 |_,_,[],_,_,f,H,Q=>Q f H
 |i,k,r::rs,rd,ef,f,H,Q=>
  if wantedF f r=true then
  match r.op with
  |.call c azs=>∃v H',FQStep P g r f H v H'∧H.next≤H'.next∧(∀x∈rd,(x.1,i)∈pairs→H.get x.2=H'.get x.2)∧
    FD2 P g n pairs base (i+1) k rs rd ((i,H,H')::ef) (putF n f r.dst v) H' Q
  |.panic _|.deferc _ _=>False
  |op=>
   if op.fresh then
    match fop (evF g f) op with
    |some (ob,val)=>(∀x∈ef,(i,x.1)∈pairs→x.2.1.get (base+k)=x.2.2.get (base+k))∧
     FD2 P g n pairs base (i+1) (k+1) rs ((i,base+k)::rd) ef (putF n f r.dst (val (base+k))) (H.set (base+k) ob) Q
    |none=>False
   else if op.eff then
    stepK (aop (evF g f) H op) fun v H'=>H.next≤H'.next∧(∀x∈rd,(x.1,i)∈pairs→H.get x.2=H'.get x.2)∧
     FD2 P g n pairs base (i+1) k rs rd ((i,H,H')::ef) (putF n f r.dst v) H' Q
   else
    stepK (aop (evF g f) H op) fun v H'=>H'=H∧(∀id,op.readsId (evF g f)=some id→∀x∈ef,(i,x.1)∈pairs→x.2.1.get id=x.2.2.get id)∧
     FD2 P g n pairs base (i+1) k rs (match op.readsId (evF g f) with|some id=>(i,id)::rd|none=>rd) ef (putF n f r.dst v) H Q
  else FD2 P g n pairs base (i+1) (if r.op.fresh then k+1 else k) rs rd ef (putF n f r.dst undefA) H Q
section
variable {P:Program} {g:Genv} {n:Nat} {pairs:List (Nat×Nat)} {base:Nat}
theorem fI:∀(rl:List ROper) (i k:Nat) (rd:List (Nat×Nat)) (ef:List (Nat×Heap×Heap)) (f:Slt) (H:Heap) (Q:Slt→Heap→Prop),FD2 P g n pairs base i k rl rd ef f H Q→FDr P g n pairs base i k rl rd ef f H Q
 |[],i,k,rd,ef,f,H,Q,h=>h
 |r::rs,i,k,rd,ef,f,H,Q,h=>by
  unfold FD2 at h;unfold FDr;split at h
  · rename_i hw
    rw[if_pos hw];split at h
    · rename_i c azs hop
      obtain⟨v,H',h1,h2,h3,h4⟩:=h;rw[if_neg (by simp[hop,ROp.fresh]),if_pos (by simp[hop,ROp.eff])];exact⟨v,H',h1,h2,h3,fI rs _ _ _ _ _ _ _ h4⟩
    · exact h.elim
    · exact h.elim
    · rename_i n1 n2 n3
      have hq:∀v H',aop (evF g f) H r.op=some (v,H')→FQStep P g r f H v H':=by
       intro v H' ha;unfold FQStep;split
       · rename_i c azs hop;exact absurd hop (n1 c azs)
       · rename_i x hop;exact absurd hop (n2 x)
       · rename_i c azs hop;exact absurd hop (n3 c azs)
       · exact ha
      split at h
      · rename_i hf
        rw[if_pos hf];split at h
        · rename_i ob val ho
          exact⟨ob,val,ho,h.1,fI rs _ _ _ _ _ _ _ h.2⟩
        · exact h.elim
      · rename_i hf
        rw[if_neg hf];unfold stepK at h;split at h
        · rename_i he
          rw[if_pos he];split at h
          · rename_i v H' ha
            exact⟨v,H',hq v H' ha,h.1,h.2.1,fI rs _ _ _ _ _ _ _ h.2.2⟩
          · exact h.elim
        · rename_i he
          rw[if_neg he];split at h
          · rename_i v H' ha
            obtain⟨rfl,h2,h3⟩:=h;exact⟨v,hq v _ ha,h2,fI rs _ _ _ _ _ _ _ h3⟩
          · exact h.elim
  · rename_i hw
    rw[if_neg hw];exact fI rs _ _ _ _ _ _ _ h
variable {ds:List Dfr} {Q:FQ} {f:Slt} {H:Heap}
theorem aQ {rl:List ROper} (h0:rl.countP (·.op.fresh)=0) (h:FD2 P g n pairs H.next 0 0 rl [] [] f H fun f' H'=>Q .normal f' ds H'):FC P g n (.draw rl pairs) f ds H Q:=by
 refine⟨by rw[h0];rfl,?_⟩;rw[h0];exact fI _ _ _ _ _ _ _ _ h
theorem aQo {rl:List ROper} (c:Nat) (h0:rl.countP (·.op.fresh)=c) (hf:freeAt H c=true) (h:FD2 P g n pairs H.next 0 0 rl [] [] f {H with next:=H.next+c} fun f' H'=>Q .normal f' ds H'):FC P g n (.draw rl pairs) f ds H Q:=by
 refine⟨by rw[h0];exact hf,?_⟩;rw[h0];exact fI _ _ _ _ _ _ _ _ h
theorem eY {rl:List ROper} (c:Nat) (h0:rl.countP (·.op.fresh)=c) (hf:freeAt H c=true)
 (h:∀H1:Heap,H1.next=H.next+c→(∀id,H1.get id=H.get id)→FD2 P g n pairs H.next 0 0 rl [] [] f H1 fun f' H'=>Q .normal f' ds H'):FC P g n (.draw rl pairs) f ds H Q:=
 aQo c h0 hf (h _ rfl fun _=>rfl)
variable {i k:Nat} {rs:List ROper} {rd:List (Nat×Nat)} {ef:List (Nat×Heap×Heap)} {R:Slt→Heap→Prop}
theorem aHe:FD2 P g n pairs base i k [] rd ef f H R=R f H:=bS id id
theorem aJh (d:Nat) (op:ROp) (hp:op.plain=true) (hf:op.fresh=false) (he:op.eff=false) (hd:d<n):
 FD2 P g n pairs base i k (⟨some d,op,none⟩::rs) rd ef f H R=stepK (aop (evF g f) H op) fun v H'=>H'=H∧(∀id,op.readsId (evF g f)=some id→∀x∈ef,(i,x.1)∈pairs→x.2.1.get id=x.2.2.get id)∧
       FD2 P g n pairs base (i+1) k rs (match op.readsId (evF g f) with|some id=>(i,id)::rd|none=>rd) ef (upd f d v) H R:=by
 have :∀v,putF n f (some d) v=upd f d v:=fun v=>by simp[putF,hd]
 conv=>lhs;unfold FD2
 rw[if_pos (by rfl)];simp only[hf,he,this]
 cases op<;>first|rfl|(simp[ROp.fresh] at hf;done)|(simp[ROp.eff] at he;done)|(simp[ROp.plain] at hp;done)
theorem aJi (m:Nat) (a x:Arg):
 FD2 P g n pairs base i k (⟨none,.store m a x,none⟩::rs) rd ef f H R=stepK (aop (evF g f) H (.store m a x)) fun v H'=>H.next≤H'.next∧(∀x∈rd,(x.1,i)∈pairs→H.get x.2=H'.get x.2)∧
       FD2 P g n pairs base (i+1) k rs rd ((i,H,H')::ef) f H' R:=by
 conv=>lhs;unfold FD2
 rw[if_pos (by rfl)];simp only[ROp.fresh,ROp.eff,Bool.false_eq_true,if_false,if_true,putF]
theorem aJg (d:Nat) (z:List AV) (hd:d<n):
 FD2 P g n pairs base i k (⟨some d,.alloc z,none⟩::rs) rd ef f H R=((∀x∈ef,(i,x.1)∈pairs→x.2.1.get (base+k)=x.2.2.get (base+k))∧
       FD2 P g n pairs base (i+1) (k+1) rs ((i,base+k)::rd) ef (upd f d (.ref (base+k) 0)) (H.set (base+k) (.cells z false)) R):=by
 have :∀v,putF n f (some d) v=upd f d v:=fun v=>by simp[putF,hd]
 conv=>lhs;unfold FD2
 rw[if_pos (by rfl)];simp only[ROp.fresh,if_true,fop,this]
theorem aEg (d:Nat) (sz bytes:Nat) (mu:Bool) (x y:Arg) (hd:d<n):
 FD2 P g n pairs base i k (⟨some d,.append sz bytes mu x y,none⟩::rs) rd ef f H R=stepK (aop (evF g f) H (.append sz bytes mu x y)) fun v H'=>H.next≤H'.next∧(∀x∈rd,(x.1,i)∈pairs→H.get x.2=H'.get x.2)∧
       FD2 P g n pairs base (i+1) k rs rd ((i,H,H')::ef) (upd f d v) H' R:=by
 have :∀v,putF n f (some d) v=upd f d v:=fun v=>by simp[putF,hd]
 conv=>lhs;unfold FD2
 rw[if_pos (by rfl)];simp only[ROp.fresh,ROp.eff,Bool.false_eq_true,if_false,if_true,this]
theorem oU {d:Nat} {fid:FuncId} {azs:List Arg} {args:List AV} {v:AV} {H':Heap} (hd:d<n) (ha:azs.map (evF g f)=args) (hS:Sound P g fid args H (.ret v) H') (hn:H.next≤H'.next)
 (hr:∀x∈rd,(x.1,i)∈pairs→H.get x.2=H'.get x.2)
 (h:FD2 P g n pairs base (i+1) k rs rd ((i,H,H')::ef) (upd f d v) H' R):FD2 P g n pairs base i k (⟨some d,.call (.const (.func (.func fid) [] [])) azs,none⟩::rs) rd ef f H R:=by
 have :∀v,putF n f (some d) v=upd f d v:=fun v=>by simp[putF,hd]
 unfold FD2;rw[if_pos (by rfl)];simp only[this];refine⟨v,H',?_,hn,hr,h⟩;exact⟨(fid,[],[]),rfl,by simpa [ha] using hS⟩
theorem wP (d:Option Nat) (x:Nat) (b:Bool) (op:ROp) (A B:Prop):guardK (f x) b A B=if wantedF f ⟨d,op,some (x,b)⟩=true then A else B:=by
 by_cases hw:wantedF f ⟨d,op,some (x,b)⟩=true
 · rw[if_pos hw]
   unfold wantedF at hw;dsimp only at hw;split at hw
   · rename_i c hc
     rw[hc];unfold guardK;dsimp only;rw[if_pos (by simpa using hw)]
   · cases hw
 · rw[if_neg hw]
   unfold wantedF at hw;dsimp only at hw;unfold guardK;split
   · rename_i c hc
     rw[hc] at hw;rw[if_neg (by simpa using hw)]
   · rfl
theorem aXk (d x:Nat) (b:Bool) (op:ROp) (hd:d<n):
 FD2 P g n pairs base i k (⟨some d,op,some (x,b)⟩::rs) rd ef f H R=guardK (f x) b (FD2 P g n pairs base i k (⟨some d,op,none⟩::rs) rd ef f H R) (FD2 P g n pairs base (i+1) (if op.fresh then k+1 else k) rs rd ef (upd f d undefA) H R):=by
 have :∀v,putF n f (some d) v=upd f d v:=fun v=>by simp[putF,hd]
 rw[wP (some d) x b op];by_cases hw:wantedF f ⟨some d,op,some (x,b)⟩=true
 · rw[if_pos hw]
   conv=>lhs;unfold FD2
   conv=>rhs;unfold FD2
   rw[if_pos hw,if_pos (by rfl)];rfl
 · rw[if_neg hw]
   conv=>lhs;unfold FD2
   rw[if_neg hw,this]
theorem aU {f':Slt} {rl:List ROper} (h:f=f'):FD2 P g n pairs base i k rl rd ef f H R=FD2 P g n pairs base i k rl rd ef f' H R:=by rw[h]
end
theorem bFp (P:Program) (g:Genv) (n:Nat):
 (∀(pairs:List (Nat×Nat)) (base i k:Nat) (rs:List ROper) (rd:List (Nat×Nat)) (ef:List (Nat×Heap×Heap)) (f:Slt) (H:Heap) (R:Slt→Heap→Prop),FD2 P g n pairs base i k [] rd ef f H R=R f H)∧
 (∀(pairs:List (Nat×Nat)) (base i k:Nat) (rs:List ROper) (rd:List (Nat×Nat)) (ef:List (Nat×Heap×Heap)) (f:Slt) (H:Heap) (R:Slt→Heap→Prop) (m:Nat) (a x:Arg),
   FD2 P g n pairs base i k (⟨none,.store m a x,none⟩::rs) rd ef f H R=stepK (aop (evF g f) H (.store m a x)) fun v H'=>H.next≤H'.next∧(∀x∈rd,(x.1,i)∈pairs→H.get x.2=H'.get x.2)∧
       FD2 P g n pairs base (i+1) k rs rd ((i,H,H')::ef) f H' R)∧
 (∀(pairs:List (Nat×Nat)) (base i k:Nat) (rs:List ROper) (rd:List (Nat×Nat)) (ef:List (Nat×Heap×Heap)) (f:Slt) (H:Heap) (R:Slt→Heap→Prop) (d:Nat) (z:List AV) (hd:d<n),
   FD2 P g n pairs base i k (⟨some d,.alloc z,none⟩::rs) rd ef f H R=((∀x∈ef,(i,x.1)∈pairs→x.2.1.get (base+k)=x.2.2.get (base+k))∧
       FD2 P g n pairs base (i+1) (k+1) rs ((i,base+k)::rd) ef (upd f d (.ref (base+k) 0)) (H.set (base+k) (.cells z false)) R))∧
 (∀(pairs:List (Nat×Nat)) (base i k:Nat) (rs:List ROper) (rd:List (Nat×Nat)) (ef:List (Nat×Heap×Heap)) (f:Slt) (H:Heap) (R:Slt→Heap→Prop) (d sz bytes:Nat) (mu:Bool) (x y:Arg) (hd:d<n),
   FD2 P g n pairs base i k (⟨some d,.append sz bytes mu x y,none⟩::rs) rd ef f H R=stepK (aop (evF g f) H (.append sz bytes mu x y)) fun v H'=>H.next≤H'.next∧(∀x∈rd,(x.1,i)∈pairs→H.get x.2=H'.get x.2)∧
       FD2 P g n pairs base (i+1) k rs rd ((i,H,H')::ef) (upd f d v) H' R)∧
 (∀(pairs:List (Nat×Nat)) (base i k:Nat) (rs:List ROper) (rd:List (Nat×Nat)) (ef:List (Nat×Heap×Heap)) (f:Slt) (H:Heap) (R:Slt→Heap→Prop) (d x:Nat) (b:Bool) (op:ROp) (hd:d<n),
   FD2 P g n pairs base i k (⟨some d,op,some (x,b)⟩::rs) rd ef f H R=guardK (f x) b (FD2 P g n pairs base i k (⟨some d,op,none⟩::rs) rd ef f H R) (FD2 P g n pairs base (i+1) (if op.fresh then k+1 else k) rs rd ef (upd f d undefA) H R)):=
 ⟨fun _ _ _ _ _ _ _ _ _ _=>aHe,fun _ _ _ _ _ _ _ _ _ _ m a x=>aJi m a x,
  fun _ _ _ _ _ _ _ _ _ _ d z hd=>aJg d z hd,fun _ _ _ _ _ _ _ _ _ _ d sz bytes mu x y hd=>aEg d sz bytes mu x y hd,
  fun _ _ _ _ _ _ _ _ _ _ d x b op hd=>aXk d x b op hd⟩
def rangeLoopC (id cmp ix nx:Nat) (N:Int) (B:ACode):ACode:=
 .block id (.loop (.seq (.ops [⟨some cmp,.bin .lss (.tmp ix) (.const (.int .i64 N)),none⟩]) (.seq (.cond (.tmp cmp) .skip (.exit id)) (.seq B
  (.ops [⟨some nx,.bin .add (.tmp ix) (.const (.int .i64 1)),none⟩,⟨some ix,.mov (.tmp nx),none⟩])))))
theorem aJe {P:Program} {g:Genv} {n:Nat} {id cmp ix nx:Nat} {B:ACode} {f:Slt} {ds:List Dfr} {H:Heap} {Q:FQ} (J:Nat→Slt→Heap→Prop) (N:Nat) {N':Int} (hN:(N:Int)<2^63)
 (hNN:N'=(N:Int))
 (hs:cmp<n∧ix<n∧nx<n∧cmp≠ix∧nx≠ix)
 (h1:f ix=.int .i64 0) (h0:J 0 f H)
 (st:∀(i:Nat) (f:Slt) (H:Heap) (d:Nat) (v:AV),d=cmp∨d=nx∨d=ix→J i f H→J i (upd f d v) H)
 (body:∀(i:Nat) (f:Slt) (H:Heap),i<N→f ix=.int .i64 i→J i f H→
   FC P g n B f ds H (thenF (fun f' ds' H'=>ds'=ds∧f' ix=.int .i64 i∧J (i+1) f' H') (inBlockF id Q)))
 (done:∀(f:Slt) (H:Heap),J N f H→Q .normal f ds H):FC P g n (rangeLoopC id cmp ix nx N' B) f ds H Q:=by
 subst hNN;obtain⟨s1,s2,s3,s4,s7⟩:=hs;refine aI (yU (fun m f' ds' H'=>ds'=ds∧∃i:Nat,i≤N∧m=N -i∧f' ix=.int .i64 i∧J i f' H') N ⟨rfl,0,Nat.zero_le _,by omega,h1,h0⟩ ?_);rintro m f1 ds1 H1 ⟨rfl,i,hi,rfl,e1,e3⟩;refine aA fun K hK=>?_;rw[qU,lB _ _ _ _ s1];simp only[aop,dA,jG,e1,binI,if_true,Option.map_some,aZ,jE,cN];apply hK;clear hK K;have st1:=st i f1 H1 cmp (.bool (decide ((i:Int)<N))) (.inl rfl) e3;refine aA fun K hK=>mF (decide ((i:Int)<N)) (by rw[dA,gD]) (fun ht=>?_) (fun ht=>?_)
 · rw[sT,cN]
   apply hK;clear hK K
   have hlt:i<N:=by have :=of_decide_eq_true ht;omega
   refine aA fun K hK=>?_;have hb:=body i _ H1 hlt (by rw[eT _ _ (Ne.symm s4)];exact e1) st1;have mono:∀{c:ACode} {f:Slt} {ds:List Dfr} {H:Heap} {Q Q':FQ},(∀e f ds H,Q e f ds H→Q' e f ds H)→FC P g n c f ds H Q→FC P g n c f ds H Q':=fun {c f ds H Q Q'} hq h=>dG hq h;refine mono (fun e f2 ds2 H2 h=>?_) hb
   cases e with
   |normal=>
    obtain⟨rfl,b1,b3⟩:=h;show K f2 ds2 H2;apply hK;rw[qU,lB _ _ _ _ s3]
    have hw:IntKind.i64.wrap ((i:Int)+1)=((i+1:Nat):Int):=by rw[wrap_i64 (by omega) (by omega)];rfl
    simp only[aop,dA,jG,b1,binI,if_true,Option.map_some,aZ];rw[oV _ _ s2];simp only[aop,dA,aZ,jE,cN,gD,hw];exact⟨N -(i+1),by omega,trivial,i+1,by omega,rfl,rfl,st _ _ _ _ _ (.inr (.inr rfl)) (st _ _ _ _ _ (.inr (.inl rfl)) b3)⟩
   |_=>exact h
 · rw[sR,eS,eS,fU]
   have hge:i=N:=by have :=of_decide_eq_false ht;omega
   subst hge;exact done _ _ st1
class Pp (op:ROp):Prop where
 h:op.plain=true
 f:op.fresh=false
 e:op.eff=false
instance (x:Arg):Pp (.mov x):=⟨rfl,rfl,rfl⟩
instance (c a b:Arg):Pp (.pick c a b):=⟨rfl,rfl,rfl⟩
instance (z:List AV) (ps:List (Nat×Nat×Arg)):Pp (.build z ps):=⟨rfl,rfl,rfl⟩
instance (sz:Nat) (xs:List Arg):Pp (.mklit sz xs):=⟨rfl,rfl,rfl⟩
instance (agg:Bool) (m:Nat) (a:Arg):Pp (.load agg m a):=⟨rfl,rfl,rfl⟩
instance (o:BinOp) (x y:Arg):Pp (.bin o x y):=⟨rfl,rfl,rfl⟩
instance (neg:Bool) (x y:Arg):Pp (.eqb neg x y):=⟨rfl,rfl,rfl⟩
instance (neg:Bool) (sh:List Sk) (x y:Arg):Pp (.eqf neg sh x y):=⟨rfl,rfl,rfl⟩
instance (neg:Bool) (k:Nk) (lit:Bool) (x y:Arg):Pp (.eqn neg k lit x y):=⟨rfl,rfl,rfl⟩
instance (o:UnOp) (x:Arg):Pp (.un o x):=⟨rfl,rfl,rfl⟩
instance (k:IntKind) (x:Arg):Pp (.convi k x):=⟨rfl,rfl,rfl⟩
instance (x:Arg):Pp (.b2str x):=⟨rfl,rfl,rfl⟩
instance (m:Nat) (x:Arg):Pp (.s2ap m x):=⟨rfl,rfl,rfl⟩
instance (t:TypeId) (x:Arg):Pp (.mkif t x):=⟨rfl,rfl,rfl⟩
instance (fn:Fn) (a b:List Arg):Pp (.mkfn fn a b):=⟨rfl,rfl,rfl⟩
instance (x:Arg) (lo hi:Option Arg):Pp (.slstr x lo hi):=⟨rfl,rfl,rfl⟩
instance (sz:Nat) (x:Arg) (lo hi mx:Option Arg):Pp (.slsl sz x lo hi mx):=⟨rfl,rfl,rfl⟩
instance (m sz:Nat) (x:Arg) (lo hi mx:Option Arg):Pp (.slarr m sz x lo hi mx):=⟨rfl,rfl,rfl⟩
instance (off:Nat) (x:Arg):Pp (.fadr off x):=⟨rfl,rfl,rfl⟩
instance (arr:Option Nat) (sz:Nat) (x i:Arg):Pp (.iadr arr sz x i):=⟨rfl,rfl,rfl⟩
instance (m sz:Nat) (agg:Bool) (x i:Arg):Pp (.idx m sz agg x i):=⟨rfl,rfl,rfl⟩
instance (x i:Arg):Pp (.idxs x i):=⟨rfl,rfl,rfl⟩
instance (t:TypeId) (ok:Bool) (z:AV) (x:Arg):Pp (.tass t ok z x):=⟨rfl,rfl,rfl⟩
instance (x:Arg) (i:Nat):Pp (.extr x i):=⟨rfl,rfl,rfl⟩
instance (x:Arg):Pp (.lens x):=⟨rfl,rfl,rfl⟩
instance (x:Arg):Pp (.lenl x):=⟨rfl,rfl,rfl⟩
instance (x y:Arg):Pp (.maxi x y):=⟨rfl,rfl,rfl⟩
instance (x y:Arg):Pp (.mini x y):=⟨rfl,rfl,rfl⟩
instance (k:Sk) (z:AV) (ok:Bool) (x i:Arg):Pp (.lookup k z ok x i):=⟨rfl,rfl,rfl⟩
theorem bCv (P:Program) (g:Genv) (n:Nat) (pairs:List (Nat×Nat)) (base i0 k0:Nat) (rs:List ROper) (rd:List (Nat×Nat)) (ef:List (Nat×Heap×Heap)) (f:Slt) (H:Heap) (R:Slt→Heap→Prop) (d:Nat) (op:ROp) [Pp op] (hd:d<n):
 FD2 P g n pairs base i0 k0 (⟨some d,op,none⟩::rs) rd ef f H R=stepK (aop (evF g f) H op) fun v H'=>H'=H∧(∀id,op.readsId (evF g f)=some id→∀x∈ef,(i0,x.1)∈pairs→x.2.1.get id=x.2.2.get id)∧
     FD2 P g n pairs base (i0+1) k0 rs (match op.readsId (evF g f) with|some id=>(i0,id)::rd|none=>rd) ef (upd f d v) H R:=
 aJh d op Pp.h Pp.f Pp.e hd
end
section
section
variable {P:Program} {g:Genv} {n:Nat}
theorem mE {Q:Heap→Prop}:∀{ds:List Dfr} {H:Heap},ADs P g ds H Q→∃Hf,Q Hf∧ADs P g ds H fun H'=>H'=Hf
 |[],H,h=>⟨H,h,rfl⟩
 |.call _ _::ds,H,h=>by
  obtain⟨H1,h1,h2⟩:=h;obtain⟨Hf,q,h3⟩:=mE h2;exact⟨Hf,q,H1,h1,h3⟩
 |.mark _::ds,H,h=>by
  obtain⟨h1,h2⟩:=h;obtain⟨Hf,q,h3⟩:=mE h2;exact⟨Hf,q,h1,h3⟩
theorem gQ {Q Q':Heap→Prop} (hq:∀H,Q H→Q' H):∀{ds:List Dfr} {H:Heap},ADs P g ds H Q→ADs P g ds H Q'
 |[],H,h=>hq H h
 |.call _ _::ds,H,h=>by
  obtain⟨H1,h1,h2⟩:=h;exact⟨H1,h1,gQ hq h2⟩
 |.mark _::ds,H,h=>⟨h.1,gQ hq h.2⟩
def retFD (P:Program) (g:Genv) (rs:List ARes) (R:Out→Heap→Prop):FQ
 |.normal,f,ds,H|.ret,f,ds,H=>ADs P g ds H fun H1=>∃vs,resFs f H1 rs=some vs∧R (.ret (retA vs)) H1
 |.panic v,f,ds,H=>match ds with
  |[]=>R (.pan v) H
  |.mark _::_=>False
  |.call df azs::ds=>∃H1,SoundD P g df azs (some v) H H1∧ADs P g ds H1 fun H2=>∃vs,resFs f H2 rs=some vs∧R (.ret (retA vs)) H2
 |.exit _,_,_,_=>False
theorem aQm {F:AFn} {args:List AV} (ha:args.length≤F.ntmps) {H:Heap} {R:Out→Heap→Prop} (h:FC P g F.ntmps F.body (startF args) [] H (retFD P g F.results R)):
 AC P g F.body (startS F args) [] H (retQD P g F R):=by
 obtain⟨hb,hl⟩:=jO ha;unfold startS;rw[←hl];refine cC (fun e s ds H hq=>?_) (gR F.body _ [] H _ hb h);obtain⟨f,rfl,hb',hq⟩:=hq
 have conv:∀H1,(∃vs,resFs f H1 F.results=some vs∧R (.ret (retA vs)) H1)→∃vs,resAs (LF F.ntmps f) H1 F.results=some vs∧R (.ret (retA vs)) H1:=fun H1 ⟨vs,h1,h2⟩=>⟨vs,by rw[←qJ hb'];exact h1,h2⟩
 cases e with
 |normal=>exact gQ conv hq
 |ret=>exact gQ conv hq
 |panic v=>
  cases ds with
  |nil=>exact hq
  |cons d ds=>
   cases d with
   |mark _=>exact hq.elim
   |call _ _=>
    obtain⟨H1,h1,h2⟩:=hq;exact⟨H1,h1,gQ conv h2⟩
 |exit id=>exact hq
theorem jQ {mu:Bool} (hm:Fit P g) {f:FuncId} {F:AFn} (hF:FnIs P g mu f F) {args:List AV} (ha:args.length≤F.ntmps) {H:Heap} {R:Out→Heap→Prop}
 (h:FC P g F.ntmps F.body (startF args) [] H (retFD P g F.results R)) (hdt:F.body.det=true:=by first|rfl|decide):∃out H',R out H'∧Sound P g f args H out H':=by
 obtain⟨ae,s,ds,H',q,hA⟩:=oP hdt (aQm ha h)
 have norm:(ae=.normal∨ae=.ret)→(ADs P g ds H' fun H1=>∃vs,resAs s H1 F.results=some vs∧R (.ret (retA vs)) H1)→∃out H',R out H'∧Sound P g f args H out H':=by
  intro hae q;obtain⟨Hf,⟨vs,h1,h2⟩,h3⟩:=mE q;refine⟨_,Hf,h2,fA hm hF (cC (fun e s1 d hh he=>?_) hA)⟩;obtain⟨rfl,rfl,rfl,rfl⟩:=he;have :ADs P g d hh fun H1=>∃vs',resAs s1 H1 F.results=some vs'∧(Out.ret (retA vs')=Out.ret (retA vs)∧H1=Hf):=gQ (fun H1 e=>by subst e;exact⟨vs,h1,rfl,rfl⟩) h3
  rcases hae with rfl|rfl<;>exact this
 cases ae with
 |exit id=>exact q.elim
 |normal=>exact norm (.inl rfl) q
 |ret=>exact norm (.inr rfl) q
 |panic v=>
  cases ds with
  |nil=>
   refine⟨.pan v,H',q,fA hm hF (cC (fun e s1 d hh he=>?_) hA)⟩;obtain⟨rfl,rfl,rfl,rfl⟩:=he;exact⟨rfl,rfl⟩
  |cons d ds=>
   cases d with
   |mark _=>exact q.elim
   |call _ _=>
    obtain⟨H1,h1,h2⟩:=q;obtain⟨Hf,⟨vs,q1,q2⟩,q3⟩:=mE h2;refine⟨.ret (retA vs),Hf,q2,fA hm hF (cC (fun e s1 d1 hh he=>?_) hA)⟩;obtain⟨rfl,rfl,rfl,rfl⟩:=he;exact⟨H1,h1,gQ (fun H1 e=>by subst e;exact⟨vs,q1,rfl,rfl⟩) q3⟩
theorem yZ {mu:Bool} (hm:Fit P g) {f:FuncId} {dst:Option Nat} {rl:List ROper} {ac:ACode} (hF:FnIsR P g mu f n dst rl ac)
 {args:List AV} (ha:args.length≤n) {md:Option AV} {H H':Heap}
 (h:FOps P g n rl (putF n (startF args) dst (md.getD .nilif)) [] H (thenF (fun f ds H=>FC P g n ac f ds H fun e f ds H=>(match e with|.normal=>True|.ret=>True|_=>False)∧ds=[]∧H=H') fun _ _ _ _=>False)):
 SoundD P g f args md H H':=by
 obtain⟨hb,hl⟩:=jO ha;refine yY hm hF ?_;rw[←hl,←eZ];refine wV (fun e s ds H hq=>?_) (cY rl _ [] H _ (hb.put _ _) h);obtain⟨f,rfl,hb',hq⟩:=hq
 cases e with
 |normal=>
  refine cC (fun e s ds H hq=>?_) (gR ac f ds H _ hb' hq);obtain⟨f,rfl,_,hq⟩:=hq;exact hq
 |_=>exact hq.elim
variable {r:List ROper} {f:Slt} {ds:List Dfr} {H:Heap} {Q:FQ}
end
end
end Go.Av
