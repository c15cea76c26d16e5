/-
  Parts of the proof of statement 4: NumB, GeoK, GeoL, AvFgt, AvUp, AvRan, AvGlue, AvGlueB
-/
import Derived.Test.YtjiignefffdelaaGreatDoorA19
import Derived.Test.YtjiignefffdelaaGreatDoorA22
import Derived.Test.YtjiignefffdelaaGreatDoorA21
import Derived.Test.YtjiignefffdelaaGreatDoorA18
import Derived.Test.YtjiignefffdelaaGreatDoorA15
import Derived.Test.YtjiignefffdelaaGreatDoorA10
import Derived.Below
import Derived.Lib.Join
import Derived.ProofKit
import Derived.OpenShut
import Derived.Deep.Slices
set_option linter.unusedVariables false
set_option linter.unusedSimpArgs false
set_option linter.unusedSectionVars false
namespace Go.Num
def valD:List Nat→Nat
 |[]=>0
 |d::l=>d+65536*valD l
def DD (l:List Nat):Prop:=∀d∈l,d<65536
def trimL:List Nat→List Nat
 |[]=>[]
 |d::l=>if trimL l=[] then(if d=0 then [] else [d]) else d::trimL l
def dg (n:Nat):List Nat:=if n=0 then [] else n%65536::dg (n / 65536)
termination_by n
decreasing_by omega
theorem iK:dg 0=[]:=by unfold dg;rfl
theorem rC {n:Nat} (h:n≠0):dg n=n%65536::dg (n / 65536):=by rw[dg,if_neg h]
theorem zJ {n:Nat}:dg n=[]↔n=0:=by
 constructor
 · intro h
   refine Classical.byContradiction fun hn=>?_;rw[rC hn] at h;cases h
 · rintro rfl;exact iK
theorem kT (n:Nat):valD (dg n)=n:=by
 induction n using dg.induct with
 |case1=>rw[iK];rfl
 |case2 n h ih=>rw[rC h,valD,ih];omega
theorem oS (n:Nat):DD (dg n):=by
 induction n using dg.induct with
 |case1=>rw[iK];intro d hd;cases hd
 |case2 n h ih=>
  rw[rC h];intro d hd
  rcases List.mem_cons.1 hd with rfl|hd
  · omega
  · exact ih d hd
theorem DD.tail {d:Nat} {l:List Nat} (h:DD (d::l)):DD l:=fun x hx=>h x (List.mem_cons_of_mem _ hx)
theorem qP:∀{l:List Nat},DD l→trimL l=dg (valD l)
 |[],_=>by simp[trimL,valD,iK]
 |d::l,h=>by
  have ih:=qP h.tail;have hd:=h d List.mem_cons_self;simp only[trimL,ih,zJ,valD];by_cases hv:valD l=0
  · rw[if_pos hv,hv]
    by_cases hd0:d=0
    · subst hd0;simp[iK]
    · rw[if_neg hd0,rC (by omega),show(d+65536*0)%65536=d by omega,show(d+65536*0) / 65536=0 by omega,iK]
  · rw[if_neg hv,rC (n:=d+65536*valD l) (by omega),show(d+65536*valD l)%65536=d by omega,show(d+65536*valD l) / 65536=valD l by omega]
theorem kS:∀{l:List Nat} {n:Nat},n≤l.length→(∀k,n≤k→k<l.length→l.getD k 0=0)→(n=0∨l.getD (n -1) 0≠0)→l.take n=trimL l
 |[],n,_,_,_=>by simp[trimL]
 |d::l,0,h,h1,_=>by
  have ih:=kS (l:=l) (n:=0) (Nat.zero_le _) (fun k _ hk=>by simpa using h1 (k+1) (Nat.zero_le _) (by simpa using hk)) (.inl rfl)
  have hd:d=0:=by simpa using h1 0 (Nat.zero_le _) (by simp)
  rw[List.take_zero] at ih;simp[trimL,←ih,hd]
 |d::l,n+1,h,h1,h2=>by
  have hn:n≤l.length:=by simpa using h
  have h1':∀k,n≤k→k<l.length→l.getD k 0=0:=fun k hk hl=>by simpa using h1 (k+1) (by omega) (by simpa using hl)
  cases n with
  |zero=>
   have ih:=kS (l:=l) (n:=0) hn h1' (.inl rfl)
   have hd:d≠0:=by simpa using h2
   rw[List.take_zero] at ih;simp[trimL,←ih,hd]
  |succ n=>
   have h2':l.getD n 0≠0:=by simpa using h2
   have ih:=kS (l:=l) (n:=n+1) hn h1' (.inr (by simpa using h2'))
   have hne:l≠[]:=by rintro rfl;simp at hn
   have :¬trimL l=[]:=by
    rw[←ih];intro e
    have hl:0<(l.take (n+1)).length:=by rw[List.length_take];omega
    rw[e] at hl;exact absurd hl (Nat.lt_irrefl 0)
   rw[trimL,if_neg this,List.take_succ_cons,ih]
theorem xC {k:Nat}:∀{n:Nat},n<65536^k→(dg n).length≤k:=by
 induction k with
 |zero=>intro n h;have :n=0:=by simpa using h
        subst this;simp[iK]
 |succ k ih=>
  intro n h;by_cases hn:n=0
  · subst hn;simp[iK]
  · rw[rC hn]
    have :n / 65536<65536^k:=by
     rw[Nat.div_lt_iff_lt_mul (by decide),←Nat.pow_succ];exact h
    have :=ih this;simp only[List.length_cons];omega
theorem mX:∀{l:List Nat},DD l→valD l<65536^l.length
 |[],_=>by simp[valD]
 |d::l,h=>by
  have ih:=mX h.tail;have hd:=h d List.mem_cons_self;rw[valD,List.length_cons,Nat.pow_succ];omega
theorem iT:∀(a b:List Nat),valD (a++b)=valD a+65536^a.length*valD b
 |[],b=>by simp[valD]
 |d::a,b=>by
  have ih:=iT a b;rw[List.cons_append,valD,ih,valD,List.length_cons,Nat.pow_succ,Nat.mul_add,Nat.mul_comm (65536^a.length) 65536,←Nat.mul_assoc,Nat.add_assoc]
theorem rO {l:List Nat} {k:Nat} (h:k<l.length):valD (l.take (k+1))=valD (l.take k)+65536^k*l.getD k 0:=by
 rw[List.take_add_one,iT]
 have :(l.take k).length=k:=by simp;omega
 rw[this];simp[h,valD]
theorem DD.take {l:List Nat} (h:DD l) (k:Nat):DD (l.take k):=fun d hd=>h d (List.mem_of_mem_take hd)
theorem DD.getD {l:List Nat} (h:DD l) (k:Nat):l.getD k 0<65536:=by
 by_cases hk:k<l.length
 · rw[List.getD_eq_getElem?_getD,List.getElem?_eq_getElem hk];exact h _ (List.getElem_mem hk)
 · rw[List.getD_eq_getElem?_getD,List.getElem?_eq_none (by omega)];decide
theorem gL {l:List Nat} (h:DD l) {k:Nat} (hk:k≤l.length):valD (l.take k)<65536^k:=by
 have :=mX (h.take k)
 rwa [List.length_take,Nat.min_eq_left hk] at this
theorem bCy:W=65536*65536:=rfl
theorem pow_even (m:Nat):65536^(2*m)=W^m:=by rw[bCy,Nat.pow_mul]
theorem pow_odd (m:Nat):65536^(2*m+1)=65536*W^m:=by rw[Nat.pow_succ,pow_even,Nat.mul_comm]
def halves (l:List Nat):List Nat:=l.flatMap fun w=>[w%65536,w / 65536]
theorem sL:∀l:List Nat,valD (halves l)=ofL l
 |[]=>rfl
 |w::l=>by
  have ih:=sL l;have e:halves (w::l)=w%65536::w / 65536::halves l:=rfl;rw[e,valD,valD,ih,ofL,W];omega
theorem wW:∀{l:List Nat},(∀w∈l,w<W)→DD (halves l)
 |[],_=>fun d hd=>by cases hd
 |w::l,h=>by
  have e:halves (w::l)=w%65536::w / 65536::halves l:=rfl;have hw:=h w List.mem_cons_self
  have hw':w / 65536<65536:=by
   have :W=65536*65536:=rfl;omega
  rw[e];intro d hd
  rcases List.mem_cons.1 hd with rfl|hd
  · omega
  · rcases List.mem_cons.1 hd with rfl|hd
    · exact hw'
    · exact wW (fun w hw=>h w (List.mem_cons_of_mem _ hw)) d hd
theorem xX {v X m:Nat} (hm:m<16) (hv:v<W^16) (hx:limb v m+X<W):(limbs 16 v).set m (limb v m+X)=limbs 16 (v+X*W^m):=by
 have hl:LW 16 (limbs 16 v):=⟨bE _ _,pX⟩;have h1:=(hl.set m hx).eq;have h2:=sY (limbs 16 v) m (limb v m+X) (by rw[bE];exact hm);rw[dL hm,cU hv,Nat.add_mul] at h2;rw[h1];congr 1;omega
theorem aFk {v m c:Nat} (h:v<c*W^m):limb v m<c∧v / W^m<c:=by
 have :v / W^m<c:=(Nat.div_lt_iff_lt_mul (dU m)).2 h;exact⟨Nat.lt_of_le_of_lt (Nat.mod_le _ _) this,this⟩
theorem aDu {a b:List Nat} (ha:DD a) (hb:DD b) {k:Nat} (h:valD (a.drop (k+1))=valD (b.drop (k+1))) (hlt:a.getD k 0<b.getD k 0):valD a<valD b:=by
 have split:∀(l:List Nat),DD l→∃r,r<65536^k∧valD l=r+65536^k*(l.getD k 0+65536*valD (l.drop (k+1))):=fun l hl=>by
  by_cases hk:k<l.length
  · refine⟨valD (l.take k),gL hl (by omega),?_⟩
    have e:l=l.take k++(l.getD k 0::l.drop (k+1)):=by
     have :l.getD k 0=l[k]:=by simp[List.getD,hk]
     rw[this,←List.drop_eq_getElem_cons hk,List.take_append_drop]
    have hl':(l.take k).length=k:=by simp;omega
    conv=>lhs;rw[e]
    rw[iT,hl',valD]
  · refine⟨valD l,?_,?_⟩
    · exact Nat.lt_of_lt_of_le (mX hl) (Nat.pow_le_pow_right (by decide) (by omega))
    · rw[List.getD_eq_getElem?_getD,List.getElem?_eq_none (by omega),List.drop_of_length_le (by omega)];simp[valD]
 obtain⟨r,h1,e1⟩:=split a ha;obtain⟨s,h2,e2⟩:=split b hb;rw[e1,e2,h];generalize valD (b.drop (k+1))=t at *
 have :a.getD k 0+65536*t+1≤b.getD k 0+65536*t:=by omega
 have :=Nat.mul_le_mul_left (65536^k) this;rw[Nat.mul_add,Nat.mul_one] at this;omega
theorem aAw {a b:List Nat} {k:Nat} (h:valD (a.drop (k+1))=valD (b.drop (k+1))) (he:a.getD k 0=b.getD k 0):valD (a.drop k)=valD (b.drop k):=by
 have split:∀(l:List Nat),valD (l.drop k)=l.getD k 0+65536*valD (l.drop (k+1)):=fun l=>by
  by_cases hk:k<l.length
  · rw[List.drop_eq_getElem_cons hk,valD];simp[List.getD,hk]
  · rw[List.drop_of_length_le (by omega),List.drop_of_length_le (by omega),List.getD_eq_getElem?_getD,List.getElem?_eq_none (by omega)];simp[valD]
 rw[split,split,h,he]
theorem aMi {a b:List Nat} {k c v:Nat} (h:v+65536^k*c=valD (a.take k)+valD (b.take k)):
 v+65536^k*((a.getD k 0+b.getD k 0+c)%65536)+65536^(k+1)*((a.getD k 0+b.getD k 0+c) / 65536)=valD (a.take (k+1))+valD (b.take (k+1)):=by
 have tk:∀l:List Nat,valD (l.take (k+1))=valD (l.take k)+65536^k*l.getD k 0:=fun l=>by
  by_cases hk:k<l.length
  · exact rO hk
  · rw[List.take_of_length_le (by omega),List.take_of_length_le (by omega),List.getD_eq_getElem?_getD,List.getElem?_eq_none (by omega)];simp
 rw[tk,tk,Nat.pow_succ,Nat.mul_assoc];generalize hx:a.getD k 0+b.getD k 0+c=x
 have e:65536^k*(x%65536)+65536^k*(65536*(x / 65536))=65536^k*x:=by rw[←Nat.mul_add,Nat.mod_add_div]
 have e2:65536^k*x=65536^k*a.getD k 0+65536^k*b.getD k 0+65536^k*c:=by rw[←hx,Nat.mul_add,Nat.mul_add]
 omega
end Go.Num
namespace Go.Geo
section
variable {p:Nat→V} {N:Nat}
theorem aKi (p:Nat→V) (a b c:Nat):cross (vec p c b) (vec p c a)=neg (cross (vec p a b) (vec p a c)):=by
 simp only[vec,cross,sub,neg];apply V.ext'<;>simp only <;>grind
theorem aBu (u w:V):dot (cross u w) w=0:=by simp only[dot,cross];grind
theorem wK {u w:V} (h:dot u w=0):dot (prim u) w=0:=by
 by_cases hu:u=V0
 · subst hu
   rw[yF];simp[dot,V0]
 · have h1:=lK u w
   rw[h] at h1;exact bV (c:=(vgcd u:Int)) (by have :=iI hu;omega) h1
theorem aGa (p:Nat→V) (a b c:Nat):plane3 p c b a=(neg (plane3 p a b c).1,-(plane3 p a b c).2):=by
 unfold plane3;rw[aKi p a b c,qH,fE];have h:=wK (aBu (vec p a b) (vec p a c));rw[eL] at h;rw[show dot (prim (cross (vec p a b) (vec p a c))) (p c)=dot (prim (cross (vec p a b) (vec p a c))) (p a) by omega]
theorem aJx {a b c:Nat} {q:V×Int} (h:q∈cands p c b a):q∈cands p a b c:=by
 unfold cands at h ⊢;rw[aGa] at h;split at h
 · cases h
 · rename_i hz
   rw[if_neg (fun e=>hz (by rw[e];rfl))];simp only[List.mem_cons,List.not_mem_nil,or_false,neg_neg,Int.neg_neg] at h ⊢
   rcases h with h|h
   · exact .inr h
   · exact .inl h
def TriedU (p:Nat→V) (N:Nat) (i j k:Nat) (K:List (V×Int)):Prop:=
 ∀a b c,a<b→b<c→c<N→Before i j k a b c→∀q∈cands p a b c,IsF p N q.1 q.2→q∈K
theorem TriedU.zero:TriedU p N 0 0 0 []:=fun a b c _ _ _ h=>by unfold Before at h;omega
theorem TriedU.j0 {i:Nat} {K:List (V×Int)} (h:TriedU p N i 0 0 K):TriedU p N i (i+1) 0 K:=fun a b c h1 h2 h3 hb q hq F=>h a b c h1 h2 h3 (by unfold Before at *;omega) q hq F
theorem TriedU.k0 {i j:Nat} {K:List (V×Int)} (h:TriedU p N i j 0 K):TriedU p N i j (j+1) K:=fun a b c h1 h2 h3 hb q hq F=>h a b c h1 h2 h3 (by unfold Before at *;omega) q hq F
theorem TriedU.kN {i j:Nat} {K:List (V×Int)} (h:TriedU p N i j N K):TriedU p N i (j+1) 0 K:=fun a b c h1 h2 h3 hb q hq F=>h a b c h1 h2 h3 (by unfold Before at *;omega) q hq F
theorem TriedU.jN {i:Nat} {K:List (V×Int)} (h:TriedU p N i N 0 K):TriedU p N (i+1) 0 0 K:=fun a b c h1 h2 h3 hb q hq F=>h a b c h1 h2 h3 (by unfold Before at *;omega) q hq F
theorem TriedU.step {i j k:Nat} {K K':List (V×Int)} (h:TriedU p N i j k K) (hs:∀q∈K,q∈K') (hn:∀q∈cands p i j k,IsF p N q.1 q.2→q∈K'):TriedU p N i j (k+1) K':=fun a b c h1 h2 h3 hb q hq F=>by
 by_cases e:a=i∧b=j∧c=k
 · obtain⟨rfl,rfl,rfl⟩:=e
   exact hn q hq F
 · exact hs q (h a b c h1 h2 h3 (by unfold Before at *;omega) q hq F)
theorem TriedU.all {K:List (V×Int)} (h:TriedU p N N 0 0 K) (hK:∀q∈K,IsF p N q.1 q.2) (q:V×Int):q∈K↔IsF p N q.1 q.2:=by
 refine⟨hK q,fun F=>?_⟩;obtain⟨i,j,k,h1,h2,h3,hc⟩:=cM F;exact h k j i h1 h2 h3 (.inl (by omega)) q (aJx hc) F
end
section
variable {p:Nat→V} {N:Nat}
def okF (p:Nat→V) (N:Nat) (q:V×Int):Bool:=((List.range N).all fun k=>decide (dot q.1 (p k)≤q.2))&&(List.range N).any fun k=>decide (dot q.1 (p k)<q.2)
theorem aIi {q:V×Int}:okF p N q=true↔(∀k,k<N→dot q.1 (p k)≤q.2)∧∃k,k<N∧dot q.1 (p k)<q.2:=by
 simp only[okF,Bool.and_eq_true,List.all_eq_true,List.any_eq_true,List.mem_range,decide_eq_true_eq]
def ltV (a b:V):Bool:=decide (a.x<b.x)||(decide (a.x=b.x)&&(decide (a.y<b.y)||(decide (a.y=b.y)&&decide (a.z<b.z))))
theorem aIb {a b:V}:ltV a b=true↔VLt a b:=by
 simp only[ltV,VLt,Bool.or_eq_true,Bool.and_eq_true,decide_eq_true_eq]
def srtB:List (V×Int)→Bool
 |[]=>true
 |q::r=>(r.all fun x=>ltV q.1 x.1)&&srtB r
theorem aIu:∀{S:List (V×Int)},srtB S=true→S.Pairwise fun a b=>VLt a.1 b.1
 |[],_=>.nil
 |q::r,h=>by
  simp only[srtB,Bool.and_eq_true,List.all_eq_true] at h;exact List.pairwise_cons.2 ⟨fun x hx=>aIb.1 (h.1 x hx),aIu h.2⟩
def chkF (p:Nat→V) (N:Nat) (S:List (V×Int)):Bool:=
 srtB S&&(S.all fun q=>okF p N q&&(List.range N).any fun i=>(List.range i).any fun j=>(List.range j).any fun k=>(cands p i j k).contains q)&&
 ((List.range N).all fun i=>(List.range i).all fun j=>(List.range j).all fun k=>(cands p i j k).all fun q=> !okF p N q||S.contains q)
theorem jU {S:List (V×Int)} (h:chkF p N S=true):FList p N S:=by
 simp only[chkF,Bool.and_eq_true] at h;obtain⟨⟨h1,h2⟩,h3⟩:=h;refine⟨fun q=>⟨fun hq=>?_,fun hF=>?_⟩,aIu h1⟩
 · have :=List.all_eq_true.1 h2 q hq
   simp only[Bool.and_eq_true,List.any_eq_true,List.mem_range] at this;obtain⟨ho,i,hi,j,hj,k,hk,hc⟩:=this;obtain⟨le,lt⟩:=aIi.1 ho;exact jW (i:=i) (j:=j) (k:=k) hi (by omega) (by omega) (by simpa using hc) le lt
 · obtain⟨i,j,k,hk,hj,hi,hc⟩:=cM hF
   simp only[List.all_eq_true,List.mem_range] at h3;have :=h3 i hi j hj k hk q hc;rw[aIi.2 ⟨hF.le,hF.lt⟩] at this;simpa using this
def polyX (on:List Nat) (f:Nat→Nat):List Nat:=match on with
 |[]=>[]
 |s::_=>(List.range (match (List.range on.length).find? (fun i=>iter f (i+1) s==s) with|some i=>i+1|none=>0)).map fun i=>iter f i s
theorem aSq {n:V} {d:Int} {L:List Nat} (h:Poly p N n d L):L=polyX (onL p N n d) (nxt n p (onL p N n d)):=by
 obtain⟨s,r,m,e,W,rfl⟩:=h.ex
 have hfind:(List.range (onL p N n d).length).find? (fun i=>iter (nxt n p (onL p N n d)) (i+1) s==s)=some (m -1):=by
  have hp:=W.pos;have hle:=W.le;rw[List.find?_eq_some_iff_getElem];refine⟨by rw[show m -1+1=m by omega,beq_iff_eq];exact W.back,m -1,by rw[List.length_range];omega,by rw[List.getElem_range],fun j hj=>?_⟩;rw[List.getElem_range];have :=W.first (j+1) (by omega) (by omega);simpa using this
 unfold polyX;generalize hf:nxt n p (onL p N n d)=f at *;generalize onL p N n d=on at *;subst e;simp only;rw[hfind];have hp:=W.pos;rw[show(match some (m -1) with|some i=>i+1|none=>0)=m from by show m -1+1=m;omega]
end
end Go.Geo
namespace Go.Av
open Go
inductive Wk:AV→AV→Prop
 |refl (a:AV):Wk a a
 |aT (tag sz:Nat) (els els':List (List AV)) (hl:els'.length=els.length) (hs:(∀e∈els,e.length=sz)→∀e∈els',e.length=sz) (hf:els'.flatten.length=els.flatten.length)
   (h:∀j,j<els.flatten.length→Wk (els.flatten.getD j undefA) (els'.flatten.getD j undefA)):Wk (.aT tag sz els) (.aT 0 sz els')
 |agg (cs cs':List AV) (hl:cs'.length=cs.length) (h:∀j,j<cs.length→Wk (cs.getD j undefA) (cs'.getD j undefA)):Wk (.agg cs) (.agg cs')
theorem Wk.one {a b:AV} (h:Wk a b):b.one=a.one:=by cases h<;>rfl
theorem VR.wk {G:Gh} {w:World} {a b:AV} (h:Wk a b):∀{u:Value},VR G w a u→VR G w b u:=by
 induction h with
 |refl a=>exact fun h=>h
 |aT tag sz els els' hl hs hf hj ih=>
  intro u hv
  cases hv with
  |lstE _ _ b o s ht=>
   obtain rfl:els'=[]:=List.eq_nil_of_length_eq_zero hl;exact .lstE _ _ b o s (by omega)
  |aT _ _ _ b o cap us hu hc hv ht=>
   rw[←hl];refine .aT 0 sz els' b o cap us (hs hu) (fun j hj'=>?_) (fun j hj'=>ih j (by omega) (hv j (by omega))) ⟨by rw[hl];exact ht.1,trivial⟩
   have hj2:j<els.flatten.length:=by omega
   exact⟨(hc j hj2).1,(hc j hj2).2.1,by rw[(hj j hj2).one];exact(hc j hj2).2.2⟩
 |agg cs cs' hl hj ih=>
  intro u hv
  cases hv with
  |agg _ vs hvl h1 hv=>
   refine .agg cs' vs (by omega) (fun c hc=>?_) fun j hj'=>ih j (by omega) (hv j (by omega));obtain⟨j,hj',rfl⟩:=List.getElem_of_mem hc
   have hj2:j<cs.length:=by omega
   have :=(hj j hj2).one;simp only[List.getD,List.getElem?_eq_getElem hj',List.getElem?_eq_getElem hj2,Option.getD_some] at this;rw[this];exact h1 _ (List.getElem_mem hj2)
theorem Sound.wk {P:Program} {g:Genv} {f:FuncId} {args args':List AV} {H H':Heap} {out:Out} (h:Sound P g f args' H out H') (hl:args'.length=args.length) (hw:∀j,j<args.length→Wk (args.getD j undefA) (args'.getD j undefA)):Sound P g f args H out H':=
 ⟨h.1,fun G w vs hG hv=>h.2 G w vs hG ⟨by rw[hl];exact hv.1,fun j hj=>VR.wk (hw j (by omega)) (hv.2 j (by omega))⟩⟩
mutual
def fgt:AV→AV
 |.aT _ sz els=>.aT 0 sz (fgtLL els)
 |.agg cs=>.agg (fgtL cs)
 |a=>a
def fgtL:List AV→List AV
 |[]=>[]
 |x::r=>fgt x::fgtL r
def fgtLL:List (List AV)→List (List AV)
 |[]=>[]
 |x::r=>fgtL x::fgtLL r
end
theorem lM:∀l:List AV,(fgtL l).length=l.length
 |[]=>by simp[fgtL]
 |x::r=>by simp[fgtL,lM r]
theorem xI:∀l:List (List AV),(fgtLL l).length=l.length
 |[]=>by simp[fgtLL]
 |x::r=>by simp[fgtLL,xI r]
theorem nX:∀l:List (List AV),(fgtLL l).flatten=fgtL l.flatten
 |[]=>by simp[fgtLL,fgtL]
 |x::r=>by
  have :∀a b:List AV,fgtL (a++b)=fgtL a++fgtL b:=fun a b=>by
   induction a with
   |nil=>simp[fgtL]
   |cons y a ih=>simp[fgtL,ih]
  simp[fgtLL,nX r,this]
theorem xJ {sz:Nat}:∀{l:List (List AV)},(∀e∈l,e.length=sz)→∀e∈fgtLL l,e.length=sz
 |[],_,e,he=>by simp[fgtLL] at he
 |x::r,h,e,he=>by
  simp only[fgtLL,List.mem_cons] at he
  rcases he with rfl|he
  · rw[lM];exact h x List.mem_cons_self
  · exact xJ (fun y hy=>h y (List.mem_cons_of_mem _ hy)) e he
theorem mN:∀(l:List AV) (j:Nat),j<l.length→(fgtL l).getD j undefA=fgt (l.getD j undefA)
 |[],j,hj=>absurd hj (Nat.not_lt_zero _)
 |x::r,0,_=>by simp[fgtL]
 |x::r,j+1,hj=>by
  have :=mN r j (by simpa using hj);simpa [fgtL] using this
theorem nF {l:List AV} {j:Nat} (hj:j<l.length):l.getD j undefA∈l:=by
 rw[show l.getD j undefA=l[j] by simp[List.getD,hj]];exact List.getElem_mem hj
theorem aGy (a:AV):Wk a (fgt a):=by
 match a with
 |.aT tag sz els=>
  rw[fgt];refine .aT tag sz els _ (xI els) xJ (by rw[nX,lM]) fun j hj=>?_;rw[nX,mN _ _ hj];have hm:=nF hj;generalize els.flatten.getD j undefA=x at *;obtain⟨e,he,hx⟩:=List.mem_flatten.1 hm;have h1:=List.sizeOf_lt_of_mem he;have h2:=List.sizeOf_lt_of_mem hx;exact aGy _
 |.agg cs=>
  rw[fgt];refine .agg cs _ (lM cs) fun j hj=>?_;rw[mN _ _ hj];have hm:=nF hj;generalize cs.getD j undefA=x at *;have h2:=List.sizeOf_lt_of_mem hm;exact aGy _
 |.bool _|.int _ _|.str _|.nilp|.ref _ _|.pl _|.nilsl|.sl _ _ _ _ _|.func _ _ _|.nilfn|.iface _ _|.nilif|.tup _|.map _|.nilmap|.yield _=>simp only[fgt];exact .refl _
termination_by SizeOf.sizeOf a
decreasing_by
 · simp only[AV.aT.sizeOf_spec];omega
 · simp only[AV.agg.sizeOf_spec];omega
theorem Sound.fgt {P:Program} {g:Genv} {f:FuncId} {args:List AV} {H H':Heap} {out:Out} (h:Sound P g f (fgtL args) H out H'):Sound P g f args H out H':=
 h.wk (lM _) fun j hj=>by rw[mN _ _ hj];exact aGy _
section
theorem VR.mo {G:Gh} {w:World} {a:AV} {u:Value} (h:VR G w a u) (b:Bool):VR ⟨G.loc,G.imm,b⟩ w a u:=h.mono (fun _ _ h=>h) (fun _ _ h=>⟨h,rfl⟩)
section
variable {P:Program} {g g':Genv}
theorem Sound.up (hv:∀n cs,g n=some cs→g' n=some cs) (hm:g.mo=true) (hm':g'.mo=false) {f:FuncId} {args:List AV} {out:Out} (h:Sound P g f args ⟨0,.nil⟩ out ⟨0,.nil⟩):Sound P g' f args ⟨0,.nil⟩ out ⟨0,.nil⟩:=by
 refine⟨h.1,fun G w vs hw hvs=>?_⟩
 have hw1:WR g ⟨G.loc,G.imm,true⟩ ⟨0,.nil⟩ w:={
  cells:=fun id l cs opn h1 h2=>by
   obtain⟨a1,a2,a3,a4,a5⟩:=hw.cells id l cs opn h1 h2;exact⟨a1,a2,a3,a4,fun j hj=>let⟨u,hu,hv⟩:=a5 j hj;⟨u,hu,hv.mo true⟩⟩
  room:=hw.room
  disj:=hw.disj
  immd:=hw.immd
  mapr:=fun id l o h1 h2 h3=>by cases h2
  lt:=hw.lt
  imme:=hw.imme
  glob:=fun n cs hn=>(hw.glob n cs (hv n cs hn)).mo true
  mo:=hm.symm}
 refine(h.2 ⟨G.loc,G.imm,true⟩ w vs hw1 ⟨hvs.1,fun j hj=>(hvs.2 j hj).mo true⟩).mono fun e w' ⟨G',h1,h2,h3⟩=>?_;have hG:G.mo=false:=hw.mo.trans hm'
 refine⟨⟨G'.loc,G'.imm,false⟩,{
  cells:=fun id l cs opn q1 q2=>by
   obtain⟨a1,a2,a3,a4,a5⟩:=h1.cells id l cs opn q1 q2;exact⟨a1,a2,a3,a4,fun j hj=>let⟨u,hu,hv⟩:=a5 j hj;⟨u,hu,hv.mo false⟩⟩
  room:=h1.room
  disj:=h1.disj
  immd:=h1.immd
  mapr:=fun id l o q1 q2 q3=>by cases q2
  lt:=h1.lt
  imme:=h1.imme
  glob:=fun n cs hn=>(hw.glob n cs hn).mono h2.loc h2.imm
  mo:=hm'.symm},{
  loc:=h2.loc
  imm:=h2.imm
  size:=h2.size
  frame:=h2.frame
  blks:=h2.blks
  immn:=h2.immn
  next:=h2.next
  news:=h2.news
  dead:=h2.dead
  mo:=hG.symm
  same:=⟨h2.same.os,h2.same.output,h2.same.tape,fun hb=>by rw[hG] at hb;cases hb⟩},?_⟩
 cases out with
 |ret v=>cases e with
  |returned u=>exact h3.mo false
  |_=>exact h3.elim
 |pan v=>cases e with
  |panicked c=>
   obtain⟨u,a,b⟩:=h3;exact⟨u,a,b.mo false⟩
  |_=>exact h3.elim
theorem tI {f:FuncId} (hok:FnOK P f) {s t:List UInt8} {n:Int} (h:∀w,Calls P f #[.string ⟨s.toArray⟩,.string ⟨t.toArray⟩] w fun e w'=>e=.returned (.int .i64 n)∧w'=w) (H:Heap):Sound P g f [.str s,.str t] H (.ret (.int .i64 n)) H:=by
 refine⟨hok,fun G w vs hw hvs=>?_⟩;obtain⟨hl,hv⟩:=hvs
 match vs,hl with
 |[u0,u1],_=>
  have v0:=(hv 0 (by simp)).cT;have v1:=(hv 1 (by simp)).cT;simp only[List.getD_cons_zero,List.getD_cons_succ] at v0 v1;subst v0 v1;refine(h w).mono fun e w' he=>?_;obtain⟨rfl,rfl⟩:=he;exact⟨G,hw,Ext.refl G H _,.int _ _⟩
theorem Ext.aXt {G:Gh} {H:Heap} {w w':World} (himm:∀b o,G.imm b o→∃v,w.cell? ⟨b,o,none⟩=some v)
 (hb:∀b,b<w.heap.size→w'.heap[b]?=w.heap[b]?) (hsz:w.heap.size≤w'.heap.size) (hs:SameB G.mo w w'):Ext G H w G H w' where
 loc:=fun _ _ h=>h
 imm:=fun b o hi=>⟨hi,by obtain⟨v,hv⟩:=himm b o hi;exact cD (hb b (fY hv))⟩
 size:=hsz
 frame:=fun b hlt _=>hb b hlt
 blks:=fun id l h hl=>.inr ⟨id,l,h,hl,rfl⟩
 immn:=fun _ _ h=>.inl h
 next:=Nat.le_refl _
 news:=fun _ _ h h'=>by rw[h] at h';cases h'
 dead:=fun _ _ _ h=>h
 mo:=rfl
 same:=hs
def strsE (xs:List (List UInt8)):List (List AV):=xs.map fun x=>[.str x]
theorem aGs (xs:List (List UInt8)):(strsE xs).flatten=xs.map AV.str:=by
 induction xs with
 |nil=>rfl
 |cons x r ih=>simp only[strsE,List.map_cons,List.flatten_cons] at ih ⊢;rw[ih];rfl
theorem aEi {f:FuncId} (hok:FnOK P f) (hm:g.mo=false) {xs:List (List UInt8)} {sep:List UInt8} (hne:xs≠[]) (hN:xs.length≤140737488355328) (hlen:(Lib.join xs sep).length≤140737488355328)
 (h:∀(bk o c:Nat) (ys:List ByteArray) (w:World),(∀(j:Nat) x,ys[j]?=some x→w.cell? ⟨bk,o+j,none⟩=some (.string x))→bk<w.heap.size→ys.length≤140737488355328→ys.length≤c→
   (Lib.join (ys.map (·.data.toList)) sep).length≤140737488355328→
   Calls P f #[.slice (some ⟨bk,o,none⟩) ys.length c,.string ⟨sep.toArray⟩] w fun e w'=>e=.returned (.string ⟨(Lib.join (ys.map (·.data.toList)) sep).toArray⟩)∧Go.RowKit.Below w.heap.size w w') (tag:Nat) (H:Heap):
 Sound P g f [.aT tag 1 (strsE xs),.str sep] H (.ret (.str (Lib.join xs sep))) H:=by
 refine⟨hok,fun G w vs hw hvs=>?_⟩;obtain⟨hl,hv⟩:=hvs
 match vs,hl with
 |[u0,u1],_=>
  have v0:=hv 0 (by simp);have v1:=(hv 1 (by simp)).cT;simp only[List.getD_cons_zero,List.getD_cons_succ] at v0 v1;subst v1;have hpos:0<xs.length:=List.length_pos_iff.2 hne;generalize he:strsE xs=els at v0
  have hel:els.length=xs.length:=by rw[←he];exact List.length_map _
  cases v0 with
  |lstE=>simp at hel;omega
  |aT _ _ _ b o cap us hu hc hvv ht=>
   have hfl:els.flatten=xs.map AV.str:=by rw[←he];exact aGs xs
   have hys:(xs.map fun x=>(⟨x.toArray⟩:ByteArray)).map (·.data.toList)=xs:=by
    rw[List.map_map]
    have :((fun x:ByteArray=>x.data.toList)∘fun x:List UInt8=>(⟨x.toArray⟩:ByteArray))=id:=by funext x;simp
    rw[this,List.map_id]
   have hcell:∀(j:Nat) x,(xs.map fun x=>(⟨x.toArray⟩:ByteArray))[j]?=some x→w.cell? ⟨b,o+j,none⟩=some (.string x):=fun j x hj=>by
    rw[List.getElem?_map] at hj;obtain⟨y,hy,rfl⟩:=Option.map_eq_some_iff.1 hj;have hj':j<xs.length:=(List.getElem?_eq_some_iff.1 hy).1
    have hj2:j<els.flatten.length:=by rw[hfl];simpa using hj'
    have h2:=hvv j hj2
    have e2:els.flatten.getD j undefA=.str y:=by rw[hfl,List.getD,List.getElem?_map,hy];rfl
    rw[e2] at h2;rw[(hc j hj2).2.1,h2.cT]
   have hbk:b<w.heap.size:=by
    obtain⟨y,hy⟩:∃y,xs[0]?=some y:=⟨xs[0],List.getElem?_eq_getElem hpos⟩
    exact fY (hcell 0 ⟨y.toArray⟩ (by rw[List.getElem?_map,hy];rfl))
   have hcap:=ht.1;have :=h b o cap _ w hcell hbk (by rw[List.length_map];exact hN) (by rw[List.length_map];omega) (by rw[hys];exact hlen);rw[hys,List.length_map,←hel] at this;refine this.mono fun e w' hh=>?_;obtain⟨rfl,hB⟩:=hh;have hG:G.mo=false:=hw.mo.trans hm;exact⟨G,hw.grow hB.block,Ext.aXt hw.imme hB.block hB.size ⟨hB.os,hB.output,hB.tape,fun hb=>by rw[hG] at hb;cases hb⟩,VR.aAt _ _ _⟩
end
end
section
theorem aTi (nw tag:Nat):tagA none nw tag=tagA none 0 tag:=by
 match tag with
 |0=>rfl
 |1=>rfl
 |k+2=>rfl
theorem aDp (H:Heap) (nw:Nat) (v:AV):shut1 H none nw v=shut1 H none 0 v:=by
 cases v<;>simp only[shut1,aTi nw]
theorem oD {f f':AV→Option AV} (h:∀x,f x=f' x):∀l,mapO f l=mapO f' l
 |[]=>rfl
 |x::r=>by simp only[mapO,h x,oD h r]
theorem vR (H:Heap) (nw:Nat):∀(n:Nat) (v:AV),shutF H none nw n v=shutF H none 0 n v
 |0,v=>by cases v<;>exact aDp H nw _
 |n+1,v=>by
  cases v with
  |agg cs=>simp only[shutF,oD (vR H nw n) cs]
  |tup cs=>simp only[shutF,oD (vR H nw n) cs]
  |_=>exact aDp H nw _
abbrev Fact:=FuncId×List AV×AV
def kn (f:FuncId) (args:List AV):List Fact→Option AV
 |[]=>none
 |e::r=>match Nat.beq f e.1 with
  |true=>match sameL (fgtL args) e.2.1 with
   |true=>some e.2.2
   |false=>kn f args r
  |false=>kn f args r
def KOK (P:Program) (g:Genv) (K:List Fact):Prop:=∀e∈K,∀H,Sound P g e.1 e.2.1 H (.ret e.2.2) H
def orcK (K:List Fact) (o:OrcF):OrcF:=fun f args H=>match kn f args K with
 |some v=>some (.ret v,H)
 |none=>o f args H
def ran (g:Genv) (T:FT) (orc:OrcF) (nop:FuncId→Nat→Bool) (n:Nat) (e:Fact):Bool:=
 match freeL e.2.1 with
 |true=>match exF orc T.get g 100000 nop 40 (.func (.func e.1) [] []) e.2.1 ⟨0,.nil⟩ with
  |some (.ret u,H2)=>match shutF H2 none 0 n u with
   |some v=>v.same e.2.2
   |none=>false
  |_=>false
 |false=>false
section
variable {P:Program} {g:Genv}
theorem aOf {f:FuncId} {args:List AV} {v:AV}:∀{K:List Fact},KOK P g K→kn f args K=some v→∀H,Sound P g f args H (.ret v) H
 |[],_,h,_=>by cases h
 |e::r,hK,h,H=>by
  have hr:KOK P g r:=fun x hx=>hK x (List.mem_cons_of_mem _ hx);simp only[kn] at h;split at h
  · rename_i hf
    split at h
    · rename_i hs
      cases h;obtain rfl:=Nat.eq_of_beq_eq_true hf;exact Sound.fgt (by rw[eK _ _ hs];exact hK e List.mem_cons_self H)
    · exact aOf hr h H
  · exact aOf hr h H
theorem aSl {K:List Fact} (hK:KOK P g K) {o:OrcF} (ho:OrcOK P g o):OrcOK P g (orcK K o):=by
 intro f args H out H' h;unfold orcK at h;split at h
 · rename_i v hv
   cases h;exact aOf hK hv H
 · exact ho _ _ _ _ _ h
theorem aXa (hm:Fit P g) (hg:GFree g) {T:FT} (hT:T.All fun f F=>∃mu,FnIs P g mu f F) {orc:OrcF} (ho:OrcOK P g orc) {nop:FuncId→Nat→Bool} (hn:NopOK P g nop) {n:Nat} {e:Fact} (h:ran g T orc nop n e=true) (H:Heap):Sound P g e.1 e.2.1 H (.ret e.2.2) H:=by
 unfold ran at h;split at h
 · rename_i ha
   split at h
   · rename_i u H2 he
     split at h
     · rename_i v hv
       obtain rfl:=AV.aAq _ _ h
       rcases rD hm ho hn (fun f F hF=>hT.get hF) 40 _ _ _ _ _ he with ⟨p,hp,hS⟩|⟨id,hc,_⟩
       · cases hp
         simp only[List.nil_append,List.append_nil] at hS;exact hS.frame hg ha (tk:=none) (fun k hk=>by cases hk) (n:=n) H (by rw[vR];exact hv)
       · cases hc
     · cases h
   · cases h
 · cases h
def noNop:FuncId→Nat→Bool:=fun _ _=>false
theorem bL:NopOK P g noNop:=fun _ _ h=>by cases h
theorem KOK.nil:KOK P g []:=fun e he=>by cases he
theorem KOK.cons {K:List Fact} (hK:KOK P g K) {f:FuncId} {args:List AV} {v:AV} (h:∀H,Sound P g f args H (.ret v) H):KOK P g ((f,args,v)::K):=fun e he=>by
 rcases List.mem_cons.1 he with rfl|he
 · exact h
 · exact hK e he
theorem KOK.ran {K:List Fact} (hK:KOK P g K) (hm:Fit P g) (hg:GFree g) {T:FT} (hT:T.All fun f F=>∃mu,FnIs P g mu f F) {o:OrcF} (ho:OrcOK P g o) {nop:FuncId→Nat→Bool} (hn:NopOK P g nop) (n:Nat) {e:Fact} (h:Av.ran g T (orcK K o) nop n e=true):KOK P g (e::K):=fun x hx=>by
 rcases List.mem_cons.1 hx with rfl|hx
 · exact aXa hm hg hT (aSl hK ho) hn h
 · exact hK x hx
end
end
end Go.Av
namespace Go.Av
open Go Go.RowKit
section
def flatFs (P:Program) (fl:TypeId→Option (List TypeId)):List Field→List TypeId→Option (List TypeId)
 |[],acc=>some acc
 |f::r,acc=>match fl f.type with
  |some ts=>if f.offset=acc.length∧P.cellsOf f.type=ts.length then flatFs P fl r (acc++ts) else none
  |none=>none
def flatT (P:Program):Nat→TypeId→Option (List TypeId)
 |0,_=>none
 |d+1,t=>match P.underlying t with
  |some (.struct fs)=>match flatFs P (flatT P d) fs.toList [] with
   |some ts=>if P.cellsOf t=ts.length then some ts else none
   |none=>none
  |some (.array n e)=>match flatT P d e with
   |some ts=>if P.cellsOf e=ts.length∧P.cellsOf t=n*ts.length∧0<ts.length then some (List.replicate n ts).flatten else none
   |none=>none
  |some (.int _)=>some [t]
  |some (.slice _)=>some [t]
  |some .string=>some [t]
  |_=>none
section
variable {H:Type} {enc:TypeId×Value→H} {P:Program} {w:World} {base:Nat} {spare:Nat→Bool} {held:Bool}
def ReadAs (enc:TypeId×Value→H) (P:Program) (w:World) (base:Nat) (spare:Nat→Bool) (held:Bool) (ts:List TypeId) (cs:List Value):Prop:=
 ∀(i:Nat) (u:TypeId),ts[i]?=some u→∃(v:Value) (m:Nat) (y:DataW H×List MemPlace),cs[i]?=some v∧DataW.trod enc P w base spare held m u [v]=some y
theorem nH {ts us:List TypeId} {cs:List Value} (h1:ReadAs enc P w base spare held ts cs) (h2:ReadAs enc P w base spare held us (cs.drop ts.length)):ReadAs enc P w base spare held (ts++us) cs:=by
 intro i u h;by_cases hi:i<ts.length
 · rw[List.getElem?_append_left hi] at h
   exact h1 i u h
 · rw[List.getElem?_append_right (by omega)] at h
   obtain⟨v,m,y,hv,hy⟩:=h2 _ u h;refine⟨v,m,y,?_,hy⟩;rw[List.getElem?_drop] at hv;rw[←hv];congr 1;omega
theorem sE {ts:List TypeId} {cs:List Value} (n:Nat) (h:ReadAs enc P w base spare held ts (cs.take n)):ReadAs enc P w base spare held ts cs:=by
 intro i u hu;obtain⟨v,m,y,hv,hy⟩:=h i u hu;refine⟨v,m,y,?_,hy⟩;rw[List.getElem?_take] at hv;split at hv
 · exact hv
 · cases hv
theorem nI {fl:TypeId→Option (List TypeId)} {n:Nat} {cs:List Value}
 (hfl:∀(u:TypeId) (ts:List TypeId) (cs:List Value) (x:DataW H×List MemPlace),fl u=some ts→DataW.trod enc P w base spare held n u cs=some x→ReadAs enc P w base spare held ts cs):
 ∀(fs:List Field) (acc ts:List TypeId),flatFs P fl fs acc=some ts→ReadAs enc P w base spare held acc cs→
  (∀f∈fs,∃x,DataW.trod enc P w base spare held n f.type ((cs.drop f.offset).take (P.cellsOf f.type))=some x)→ReadAs enc P w base spare held ts cs
 |[],acc,ts,h,ha,hf=>by
  obtain rfl:=Option.some.inj h;exact ha
 |f::r,acc,ts,h,ha,hf=>by
  unfold flatFs at h;split at h
  · rename_i us hus
    split at h
    · rename_i hc
      obtain⟨x,hx⟩:=hf f (List.mem_cons_self ..);refine nI hfl r _ ts h (nH ha ?_) (fun g hg=>hf g (List.mem_cons_of_mem _ hg));rw[←hc.1];exact sE _ (hfl _ _ _ _ hus hx)
    · cases h
  · cases h
theorem vG {e:TypeId} {n:Nat} {ts:List TypeId}:∀(k:Nat) (cs:List Value),(∀i,i<k→ReadAs enc P w base spare held ts ((cs.drop (i*ts.length)).take ts.length))→ReadAs enc P w base spare held (List.replicate k ts).flatten cs
 |0,cs,h=>by intro i u hu;simp at hu
 |k+1,cs,h=>by
  rw[List.replicate_succ,List.flatten_cons];refine nH ?_ ?_
  · have :=h 0 (by omega)
    rw[Nat.zero_mul,List.drop_zero] at this;exact sE _ this
  · refine vG (e:=e) (n:=n) k _ fun i hi=>?_
    have :=h (i+1) (by omega);rw[List.drop_drop];rw[show ts.length+i*ts.length=(i+1)*ts.length by rw[Nat.add_mul,Nat.one_mul,Nat.add_comm]];exact this
theorem jP:∀(d:Nat) {t:TypeId} {ts:List TypeId} {fuel:Nat} {cs:List Value} {x:DataW H×List MemPlace},flatT P d t=some ts→DataW.trod enc P w base spare held fuel t cs=some x→ReadAs enc P w base spare held ts cs
 |0,t,ts,fuel,cs,x,h,hx=>by cases h
 |d+1,t,ts,fuel,cs,x,h,hx=>by
  unfold flatT at h;split at h
  · rename_i fs ht
    split at h
    · rename_i us hus
      split at h
      · obtain rfl:=Option.some.inj h
        obtain⟨xs,n,_,_,hl,hxl,hf⟩:=DataW.trod_struct ht hx;refine nI (n:=n) (fun u ts cs x h1 h2=>jP d h1 h2) fs.toList [] us hus (fun i u hu=>by simp at hu) fun f hfm=>?_;obtain⟨i,hi,hif⟩:=List.getElem_of_mem hfm;have :=hf i f (by rw[←hif];simp);rw[this]
        have hi':i<xs.length:=by rw[hxl];simpa using hi
        exact⟨_,List.getElem?_eq_getElem hi'⟩
      · cases h
    · cases h
  · rename_i n e ht
    split at h
    · rename_i us hus
      split at h
      · rename_i hc
        obtain rfl:=Option.some.inj h;obtain⟨xs,m,_,_,hl,hxl,hf⟩:=DataW.trod_array ht hx;refine vG (e:=e) (n:=m) n cs fun i hi=>?_;have :=hf i hi;rw[hc.1,List.getElem?_eq_getElem (by omega)] at this;exact jP d hus this
      · cases h
    · cases h
  · rename_i k ht
    obtain rfl:=Option.some.inj h;obtain⟨n,rfl,_⟩:=DataW.trod_int ht hx;intro i u hu
    match i,hu with
    |0,hu=>exact⟨_,fuel,x,rfl,by simpa [←Option.some.inj hu] using hx⟩
  · rename_i e ht
    obtain rfl:=Option.some.inj h
    have hc:∃c,cs=[c]:=by
     rcases DataW.trod_slice ht hx with ⟨h,_⟩|⟨a,len,cap,_,_,_,_,h,_⟩
     · exact⟨_,h⟩
     · exact⟨_,h⟩
    obtain⟨c,rfl⟩:=hc;intro i u hu
    match i,hu with
    |0,hu=>exact⟨_,fuel,x,rfl,by simpa [←Option.some.inj hu] using hx⟩
  · rename_i ht
    obtain rfl:=Option.some.inj h;obtain⟨z,rfl,_⟩:=DataW.trod_string ht hx;intro i u hu
    match i,hu with
    |0,hu=>exact⟨_,fuel,x,rfl,by simpa [←Option.some.inj hu] using hx⟩
  · cases h
theorem aGi {ts:List TypeId} {cs:List Value} (h:ReadAs enc P w base spare held ts cs) {i:Nat} {u:TypeId} (hu:ts[i]?=some u) (hk:P.underlying u=some .string):
 ∃z:ByteArray,cs[i]?=some (.string z)∧z.size≤maxLen:=by
 obtain⟨v,m,y,hv,hy⟩:=h i u hu;obtain⟨z,hz,_,hs⟩:=DataW.trod_string hk hy;refine⟨z,?_,hs⟩;rw[hv];simpa using hz
theorem iF {ts:List TypeId} {cs:List Value} (h:ReadAs enc P w base spare held ts cs) {i:Nat} {u:TypeId} {k:IntKind} (hu:ts[i]?=some u) (hk:P.underlying u=some (.int k)):
 ∃n,cs[i]?=some (.int k n)∧(Lit.int k n).wf=true:=by
 obtain⟨v,m,y,hv,hy⟩:=h i u hu;obtain⟨n,hn,_,hw⟩:=DataW.trod_int hk hy;refine⟨n,?_,hw⟩;rw[hv];simpa using hn
end
end
end Go.Av
namespace Go.Av
open Go Go.RowKit Go.ChangeShapes Go.WideShapes Go.ChangeAt Go.Deep
section
def fullG (mo:Bool) (W:World):Gh:=⟨fun _=>none,fun b o=>∃v,W.cell? ⟨b,o,none⟩=some v,mo⟩
theorem aVc {g:Genv} {W:World} (hg:∀n cs,g n=some cs→VR (fullG g.mo W) W (.pl cs) (.pointer (some ⟨n,0,none⟩))):WR g (fullG g.mo W) ⟨0,.nil⟩ W where
 cells:=fun id l cs opn h=>by cases h
 room:=fun id l h=>by cases h
 disj:=fun id id' l l' _ h=>by cases h
 immd:=fun id l h=>by cases h
 mapr:=fun id l es h=>by cases h
 lt:=fun id l h=>by cases h
 imme:=fun b o h=>h
 glob:=hg
 mo:=rfl
theorem pK {mo:Bool} {W W':World} {G':Gh} {H':Heap} (h:Ext (fullG mo W) ⟨0,.nil⟩ W G' H' W') {b:Nat} (hb:b<W.heap.size):W'.heap[b]?=W.heap[b]?:=
 h.frame b hb fun id l hl=>by cases hl
theorem aXi {mo:Bool} {W:World} {k:IntKind} {sz len cap b o:Nat} {f:Nat→Int} {els:List (List AV)} (hu:∀e∈els,e.length=sz) (hl:els.length=len)
 (hf:els.flatten=(List.range (len*sz)).map fun j=>AV.int k (f j)) (hc:∀j,j<len*sz→W.cell? ⟨b,o+j,none⟩=some (.int k (f j))) (hcap:len≤cap):
 VR (fullG mo W) W (.aT 0 sz els) (.slice (some ⟨b,o,none⟩) len cap):=by
 subst hl
 have hfl:els.flatten.length=els.length*sz:=by rw[hf];simp
 have hg:∀j,j<els.length*sz→els.flatten.getD j undefA=.int k (f j):=fun j hj=>by
  rw[hf,List.getD,List.getElem?_map,List.getElem?_range hj];rfl
 refine .aT 0 sz els b o cap (fun j=>.int k (f j)) hu (fun j hj=>?_) (fun j hj=>?_) ⟨hcap,trivial⟩
 · rw[hfl] at hj
   refine⟨⟨_,hc j hj⟩,hc j hj,?_⟩;rw[hg j hj];rfl
 · rw[hfl] at hj
   rw[hg j hj];exact .int _ _
theorem aMg {w:World} {a:Addr} {v:Value} (h:w.cell? a=some v):a.spot=none:=World.cell?_spot h
theorem aBj (b o j:Nat):(Addr.mk b o none).add j=⟨b,o+j,none⟩:=by
 unfold Addr.add;split
 · rename_i h;rw[h];rfl
 · rfl
section
variable {H:Type} {enc:TypeId×Value→H} {P:Program} {w:World} {base:Nat} {held:Bool}
theorem aAg {t e:TypeId} {k:IntKind} {d:Nat} {ts:List TypeId} {fuel:Nat} {v:Value} {x:DataW H×List MemPlace} (ht:P.underlying t=some (.slice e)) (hf:flatT P d e=some ts)
 (hk:∀u∈ts,P.underlying u=some (.int k)) (hsz:P.cellsOf e=ts.length) (h0:0<ts.length) (mo:Bool) (h:DataW.trod enc P w base (fun _=>true) held fuel t [v]=some x):
 v=.slice none 0 0∨∃(len:Nat) (f:Nat→Int),len≤maxLen∧(∀j,j<len*ts.length→(Lit.int k (f j)).wf=true)∧
  ∀els:List (List AV),els.length=len→(∀e∈els,e.length=ts.length)→els.flatten=(List.range (len*ts.length)).map (fun j=>AV.int k (f j))→VR (fullG mo w) w (.aT 0 ts.length els) v:=by
 rcases open_slice ht h with ⟨h0,_⟩|⟨a,len,cap,m,n,D,Pl,hv,hb,hl,hm,hmm,rfl,hx⟩
 · exact .inl (by simpa using h0)
 right
 have hv':v=.slice (some a) len cap:=by simpa using hv
 subst hv'
 have hmc:m=cap:=by simpa using hmm
 subst hmc
 have key:∀j,j<m*ts.length→∃r,w.cell? (a.add j)=some (.int k r)∧(Lit.int k r).wf=true:=fun j hj=>by
  have hi:j / ts.length<m:=Nat.div_lt_of_lt_mul (by rwa [Nat.mul_comm]);have hr:j%ts.length<ts.length:=Nat.mod_lt _ h0;obtain⟨cs',h1,h2⟩:=hx (j / ts.length) (by omega);rw[hsz] at h1;obtain⟨_,hlen,hcell⟩:=World.cells?_some h1;have hra:=jP d hf h2;obtain⟨r,hr1,hr2⟩:=iF hra (i:=j%ts.length) (u:=ts[j%ts.length]) (List.getElem?_eq_getElem hr) (hk _ (List.getElem_mem hr));refine⟨r,?_,hr2⟩;rw[←hr1,←hcell _ hr,add_add,Nat.mul_comm,Nat.div_add_mod]
 have hlm:len*ts.length≤m*ts.length:=Nat.mul_le_mul_right _ hl;obtain⟨f,hfn⟩:=choose_lt (α:=Int) (n:=len*ts.length) (p:=fun j r=>w.cell? (a.add j)=some (.int k r)∧(Lit.int k r).wf=true) (fun j hj=>key j (by omega));refine⟨len,f,by omega,fun j hj=>(hfn j hj).2,fun els e1 e2 e3=>?_⟩;obtain⟨b,o,s⟩:=a
 cases s with
 |none=>exact aXi e2 e1 e3 (fun j hj=>by have :=(hfn j hj).1;rwa [aBj] at this) hl
 |some s=>
  have hm0:m=0:=by
   rcases Nat.eq_zero_or_pos m with h|h
   · exact h
   · obtain⟨r,hr,_⟩:=key 0 (Nat.mul_pos h h0)
     have :=aMg hr;simp[Addr.add] at this
  subst hm0
  obtain rfl:len=0:=by omega
  obtain rfl:els=[]:=List.eq_nil_of_length_eq_zero e1;exact .lstE 0 ts.length b o s (by decide)
end
theorem vF {α:Type} (f:Nat→α) (sz:Nat):∀len:Nat,((List.range len).map fun i=>(List.range sz).map fun r=>f (i*sz+r)).flatten=(List.range (len*sz)).map f
 |0=>by simp
 |len+1=>by
  rw[List.range_succ,List.map_append,List.flatten_append,vF f sz len,Nat.add_mul,Nat.one_mul,List.range_add,List.map_append,List.map_map];simp
theorem aFi {mo:Bool} {W W':World} {G':Gh} {H':Heap} (h:Ext (fullG mo W) ⟨0,.nil⟩ W G' H' W') (a:Addr) (ha:a.block<W.heap.size):W'.frozen? a=W.frozen? a:=by
 simp only[World.frozen?,pK h ha]
theorem aOe {mo:Bool} {W W':World} {G':Gh} {H':Heap} (h:Ext (fullG mo W) ⟨0,.nil⟩ W G' H' W') (may:MemPlace→Prop):W.keptBut W' may:=by
 refine⟨h.same.1,h.same.2,fun i hi=>?_⟩;rw[pK h hi]
 cases W.heap[i]? with
 |none=>rfl
 |some o=>
  cases o with
  |cells c t fr=>exact⟨rfl,rfl,rfl,fun _ _=>rfl⟩
  |map es clock=>exact .inr ⟨rfl,rfl⟩
  |_=>rfl
section
variable {H:Type} {enc:TypeId×Value→H} {P:Program}
theorem aCx {mo:Bool} {f:Func} {s:ChangeSpec} {apart fresh handsOn again:Bool} {W W':World} {args:Array Value} {v:Value} {ds gs:List (DataW H)} {before pa pv:List MemPlace} {G':Gh} {H':Heap}
 (hE:Ext (fullG mo W) ⟨0,.nil⟩ W G' H' W')
 (hW:DataW.Whole enc P f.params.toList s.vars apart W args.toList ds gs before)
 (hres:∀(b:Nat) (sp:Nat→Bool) (hd:Bool),DataW.TrodAll enc P W' b sp hd f.resultTypes.toList (v.resultList f.resultTypes.size) (s.fn H (ds++gs)).results [])
 (hargs:∀sp:Nat→Bool,(∀p∈before,sp p.block=true)→DataW.TrodAll enc P W' 0 sp true f.params.toList args.toList (s.fn H (ds++gs)).args pa)
 (hvars:∀sp:Nat→Bool,(∀p∈before,sp p.block=true)→DataW.TrodVars enc P W' sp s.vars (s.fn H (ds++gs)).vars pv)
 (hps:before=pa++pv)
 (hok:∀(j:Nat) (t:TypeId) (r:Value),f.resultTypes[j]?=some t→(v.resultList f.resultTypes.size)[j]?=some r→Value.okWide P W' .any 0 t r):
 s.post enc P f apart fresh handsOn again W args v W':=by
 have hold:∀p∈before,(fun b=>decide (b<W.heap.size)) p.block=true:=fun p hp=>by simpa using hW.lt p hp
 refine⟨ds,gs,before,[],pa,pv,hW,hres _ _ _,hargs _ hold,hvars _ hold,aOe hE _,fun _=>?_⟩;obtain⟨_,_,_,_,_,hz,hn⟩:=id hW;refine⟨hok,_,_,([]++pa)++pv,⟨[]++pa,pv,trodAll_append (hargs _ (fun _ _=>rfl)) (hres _ _ _),hvars _ (fun _ _=>rfl),rfl,?_,?_⟩,?_⟩
 · intro b off hp
   have hp':MemPlace.cell b off∈before:=by rw[hps];simpa using hp
   rw[aFi hE _ (hW.lt _ hp')];exact hz b off hp'
 · intro ha
   have :=hn ha;rw[hps] at this;simpa using this
 · intro p hp _
   rw[hps];simpa using hp
end
end
end Go.Av
