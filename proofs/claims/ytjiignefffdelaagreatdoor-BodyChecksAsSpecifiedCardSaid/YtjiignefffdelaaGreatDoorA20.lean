/-
  Parts of the proof of statement 4: GeoC, GeoD, GeoE, GeoF, GeoG
-/
import Derived.Test.YtjiignefffdelaaGreatDoorA19
set_option linter.unusedVariables false
namespace Go.Geo
section
variable {n:V} {p:Nat→V} {on:List Nat}
def sgn (x:Int):Int:=if x<0 then -1 else if 0<x then 1 else 0
theorem aAr {x:Int}:sgn x<0↔x<0:=by unfold sgn;split<;>(try split)<;>omega
theorem vO {x:Int}:sgn x=0↔x=0:=by unfold sgn;split<;>(try split)<;>omega
theorem aAq (x y:Int):sgn (x*y)=sgn x*sgn y:=by
 rcases Int.lt_trichotomy x 0 with h|h|h
 · rcases Int.lt_trichotomy y 0 with k|k|k
   · have :=Int.mul_pos_of_neg_of_neg h k
     simp only[sgn,h,k,if_true,if_neg (show ¬x*y<0 by omega),this];rfl
   · subst k;simp[sgn]
   · have :=Int.mul_neg_of_neg_of_pos h k
     simp only[sgn,h,this,k,if_true,if_neg (show ¬y<0 by omega)];rfl
 · subst h;simp[sgn]
 · rcases Int.lt_trichotomy y 0 with k|k|k
   · have :=Int.mul_neg_of_pos_of_neg h k
     simp only[sgn,h,this,k,if_true,if_neg (show ¬x<0 by omega)];rfl
   · subst k;simp[sgn]
   · have :=Int.mul_pos h k
     simp only[sgn,h,this,k,if_true,if_neg (show ¬x<0 by omega),if_neg (show ¬y<0 by omega),if_neg (show ¬x*y<0 by omega)];rfl
theorem sgn_pos {x:Int} (h:0<x):sgn x=1:=by simp[sgn,h,show ¬x<0 by omega]
def turn (n c:V):Int:=if n.x≠0 then sgn c.x*sgn n.x else if n.y≠0 then sgn c.y*sgn n.y else if n.z≠0 then sgn c.z*sgn n.z else 0
theorem aAt {a b:V} (hn:n≠V0) (ha:dot n a=0) (hb:dot n b=0):turn n (cross a b)=sgn (det n a b):=by
 have hp:=bH hn
 have e1:dot n n*(cross a b).x=det n a b*n.x+dot n b*(n.z*a.y -n.y*a.z) -dot n a*(n.z*b.y -n.y*b.z):=by simp only[det,dot,cross];grind
 have e2:dot n n*(cross a b).y=det n a b*n.y+dot n b*(n.x*a.z -n.z*a.x) -dot n a*(n.x*b.z -n.z*b.x):=by simp only[det,dot,cross];grind
 have e3:dot n n*(cross a b).z=det n a b*n.z+dot n b*(n.y*a.x -n.x*a.y) -dot n a*(n.y*b.x -n.x*b.y):=by simp only[det,dot,cross];grind
 rw[ha,hb] at e1 e2 e3
 have key:∀c m:Int,m≠0→dot n n*c=det n a b*m+0*0 -0→sgn c*sgn m=sgn (det n a b):=by
  intro c m hm e
  have h1:sgn (dot n n*c*m)=sgn (det n a b*(m*m)):=by rw[e];congr 1;grind
  rw[aAq,aAq,aAq (det n a b),sgn_pos hp,sgn_pos (sq_pos hm)] at h1;simpa using h1
 unfold turn;split
 · rename_i h;exact key _ _ h (by omega)
 · split
   · rename_i h;exact key _ _ h (by omega)
   · split
     · rename_i h;exact key _ _ h (by omega)
     · rename_i h1 h2 h3
       exact absurd (V.ext' (by simpa [V0] using h1) (by simpa [V0] using h2) (by simpa [V0] using h3)) hn
def better (n:V) (p:Nat→V) (a b k:Nat):Bool:=
 decide (turn n (cross (vec p a b) (vec p a k))<0)||(decide (turn n (cross (vec p a b) (vec p a k))=0)&&decide (dot (vec p a k) (vec p a k)>dot (vec p a b) (vec p a b)))
def nextStep (n:V) (p:Nat→V) (a:Nat) (best:Option Nat) (k:Nat):Option Nat:=
 if k=a then best else match best with
  |none=>some k
  |some b=>if better n p a b k then some k else some b
def nextP (n:V) (p:Nat→V) (on:List Nat) (a:Nat):Option Nat:=on.foldl (nextStep n p a) none
theorem gT (H:Pl n p on) {a b k:Nat} (ha:a∈on) (hb:b∈on) (hk:k∈on):
 better n p a b k=true↔det n (vec p a b) (vec p a k)<0∨(det n (vec p a b) (vec p a k)=0∧dot (vec p a b) (vec p a b)<dot (vec p a k) (vec p a k)):=by
 unfold better;rw[aAt H.hn (H.pl a ha b hb) (H.pl a ha k hk)];simp only[Bool.or_eq_true,Bool.and_eq_true,decide_eq_true_eq,aAr,vO]
theorem nextP_inv (H:Pl n p on) {a:Nat} (ha:a∈on) (hc:Crn p on a):∀(l:List Nat) (done:List Nat) (best:Option Nat),(∀k∈l,k∈on)→(∀k∈done,k∈on)→
 (match best with|none=>∀k∈done,k=a|some b=>b∈on∧b≠a∧∀k∈done,k≠a→better n p a b k=false)→
 match l.foldl (nextStep n p a) best with|none=>∀k∈done++l,k=a|some b=>b∈on∧b≠a∧∀k∈done++l,k≠a→better n p a b k=false:=by
 obtain⟨P,hP,hin⟩:=hc
 have refl:∀k∈on,better n p a k k=false:=fun k hk=>by
  have :=gT H ha hk hk;rw[lI] at this
  cases hb:better n p a k k with
  |false=>rfl
  |true=>have :=this.1 hb;omega
 intro l
 induction l with
 |nil=>intro done best _ _ h;simpa using h
 |cons k l ih=>
  intro done best hl hd h;have hk:k∈on:=hl k (by simp);have :=ih (done++[k]) (nextStep n p a best k) (fun x hx=>hl x (by simp[hx])) (fun x hx=>by simp only[List.mem_append,List.mem_singleton] at hx;exact hx.elim (hd x) fun e=>e▸hk) ?_
  · simpa using this
  · unfold nextStep
    by_cases hka:k=a
    · subst hka
      simp only[if_true]
      cases best with
      |none=>intro x hx;simp only[List.mem_append,List.mem_singleton] at hx;exact hx.elim (h x) id
      |some b=>
       refine⟨h.1,h.2.1,fun x hx hxa=>?_⟩;simp only[List.mem_append,List.mem_singleton] at hx
       rcases hx with hx|rfl
       · exact h.2.2 x hx hxa
       · exact absurd rfl hxa
    · simp only[hka,if_false]
      cases best with
      |none=>
       refine⟨hk,hka,fun x hx hxa=>?_⟩;simp only[List.mem_append,List.mem_singleton] at hx
       rcases hx with hx|rfl
       · exact absurd (h x hx) hxa
       · exact refl _ hk
      |some b=>
       obtain⟨hb,hba,hbd⟩:=h;dsimp only;by_cases hbk:better n p a b k=true
       · rw[if_pos hbk]
         refine⟨hk,hka,fun x hx hxa=>?_⟩;simp only[List.mem_append,List.mem_singleton] at hx
         rcases hx with hx|rfl
         · have h1:=hbd x hx hxa
           have hxo:=hd x hx;have i1:=(gT H ha hb hk).1 hbk
           have i2:¬(det n (vec p a b) (vec p a x)<0∨(det n (vec p a b) (vec p a x)=0∧dot (vec p a b) (vec p a b)<dot (vec p a x) (vec p a x))):=fun h=>by
            rw[(gT H ha hb hxo).2 h] at h1;cases h1
           cases hkx:better n p a k x with
           |false=>rfl
           |true=>
            exfalso;have i3:=(gT H ha hk hxo).1 hkx;have a1:=lH n (vec p a b) (vec p a k);obtain⟨t1,t2⟩:=tT H hP (H.pl a ha k hk) (H.pl a ha b hb) (H.pl a ha x hxo) (hin k hk hka) (hin b hb hba) (hin x hxo hxa) (by omega) (by omega);by_cases hz:det n (vec p a k) (vec p a b)=0
            · by_cases hz2:det n (vec p a b) (vec p a x)=0
              · omega
              · have :=t2 (.inr (by omega));omega
            · have :=t2 (.inl (by omega));omega
         · exact refl _ hk
       · rw[if_neg hbk]
         refine⟨hb,hba,fun x hx hxa=>?_⟩;simp only[List.mem_append,List.mem_singleton] at hx
         rcases hx with hx|rfl
         · exact hbd x hx hxa
         · simpa using hbk
theorem aCq (H:Pl n p on) {a:Nat} (ha:a∈on) (hc:Crn p on a) (hm:∃k∈on,k≠a):∃b,nextP n p on a=some b∧Sd n p on a b:=by
 have h:=nextP_inv H ha hc on [] none (fun _ h=>h) (fun k hk=>by cases hk) (fun k hk=>by cases hk);unfold nextP;split at h
 · obtain⟨k,hk,hka⟩:=hm
   exact absurd (h k (by simpa using hk)) hka
 · rename_i b hb
   refine⟨b,hb,h.1,h.2.1,fun k hk=>?_⟩;obtain⟨P,hP,hin⟩:=hc;by_cases hka:k=a
   · subst hka
     have :vec p k k=V0:=by simp[vec,sub,V0]
     rw[this];have hq:=kW (vec p k b);constructor
     · simp[det,dot,cross,V0]
     · intro _;constructor<;>simp[dot,V0]<;>simpa [dot] using hq
   · have h1:=h.2.2 k (by simpa using hk) hka
     have i2:¬(det n (vec p a b) (vec p a k)<0∨(det n (vec p a b) (vec p a k)=0∧dot (vec p a b) (vec p a b)<dot (vec p a k) (vec p a k))):=fun hh=>by
      rw[(gT H ha h.1 hk).2 hh] at h1;cases h1
     refine⟨by omega,fun hz=>?_⟩;have q:=wZ H hP (H.pl a ha b h.1) (H.pl a ha k hk) (hin b h.1 h.2.1) (hin k hk hka) hz;rw[dE];exact⟨by omega,dot_le H.hn (H.pl a ha b h.1) (H.pl a ha k hk) hz (by omega)⟩
def sideR (n:V) (p:Nat→V) (on:List Nat) (a b:Nat):Bool:=on.all fun k=>
 !(decide (turn n (cross (vec p a b) (vec p a k))<0)||(decide (turn n (cross (vec p a b) (vec p a k))=0)&&(decide (dot (vec p a k) (vec p a b)<0)||decide (dot (vec p a k) (vec p a b)>dot (vec p a b) (vec p a b)))))
theorem yL (H:Pl n p on) {a b:Nat} (ha:a∈on) (hb:b∈on) (hba:b≠a):sideR n p on a b=true↔Sd n p on a b:=by
 unfold sideR Sd;simp only[List.all_eq_true];constructor
 · intro h
   refine⟨hb,hba,fun k hk=>?_⟩;have :=h k hk;rw[aAt H.hn (H.pl a ha b hb) (H.pl a ha k hk)] at this;simp only[Bool.not_eq_true',Bool.or_eq_false_iff,Bool.and_eq_false_iff,decide_eq_false_iff_not,aAr,vO] at this;omega
 · intro h k hk
   have :=h.2.2 k hk;rw[aAt H.hn (H.pl a ha b hb) (H.pl a ha k hk)];simp only[Bool.not_eq_true',Bool.or_eq_false_iff,Bool.and_eq_false_iff,decide_eq_false_iff_not,aAr,vO];omega
def nextR (n:V) (p:Nat→V) (on:List Nat) (a:Nat):Option Nat:=on.find? fun k=>decide (k≠a)&&sideR n p on a k
theorem nextR_eq (H:Pl n p on) {a b:Nat} (ha:a∈on) (h:Sd n p on a b):nextR n p on a=some b:=by
 unfold nextR
 cases hf:on.find? fun k=>decide (k≠a)&&sideR n p on a k with
 |none=>
  have :=List.find?_eq_none.1 hf b h.1;simp[h.2.1,(yL H ha h.1 h.2.1).2 h] at this
 |some c=>
  have h1:=List.find?_some hf;have h2:=List.mem_of_find?_eq_some hf;simp only[Bool.and_eq_true,decide_eq_true_eq] at h1;rw[Sd.uniq H ha ((yL H ha h2 h1.1).1 h1.2) h]
end
section
variable {n:V} {p:Nat→V} {on:List Nat}
def iter (f:Nat→Nat):Nat→Nat→Nat
 |0,s=>s
 |i+1,s=>f (iter f i s)
theorem yA:∀(l on:List Nat),l.Nodup→(∀x∈l,x∈on)→l.length≤on.length
 |[],_,_,_=>Nat.zero_le _
 |x::l,on,hn,h=>by
  rw[List.nodup_cons] at hn;have h1:=yA l (on.erase x) hn.2 fun y hy=>(List.mem_erase_of_ne fun e=>hn.1 (by rw[←e];exact hy)).2 (h y (by simp[hy]));have h2:=List.length_erase_of_mem (h x (by simp));have h3:0<on.length:=List.length_pos_of_mem (h x (by simp));simp only[List.length_cons];omega
theorem cycle {A:Nat→Prop} {f:Nat→Nat} (on:List Nat) (hA:∀a,A a→a∈on) (hf:∀a,A a→A (f a)) (hi:∀a b,A a→A b→f a=f b→a=b) {s:Nat} (hs:A s):
 ∃m,0<m∧m≤on.length∧iter f m s=s∧(∀i,0<i→i<m→iter f i s≠s)∧∀i,A (iter f i s):=by
 have hall:∀i,A (iter f i s):=fun i=>by
  induction i with
  |zero=>exact hs
  |succ i ih=>exact hf _ ih
 have back:∀i d,iter f i s=iter f (i+d) s→iter f d s=s:=fun i=>by
  induction i with
  |zero=>intro d h;rw[Nat.zero_add] at h;exact h.symm
  |succ i ih=>
   intro d h;refine ih d (hi _ _ (hall _) (hall _) ?_);rw[show i+1+d=(i+d)+1 by omega] at h;exact h
 have ex:∃m,0<m∧m≤on.length∧iter f m s=s:=by
  refine Classical.byContradiction fun hc=>?_
  have hd:((List.range (on.length+1)).map fun i=>iter f i s).Nodup:=by
   rw[List.Nodup,List.pairwise_map];refine List.Pairwise.imp_of_mem ?_ List.pairwise_lt_range;intro i j hi hj hij e;simp only[List.mem_range] at hi hj;exact hc ⟨j -i,by omega,by omega,back i (j -i) (by rw[show i+(j -i)=j by omega];exact e)⟩
  have :=yA _ on hd (fun x hx=>by
   simp only[List.mem_map] at hx;obtain⟨i,_,rfl⟩:=hx
   exact hA _ (hall i))
  simp at this;omega
 have least:∀(k m:Nat),m≤k→0<m→m≤on.length→iter f m s=s→∃m,0<m∧m≤on.length∧iter f m s=s∧∀i,0<i→i<m→iter f i s≠s:=by
  intro k
  induction k with
  |zero=>intro m h1 h2;omega
  |succ k ih=>
   intro m h1 h2 h3 h4;by_cases hc:∃i,0<i∧i<m∧iter f i s=s
   · obtain⟨i,i1,i2,i3⟩:=hc
     exact ih i (by omega) i1 (by omega) i3
   · exact⟨m,h2,h3,h4,fun i i1 i2 e=>hc ⟨i,i1,i2,e⟩⟩
 obtain⟨m,h1,h2,h3⟩:=ex;obtain⟨m,h1,h2,h3,h4⟩:=least m m (Nat.le_refl _) h1 h2 h3;exact⟨m,h1,h2,h3,h4,hall⟩
structure Way (n:V) (p:Nat→V) (on:List Nat) (s m:Nat) (f:Nat→Nat):Prop where
 H:Pl n p on
 hs:s∈on
 pos:0<m
 le:m≤on.length
 back:iter f m s=s
 first:∀i,0<i→i<m→iter f i s≠s
 side:∀i,iter f i s∈on∧Sd n p on (iter f i s) (iter f (i+1) s)
def nxt (n:V) (p:Nat→V) (on:List Nat) (a:Nat):Nat:=(nextP n p on a).getD 0
theorem way (H:Pl n p on) {s:Nat} (hs:s∈on) (hc:Crn p on s) (hm:∀a∈on,∃k∈on,k≠a):∃m,Way n p on s m (nxt n p on):=by
 have hS:∀a,a∈on∧Crn p on a→Sd n p on a (nxt n p on a):=fun a ⟨ha,hc⟩=>by
  obtain⟨b,h1,h2⟩:=aCq H ha hc (hm a ha);unfold nxt;rw[h1];exact h2
 obtain⟨m,h1,h2,h3,h4,h5⟩:=cycle (A:=fun a=>a∈on∧Crn p on a) (f:=nxt n p on) on (fun a h=>h.1) (fun a h=>⟨(hS a h).1,(hS a h).next H h.1⟩)
  (fun a b ha hb e=>Sd.inj H ha.1 hb.1 (hS a ha) (by rw[e];exact hS b hb)) ⟨hs,hc⟩
 exact⟨m,H,hs,h1,h2,h3,h4,fun i=>⟨(h5 i).1,hS _ (h5 i)⟩⟩
theorem Way.cover {s m:Nat} {f:Nat→Nat} (W:Way n p on s m f) {a b:Nat} (ha:a∈on) (h:Sd n p on a b):∃i,i<m∧iter f i s=a:=by
 refine Classical.byContradiction fun hc=>?_
 have hne:∀i,iter f i s≠a:=by
  have :∀i,i<m→iter f i s≠a:=fun i hi e=>hc ⟨i,hi,e⟩
  have per:∀i,∃j,j<m∧iter f i s=iter f j s:=fun i=>by
   induction i with
   |zero=>exact⟨0,W.pos,rfl⟩
   |succ i ih=>
    obtain⟨j,hj,e⟩:=ih;by_cases hjm:j+1<m
    · exact⟨j+1,hjm,by simp only[iter];rw[e]⟩
    · refine⟨0,W.pos,?_⟩
      have :j+1=m:=by omega
      simp only[iter];rw[e];have h2:=W.back;rw[←this] at h2;exact h2
  intro i e;obtain⟨j,hj,e2⟩:=per i;exact this j hj (e2.symm.trans e)
 obtain⟨P,hP,hin⟩:=h.crn W.H ha;have hPi:∀i,P (vec p a (iter f i s)):=fun i=>hin _ (W.side i).1 (hne i);have hpl:∀i,dot n (vec p a (iter f i s))=0:=fun i=>W.H.pl a ha _ (W.side i).1
 have left:∀i,0<det n (vec p a (iter f i s)) (vec p a (iter f (i+1) s)):=by
  intro i;obtain⟨hx,hS⟩:=W.side i;generalize hxi:iter f i s=x at *;generalize hyi:iter f (i+1) s=y at *
  have e:det n (vec p x y) (vec p x a)=det n (vec p a x) (vec p a y):=by simp only[vec,det,dot,cross,sub];grind
  obtain⟨h1,h2⟩:=hS.2.2 a ha;rw[e] at h1 h2
  have hxa:x≠a:=by rw[←hxi];exact hne i
  have hya:y≠a:=by rw[←hyi];exact hne (i+1)
  rcases Int.lt_or_eq_of_le h1 with h1|h1
  · exact h1
  · exfalso
    obtain⟨h3,h4⟩:=h2 h1.symm;have px:P (vec p a x):=hin x hx hxa;have py:P (vec p a y):=hin y hS.1 hya;have hd:=wZ W.H hP (W.H.pl a ha x hx) (W.H.pl a ha y hS.1) px py h1.symm;have hp:=para W.H.hn (W.H.pl a ha x hx) (W.H.pl a ha y hS.1) h1.symm;have hu0:=bH (W.H.ne ha hx hxa)
    have e5:dot (vec p x a) (vec p x y)=dot (vec p a x) (vec p a x) -dot (vec p a x) (vec p a y):=by simp only[vec,dot,sub];grind
    have e6:dot (vec p x y) (vec p x y)=dot (vec p a x) (vec p a x) -2*dot (vec p a x) (vec p a y)+dot (vec p a y) (vec p a y):=by simp only[vec,dot,sub];grind
    have hl:=pS n _ _ (W.H.pl a ha x hx) (W.H.pl a ha y hS.1);rw[←h1] at hl;have hl:=bU (bH W.H.hn) (by rw[hl];simp);rw[e5] at h3 h4;rw[e6] at h4;generalize hA:dot (vec p a x) (vec p a x)=A at *;generalize hB:dot (vec p a x) (vec p a y)=B at *;generalize hC:dot (vec p a y) (vec p a y)=C at *
    have :B=A:=by
     by_cases hBA:B=A
     · exact hBA
     · exfalso
       have q1:B*B<A*B:=Int.mul_lt_mul_of_pos_right (by omega) hd;have q2:A*B≤A*C:=Int.mul_le_mul_of_nonneg_left (by omega) (by omega);omega
    rw[this] at hp;have e7:=iG (c:=A) (by omega) hp;refine hS.2.1 (W.H.inj y hS.1 x hx ?_);simp only[vec,sub,V.mk.injEq] at e7;exact V.ext' (by omega) (by omega) (by omega)
 have chain:∀i,0<det n (vec p a s) (vec p a (iter f (i+1) s)):=by
  intro i
  induction i with
  |zero=>exact left 0
  |succ i ih=>exact(tT W.H hP (hpl 0) (hpl (i+1)) (hpl (i+2)) (hPi 0) (hPi (i+1)) (hPi (i+2)) (Int.le_of_lt ih) (Int.le_of_lt (left (i+1)))).2 (.inl ih)
 have :=chain (m -1);rw[show m -1+1=m from Nat.succ_pred_eq_of_pos W.pos,W.back,lI] at this;omega
end
section
def onL (p:Nat→V) (N:Nat) (n:V) (d:Int):List Nat:=(List.range N).filter fun k=>decide (dot n (p k)=d)
theorem bN {p:Nat→V} {N:Nat} {n:V} {d:Int} {k:Nat}:k∈onL p N n d↔k<N∧dot n (p k)=d:=by
 simp[onL]
structure Fct (p:Nat→V) (N:Nat) (n:V) (d:Int):Prop where
 hn:n≠V0
 le:∀k,k<N→dot n (p k)≤d
 lt:∃k,k<N∧dot n (p k)<d
 tri:∃a∈onL p N n d,∃b∈onL p N n d,∃c∈onL p N n d,det n (vec p a b) (vec p a c)≠0
def VLt (a b:V):Prop:=a.x<b.x∨(a.x=b.x∧(a.y<b.y∨(a.y=b.y∧a.z<b.z)))
def Asc (p:Nat→V) (N:Nat):Prop:=∀i j,i<j→j<N→VLt (p i) (p j)
variable {p:Nat→V} {N:Nat} {n:V} {d:Int}
theorem Asc.inj (A:Asc p N) {i j:Nat} (hi:i<N) (hj:j<N) (h:p i=p j):i=j:=by
 rcases Nat.lt_trichotomy i j with h1|h1|h1
 · have :=A i j h1 hj
   rw[h] at this;unfold VLt at this;omega
 · exact h1
 · have :=A j i h1 hi
   rw[h] at this;unfold VLt at this;omega
theorem eK (n:V) (p:Nat→V) (a b:Nat):dot n (vec p a b)=dot n (p b) -dot n (p a):=by
 simp only[dot,vec,sub];grind
theorem Fct.pl (A:Asc p N) (F:Fct p N n d):Pl n p (onL p N n d) where
 hn:=F.hn
 inj a ha b hb h:=A.inj (bN.1 ha).1 (bN.1 hb).1 h
 pl a ha b hb:=by rw[eK,(bN.1 ha).2,(bN.1 hb).2];omega
theorem Fct.more (F:Fct p N n d) (a:Nat):∃k∈onL p N n d,k≠a:=by
 obtain⟨x,hx,y,hy,z,hz,h⟩:=F.tri;refine Classical.byContradiction fun hc=>?_;have e:∀k∈onL p N n d,k=a:=fun k hk=>Classical.byContradiction fun h=>hc ⟨k,hk,h⟩;rw[e x hx,e y hy,e z hz,lI] at h;exact h rfl
theorem Fct.head (F:Fct p N n d):∃s r,onL p N n d=s::r:=by
 obtain⟨k,hk,_⟩:=F.more 0
 cases h:onL p N n d with
 |nil=>rw[h] at hk;cases hk
 |cons s r=>exact⟨s,r,rfl⟩
theorem uT (p:Nat→V) (N:Nat) (n:V) (d:Int):(onL p N n d).Pairwise (· < ·):=List.Pairwise.filter _ List.pairwise_lt_range
theorem onL_first (A:Asc p N) {s:Nat} {r:List Nat} (h:onL p N n d=s::r):Crn p (onL p N n d) s:=by
 refine⟨_,cone_pos,fun k hk hks=>?_⟩;have hs:=uT p N n d;have hkN:=(bN.1 hk).1;rw[h] at hk hs;simp only[List.mem_cons] at hk
 rcases hk with hk|hk
 · exact absurd hk hks
 · have h1:=(List.pairwise_cons.1 hs).1 k hk
   have :=A s k h1 hkN;unfold VLt at this;simp only[vec,sub];omega
theorem Fct.way (A:Asc p N) (F:Fct p N n d) {s:Nat} {r:List Nat} (h:onL p N n d=s::r):∃m,Way n p (onL p N n d) s m (nxt n p (onL p N n d)):=
 Geo.way (F.pl A) (by rw[h];simp) (onL_first A h) fun a _=>F.more a
theorem Way.bend (F:Fct p N n d) {s m:Nat} {f:Nat→Nat} (W:Way n p (onL p N n d) s m f) (i:Nat):
 0<det n (vec p (iter f i s) (iter f (i+1) s)) (vec p (iter f i s) (iter f (i+2) s)):=by
 obtain⟨hx,hS⟩:=W.side i;obtain⟨hy,hT⟩:=W.side (i+1);generalize iter f i s=x at *;generalize iter f (i+1) s=y at *;rw[show i+1+1=i+2 from rfl] at hT;generalize iter f (i+2) s=z at *;obtain⟨h1,h2⟩:=hS.2.2 z hT.1
 rcases Int.lt_or_eq_of_le h1 with h1|h1
 · exact h1
 · exfalso
   obtain⟨h3,h4⟩:=h2 h1.symm;have hp:=para W.H.hn (W.H.pl x hx y hS.1) (W.H.pl x hx z hT.1) h1.symm;have hE:=bH (W.H.ne hx hS.1 hS.2.1);rw[dE (vec p x z)] at h3 h4
   have h5:dot (vec p x y) (vec p x z)<dot (vec p x y) (vec p x y):=by
    rcases Int.lt_or_eq_of_le h4 with h4|h4
    · exact h4
    · exfalso
      rw[h4] at hp;have e7:=iG (c:=dot (vec p x y) (vec p x y)) (by omega) hp;refine hT.2.1 (W.H.inj z hT.1 y hS.1 ?_);simp only[vec,sub,V.mk.injEq] at e7;exact V.ext' (by omega) (by omega) (by omega)
   have flat:∀k∈onL p N n d,det n (vec p x y) (vec p x k)=0:=by
    intro k hk;have g1:=(hS.2.2 k hk).1;have g2:=(hT.2.2 k hk).1
    have e1:smul (dot (vec p x y) (vec p x y)) (vec p y z)=smul (dot (vec p x y) (vec p x z) -dot (vec p x y) (vec p x y)) (vec p x y):=by
     rw[kT p x y z];have a1:=congrArg V.x hp;have a2:=congrArg V.y hp;have a3:=congrArg V.z hp;simp only[smul] at a1 a2 a3;refine V.ext' ?_ ?_ ?_<;>simp only[smul,sub,Int.mul_sub,Int.sub_mul]<;>omega
    have e2:dot (vec p x y) (vec p x y)*det n (vec p y z) (vec p y k)=(dot (vec p x y) (vec p x z) -dot (vec p x y) (vec p x y))*det n (vec p x y) (vec p x k):=by
     have l:∀(c:Int) (u v:V),det n (smul c u) v=c*det n u v:=fun c u v=>by simp only[det,dot,cross,smul];grind
     rw[←l,e1,l,kT p x y k,aBq,lI];simp
    have g3:0≤(dot (vec p x y) (vec p x z) -dot (vec p x y) (vec p x y))*det n (vec p x y) (vec p x k):=by rw[←e2];exact Int.mul_nonneg (by omega) g2
    rcases Int.lt_or_eq_of_le g1 with g1|g1
    · have :=Int.mul_neg_of_neg_of_pos (a:=dot (vec p x y) (vec p x z) -dot (vec p x y) (vec p x y)) (by omega) g1
      omega
    · exact g1.symm
   obtain⟨a,ha,b,hb,c,hc,h⟩:=F.tri;refine h ?_;have fa:=flat a ha;have fb:=flat b hb;have fc:=flat c hc;rw[kT p x a b,kT p x a c];have e0:=W.H.ne hx hS.1 hS.2.1;have pa:=para W.H.hn (W.H.pl x hx y hS.1) (W.H.pl x hx a ha) fa;have pb:=para W.H.hn (W.H.pl x hx y hS.1) (W.H.pl x hx b hb) fb;have pc:=para W.H.hn (W.H.pl x hx y hS.1) (W.H.pl x hx c hc) fc
   have q:∀k l:Nat,smul (dot (vec p x y) (vec p x y)) (vec p x k)=smul (dot (vec p x y) (vec p x k)) (vec p x y)→det n (vec p x y) (vec p x l)=0→det n (vec p x k) (vec p x l)=0:=by
    intro k l hk hl
    have l1:∀(c:Int) (u v:V),det n (smul c u) v=c*det n u v:=fun c u v=>by simp only[det,dot,cross,smul];grind
    refine bU hE ?_;rw[←l1,hk,l1,hl,Int.mul_zero]
   have r:∀u v w:V,det n (sub u v) (sub w v)=det n u w -det n u v -det n v w:=fun u v w=>by simp only[det,dot,cross,sub];grind
   rw[r,q b c pb fc,q b a pb fa,q a c pa fc];rfl
end
section
def vgcd (v:V):Nat:=Int.gcd v.x (Int.gcd v.y v.z)
def prim (v:V):V:=⟨v.x / vgcd v,v.y / vgcd v,v.z / vgcd v⟩
theorem rH (v:V):smul (vgcd v) (prim v)=v:=by
 have h1:((vgcd v:Nat):Int)∣v.x:=Int.gcd_dvd_left v.x (Int.gcd v.y v.z);have h0:((vgcd v:Nat):Int)∣((Int.gcd v.y v.z:Nat):Int):=Int.gcd_dvd_right v.x (Int.gcd v.y v.z);have h2:((vgcd v:Nat):Int)∣v.y:=Int.dvd_trans h0 (Int.gcd_dvd_left v.y v.z);have h3:((vgcd v:Nat):Int)∣v.z:=Int.dvd_trans h0 (Int.gcd_dvd_right v.y v.z);exact V.ext' (Int.mul_ediv_cancel' h1) (Int.mul_ediv_cancel' h2) (Int.mul_ediv_cancel' h3)
theorem iH {v:V} (h:v≠V0):0<vgcd v:=by
 rcases Nat.eq_zero_or_pos (vgcd v) with h1|h1
 · exfalso
   have :=rH v;rw[h1] at this;exact h (by rw[←this];simp[smul,V0])
 · exact h1
theorem prim_ne {v:V} (h:v≠V0):prim v≠V0:=fun e=>by
 have :=rH v;rw[e] at this;exact h (by rw[←this];simp[smul,V0])
theorem lJ (v w:V):(vgcd v:Int)*dot (prim v) w=dot v w:=by
 have h:=rH v
 have :dot (smul (vgcd v) (prim v)) w=(vgcd v:Int)*dot (prim v) w:=by simp only[dot,smul];grind
 rw[←this,h]
theorem det_prim (v u w:V):(vgcd v:Int)*det (prim v) u w=det v u w:=lJ v _
structure IsF (p:Nat→V) (N:Nat) (n:V) (d:Int):Prop where
 le:∀k,k<N→dot n (p k)≤d
 lt:∃k,k<N∧dot n (p k)<d
 tri:∃a b c,a<N∧b<N∧c<N∧cross (vec p a b) (vec p a c)≠V0∧n=prim (cross (vec p a b) (vec p a c))∧d=dot n (p a)
variable {p:Nat→V} {N:Nat} {n:V} {d:Int}
theorem IsF.fct (F:IsF p N n d):Fct p N n d:=by
 obtain⟨a,b,c,ha,hb,hc,hw,hn,hd⟩:=F.tri;have hg:=iH hw
 have on:∀k,k<N→dot (cross (vec p a b) (vec p a c)) (vec p a k)=0→k∈onL p N n d:=by
  intro k hk h;rw[bN];refine⟨hk,?_⟩;rw[←lJ,←hn] at h;have h2:=bU (by omega) h;rw[eK] at h2;omega
 refine⟨by rw[hn];exact prim_ne hw,F.le,F.lt,a,on a ha (by simp only[dot,vec,sub];grind),b,on b hb ?_,c,on c hc ?_,?_⟩
 · simp only[dot,cross];grind
 · simp only[dot,cross];grind
 · intro h
   rw[hn] at h;have h2:=det_prim (cross (vec p a b) (vec p a c)) (vec p a b) (vec p a c);rw[h] at h2;exact absurd (wK (a:=cross (vec p a b) (vec p a c)) (by simp only[det] at h2;omega)) hw
theorem IsF.uniq (F:IsF p N n d) {d':Int} (F':IsF p N n d'):d=d':=by
 obtain⟨a,_,_,ha,_,_,_,_,e⟩:=F.tri;obtain⟨b,_,_,hb,_,_,_,_,e'⟩:=F'.tri;have :=F.le b hb;have :=F'.le a ha;omega
theorem uJ (α β:Nat→Int):∀(l:List Nat),l≠[]→(∀k∈l,0<α k)→∃q∈l,∀k∈l,β q*α k≤β k*α q
 |[],h,_=>absurd rfl h
 |[x],_,_=>⟨x,by simp,by simp⟩
 |x::y::l,_,h=>by
  obtain⟨q,hq,hm⟩:=uJ α β (y::l) (by simp) fun k hk=>h k (by simp only[List.mem_cons] at hk ⊢;exact .inr hk)
  by_cases hx:β q*α x≤β x*α q
  · refine⟨q,List.mem_cons_of_mem _ hq,fun k hk=>?_⟩
    rcases List.mem_cons.1 hk with rfl|hk
    · exact hx
    · exact hm k hk
  · refine⟨x,List.mem_cons_self,fun k hk=>?_⟩
    rcases List.mem_cons.1 hk with rfl|hk
    · exact Int.le_refl _
    · have h1:=hm k hk
      have aq:=h q (List.mem_cons_of_mem _ hq);have ax:=h x List.mem_cons_self;have ak:=h k (List.mem_cons_of_mem _ hk);refine Int.le_of_mul_le_mul_left (a:=α q) ?_ aq;have e1:α k*(β x*α q)≤α k*(β q*α x):=Int.mul_le_mul_of_nonneg_left (by omega) (by omega);have e2:α x*(β q*α k)≤α x*(β k*α q):=Int.mul_le_mul_of_nonneg_left h1 (by omega)
      have r1:α q*(β x*α k)=α k*(β x*α q):=by grind
      have r2:α k*(β q*α x)=α x*(β q*α k):=by grind
      have r3:α x*(β k*α q)=α q*(β k*α x):=by grind
      omega
theorem IsF.adj (F:IsF p N n d) (A:Asc p N) {a b:Nat} (ha:a∈onL p N n d) (h:Sd n p (onL p N n d) a b):
 ∃n' d',IsF p N n' d'∧a∈onL p N n' d'∧b∈onL p N n' d'∧Sd n' p (onL p N n' d') b a∧∃q∈onL p N n' d',q∉onL p N n d:=by
 have H:=F.fct.pl A;have hb:=h.1;have hE:=bH (H.ne ha hb h.2.1);have haN:=bN.1 ha;have hbN:=bN.1 hb
 let α:Nat→Int:=fun k=> -dot n (vec p a k)
 let β:Nat→Int:=fun k=>det n (vec p a b) (vec p a k)
 have hα:∀k,k<N→0≤α k:=fun k hk=>by
  have :=F.le k hk;show 0≤-dot n (vec p a k);rw[eK];omega
 have hα0:∀k,k<N→α k=0→k∈onL p N n d:=fun k hk e=>by
  rw[bN];refine⟨hk,?_⟩;have : -dot n (vec p a k)=0:=e;rw[eK] at this;omega
 obtain⟨k0,hk0,hk0'⟩:=F.lt
 obtain⟨q,hq,hmin⟩:=uJ α β ((List.range N).filter fun k=>decide (0<α k)) (by
  intro e
  have :k0∈(List.range N).filter fun k=>decide (0<α k):=by
   simp only[List.mem_filter,List.mem_range,decide_eq_true_eq];refine⟨hk0,?_⟩;show 0< -dot n (vec p a k0);rw[eK];omega
  rw[e] at this;cases this) (fun k hk=>by simp only[List.mem_filter,decide_eq_true_eq] at hk;exact hk.2)
 simp only[List.mem_filter,List.mem_range,decide_eq_true_eq] at hq hmin;obtain⟨hqN,hαq⟩:=hq;have hne:dot n (vec p a b)=0:=H.pl a ha b hb
 have key:∀k,dot n n*dot (cross (vec p a b) (vec p a q)) (vec p a k)=β k*α q -β q*α k:=fun k=>by
  have :=nS n (vec p a b) (vec p a q) (vec p a k) n;rw[dE (vec p a b) n,dE (vec p a q) n,dE (vec p a k) n,hne] at this
  have e2:det (vec p a b) (vec p a q) (vec p a k)=dot (cross (vec p a b) (vec p a q)) (vec p a k):=by simp only[det,dot,cross];grind
  have e3:=lH n (vec p a b) (vec p a k);rw[e2] at this;show _=det n (vec p a b) (vec p a k)*(-dot n (vec p a q)) -det n (vec p a b) (vec p a q)*(-dot n (vec p a k));rw[e3] at this
  grind
 have hnn:=bH F.fct.hn
 have side:∀k,k<N→0≤dot (cross (vec p a b) (vec p a q)) (vec p a k):=fun k hk=>by
  refine fV hnn ?_;rw[key];by_cases hz:0<α k
  · have :=hmin k ⟨hk,hz⟩;omega
  · have hz:α k=0:=by have :=hα k hk;omega
    rw[hz,Int.mul_zero,Int.sub_zero];exact Int.mul_nonneg (h.2.2 k (hα0 k hk hz)).1 (by omega)
 have hN0:cross (vec p a b) (vec p a q)≠V0:=by
  intro e
  have h1:dot (cross n (vec p a b)) (cross n (vec p a b))=dot n n*dot (vec p a b) (vec p a b) -dot n (vec p a b)*dot n (vec p a b):=by simp only[dot,cross];grind
  have h2:dot (cross n (vec p a b)) (cross (vec p a b) (vec p a q))=dot n (vec p a b)*dot (vec p a b) (vec p a q) -dot n (vec p a q)*dot (vec p a b) (vec p a b):=by simp only[dot,cross];grind
  rw[e,hne] at h2
  have h3:dot (cross n (vec p a b)) V0=0:=by simp[dot,V0]
  have h4:0<α q*dot (vec p a b) (vec p a b):=Int.mul_pos hαq hE;have h5:α q= -dot n (vec p a q):=rfl;rw[h5,Int.neg_mul] at h4;omega
 have hrev:cross (vec p a q) (vec p a b)=smul (-1) (cross (vec p a b) (vec p a q)):=by simp only[cross,smul,V.mk.injEq];grind
 have hN0':cross (vec p a q) (vec p a b)≠V0:=fun e=>hN0 (by
  rw[hrev] at e;simp only[smul,V0,V.mk.injEq] at e
  exact V.ext' (by simp only[V0];omega) (by simp only[V0];omega) (by simp only[V0];omega))
 have hg:=iH hN0';generalize hn':prim (cross (vec p a q) (vec p a b))=n'
 have dn:∀v:V,(vgcd (cross (vec p a q) (vec p a b)):Int)*dot n' v= -dot (cross (vec p a b) (vec p a q)) v:=fun v=>by
  rw[←hn',lJ,hrev];simp only[dot,smul];grind
 have on:∀k,k<N→(k∈onL p N n' (dot n' (p a))↔dot (cross (vec p a b) (vec p a q)) (vec p a k)=0):=fun k hk=>by
  rw[bN];have :=dn (vec p a k);rw[eK n'] at this;constructor
  · rintro⟨_,e⟩
    rw[e,Int.sub_self,Int.mul_zero] at this;omega
  · intro e
    rw[e] at this;have :=bU (by omega) (show(vgcd (cross (vec p a q) (vec p a b)):Int)*(dot n' (p k) -dot n' (p a))=0 by omega);exact⟨hk,by omega⟩
 have hd0:∀k,k<N→dot n' (p k)≤dot n' (p a):=fun k hk=>by
  have h1:=dn (vec p a k);have h2:=side k hk;rw[eK n'] at h1;have h3:=fV (c:=(vgcd (cross (vec p a q) (vec p a b)):Int)) (a:= -(dot n' (p k) -dot n' (p a))) (by omega) (by rw[Int.mul_neg];omega);omega
 have ha':a∈onL p N n' (dot n' (p a)):=bN.2 ⟨haN.1,rfl⟩;have hb':b∈onL p N n' (dot n' (p a)):=(on b hbN.1).2 (by simp only[dot,cross];grind);have hq':q∈onL p N n' (dot n' (p a)):=(on q hqN).2 (by simp only[dot,cross];grind);refine⟨n',dot n' (p a),⟨hd0,?_,a,q,b,haN.1,hqN,hbN.1,hN0',hn'.symm,rfl⟩,ha',hb',⟨ha',fun e=>h.2.1 e.symm,fun k hk=>?_⟩,q,hq',fun hqo=>?_⟩
 ·
  refine Classical.byContradiction fun hc=>?_
  have all:∀k∈onL p N n d,det n (vec p a b) (vec p a k)=0:=fun k hk=>by
   have hkN:=bN.1 hk
   have h1:dot n' (p k)=dot n' (p a):=by
    have :=hd0 k hkN.1
    rcases Int.lt_or_eq_of_le this with h|h
    · exact absurd ⟨k,hkN.1,h⟩ hc
    · exact h
   have h2:=key k;rw[(on k hkN.1).1 (bN.2 ⟨hkN.1,h1⟩)] at h2
   have h3:α k=0:=by show -dot n (vec p a k)=0;rw[H.pl a ha k hk];rfl
   rw[h3,Int.mul_zero,Int.mul_zero,Int.sub_zero] at h2
   have h4:α q*β k=0:=by rw[Int.mul_comm];exact h2.symm
   exact bU hαq h4
  obtain⟨x,hx,y,hy,z,hz,hxyz⟩:=F.fct.tri;refine hxyz ?_
  have l1:∀(c:Int) (u v:V),det n (smul c u) v=c*det n u v:=fun c u v=>by simp only[det,dot,cross,smul];grind
  have qq:∀k l:Nat,k∈onL p N n d→l∈onL p N n d→det n (vec p a k) (vec p a l)=0:=by
   intro k l hk hl;have pk:=para H.hn (H.pl a ha b hb) (H.pl a ha k hk) (all k hk);refine bU hE ?_;rw[←l1,pk,l1,all l hl,Int.mul_zero]
  have r:∀u v w:V,det n (sub u v) (sub w v)=det n u w -det n u v -det n v w:=fun u v w=>by simp only[det,dot,cross,sub];grind
  rw[kT p a x y,kT p a x z,r,qq y z hy hz,qq y x hy hx,qq x z hx hz];rfl
 ·
  have hkN:=bN.1 hk;have hkz:=(on k hkN.1).1 hk
  have hde:det (vec p a b) (vec p a q) (vec p a k)=0:=by
   have e2:det (vec p a b) (vec p a q) (vec p a k)=dot (cross (vec p a b) (vec p a q)) (vec p a k):=by simp only[det,dot,cross];grind
   rw[e2,hkz]
  have hnv:dot n (vec p a k)≤0:=by have :=hα k hkN.1;show dot n (vec p a k)≤0;have h5:α k= -dot n (vec p a k):=rfl;omega
  have hnu:dot n (vec p a q)<0:=by have h5:α q= -dot n (vec p a q):=rfl;omega
  have e1:det n' (vec p b a) (vec p b k)= -det n' (vec p a b) (vec p a k):=by simp only[vec,det,dot,cross,sub];grind
  have e2:(vgcd (cross (vec p a q) (vec p a b)):Int)*det n' (vec p b a) (vec p b k)=dot (cross (vec p a b) (vec p a q)) (cross (vec p a b) (vec p a k)):=by
   rw[e1,Int.mul_neg];have :=dn (cross (vec p a b) (vec p a k));simp only[det];omega
  generalize he:vec p a b=e at *;generalize vec p a q=u at *;generalize hv:vec p a k=v at *
  have c1:dot n u*(cross e v).x=dot n v*(cross e u).x:=by
   have :dot n u*(cross e v).x=dot n v*(cross e u).x -n.x*det e u v -(cross v u).x*dot n e:=by simp only[det,dot,cross];grind
   rw[hde,hne] at this;omega
  have c2:dot n u*(cross e v).y=dot n v*(cross e u).y:=by
   have :dot n u*(cross e v).y=dot n v*(cross e u).y -n.y*det e u v -(cross v u).y*dot n e:=by simp only[det,dot,cross];grind
   rw[hde,hne] at this;omega
  have c3:dot n u*(cross e v).z=dot n v*(cross e u).z:=by
   have :dot n u*(cross e v).z=dot n v*(cross e u).z -n.z*det e u v -(cross v u).z*dot n e:=by simp only[det,dot,cross];grind
   rw[hde,hne] at this;omega
  have hNN:=bH hN0
  have c4:dot n u*dot (cross e u) (cross e v)=dot n v*dot (cross e u) (cross e u):=by
   have :dot n u*dot (cross e u) (cross e v)=(cross e u).x*(dot n u*(cross e v).x)+(cross e u).y*(dot n u*(cross e v).y)+(cross e u).z*(dot n u*(cross e v).z):=by
    simp only[dot];grind
   rw[this,c1,c2,c3];simp only[dot];grind
  have c5:0≤dot (cross e u) (cross e v):=by
   refine fV (c:= -dot n u) (by omega) ?_;rw[Int.neg_mul,c4,←Int.neg_mul];exact Int.mul_nonneg (by omega) (by omega)
  refine⟨fV (c:=(vgcd (cross u e):Int)) (by omega) (by rw[e2];exact c5),fun hz=>?_⟩;rw[hz,Int.mul_zero] at e2;rw[←e2,Int.mul_zero] at c4
  have hnv0:dot n v=0:=by
   have :=bU (c:=dot (cross e u) (cross e u)) (a:=dot n v) hNN (by rw[Int.mul_comm];exact c4.symm);exact this
  have hko:k∈onL p N n d:=hα0 k hkN.1 (by show -dot n (vec p a k)=0;rw[hv];omega);rw[hnv0,Int.zero_mul] at c1 c2 c3
  have hz':det n e v=0:=by
   have z:∀c:Int,dot n u*c=0→c=0:=fun c hc=>by rcases Int.mul_eq_zero.1 hc with h|h<;>omega
   simp only[det,dot];rw[z _ c1,z _ c2,z _ c3];simp
  have g:=(h.2.2 k hko).2;rw[hv,he] at g;have g:=g hz'
  have b1:dot (vec p b k) (vec p b a)=dot (vec p a b) (vec p a b) -dot (vec p a k) (vec p a b):=by simp only[vec,dot,sub];grind
  have b2:dot (vec p b a) (vec p b a)=dot (vec p a b) (vec p a b):=by simp only[vec,dot,sub];grind
  rw[b1,b2,hv,he];omega
 · have :=bN.1 hqo
   have h5:α q= -dot n (vec p a q):=rfl;rw[eK] at h5;omega
theorem oJ {n n':V} {d d':Int} (hn':n'≠V0) {a b c q:Nat} (ha:a∈onL p N n d) (hb:b∈onL p N n d) (hc:c∈onL p N n d) (h:det n (vec p a b) (vec p a c)≠0)
 (ha':a∈onL p N n' d') (hb':b∈onL p N n' d') (hc':c∈onL p N n' d') (hq:q∈onL p N n' d'):q∈onL p N n d:=by
 have o:∀{n:V} {d:Int} {x y:Nat},x∈onL p N n d→y∈onL p N n d→dot n (vec p x y)=0:=fun {n d x y} hx hy=>by
  rw[eK,(bN.1 hx).2,(bN.1 hy).2];omega
 have hz:=aBr hn' (o ha' hb') (o ha' hc') (o ha' hq);have :=nS n (vec p a b) (vec p a c) (vec p a q) n;rw[hz,dE (vec p a b) n,dE (vec p a c) n,dE (vec p a q) n,o ha hb,o ha hc] at this
 have h2:det n (vec p a b) (vec p a c)*dot n (vec p a q)=0:=by omega
 rcases Int.mul_eq_zero.1 h2 with h3|h3
 · exact absurd h3 h
 · rw[eK] at h3
   exact bN.2 ⟨(bN.1 hq).1,by have :=(bN.1 ha).2;omega⟩
theorem IsF.four (F:IsF p N n d) (A:Asc p N):∃n1 d1 n2 d2 n3 d3,IsF p N n1 d1∧IsF p N n2 d2∧IsF p N n3 d3∧n1≠n∧n2≠n∧n3≠n∧n1≠n2∧n1≠n3∧n2≠n3:=by
 obtain⟨s,r,hsr⟩:=F.fct.head;obtain⟨m,W⟩:=F.fct.way A hsr;generalize nxt n p (onL p N n d)=f at W;obtain⟨o0,s0⟩:=W.side 0;obtain⟨o1,s1⟩:=W.side 1;obtain⟨o2,s2⟩:=W.side 2;obtain⟨o3,_⟩:=W.side 3;obtain⟨n1,d1,F1,a1,b1,_,q1,hq1,hq1'⟩:=F.adj A o0 s0;obtain⟨n2,d2,F2,a2,b2,_,q2,hq2,hq2'⟩:=F.adj A o1 s1;obtain⟨n3,d3,F3,a3,b3,_,q3,hq3,hq3'⟩:=F.adj A o2 s2;have t0:=W.bend F.fct 0;have t1:=W.bend F.fct 1
 have oth:∀{n':V} {d':Int},IsF p N n' d'→(∃q∈onL p N n' d',q∉onL p N n d)→n'≠n:=by
  rintro n' d' F' ⟨q,h1,h2⟩ rfl;rw[F.uniq F'] at h2;exact h2 h1
 refine⟨n1,d1,n2,d2,n3,d3,F1,F2,F3,oth F1 ⟨q1,hq1,hq1'⟩,oth F2 ⟨q2,hq2,hq2'⟩,oth F3 ⟨q3,hq3,hq3'⟩,?_,?_,?_⟩
 · rintro rfl
   rw[F2.uniq F1] at a2 b2;exact hq1' (oJ F1.fct.hn o0 o1 o2 (Int.ne_of_gt t0) a1 b1 b2 hq1)
 · rintro rfl
   rw[F3.uniq F1] at a3 b3;exact hq1' (oJ F1.fct.hn o0 o1 o2 (Int.ne_of_gt t0) a1 b1 a3 hq1)
 · rintro rfl
   rw[F3.uniq F2] at a3 b3;exact hq2' (oJ F2.fct.hn o1 o2 o3 (Int.ne_of_gt t1) a2 b2 b3 hq2)
end
section
def neg (a:V):V:=⟨-a.x,-a.y,-a.z⟩
theorem neg_neg (a:V):neg (neg a)=a:=by simp[neg]
theorem zZ {a:V} (h:a≠V0):neg a≠V0:=fun e=>h (by
 have :=congrArg neg e;rw[neg_neg] at this
 rw[this];rfl)
theorem vgcd_neg (a:V):vgcd (neg a)=vgcd a:=by simp[vgcd,neg,Int.gcd]
theorem qG (a:V):prim (neg a)=neg (prim a):=by
 have d1:(vgcd a:Int)∣a.x:=Int.gcd_dvd_left ..;have d2:(vgcd a:Int)∣a.y:=Int.dvd_trans (Int.gcd_dvd_right ..) (Int.gcd_dvd_left ..);have d3:(vgcd a:Int)∣a.z:=Int.dvd_trans (Int.gcd_dvd_right ..) (Int.gcd_dvd_right ..);unfold prim;rw[vgcd_neg];simp only[neg];rw[Int.neg_ediv_of_dvd d1,Int.neg_ediv_of_dvd d2,Int.neg_ediv_of_dvd d3]
theorem fD (a b:V):dot (neg a) b= -dot a b:=by simp only[dot,neg];grind
variable {p:Nat→V} {N:Nat} {n:V} {d:Int}
def Cand (p:Nat→V) (a b c:Nat) (n:V):Prop:=
 cross (vec p a b) (vec p a c)≠V0∧(n=prim (cross (vec p a b) (vec p a c))∨n=neg (prim (cross (vec p a b) (vec p a c))))
theorem tU (a b c:Nat):cross (vec p a c) (vec p a b)=neg (cross (vec p a b) (vec p a c)):=by
 simp only[cross,neg];apply V.ext'<;>simp only <;>grind
theorem aEv (a b c:Nat):cross (vec p b a) (vec p b c)=neg (cross (vec p a b) (vec p a c)):=by
 simp only[cross,neg,vec,sub];apply V.ext'<;>simp only <;>grind
theorem Cand.swap {a b c:Nat} (h:Cand p a b c n):Cand p a c b n:=by
 unfold Cand at h ⊢;rw[tU a b c,qG,neg_neg];exact⟨zZ h.1,h.2.symm⟩
theorem Cand.turn {a b c:Nat} (h:Cand p a b c n):Cand p b a c n:=by
 unfold Cand at h ⊢;rw[aEv a b c,qG,neg_neg];exact⟨zZ h.1,h.2.symm⟩
theorem Cand.dots {a b c:Nat} (h:Cand p a b c n):dot n (p b)=dot n (p a)∧dot n (p c)=dot n (p a):=by
 have hg:=iH h.1
 have key:∀k,dot (cross (vec p a b) (vec p a c)) (vec p a k)=0→dot n (p k)=dot n (p a):=by
  intro k hk;rw[←lJ] at hk;have h2:=bU (by omega) hk
  have h3:dot n (vec p a k)=0:=by
   rcases h.2 with rfl|rfl
   · exact h2
   · rw[fD,h2];rfl
  rw[eK] at h3;omega
 exact⟨key b (by simp only[dot,cross];grind),key c (by simp only[dot,cross];grind)⟩
theorem Cand.ne {a b c:Nat} (h:Cand p a b c n):a≠b∧a≠c∧b≠c:=by
 refine⟨?_,?_,?_⟩<;>rintro rfl<;>refine h.1 ?_<;>simp only[cross,vec,sub,V0]<;>apply V.ext'<;>simp only <;>grind
theorem Cand.isF {a b c:Nat} (h:Cand p a b c n) (ha:a<N) (hb:b<N) (hc:c<N) (le:∀k,k<N→dot n (p k)≤d) (lt:∃k,k<N∧dot n (p k)<d) (hd:d=dot n (p a)):IsF p N n d:=by
 rcases h.2 with e|e
 · exact⟨le,lt,a,b,c,ha,hb,hc,h.1,e,hd⟩
 · refine⟨le,lt,a,c,b,ha,hc,hb,h.swap.1,?_,hd⟩
   rw[tU,qG];exact e
theorem IsF.cand (F:IsF p N n d):∃a b c,a<N∧b<N∧c<N∧Cand p a b c n∧d=dot n (p a):=by
 obtain⟨a,b,c,ha,hb,hc,hw,hn,hd⟩:=F.tri;exact⟨a,b,c,ha,hb,hc,⟨hw,.inl hn⟩,hd⟩
theorem IsF.up (F:IsF p N n d):∃i j k,i<j∧j<k∧k<N∧Cand p i j k n∧d=dot n (p i):=by
 obtain⟨a,b,c,ha,hb,hc,h,hd⟩:=F.cand
 have ho:∃a b c,b<c∧a<N∧b<N∧c<N∧Cand p a b c n∧d=dot n (p a):=by
  have hn:=h.ne;by_cases hbc:b<c
  · exact⟨a,b,c,hbc,ha,hb,hc,h,hd⟩
  · exact⟨a,c,b,by omega,ha,hc,hb,h.swap,hd⟩
 obtain⟨a,b,c,hbc,ha,hb,hc,h,hd⟩:=ho;have hn:=h.ne;have hs:=h.dots;by_cases h1:a<b
 · exact⟨a,b,c,h1,hbc,hc,h,hd⟩
 · by_cases h2:a<c
   · exact⟨b,a,c,by omega,h2,hc,h.turn,by rw[hs.1];exact hd⟩
   · exact⟨b,c,a,hbc,by omega,ha,h.turn.swap,by rw[hs.1];exact hd⟩
theorem IsF.down (F:IsF p N n d):∃i j k,k<j∧j<i∧i<N∧Cand p i j k n∧d=dot n (p i):=by
 obtain⟨i,j,k,h1,h2,h3,h,hd⟩:=F.up;have hs:=h.dots;exact⟨k,j,i,h1,h2,h3,h.turn.swap.turn,by rw[hs.2];exact hd⟩
theorem VLt.irr (a:V):¬VLt a a:=by unfold VLt;omega
theorem VLt.trans {a b c:V} (h:VLt a b) (h':VLt b c):VLt a c:=by unfold VLt at *;omega
theorem VLt.total {a b:V} (h:a≠b):VLt a b∨VLt b a:=by
 refine Classical.byContradiction fun hc=>h ?_;unfold VLt at hc;apply V.ext'<;>omega
theorem mA {α:Type} {R:α→α→Prop} (ir:∀a,¬R a a) (tr:∀{a b c},R a b→R b c→R a c):∀{l l':List α},l.Pairwise R→l'.Pairwise R→(∀x,x∈l↔x∈l')→l=l'
 |[],[],_,_,_=>rfl
 |[],y::l',_,_,h=>absurd ((h y).2 List.mem_cons_self) (by simp)
 |x::l,[],_,_,h=>absurd ((h x).1 List.mem_cons_self) (by simp)
 |x::l,y::l',hl,hl',h=>by
  rw[List.pairwise_cons] at hl hl'
  have hxy:x=y:=by
   rcases List.mem_cons.1 ((h x).1 List.mem_cons_self) with e|e
   · exact e
   · rcases List.mem_cons.1 ((h y).2 List.mem_cons_self) with e'|e'
     · exact e'.symm
     · exact absurd (tr (hl'.1 x e) (hl.1 y e')) (ir y)
  subst hxy;rw[mA ir tr hl.2 hl'.2 fun z=>⟨fun hz=>?_,fun hz=>?_⟩]
  · rcases List.mem_cons.1 ((h z).1 (List.mem_cons_of_mem _ hz)) with e|e
    · subst e;exact absurd (hl.1 z hz) (ir z)
    · exact e
  · rcases List.mem_cons.1 ((h z).2 (List.mem_cons_of_mem _ hz)) with e|e
    · subst e;exact absurd (hl'.1 z hz) (ir z)
    · exact e
structure FList (p:Nat→V) (N:Nat) (L:List (V×Int)):Prop where
 mem:∀q,q∈L↔IsF p N q.1 q.2
 srt:L.Pairwise fun a b=>VLt a.1 b.1
theorem FList.uniq {L L':List (V×Int)} (h:FList p N L) (h':FList p N L'):L=L':=
 mA (R:=fun a b=>VLt a.1 b.1) (fun a=>VLt.irr _) (fun {a b c} h h'=>VLt.trans (a:=a.1) (b:=b.1) (c:=c.1) h h') h.srt h'.srt fun q=>(h.mem q).trans (h'.mem q).symm
theorem FList.of_perm {K S:List (V×Int)} (hn:K.Nodup) (hm:∀q,q∈K↔IsF p N q.1 q.2) (hp:S.Perm K) (hs:S.Pairwise fun a b=>¬VLt b.1 a.1):FList p N S where
 mem:=fun q=>(hp.mem_iff).trans (hm q)
 srt:=by
  have hnS:S.Nodup:=hp.nodup_iff.2 hn;have hin:∀q∈S,IsF p N q.1 q.2:=fun q hq=>(hm q).1 (hp.mem_iff.1 hq);have h2:S.Pairwise fun a b=>a≠b∧¬VLt b.1 a.1:=List.Pairwise.and hnS hs;refine List.Pairwise.imp_of_mem (fun {a b} ha hb hab=>?_) h2;by_cases he:a.1=b.1
  · have :=(hin a ha).uniq (d':=b.2) (by rw[he];exact hin b hb)
    exact absurd (Prod.ext he this) hab.1
  · exact(VLt.total he).resolve_right hab.2
theorem FList.four {L:List (V×Int)} (h:FList p N L) (A:Asc p N) (hne:L≠[]):4≤L.length:=by
 cases L with
 |nil=>exact absurd rfl hne
 |cons q r=>
  obtain⟨n1,d1,n2,d2,n3,d3,f1,f2,f3,e1,e2,e3,e4,e5,e6⟩:=((h.mem q).1 List.mem_cons_self).four A
  have hnd:[q,(n1,d1),(n2,d2),(n3,d3)].Nodup:=by
   simp only[List.nodup_cons,List.mem_cons,List.not_mem_nil,or_false,not_or,not_false_eq_true,List.nodup_nil,and_true,Prod.mk.injEq,not_and];refine⟨⟨fun e=>e1 (by rw[e]),fun e=>e2 (by rw[e]),fun e=>e3 (by rw[e])⟩,⟨fun e=>absurd e e4,fun e=>absurd e e5⟩,fun e=>absurd e e6⟩
  have hsub:[q,(n1,d1),(n2,d2),(n3,d3)] ⊆ q::r:=by
   intro x hx;simp only[List.mem_cons,List.not_mem_nil,or_false] at hx
   rcases hx with rfl|rfl|rfl|rfl
   · exact List.mem_cons_self
   · exact(h.mem _).2 f1
   · exact(h.mem _).2 f2
   · exact(h.mem _).2 f3
  have :=List.Nodup.length_le_of_subset hnd hsub;simpa using this
end
end Go.Geo
