/-
  Parts of the proof of statement 4: GeoB, GeoC, GeoD, GeoE
-/
import Derived.Test.YtjiignefffdelaaGreatDoorA19
set_option linter.unusedVariables false
namespace Go.Geo
section
def vec (p:Nat→V) (a b:Nat):V:=sub (p b) (p a)
def Sd (n:V) (p:Nat→V) (on:List Nat) (a b:Nat):Prop:=
 b∈on∧b≠a∧∀k∈on,0≤det n (vec p a b) (vec p a k)∧
  (det n (vec p a b) (vec p a k)=0→0≤dot (vec p a k) (vec p a b)∧dot (vec p a k) (vec p a b)≤dot (vec p a b) (vec p a b))
def Crn (p:Nat→V) (on:List Nat) (a:Nat):Prop:=∃P,Cone P∧∀k∈on,k≠a→P (vec p a k)
structure Pl (n:V) (p:Nat→V) (on:List Nat):Prop where
 hn:n≠V0
 inj:∀a∈on,∀b∈on,p a=p b→a=b
 pl:∀a∈on,∀b∈on,dot n (vec p a b)=0
theorem Pl.ne {n:V} {p:Nat→V} {on:List Nat} (h:Pl n p on) {a b:Nat} (ha:a∈on) (hb:b∈on) (hab:b≠a):vec p a b≠V0:=
 aXh fun e=>hab (h.inj b hb a ha e)
theorem lJ (n u:V):det n u u=0:=by simp only[det,dot,cross];grind
theorem lI (n u v:V):det n v u= -det n u v:=by simp only[det,dot,cross];grind
theorem dF (u v:V):dot u v=dot v u:=by simp only[dot];grind
theorem aHp (n u v w:V):det n u (add v w)=det n u v+det n u w:=by simp only[det,dot,cross,add];grind
theorem aBq (n u v:V) (c:Int):det n u (smul c v)=c*det n u v:=by simp only[det,dot,cross,smul];grind
theorem aHq (u v w:V):dot u (add v w)=dot u v+dot u w:=by simp only[dot,add];grind
theorem aBv (u v:V) (c:Int):dot u (smul c v)=c*dot u v:=by simp only[dot,smul];grind
theorem aKa (n e:V):Cone fun v=>0<det n e v∨(det n e v=0∧0<dot e v):=by
 have h:=tT (det n e) (dot e) (fun _=>0) (aHp n e) (aHq e) (fun _ _=>rfl) (fun c u=>aBq n e u c) (fun c u=>aBv e u c) (fun c _=>by simp);simpa using h
theorem aEo (n e:V):Cone fun v=>0<det n e v∨(det n e v=0∧dot e v<0):=by
 have h:=tT (det n e) (fun v=> -dot e v) (fun _=>0) (aHp n e) (fun u v=>by rw[aHq];omega) (fun _ _=>rfl) (fun c u=>aBq n e u c) (fun c u=>by rw[aBv,Int.mul_neg]) (fun c _=>by simp);simpa using h
theorem aNi:Cone fun v=>0<v.x∨(v.x=0∧(0<v.y∨(v.y=0∧0<v.z))):=
 tT V.x V.y V.z (fun _ _=>rfl) (fun _ _=>rfl) (fun _ _=>rfl) (fun _ _=>rfl) (fun _ _=>rfl) (fun _ _=>rfl)
theorem iH {c:Int} (hc:c≠0) {u v:V} (h:smul c u=smul c v):u=v:=by
 have h1:c*u.x=c*v.x:=congrArg V.x h;have h2:c*u.y=c*v.y:=congrArg V.y h;have h3:c*u.z=c*v.z:=congrArg V.z h;exact V.ext' (Int.eq_of_mul_eq_mul_left hc h1) (Int.eq_of_mul_eq_mul_left hc h2) (Int.eq_of_mul_eq_mul_left hc h3)
variable {n:V} {p:Nat→V} {on:List Nat}
theorem tU (H:Pl n p on) {P:V→Prop} (hP:Cone P) {u v w:V} (hu:dot n u=0) (hv:dot n v=0) (hw:dot n w=0) (pu:P u) (pv:P v) (pw:P w)
 (h1:0≤det n u v) (h2:0≤det n v w):0≤det n u w∧(0<det n u v∨0<det n v w→0<det n u w):=by
 have h:=three H.hn hu hv hw;have a:=lI n u w;by_cases h3:0<det n u w
 · exact⟨by omega,fun _=>h3⟩
 · obtain⟨c1,c2,c3⟩:=hP.comb pu pv pw h2 (by omega) h1 h
   exact⟨by omega,fun _=>by omega⟩
theorem xA (H:Pl n p on) {P:V→Prop} (hP:Cone P) {u v:V} (hu:dot n u=0) (hv:dot n v=0) (pu:P u) (pv:P v) (h:det n u v=0):0<dot u v:=by
 have h1:=para H.hn hu hv h;have hu0:u≠V0:=fun e=>hP.zero (e▸pu);have :=bJ hu0;have e1:=congrArg V.x h1;have e2:=congrArg V.y h1;have e3:=congrArg V.z h1;simp only[smul] at e1 e2 e3;by_cases h2:0<dot u v
 · exact h2
 · exfalso
   have z:=hP.comb (a:=dot u u) (b:= -dot u v) (c:=0) pv pu pu (by omega) (by omega) (by omega) (V.ext' (by simp only[add,smul,V0,Int.neg_mul];omega) (by simp only[add,smul,V0,Int.neg_mul];omega) (by simp only[add,smul,V0,Int.neg_mul];omega));omega
theorem pT (n u v:V) (hu:dot n u=0) (hv:dot n v=0):dot n n*(dot u u*dot v v -dot u v*dot u v)=det n u v*det n u v:=by
 simp only[det,dot,cross] at *
 grind
theorem aUw {n u v:V} (hn:n≠V0) (hu:dot n u=0) (hv:dot n v=0) (h:det n u v=0) (hl:dot v v≤dot u u):dot u v≤dot u u:=by
 have h1:=pT n u v hu hv;rw[h] at h1;have h2:=bV (bJ hn) (by rw[h1];simp);have h3:=kY u;by_cases h4:dot u v≤dot u u
 · exact h4
 · exfalso
   have h5:dot u u*dot u v<dot u v*dot u v:=Int.mul_lt_mul_of_pos_right (by omega) (by omega);have h6:dot u u*dot v v≤dot u u*dot u v:=Int.mul_le_mul_of_nonneg_left (by omega) h3;omega
theorem Sd.crn (H:Pl n p on) {a b:Nat} (ha:a∈on) (h:Sd n p on a b):Crn p on a:=by
 refine⟨_,aKa n (vec p a b),fun k hk hka=>?_⟩;obtain⟨h1,h2⟩:=h.2.2 k hk
 rcases Int.lt_or_eq_of_le h1 with h1|h1
 · exact .inl h1
 · refine .inr ⟨h1.symm,?_⟩
   obtain⟨h3,h4⟩:=h2 h1.symm;rw[dF] at h3
   rcases Int.lt_or_eq_of_le h3 with h3|h3
   · exact h3
   · exfalso
     have e:=para H.hn (H.pl a ha b h.1) (H.pl a ha k hk) h1.symm;rw[←h3,smul_zero] at e;have hne:=bJ (H.ne ha h.1 h.2.1);exact H.ne ha hk hka (iH (c:=dot (vec p a b) (vec p a b)) (by omega) (by rw[e];simp[smul,V0]))
theorem kV (p:Nat→V) (a b k:Nat):vec p b k=sub (vec p a k) (vec p a b):=by
 simp only[vec,sub];refine V.ext' ?_ ?_ ?_<;>simp only <;>omega
theorem aBr (n u v w:V):det n u (sub v w)=det n u v -det n u w:=by simp only[det,dot,cross,sub];grind
theorem aNo (u v w:V):dot u (sub v w)=dot u v -dot u w:=by simp only[dot,sub];grind
theorem Sd.next (H:Pl n p on) {a b:Nat} (ha:a∈on) (h:Sd n p on a b):Crn p on b:=by
 refine⟨_,aEo n (vec p a b),fun k hk hkb=>?_⟩;obtain⟨h1,h2⟩:=h.2.2 k hk;rw[kV p a b k,aBr,aNo,lJ,dF _ (vec p a k)]
 rcases Int.lt_or_eq_of_le h1 with h1|h1
 · exact .inl (by omega)
 · refine .inr ⟨by omega,?_⟩
   obtain⟨h3,h4⟩:=h2 h1.symm
   rcases Int.lt_or_eq_of_le h4 with h4|h4
   · omega
   · exfalso
     have e:=para H.hn (H.pl a ha b h.1) (H.pl a ha k hk) h1.symm;rw[dF _ (vec p a k),h4] at e;have hne:=bJ (H.ne ha h.1 h.2.1);have :=iH (by omega) e;refine hkb (H.inj k hk b h.1 ?_);simp only[vec,sub,V.mk.injEq] at this;exact V.ext' (by omega) (by omega) (by omega)
theorem Sd.uniq (H:Pl n p on) {a b c:Nat} (ha:a∈on) (h:Sd n p on a b) (h':Sd n p on a c):b=c:=by
 obtain⟨h1,h2⟩:=h.2.2 c h'.1;obtain⟨h3,h4⟩:=h'.2.2 b h.1;rw[lI] at h3
 have hz:det n (vec p a b) (vec p a c)=0:=by omega
 obtain⟨k1,k2⟩:=h2 hz;obtain⟨k3,k4⟩:=h4 (by rw[lI];omega);have e:=para H.hn (H.pl a ha b h.1) (H.pl a ha c h'.1) hz;have hl:=pT n (vec p a b) (vec p a c) (H.pl a ha b h.1) (H.pl a ha c h'.1);rw[hz] at hl;have hl:=bV (bJ H.hn) (by rw[hl];simp);have hne:=bJ (H.ne ha h.1 h.2.1);have hnc:=bJ (H.ne ha h'.1 h'.2.1);rw[dF] at k1 k2;generalize hm:dot (vec p a b) (vec p a c)=m at *;generalize hB:dot (vec p a b) (vec p a b)=B at *;generalize hC:dot (vec p a c) (vec p a c)=C at *
 have e1:m=B:=by
  have q1:B*m≤B*C:=Int.mul_le_mul_of_nonneg_left (by omega) (by omega);by_cases hmB:m=B
  · exact hmB
  · exfalso
    by_cases hm0:m=0
    · subst hm0
      have :=Int.mul_pos hne hnc;omega
    · have :m*m<B*m:=Int.mul_lt_mul_of_pos_right (by omega) (by omega)
      omega
 rw[e1] at e;have :=iH (by omega) e;refine(H.inj c h'.1 b h.1 ?_).symm;simp only[vec,sub,V.mk.injEq] at this;exact V.ext' (by omega) (by omega) (by omega)
theorem Sd.inj (H:Pl n p on) {a b c:Nat} (ha:a∈on) (hb:b∈on) (h:Sd n p on a c) (h':Sd n p on b c):a=b:=by
 obtain⟨h1,h2⟩:=h.2.2 b hb;obtain⟨h3,h4⟩:=h'.2.2 a ha
 have e:det n (vec p b c) (vec p b a)= -det n (vec p a c) (vec p a b):=by
  simp only[vec,det,dot,cross,sub];grind
 have hz:det n (vec p a c) (vec p a b)=0:=by omega
 obtain⟨k1,k2⟩:=h2 hz;obtain⟨k3,k4⟩:=h4 (by omega);have hl:=pT n (vec p a c) (vec p a b) (H.pl a ha c h.1) (H.pl a ha b hb);rw[hz] at hl;have hl:=bV (bJ H.hn) (by rw[hl];simp);have hp:=para H.hn (H.pl a ha c h.1) (H.pl a ha b hb) hz;have hE:=bJ (H.ne ha h.1 h.2.1)
 have e2:dot (vec p b a) (vec p b c)=dot (vec p a b) (vec p a b) -dot (vec p a b) (vec p a c):=by
  simp only[vec,dot,sub];grind
 rw[dF (vec p a c) (vec p a b)] at hl hp;generalize hm:dot (vec p a b) (vec p a c)=m at *;generalize hB:dot (vec p a b) (vec p a b)=B at *;generalize hC:dot (vec p a c) (vec p a c)=C at *
 have q:m=0∨m=C:=by
  by_cases hm0:m=0
  · exact .inl hm0
  · right
    by_cases hmC:m=C
    · exact hmC
    · exfalso
      have q1:m*m<C*m:=Int.mul_lt_mul_of_pos_right (by omega) (by omega);have q2:C*m≤C*B:=Int.mul_le_mul_of_nonneg_left (by omega) (by omega);omega
 rcases q with q|q
 · rw[q,smul_zero] at hp
   have :vec p a b=V0:=iH (c:=C) (by omega) (by rw[hp];simp[smul,V0]);exact(H.inj b hb a ha (sub_eq_zero this)).symm
 · rw[q] at hp
   have :=iH (c:=C) (by omega) hp;exfalso;refine h'.2.1 (H.inj c h.1 b hb ?_);simp only[vec,sub,V.mk.injEq] at this;exact V.ext' (by omega) (by omega) (by omega)
end
section
variable {n:V} {p:Nat→V} {on:List Nat}
def sgn (x:Int):Int:=if x<0 then -1 else if 0<x then 1 else 0
theorem aAs {x:Int}:sgn x<0↔x<0:=by unfold sgn;split<;>(try split)<;>omega
theorem vP {x:Int}:sgn x=0↔x=0:=by unfold sgn;split<;>(try split)<;>omega
theorem aAr (x y:Int):sgn (x*y)=sgn x*sgn y:=by
 rcases Int.lt_trichotomy x 0 with h|h|h
 · rcases Int.lt_trichotomy y 0 with k|k|k
   · have :=Int.mul_pos_of_neg_of_neg h k
     simp only[sgn,h,k,if_true,if_neg (show ¬x*y<0 by omega),this];rfl
   · subst k;simp[sgn]
   · have :=Int.mul_neg_of_neg_of_pos h k
     simp only[sgn,h,this,k,if_true,if_neg (show ¬y<0 by omega)];rfl
 · subst h;simp[sgn]
 · rcases Int.lt_trichotomy y 0 with k|k|k
   · have :=Int.mul_neg_of_pos_of_neg h k
     simp only[sgn,h,this,k,if_true,if_neg (show ¬x<0 by omega)];rfl
   · subst k;simp[sgn]
   · have :=Int.mul_pos h k
     simp only[sgn,h,this,k,if_true,if_neg (show ¬x<0 by omega),if_neg (show ¬y<0 by omega),if_neg (show ¬x*y<0 by omega)];rfl
theorem aIs {x:Int} (h:0<x):sgn x=1:=by simp[sgn,h,show ¬x<0 by omega]
def turn (n c:V):Int:=if n.x≠0 then sgn c.x*sgn n.x else if n.y≠0 then sgn c.y*sgn n.y else if n.z≠0 then sgn c.z*sgn n.z else 0
theorem aAu {a b:V} (hn:n≠V0) (ha:dot n a=0) (hb:dot n b=0):turn n (cross a b)=sgn (det n a b):=by
 have hp:=bJ hn
 have e1:dot n n*(cross a b).x=det n a b*n.x+dot n b*(n.z*a.y -n.y*a.z) -dot n a*(n.z*b.y -n.y*b.z):=by simp only[det,dot,cross];grind
 have e2:dot n n*(cross a b).y=det n a b*n.y+dot n b*(n.x*a.z -n.z*a.x) -dot n a*(n.x*b.z -n.z*b.x):=by simp only[det,dot,cross];grind
 have e3:dot n n*(cross a b).z=det n a b*n.z+dot n b*(n.y*a.x -n.x*a.y) -dot n a*(n.y*b.x -n.x*b.y):=by simp only[det,dot,cross];grind
 rw[ha,hb] at e1 e2 e3
 have key:∀c m:Int,m≠0→dot n n*c=det n a b*m+0*0 -0→sgn c*sgn m=sgn (det n a b):=by
  intro c m hm e
  have h1:sgn (dot n n*c*m)=sgn (det n a b*(m*m)):=by rw[e];congr 1;grind
  rw[aAr,aAr,aAr (det n a b),aIs hp,aIs (sq_pos hm)] at h1;simpa using h1
 unfold turn;split
 · rename_i h;exact key _ _ h (by omega)
 · split
   · rename_i h;exact key _ _ h (by omega)
   · split
     · rename_i h;exact key _ _ h (by omega)
     · rename_i h1 h2 h3
       exact absurd (V.ext' (by simpa [V0] using h1) (by simpa [V0] using h2) (by simpa [V0] using h3)) hn
def better (n:V) (p:Nat→V) (a b k:Nat):Bool:=
 decide (turn n (cross (vec p a b) (vec p a k))<0)||(decide (turn n (cross (vec p a b) (vec p a k))=0)&&decide (dot (vec p a k) (vec p a k)>dot (vec p a b) (vec p a b)))
def nextStep (n:V) (p:Nat→V) (a:Nat) (best:Option Nat) (k:Nat):Option Nat:=
 if k=a then best else match best with
  |none=>some k
  |some b=>if better n p a b k then some k else some b
def nextP (n:V) (p:Nat→V) (on:List Nat) (a:Nat):Option Nat:=on.foldl (nextStep n p a) none
theorem gU (H:Pl n p on) {a b k:Nat} (ha:a∈on) (hb:b∈on) (hk:k∈on):
 better n p a b k=true↔det n (vec p a b) (vec p a k)<0∨(det n (vec p a b) (vec p a k)=0∧dot (vec p a b) (vec p a b)<dot (vec p a k) (vec p a k)):=by
 unfold better;rw[aAu H.hn (H.pl a ha b hb) (H.pl a ha k hk)];simp only[Bool.or_eq_true,Bool.and_eq_true,decide_eq_true_eq,aAs,vP]
theorem aKz (H:Pl n p on) {a:Nat} (ha:a∈on) (hc:Crn p on a):∀(l:List Nat) (done:List Nat) (best:Option Nat),(∀k∈l,k∈on)→(∀k∈done,k∈on)→
 (match best with|none=>∀k∈done,k=a|some b=>b∈on∧b≠a∧∀k∈done,k≠a→better n p a b k=false)→
 match l.foldl (nextStep n p a) best with|none=>∀k∈done++l,k=a|some b=>b∈on∧b≠a∧∀k∈done++l,k≠a→better n p a b k=false:=by
 obtain⟨P,hP,hin⟩:=hc
 have refl:∀k∈on,better n p a k k=false:=fun k hk=>by
  have :=gU H ha hk hk;rw[lJ] at this
  cases hb:better n p a k k with
  |false=>rfl
  |true=>have :=this.1 hb;omega
 intro l
 induction l with
 |nil=>intro done best _ _ h;simpa using h
 |cons k l ih=>
  intro done best hl hd h;have hk:k∈on:=hl k (by simp);have :=ih (done++[k]) (nextStep n p a best k) (fun x hx=>hl x (by simp[hx])) (fun x hx=>by simp only[List.mem_append,List.mem_singleton] at hx;exact hx.elim (hd x) fun e=>e▸hk) ?_
  · simpa using this
  · unfold nextStep
    by_cases hka:k=a
    · subst hka
      simp only[if_true]
      cases best with
      |none=>intro x hx;simp only[List.mem_append,List.mem_singleton] at hx;exact hx.elim (h x) id
      |some b=>
       refine⟨h.1,h.2.1,fun x hx hxa=>?_⟩;simp only[List.mem_append,List.mem_singleton] at hx
       rcases hx with hx|rfl
       · exact h.2.2 x hx hxa
       · exact absurd rfl hxa
    · simp only[hka,if_false]
      cases best with
      |none=>
       refine⟨hk,hka,fun x hx hxa=>?_⟩;simp only[List.mem_append,List.mem_singleton] at hx
       rcases hx with hx|rfl
       · exact absurd (h x hx) hxa
       · exact refl _ hk
      |some b=>
       obtain⟨hb,hba,hbd⟩:=h;dsimp only;by_cases hbk:better n p a b k=true
       · rw[if_pos hbk]
         refine⟨hk,hka,fun x hx hxa=>?_⟩;simp only[List.mem_append,List.mem_singleton] at hx
         rcases hx with hx|rfl
         · have h1:=hbd x hx hxa
           have hxo:=hd x hx;have i1:=(gU H ha hb hk).1 hbk
           have i2:¬(det n (vec p a b) (vec p a x)<0∨(det n (vec p a b) (vec p a x)=0∧dot (vec p a b) (vec p a b)<dot (vec p a x) (vec p a x))):=fun h=>by
            rw[(gU H ha hb hxo).2 h] at h1;cases h1
           cases hkx:better n p a k x with
           |false=>rfl
           |true=>
            exfalso;have i3:=(gU H ha hk hxo).1 hkx;have a1:=lI n (vec p a b) (vec p a k);obtain⟨t1,t2⟩:=tU H hP (H.pl a ha k hk) (H.pl a ha b hb) (H.pl a ha x hxo) (hin k hk hka) (hin b hb hba) (hin x hxo hxa) (by omega) (by omega);by_cases hz:det n (vec p a k) (vec p a b)=0
            · by_cases hz2:det n (vec p a b) (vec p a x)=0
              · omega
              · have :=t2 (.inr (by omega));omega
            · have :=t2 (.inl (by omega));omega
         · exact refl _ hk
       · rw[if_neg hbk]
         refine⟨hb,hba,fun x hx hxa=>?_⟩;simp only[List.mem_append,List.mem_singleton] at hx
         rcases hx with hx|rfl
         · exact hbd x hx hxa
         · simpa using hbk
theorem aCr (H:Pl n p on) {a:Nat} (ha:a∈on) (hc:Crn p on a) (hm:∃k∈on,k≠a):∃b,nextP n p on a=some b∧Sd n p on a b:=by
 have h:=aKz H ha hc on [] none (fun _ h=>h) (fun k hk=>by cases hk) (fun k hk=>by cases hk);unfold nextP;split at h
 · obtain⟨k,hk,hka⟩:=hm
   exact absurd (h k (by simpa using hk)) hka
 · rename_i b hb
   refine⟨b,hb,h.1,h.2.1,fun k hk=>?_⟩;obtain⟨P,hP,hin⟩:=hc;by_cases hka:k=a
   · subst hka
     have :vec p k k=V0:=by simp[vec,sub,V0]
     rw[this];have hq:=kY (vec p k b);constructor
     · simp[det,dot,cross,V0]
     · intro _;constructor<;>simp[dot,V0]<;>simpa [dot] using hq
   · have h1:=h.2.2 k (by simpa using hk) hka
     have i2:¬(det n (vec p a b) (vec p a k)<0∨(det n (vec p a b) (vec p a k)=0∧dot (vec p a b) (vec p a b)<dot (vec p a k) (vec p a k))):=fun hh=>by
      rw[(gU H ha h.1 hk).2 hh] at h1;cases h1
     refine⟨by omega,fun hz=>?_⟩;have q:=xA H hP (H.pl a ha b h.1) (H.pl a ha k hk) (hin b h.1 h.2.1) (hin k hk hka) hz;rw[dF];exact⟨by omega,aUw H.hn (H.pl a ha b h.1) (H.pl a ha k hk) hz (by omega)⟩
def sideR (n:V) (p:Nat→V) (on:List Nat) (a b:Nat):Bool:=on.all fun k=>
 !(decide (turn n (cross (vec p a b) (vec p a k))<0)||(decide (turn n (cross (vec p a b) (vec p a k))=0)&&(decide (dot (vec p a k) (vec p a b)<0)||decide (dot (vec p a k) (vec p a b)>dot (vec p a b) (vec p a b)))))
theorem yM (H:Pl n p on) {a b:Nat} (ha:a∈on) (hb:b∈on) (hba:b≠a):sideR n p on a b=true↔Sd n p on a b:=by
 unfold sideR Sd;simp only[List.all_eq_true];constructor
 · intro h
   refine⟨hb,hba,fun k hk=>?_⟩;have :=h k hk;rw[aAu H.hn (H.pl a ha b hb) (H.pl a ha k hk)] at this;simp only[Bool.not_eq_true',Bool.or_eq_false_iff,Bool.and_eq_false_iff,decide_eq_false_iff_not,aAs,vP] at this;omega
 · intro h k hk
   have :=h.2.2 k hk;rw[aAu H.hn (H.pl a ha b hb) (H.pl a ha k hk)];simp only[Bool.not_eq_true',Bool.or_eq_false_iff,Bool.and_eq_false_iff,decide_eq_false_iff_not,aAs,vP];omega
def nextR (n:V) (p:Nat→V) (on:List Nat) (a:Nat):Option Nat:=on.find? fun k=>decide (k≠a)&&sideR n p on a k
theorem aOn (H:Pl n p on) {a b:Nat} (ha:a∈on) (h:Sd n p on a b):nextR n p on a=some b:=by
 unfold nextR
 cases hf:on.find? fun k=>decide (k≠a)&&sideR n p on a k with
 |none=>
  have :=List.find?_eq_none.1 hf b h.1;simp[h.2.1,(yM H ha h.1 h.2.1).2 h] at this
 |some c=>
  have h1:=List.find?_some hf;have h2:=List.mem_of_find?_eq_some hf;simp only[Bool.and_eq_true,decide_eq_true_eq] at h1;rw[Sd.uniq H ha ((yM H ha h2 h1.1).1 h1.2) h]
end
section
variable {n:V} {p:Nat→V} {on:List Nat}
def iter (f:Nat→Nat):Nat→Nat→Nat
 |0,s=>s
 |i+1,s=>f (iter f i s)
theorem yB:∀(l on:List Nat),l.Nodup→(∀x∈l,x∈on)→l.length≤on.length
 |[],_,_,_=>Nat.zero_le _
 |x::l,on,hn,h=>by
  rw[List.nodup_cons] at hn;have h1:=yB l (on.erase x) hn.2 fun y hy=>(List.mem_erase_of_ne fun e=>hn.1 (by rw[←e];exact hy)).2 (h y (by simp[hy]));have h2:=List.length_erase_of_mem (h x (by simp));have h3:0<on.length:=List.length_pos_of_mem (h x (by simp));simp only[List.length_cons];omega
theorem aXp {A:Nat→Prop} {f:Nat→Nat} (on:List Nat) (hA:∀a,A a→a∈on) (hf:∀a,A a→A (f a)) (hi:∀a b,A a→A b→f a=f b→a=b) {s:Nat} (hs:A s):
 ∃m,0<m∧m≤on.length∧iter f m s=s∧(∀i,0<i→i<m→iter f i s≠s)∧∀i,A (iter f i s):=by
 have hall:∀i,A (iter f i s):=fun i=>by
  induction i with
  |zero=>exact hs
  |succ i ih=>exact hf _ ih
 have back:∀i d,iter f i s=iter f (i+d) s→iter f d s=s:=fun i=>by
  induction i with
  |zero=>intro d h;rw[Nat.zero_add] at h;exact h.symm
  |succ i ih=>
   intro d h;refine ih d (hi _ _ (hall _) (hall _) ?_);rw[show i+1+d=(i+d)+1 by omega] at h;exact h
 have ex:∃m,0<m∧m≤on.length∧iter f m s=s:=by
  refine Classical.byContradiction fun hc=>?_
  have hd:((List.range (on.length+1)).map fun i=>iter f i s).Nodup:=by
   rw[List.Nodup,List.pairwise_map];refine List.Pairwise.imp_of_mem ?_ List.pairwise_lt_range;intro i j hi hj hij e;simp only[List.mem_range] at hi hj;exact hc ⟨j -i,by omega,by omega,back i (j -i) (by rw[show i+(j -i)=j by omega];exact e)⟩
  have :=yB _ on hd (fun x hx=>by
   simp only[List.mem_map] at hx;obtain⟨i,_,rfl⟩:=hx
   exact hA _ (hall i))
  simp at this;omega
 have least:∀(k m:Nat),m≤k→0<m→m≤on.length→iter f m s=s→∃m,0<m∧m≤on.length∧iter f m s=s∧∀i,0<i→i<m→iter f i s≠s:=by
  intro k
  induction k with
  |zero=>intro m h1 h2;omega
  |succ k ih=>
   intro m h1 h2 h3 h4;by_cases hc:∃i,0<i∧i<m∧iter f i s=s
   · obtain⟨i,i1,i2,i3⟩:=hc
     exact ih i (by omega) i1 (by omega) i3
   · exact⟨m,h2,h3,h4,fun i i1 i2 e=>hc ⟨i,i1,i2,e⟩⟩
 obtain⟨m,h1,h2,h3⟩:=ex;obtain⟨m,h1,h2,h3,h4⟩:=least m m (Nat.le_refl _) h1 h2 h3;exact⟨m,h1,h2,h3,h4,hall⟩
structure Way (n:V) (p:Nat→V) (on:List Nat) (s m:Nat) (f:Nat→Nat):Prop where
 H:Pl n p on
 hs:s∈on
 pos:0<m
 le:m≤on.length
 back:iter f m s=s
 first:∀i,0<i→i<m→iter f i s≠s
 side:∀i,iter f i s∈on∧Sd n p on (iter f i s) (iter f (i+1) s)
def nxt (n:V) (p:Nat→V) (on:List Nat) (a:Nat):Nat:=(nextP n p on a).getD 0
theorem way (H:Pl n p on) {s:Nat} (hs:s∈on) (hc:Crn p on s) (hm:∀a∈on,∃k∈on,k≠a):∃m,Way n p on s m (nxt n p on):=by
 have hS:∀a,a∈on∧Crn p on a→Sd n p on a (nxt n p on a):=fun a ⟨ha,hc⟩=>by
  obtain⟨b,h1,h2⟩:=aCr H ha hc (hm a ha);unfold nxt;rw[h1];exact h2
 obtain⟨m,h1,h2,h3,h4,h5⟩:=aXp (A:=fun a=>a∈on∧Crn p on a) (f:=nxt n p on) on (fun a h=>h.1) (fun a h=>⟨(hS a h).1,(hS a h).next H h.1⟩)
  (fun a b ha hb e=>Sd.inj H ha.1 hb.1 (hS a ha) (by rw[e];exact hS b hb)) ⟨hs,hc⟩
 exact⟨m,H,hs,h1,h2,h3,h4,fun i=>⟨(h5 i).1,hS _ (h5 i)⟩⟩
theorem Way.cover {s m:Nat} {f:Nat→Nat} (W:Way n p on s m f) {a b:Nat} (ha:a∈on) (h:Sd n p on a b):∃i,i<m∧iter f i s=a:=by
 refine Classical.byContradiction fun hc=>?_
 have hne:∀i,iter f i s≠a:=by
  have :∀i,i<m→iter f i s≠a:=fun i hi e=>hc ⟨i,hi,e⟩
  have per:∀i,∃j,j<m∧iter f i s=iter f j s:=fun i=>by
   induction i with
   |zero=>exact⟨0,W.pos,rfl⟩
   |succ i ih=>
    obtain⟨j,hj,e⟩:=ih;by_cases hjm:j+1<m
    · exact⟨j+1,hjm,by simp only[iter];rw[e]⟩
    · refine⟨0,W.pos,?_⟩
      have :j+1=m:=by omega
      simp only[iter];rw[e];have h2:=W.back;rw[←this] at h2;exact h2
  intro i e;obtain⟨j,hj,e2⟩:=per i;exact this j hj (e2.symm.trans e)
 obtain⟨P,hP,hin⟩:=h.crn W.H ha;have hPi:∀i,P (vec p a (iter f i s)):=fun i=>hin _ (W.side i).1 (hne i);have hpl:∀i,dot n (vec p a (iter f i s))=0:=fun i=>W.H.pl a ha _ (W.side i).1
 have left:∀i,0<det n (vec p a (iter f i s)) (vec p a (iter f (i+1) s)):=by
  intro i;obtain⟨hx,hS⟩:=W.side i;generalize hxi:iter f i s=x at *;generalize hyi:iter f (i+1) s=y at *
  have e:det n (vec p x y) (vec p x a)=det n (vec p a x) (vec p a y):=by simp only[vec,det,dot,cross,sub];grind
  obtain⟨h1,h2⟩:=hS.2.2 a ha;rw[e] at h1 h2
  have hxa:x≠a:=by rw[←hxi];exact hne i
  have hya:y≠a:=by rw[←hyi];exact hne (i+1)
  rcases Int.lt_or_eq_of_le h1 with h1|h1
  · exact h1
  · exfalso
    obtain⟨h3,h4⟩:=h2 h1.symm;have px:P (vec p a x):=hin x hx hxa;have py:P (vec p a y):=hin y hS.1 hya;have hd:=xA W.H hP (W.H.pl a ha x hx) (W.H.pl a ha y hS.1) px py h1.symm;have hp:=para W.H.hn (W.H.pl a ha x hx) (W.H.pl a ha y hS.1) h1.symm;have hu0:=bJ (W.H.ne ha hx hxa)
    have e5:dot (vec p x a) (vec p x y)=dot (vec p a x) (vec p a x) -dot (vec p a x) (vec p a y):=by simp only[vec,dot,sub];grind
    have e6:dot (vec p x y) (vec p x y)=dot (vec p a x) (vec p a x) -2*dot (vec p a x) (vec p a y)+dot (vec p a y) (vec p a y):=by simp only[vec,dot,sub];grind
    have hl:=pT n _ _ (W.H.pl a ha x hx) (W.H.pl a ha y hS.1);rw[←h1] at hl;have hl:=bV (bJ W.H.hn) (by rw[hl];simp);rw[e5] at h3 h4;rw[e6] at h4;generalize hA:dot (vec p a x) (vec p a x)=A at *;generalize hB:dot (vec p a x) (vec p a y)=B at *;generalize hC:dot (vec p a y) (vec p a y)=C at *
    have :B=A:=by
     by_cases hBA:B=A
     · exact hBA
     · exfalso
       have q1:B*B<A*B:=Int.mul_lt_mul_of_pos_right (by omega) hd;have q2:A*B≤A*C:=Int.mul_le_mul_of_nonneg_left (by omega) (by omega);omega
    rw[this] at hp;have e7:=iH (c:=A) (by omega) hp;refine hS.2.1 (W.H.inj y hS.1 x hx ?_);simp only[vec,sub,V.mk.injEq] at e7;exact V.ext' (by omega) (by omega) (by omega)
 have chain:∀i,0<det n (vec p a s) (vec p a (iter f (i+1) s)):=by
  intro i
  induction i with
  |zero=>exact left 0
  |succ i ih=>exact(tU W.H hP (hpl 0) (hpl (i+1)) (hpl (i+2)) (hPi 0) (hPi (i+1)) (hPi (i+2)) (Int.le_of_lt ih) (Int.le_of_lt (left (i+1)))).2 (.inl ih)
 have :=chain (m -1);rw[show m -1+1=m from Nat.succ_pred_eq_of_pos W.pos,W.back,lJ] at this;omega
end
section
def onL (p:Nat→V) (N:Nat) (n:V) (d:Int):List Nat:=(List.range N).filter fun k=>decide (dot n (p k)=d)
theorem bO {p:Nat→V} {N:Nat} {n:V} {d:Int} {k:Nat}:k∈onL p N n d↔k<N∧dot n (p k)=d:=by
 simp[onL]
structure Fct (p:Nat→V) (N:Nat) (n:V) (d:Int):Prop where
 hn:n≠V0
 le:∀k,k<N→dot n (p k)≤d
 lt:∃k,k<N∧dot n (p k)<d
 tri:∃a∈onL p N n d,∃b∈onL p N n d,∃c∈onL p N n d,det n (vec p a b) (vec p a c)≠0
def VLt (a b:V):Prop:=a.x<b.x∨(a.x=b.x∧(a.y<b.y∨(a.y=b.y∧a.z<b.z)))
def Asc (p:Nat→V) (N:Nat):Prop:=∀i j,i<j→j<N→VLt (p i) (p j)
variable {p:Nat→V} {N:Nat} {n:V} {d:Int}
theorem Asc.inj (A:Asc p N) {i j:Nat} (hi:i<N) (hj:j<N) (h:p i=p j):i=j:=by
 rcases Nat.lt_trichotomy i j with h1|h1|h1
 · have :=A i j h1 hj
   rw[h] at this;unfold VLt at this;omega
 · exact h1
 · have :=A j i h1 hi
   rw[h] at this;unfold VLt at this;omega
theorem eL (n:V) (p:Nat→V) (a b:Nat):dot n (vec p a b)=dot n (p b) -dot n (p a):=by
 simp only[dot,vec,sub];grind
theorem Fct.pl (A:Asc p N) (F:Fct p N n d):Pl n p (onL p N n d) where
 hn:=F.hn
 inj a ha b hb h:=A.inj (bO.1 ha).1 (bO.1 hb).1 h
 pl a ha b hb:=by rw[eL,(bO.1 ha).2,(bO.1 hb).2];omega
theorem Fct.more (F:Fct p N n d) (a:Nat):∃k∈onL p N n d,k≠a:=by
 obtain⟨x,hx,y,hy,z,hz,h⟩:=F.tri;refine Classical.byContradiction fun hc=>?_;have e:∀k∈onL p N n d,k=a:=fun k hk=>Classical.byContradiction fun h=>hc ⟨k,hk,h⟩;rw[e x hx,e y hy,e z hz,lJ] at h;exact h rfl
theorem Fct.head (F:Fct p N n d):∃s r,onL p N n d=s::r:=by
 obtain⟨k,hk,_⟩:=F.more 0
 cases h:onL p N n d with
 |nil=>rw[h] at hk;cases hk
 |cons s r=>exact⟨s,r,rfl⟩
theorem uU (p:Nat→V) (N:Nat) (n:V) (d:Int):(onL p N n d).Pairwise (· < ·):=List.Pairwise.filter _ List.pairwise_lt_range
theorem aLg (A:Asc p N) {s:Nat} {r:List Nat} (h:onL p N n d=s::r):Crn p (onL p N n d) s:=by
 refine⟨_,aNi,fun k hk hks=>?_⟩;have hs:=uU p N n d;have hkN:=(bO.1 hk).1;rw[h] at hk hs;simp only[List.mem_cons] at hk
 rcases hk with hk|hk
 · exact absurd hk hks
 · have h1:=(List.pairwise_cons.1 hs).1 k hk
   have :=A s k h1 hkN;unfold VLt at this;simp only[vec,sub];omega
theorem Fct.way (A:Asc p N) (F:Fct p N n d) {s:Nat} {r:List Nat} (h:onL p N n d=s::r):∃m,Way n p (onL p N n d) s m (nxt n p (onL p N n d)):=
 Geo.way (F.pl A) (by rw[h];simp) (aLg A h) fun a _=>F.more a
theorem Way.aXm (F:Fct p N n d) {s m:Nat} {f:Nat→Nat} (W:Way n p (onL p N n d) s m f) (i:Nat):
 0<det n (vec p (iter f i s) (iter f (i+1) s)) (vec p (iter f i s) (iter f (i+2) s)):=by
 obtain⟨hx,hS⟩:=W.side i;obtain⟨hy,hT⟩:=W.side (i+1);generalize iter f i s=x at *;generalize iter f (i+1) s=y at *;rw[show i+1+1=i+2 from rfl] at hT;generalize iter f (i+2) s=z at *;obtain⟨h1,h2⟩:=hS.2.2 z hT.1
 rcases Int.lt_or_eq_of_le h1 with h1|h1
 · exact h1
 · exfalso
   obtain⟨h3,h4⟩:=h2 h1.symm;have hp:=para W.H.hn (W.H.pl x hx y hS.1) (W.H.pl x hx z hT.1) h1.symm;have hE:=bJ (W.H.ne hx hS.1 hS.2.1);rw[dF (vec p x z)] at h3 h4
   have h5:dot (vec p x y) (vec p x z)<dot (vec p x y) (vec p x y):=by
    rcases Int.lt_or_eq_of_le h4 with h4|h4
    · exact h4
    · exfalso
      rw[h4] at hp;have e7:=iH (c:=dot (vec p x y) (vec p x y)) (by omega) hp;refine hT.2.1 (W.H.inj z hT.1 y hS.1 ?_);simp only[vec,sub,V.mk.injEq] at e7;exact V.ext' (by omega) (by omega) (by omega)
   have flat:∀k∈onL p N n d,det n (vec p x y) (vec p x k)=0:=by
    intro k hk;have g1:=(hS.2.2 k hk).1;have g2:=(hT.2.2 k hk).1
    have e1:smul (dot (vec p x y) (vec p x y)) (vec p y z)=smul (dot (vec p x y) (vec p x z) -dot (vec p x y) (vec p x y)) (vec p x y):=by
     rw[kV p x y z];have a1:=congrArg V.x hp;have a2:=congrArg V.y hp;have a3:=congrArg V.z hp;simp only[smul] at a1 a2 a3;refine V.ext' ?_ ?_ ?_<;>simp only[smul,sub,Int.mul_sub,Int.sub_mul]<;>omega
    have e2:dot (vec p x y) (vec p x y)*det n (vec p y z) (vec p y k)=(dot (vec p x y) (vec p x z) -dot (vec p x y) (vec p x y))*det n (vec p x y) (vec p x k):=by
     have l:∀(c:Int) (u v:V),det n (smul c u) v=c*det n u v:=fun c u v=>by simp only[det,dot,cross,smul];grind
     rw[←l,e1,l,kV p x y k,aBr,lJ];simp
    have g3:0≤(dot (vec p x y) (vec p x z) -dot (vec p x y) (vec p x y))*det n (vec p x y) (vec p x k):=by rw[←e2];exact Int.mul_nonneg (by omega) g2
    rcases Int.lt_or_eq_of_le g1 with g1|g1
    · have :=Int.mul_neg_of_neg_of_pos (a:=dot (vec p x y) (vec p x z) -dot (vec p x y) (vec p x y)) (by omega) g1
      omega
    · exact g1.symm
   obtain⟨a,ha,b,hb,c,hc,h⟩:=F.tri;refine h ?_;have fa:=flat a ha;have fb:=flat b hb;have fc:=flat c hc;rw[kV p x a b,kV p x a c];have e0:=W.H.ne hx hS.1 hS.2.1;have pa:=para W.H.hn (W.H.pl x hx y hS.1) (W.H.pl x hx a ha) fa;have pb:=para W.H.hn (W.H.pl x hx y hS.1) (W.H.pl x hx b hb) fb;have pc:=para W.H.hn (W.H.pl x hx y hS.1) (W.H.pl x hx c hc) fc
   have q:∀k l:Nat,smul (dot (vec p x y) (vec p x y)) (vec p x k)=smul (dot (vec p x y) (vec p x k)) (vec p x y)→det n (vec p x y) (vec p x l)=0→det n (vec p x k) (vec p x l)=0:=by
    intro k l hk hl
    have l1:∀(c:Int) (u v:V),det n (smul c u) v=c*det n u v:=fun c u v=>by simp only[det,dot,cross,smul];grind
    refine bV hE ?_;rw[←l1,hk,l1,hl,Int.mul_zero]
   have r:∀u v w:V,det n (sub u v) (sub w v)=det n u w -det n u v -det n v w:=fun u v w=>by simp only[det,dot,cross,sub];grind
   rw[r,q b c pb fc,q b a pb fa,q a c pa fc];rfl
end
end Go.Geo
