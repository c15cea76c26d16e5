/-
  Parts of the proof of statement 4: GeoF, GeoG, GeoH, GeoI, AvInt, AvVec
-/
import Derived.Test.YtjiignefffdelaaGreatDoorA20
import Derived.Test.YtjiignefffdelaaGreatDoorA19
set_option linter.unusedVariables false
set_option linter.unusedSimpArgs false
namespace Go.Geo
section
def vgcd (v:V):Nat:=Int.gcd v.x (Int.gcd v.y v.z)
def prim (v:V):V:=⟨v.x / vgcd v,v.y / vgcd v,v.z / vgcd v⟩
theorem rI (v:V):smul (vgcd v) (prim v)=v:=by
 have h1:((vgcd v:Nat):Int)∣v.x:=Int.gcd_dvd_left v.x (Int.gcd v.y v.z);have h0:((vgcd v:Nat):Int)∣((Int.gcd v.y v.z:Nat):Int):=Int.gcd_dvd_right v.x (Int.gcd v.y v.z);have h2:((vgcd v:Nat):Int)∣v.y:=Int.dvd_trans h0 (Int.gcd_dvd_left v.y v.z);have h3:((vgcd v:Nat):Int)∣v.z:=Int.dvd_trans h0 (Int.gcd_dvd_right v.y v.z);exact V.ext' (Int.mul_ediv_cancel' h1) (Int.mul_ediv_cancel' h2) (Int.mul_ediv_cancel' h3)
theorem iI {v:V} (h:v≠V0):0<vgcd v:=by
 rcases Nat.eq_zero_or_pos (vgcd v) with h1|h1
 · exfalso
   have :=rI v;rw[h1] at this;exact h (by rw[←this];simp[smul,V0])
 · exact h1
theorem aIp {v:V} (h:v≠V0):prim v≠V0:=fun e=>by
 have :=rI v;rw[e] at this;exact h (by rw[←this];simp[smul,V0])
theorem lK (v w:V):(vgcd v:Int)*dot (prim v) w=dot v w:=by
 have h:=rI v
 have :dot (smul (vgcd v) (prim v)) w=(vgcd v:Int)*dot (prim v) w:=by simp only[dot,smul];grind
 rw[←this,h]
theorem aNm (v u w:V):(vgcd v:Int)*det (prim v) u w=det v u w:=lK v _
structure IsF (p:Nat→V) (N:Nat) (n:V) (d:Int):Prop where
 le:∀k,k<N→dot n (p k)≤d
 lt:∃k,k<N∧dot n (p k)<d
 tri:∃a b c,a<N∧b<N∧c<N∧cross (vec p a b) (vec p a c)≠V0∧n=prim (cross (vec p a b) (vec p a c))∧d=dot n (p a)
variable {p:Nat→V} {N:Nat} {n:V} {d:Int}
theorem IsF.fct (F:IsF p N n d):Fct p N n d:=by
 obtain⟨a,b,c,ha,hb,hc,hw,hn,hd⟩:=F.tri;have hg:=iI hw
 have on:∀k,k<N→dot (cross (vec p a b) (vec p a c)) (vec p a k)=0→k∈onL p N n d:=by
  intro k hk h;rw[bO];refine⟨hk,?_⟩;rw[←lK,←hn] at h;have h2:=bV (by omega) h;rw[eL] at h2;omega
 refine⟨by rw[hn];exact aIp hw,F.le,F.lt,a,on a ha (by simp only[dot,vec,sub];grind),b,on b hb ?_,c,on c hc ?_,?_⟩
 · simp only[dot,cross];grind
 · simp only[dot,cross];grind
 · intro h
   rw[hn] at h;have h2:=aNm (cross (vec p a b) (vec p a c)) (vec p a b) (vec p a c);rw[h] at h2;exact absurd (wL (a:=cross (vec p a b) (vec p a c)) (by simp only[det] at h2;omega)) hw
theorem IsF.uniq (F:IsF p N n d) {d':Int} (F':IsF p N n d'):d=d':=by
 obtain⟨a,_,_,ha,_,_,_,_,e⟩:=F.tri;obtain⟨b,_,_,hb,_,_,_,_,e'⟩:=F'.tri;have :=F.le b hb;have :=F'.le a ha;omega
theorem uK (α β:Nat→Int):∀(l:List Nat),l≠[]→(∀k∈l,0<α k)→∃q∈l,∀k∈l,β q*α k≤β k*α q
 |[],h,_=>absurd rfl h
 |[x],_,_=>⟨x,by simp,by simp⟩
 |x::y::l,_,h=>by
  obtain⟨q,hq,hm⟩:=uK α β (y::l) (by simp) fun k hk=>h k (by simp only[List.mem_cons] at hk ⊢;exact .inr hk)
  by_cases hx:β q*α x≤β x*α q
  · refine⟨q,List.mem_cons_of_mem _ hq,fun k hk=>?_⟩
    rcases List.mem_cons.1 hk with rfl|hk
    · exact hx
    · exact hm k hk
  · refine⟨x,List.mem_cons_self,fun k hk=>?_⟩
    rcases List.mem_cons.1 hk with rfl|hk
    · exact Int.le_refl _
    · have h1:=hm k hk
      have aq:=h q (List.mem_cons_of_mem _ hq);have ax:=h x List.mem_cons_self;have ak:=h k (List.mem_cons_of_mem _ hk);refine Int.le_of_mul_le_mul_left (a:=α q) ?_ aq;have e1:α k*(β x*α q)≤α k*(β q*α x):=Int.mul_le_mul_of_nonneg_left (by omega) (by omega);have e2:α x*(β q*α k)≤α x*(β k*α q):=Int.mul_le_mul_of_nonneg_left h1 (by omega)
      have r1:α q*(β x*α k)=α k*(β x*α q):=by grind
      have r2:α k*(β q*α x)=α x*(β q*α k):=by grind
      have r3:α x*(β k*α q)=α q*(β k*α x):=by grind
      omega
theorem IsF.adj (F:IsF p N n d) (A:Asc p N) {a b:Nat} (ha:a∈onL p N n d) (h:Sd n p (onL p N n d) a b):
 ∃n' d',IsF p N n' d'∧a∈onL p N n' d'∧b∈onL p N n' d'∧Sd n' p (onL p N n' d') b a∧∃q∈onL p N n' d',q∉onL p N n d:=by
 have H:=F.fct.pl A;have hb:=h.1;have hE:=bJ (H.ne ha hb h.2.1);have haN:=bO.1 ha;have hbN:=bO.1 hb
 let α:Nat→Int:=fun k=> -dot n (vec p a k)
 let β:Nat→Int:=fun k=>det n (vec p a b) (vec p a k)
 have hα:∀k,k<N→0≤α k:=fun k hk=>by
  have :=F.le k hk;show 0≤-dot n (vec p a k);rw[eL];omega
 have hα0:∀k,k<N→α k=0→k∈onL p N n d:=fun k hk e=>by
  rw[bO];refine⟨hk,?_⟩;have : -dot n (vec p a k)=0:=e;rw[eL] at this;omega
 obtain⟨k0,hk0,hk0'⟩:=F.lt
 obtain⟨q,hq,hmin⟩:=uK α β ((List.range N).filter fun k=>decide (0<α k)) (by
  intro e
  have :k0∈(List.range N).filter fun k=>decide (0<α k):=by
   simp only[List.mem_filter,List.mem_range,decide_eq_true_eq];refine⟨hk0,?_⟩;show 0< -dot n (vec p a k0);rw[eL];omega
  rw[e] at this;cases this) (fun k hk=>by simp only[List.mem_filter,decide_eq_true_eq] at hk;exact hk.2)
 simp only[List.mem_filter,List.mem_range,decide_eq_true_eq] at hq hmin;obtain⟨hqN,hαq⟩:=hq;have hne:dot n (vec p a b)=0:=H.pl a ha b hb
 have key:∀k,dot n n*dot (cross (vec p a b) (vec p a q)) (vec p a k)=β k*α q -β q*α k:=fun k=>by
  have :=nT n (vec p a b) (vec p a q) (vec p a k) n;rw[dF (vec p a b) n,dF (vec p a q) n,dF (vec p a k) n,hne] at this
  have e2:det (vec p a b) (vec p a q) (vec p a k)=dot (cross (vec p a b) (vec p a q)) (vec p a k):=by simp only[det,dot,cross];grind
  have e3:=lI n (vec p a b) (vec p a k);rw[e2] at this;show _=det n (vec p a b) (vec p a k)*(-dot n (vec p a q)) -det n (vec p a b) (vec p a q)*(-dot n (vec p a k));rw[e3] at this
  grind
 have hnn:=bJ F.fct.hn
 have side:∀k,k<N→0≤dot (cross (vec p a b) (vec p a q)) (vec p a k):=fun k hk=>by
  refine fW hnn ?_;rw[key];by_cases hz:0<α k
  · have :=hmin k ⟨hk,hz⟩;omega
  · have hz:α k=0:=by have :=hα k hk;omega
    rw[hz,Int.mul_zero,Int.sub_zero];exact Int.mul_nonneg (h.2.2 k (hα0 k hk hz)).1 (by omega)
 have hN0:cross (vec p a b) (vec p a q)≠V0:=by
  intro e
  have h1:dot (cross n (vec p a b)) (cross n (vec p a b))=dot n n*dot (vec p a b) (vec p a b) -dot n (vec p a b)*dot n (vec p a b):=by simp only[dot,cross];grind
  have h2:dot (cross n (vec p a b)) (cross (vec p a b) (vec p a q))=dot n (vec p a b)*dot (vec p a b) (vec p a q) -dot n (vec p a q)*dot (vec p a b) (vec p a b):=by simp only[dot,cross];grind
  rw[e,hne] at h2
  have h3:dot (cross n (vec p a b)) V0=0:=by simp[dot,V0]
  have h4:0<α q*dot (vec p a b) (vec p a b):=Int.mul_pos hαq hE;have h5:α q= -dot n (vec p a q):=rfl;rw[h5,Int.neg_mul] at h4;omega
 have hrev:cross (vec p a q) (vec p a b)=smul (-1) (cross (vec p a b) (vec p a q)):=by simp only[cross,smul,V.mk.injEq];grind
 have hN0':cross (vec p a q) (vec p a b)≠V0:=fun e=>hN0 (by
  rw[hrev] at e;simp only[smul,V0,V.mk.injEq] at e
  exact V.ext' (by simp only[V0];omega) (by simp only[V0];omega) (by simp only[V0];omega))
 have hg:=iI hN0';generalize hn':prim (cross (vec p a q) (vec p a b))=n'
 have dn:∀v:V,(vgcd (cross (vec p a q) (vec p a b)):Int)*dot n' v= -dot (cross (vec p a b) (vec p a q)) v:=fun v=>by
  rw[←hn',lK,hrev];simp only[dot,smul];grind
 have on:∀k,k<N→(k∈onL p N n' (dot n' (p a))↔dot (cross (vec p a b) (vec p a q)) (vec p a k)=0):=fun k hk=>by
  rw[bO];have :=dn (vec p a k);rw[eL n'] at this;constructor
  · rintro⟨_,e⟩
    rw[e,Int.sub_self,Int.mul_zero] at this;omega
  · intro e
    rw[e] at this;have :=bV (by omega) (show(vgcd (cross (vec p a q) (vec p a b)):Int)*(dot n' (p k) -dot n' (p a))=0 by omega);exact⟨hk,by omega⟩
 have hd0:∀k,k<N→dot n' (p k)≤dot n' (p a):=fun k hk=>by
  have h1:=dn (vec p a k);have h2:=side k hk;rw[eL n'] at h1;have h3:=fW (c:=(vgcd (cross (vec p a q) (vec p a b)):Int)) (a:= -(dot n' (p k) -dot n' (p a))) (by omega) (by rw[Int.mul_neg];omega);omega
 have ha':a∈onL p N n' (dot n' (p a)):=bO.2 ⟨haN.1,rfl⟩;have hb':b∈onL p N n' (dot n' (p a)):=(on b hbN.1).2 (by simp only[dot,cross];grind);have hq':q∈onL p N n' (dot n' (p a)):=(on q hqN).2 (by simp only[dot,cross];grind);refine⟨n',dot n' (p a),⟨hd0,?_,a,q,b,haN.1,hqN,hbN.1,hN0',hn'.symm,rfl⟩,ha',hb',⟨ha',fun e=>h.2.1 e.symm,fun k hk=>?_⟩,q,hq',fun hqo=>?_⟩
 ·
  refine Classical.byContradiction fun hc=>?_
  have all:∀k∈onL p N n d,det n (vec p a b) (vec p a k)=0:=fun k hk=>by
   have hkN:=bO.1 hk
   have h1:dot n' (p k)=dot n' (p a):=by
    have :=hd0 k hkN.1
    rcases Int.lt_or_eq_of_le this with h|h
    · exact absurd ⟨k,hkN.1,h⟩ hc
    · exact h
   have h2:=key k;rw[(on k hkN.1).1 (bO.2 ⟨hkN.1,h1⟩)] at h2
   have h3:α k=0:=by show -dot n (vec p a k)=0;rw[H.pl a ha k hk];rfl
   rw[h3,Int.mul_zero,Int.mul_zero,Int.sub_zero] at h2
   have h4:α q*β k=0:=by rw[Int.mul_comm];exact h2.symm
   exact bV hαq h4
  obtain⟨x,hx,y,hy,z,hz,hxyz⟩:=F.fct.tri;refine hxyz ?_
  have l1:∀(c:Int) (u v:V),det n (smul c u) v=c*det n u v:=fun c u v=>by simp only[det,dot,cross,smul];grind
  have qq:∀k l:Nat,k∈onL p N n d→l∈onL p N n d→det n (vec p a k) (vec p a l)=0:=by
   intro k l hk hl;have pk:=para H.hn (H.pl a ha b hb) (H.pl a ha k hk) (all k hk);refine bV hE ?_;rw[←l1,pk,l1,all l hl,Int.mul_zero]
  have r:∀u v w:V,det n (sub u v) (sub w v)=det n u w -det n u v -det n v w:=fun u v w=>by simp only[det,dot,cross,sub];grind
  rw[kV p a x y,kV p a x z,r,qq y z hy hz,qq y x hy hx,qq x z hx hz];rfl
 ·
  have hkN:=bO.1 hk;have hkz:=(on k hkN.1).1 hk
  have hde:det (vec p a b) (vec p a q) (vec p a k)=0:=by
   have e2:det (vec p a b) (vec p a q) (vec p a k)=dot (cross (vec p a b) (vec p a q)) (vec p a k):=by simp only[det,dot,cross];grind
   rw[e2,hkz]
  have hnv:dot n (vec p a k)≤0:=by have :=hα k hkN.1;show dot n (vec p a k)≤0;have h5:α k= -dot n (vec p a k):=rfl;omega
  have hnu:dot n (vec p a q)<0:=by have h5:α q= -dot n (vec p a q):=rfl;omega
  have e1:det n' (vec p b a) (vec p b k)= -det n' (vec p a b) (vec p a k):=by simp only[vec,det,dot,cross,sub];grind
  have e2:(vgcd (cross (vec p a q) (vec p a b)):Int)*det n' (vec p b a) (vec p b k)=dot (cross (vec p a b) (vec p a q)) (cross (vec p a b) (vec p a k)):=by
   rw[e1,Int.mul_neg];have :=dn (cross (vec p a b) (vec p a k));simp only[det];omega
  generalize he:vec p a b=e at *;generalize vec p a q=u at *;generalize hv:vec p a k=v at *
  have c1:dot n u*(cross e v).x=dot n v*(cross e u).x:=by
   have :dot n u*(cross e v).x=dot n v*(cross e u).x -n.x*det e u v -(cross v u).x*dot n e:=by simp only[det,dot,cross];grind
   rw[hde,hne] at this;omega
  have c2:dot n u*(cross e v).y=dot n v*(cross e u).y:=by
   have :dot n u*(cross e v).y=dot n v*(cross e u).y -n.y*det e u v -(cross v u).y*dot n e:=by simp only[det,dot,cross];grind
   rw[hde,hne] at this;omega
  have c3:dot n u*(cross e v).z=dot n v*(cross e u).z:=by
   have :dot n u*(cross e v).z=dot n v*(cross e u).z -n.z*det e u v -(cross v u).z*dot n e:=by simp only[det,dot,cross];grind
   rw[hde,hne] at this;omega
  have hNN:=bJ hN0
  have c4:dot n u*dot (cross e u) (cross e v)=dot n v*dot (cross e u) (cross e u):=by
   have :dot n u*dot (cross e u) (cross e v)=(cross e u).x*(dot n u*(cross e v).x)+(cross e u).y*(dot n u*(cross e v).y)+(cross e u).z*(dot n u*(cross e v).z):=by
    simp only[dot];grind
   rw[this,c1,c2,c3];simp only[dot];grind
  have c5:0≤dot (cross e u) (cross e v):=by
   refine fW (c:= -dot n u) (by omega) ?_;rw[Int.neg_mul,c4,←Int.neg_mul];exact Int.mul_nonneg (by omega) (by omega)
  refine⟨fW (c:=(vgcd (cross u e):Int)) (by omega) (by rw[e2];exact c5),fun hz=>?_⟩;rw[hz,Int.mul_zero] at e2;rw[←e2,Int.mul_zero] at c4
  have hnv0:dot n v=0:=by
   have :=bV (c:=dot (cross e u) (cross e u)) (a:=dot n v) hNN (by rw[Int.mul_comm];exact c4.symm);exact this
  have hko:k∈onL p N n d:=hα0 k hkN.1 (by show -dot n (vec p a k)=0;rw[hv];omega);rw[hnv0,Int.zero_mul] at c1 c2 c3
  have hz':det n e v=0:=by
   have z:∀c:Int,dot n u*c=0→c=0:=fun c hc=>by rcases Int.mul_eq_zero.1 hc with h|h<;>omega
   simp only[det,dot];rw[z _ c1,z _ c2,z _ c3];simp
  have g:=(h.2.2 k hko).2;rw[hv,he] at g;have g:=g hz'
  have b1:dot (vec p b k) (vec p b a)=dot (vec p a b) (vec p a b) -dot (vec p a k) (vec p a b):=by simp only[vec,dot,sub];grind
  have b2:dot (vec p b a) (vec p b a)=dot (vec p a b) (vec p a b):=by simp only[vec,dot,sub];grind
  rw[b1,b2,hv,he];omega
 · have :=bO.1 hqo
   have h5:α q= -dot n (vec p a q):=rfl;rw[eL] at h5;omega
theorem oK {n n':V} {d d':Int} (hn':n'≠V0) {a b c q:Nat} (ha:a∈onL p N n d) (hb:b∈onL p N n d) (hc:c∈onL p N n d) (h:det n (vec p a b) (vec p a c)≠0)
 (ha':a∈onL p N n' d') (hb':b∈onL p N n' d') (hc':c∈onL p N n' d') (hq:q∈onL p N n' d'):q∈onL p N n d:=by
 have o:∀{n:V} {d:Int} {x y:Nat},x∈onL p N n d→y∈onL p N n d→dot n (vec p x y)=0:=fun {n d x y} hx hy=>by
  rw[eL,(bO.1 hx).2,(bO.1 hy).2];omega
 have hz:=aBs hn' (o ha' hb') (o ha' hc') (o ha' hq);have :=nT n (vec p a b) (vec p a c) (vec p a q) n;rw[hz,dF (vec p a b) n,dF (vec p a c) n,dF (vec p a q) n,o ha hb,o ha hc] at this
 have h2:det n (vec p a b) (vec p a c)*dot n (vec p a q)=0:=by omega
 rcases Int.mul_eq_zero.1 h2 with h3|h3
 · exact absurd h3 h
 · rw[eL] at h3
   exact bO.2 ⟨(bO.1 hq).1,by have :=(bO.1 ha).2;omega⟩
theorem IsF.four (F:IsF p N n d) (A:Asc p N):∃n1 d1 n2 d2 n3 d3,IsF p N n1 d1∧IsF p N n2 d2∧IsF p N n3 d3∧n1≠n∧n2≠n∧n3≠n∧n1≠n2∧n1≠n3∧n2≠n3:=by
 obtain⟨s,r,hsr⟩:=F.fct.head;obtain⟨m,W⟩:=F.fct.way A hsr;generalize nxt n p (onL p N n d)=f at W;obtain⟨o0,s0⟩:=W.side 0;obtain⟨o1,s1⟩:=W.side 1;obtain⟨o2,s2⟩:=W.side 2;obtain⟨o3,_⟩:=W.side 3;obtain⟨n1,d1,F1,a1,b1,_,q1,hq1,hq1'⟩:=F.adj A o0 s0;obtain⟨n2,d2,F2,a2,b2,_,q2,hq2,hq2'⟩:=F.adj A o1 s1;obtain⟨n3,d3,F3,a3,b3,_,q3,hq3,hq3'⟩:=F.adj A o2 s2;have t0:=W.aXm F.fct 0;have t1:=W.aXm F.fct 1
 have oth:∀{n':V} {d':Int},IsF p N n' d'→(∃q∈onL p N n' d',q∉onL p N n d)→n'≠n:=by
  rintro n' d' F' ⟨q,h1,h2⟩ rfl;rw[F.uniq F'] at h2;exact h2 h1
 refine⟨n1,d1,n2,d2,n3,d3,F1,F2,F3,oth F1 ⟨q1,hq1,hq1'⟩,oth F2 ⟨q2,hq2,hq2'⟩,oth F3 ⟨q3,hq3,hq3'⟩,?_,?_,?_⟩
 · rintro rfl
   rw[F2.uniq F1] at a2 b2;exact hq1' (oK F1.fct.hn o0 o1 o2 (Int.ne_of_gt t0) a1 b1 b2 hq1)
 · rintro rfl
   rw[F3.uniq F1] at a3 b3;exact hq1' (oK F1.fct.hn o0 o1 o2 (Int.ne_of_gt t0) a1 b1 a3 hq1)
 · rintro rfl
   rw[F3.uniq F2] at a3 b3;exact hq2' (oK F2.fct.hn o1 o2 o3 (Int.ne_of_gt t1) a2 b2 b3 hq2)
end
section
def neg (a:V):V:=⟨-a.x,-a.y,-a.z⟩
theorem neg_neg (a:V):neg (neg a)=a:=by simp[neg]
theorem aAa {a:V} (h:a≠V0):neg a≠V0:=fun e=>h (by
 have :=congrArg neg e;rw[neg_neg] at this
 rw[this];rfl)
theorem aQj (a:V):vgcd (neg a)=vgcd a:=by simp[vgcd,neg,Int.gcd]
theorem qH (a:V):prim (neg a)=neg (prim a):=by
 have d1:(vgcd a:Int)∣a.x:=Int.gcd_dvd_left ..;have d2:(vgcd a:Int)∣a.y:=Int.dvd_trans (Int.gcd_dvd_right ..) (Int.gcd_dvd_left ..);have d3:(vgcd a:Int)∣a.z:=Int.dvd_trans (Int.gcd_dvd_right ..) (Int.gcd_dvd_right ..);unfold prim;rw[aQj];simp only[neg];rw[Int.neg_ediv_of_dvd d1,Int.neg_ediv_of_dvd d2,Int.neg_ediv_of_dvd d3]
theorem fE (a b:V):dot (neg a) b= -dot a b:=by simp only[dot,neg];grind
variable {p:Nat→V} {N:Nat} {n:V} {d:Int}
def Cand (p:Nat→V) (a b c:Nat) (n:V):Prop:=
 cross (vec p a b) (vec p a c)≠V0∧(n=prim (cross (vec p a b) (vec p a c))∨n=neg (prim (cross (vec p a b) (vec p a c))))
theorem tV (a b c:Nat):cross (vec p a c) (vec p a b)=neg (cross (vec p a b) (vec p a c)):=by
 simp only[cross,neg];apply V.ext'<;>simp only <;>grind
theorem aEw (a b c:Nat):cross (vec p b a) (vec p b c)=neg (cross (vec p a b) (vec p a c)):=by
 simp only[cross,neg,vec,sub];apply V.ext'<;>simp only <;>grind
theorem Cand.swap {a b c:Nat} (h:Cand p a b c n):Cand p a c b n:=by
 unfold Cand at h ⊢;rw[tV a b c,qH,neg_neg];exact⟨aAa h.1,h.2.symm⟩
theorem Cand.turn {a b c:Nat} (h:Cand p a b c n):Cand p b a c n:=by
 unfold Cand at h ⊢;rw[aEw a b c,qH,neg_neg];exact⟨aAa h.1,h.2.symm⟩
theorem Cand.aXq {a b c:Nat} (h:Cand p a b c n):dot n (p b)=dot n (p a)∧dot n (p c)=dot n (p a):=by
 have hg:=iI h.1
 have key:∀k,dot (cross (vec p a b) (vec p a c)) (vec p a k)=0→dot n (p k)=dot n (p a):=by
  intro k hk;rw[←lK] at hk;have h2:=bV (by omega) hk
  have h3:dot n (vec p a k)=0:=by
   rcases h.2 with rfl|rfl
   · exact h2
   · rw[fE,h2];rfl
  rw[eL] at h3;omega
 exact⟨key b (by simp only[dot,cross];grind),key c (by simp only[dot,cross];grind)⟩
theorem Cand.ne {a b c:Nat} (h:Cand p a b c n):a≠b∧a≠c∧b≠c:=by
 refine⟨?_,?_,?_⟩<;>rintro rfl<;>refine h.1 ?_<;>simp only[cross,vec,sub,V0]<;>apply V.ext'<;>simp only <;>grind
theorem Cand.isF {a b c:Nat} (h:Cand p a b c n) (ha:a<N) (hb:b<N) (hc:c<N) (le:∀k,k<N→dot n (p k)≤d) (lt:∃k,k<N∧dot n (p k)<d) (hd:d=dot n (p a)):IsF p N n d:=by
 rcases h.2 with e|e
 · exact⟨le,lt,a,b,c,ha,hb,hc,h.1,e,hd⟩
 · refine⟨le,lt,a,c,b,ha,hc,hb,h.swap.1,?_,hd⟩
   rw[tV,qH];exact e
theorem IsF.bCz (F:IsF p N n d):∃a b c,a<N∧b<N∧c<N∧Cand p a b c n∧d=dot n (p a):=by
 obtain⟨a,b,c,ha,hb,hc,hw,hn,hd⟩:=F.tri;exact⟨a,b,c,ha,hb,hc,⟨hw,.inl hn⟩,hd⟩
theorem IsF.up (F:IsF p N n d):∃i j k,i<j∧j<k∧k<N∧Cand p i j k n∧d=dot n (p i):=by
 obtain⟨a,b,c,ha,hb,hc,h,hd⟩:=F.bCz
 have ho:∃a b c,b<c∧a<N∧b<N∧c<N∧Cand p a b c n∧d=dot n (p a):=by
  have hn:=h.ne;by_cases hbc:b<c
  · exact⟨a,b,c,hbc,ha,hb,hc,h,hd⟩
  · exact⟨a,c,b,by omega,ha,hc,hb,h.swap,hd⟩
 obtain⟨a,b,c,hbc,ha,hb,hc,h,hd⟩:=ho;have hn:=h.ne;have hs:=h.aXq;by_cases h1:a<b
 · exact⟨a,b,c,h1,hbc,hc,h,hd⟩
 · by_cases h2:a<c
   · exact⟨b,a,c,by omega,h2,hc,h.turn,by rw[hs.1];exact hd⟩
   · exact⟨b,c,a,hbc,by omega,ha,h.turn.swap,by rw[hs.1];exact hd⟩
theorem IsF.down (F:IsF p N n d):∃i j k,k<j∧j<i∧i<N∧Cand p i j k n∧d=dot n (p i):=by
 obtain⟨i,j,k,h1,h2,h3,h,hd⟩:=F.up;have hs:=h.aXq;exact⟨k,j,i,h1,h2,h3,h.turn.swap.turn,by rw[hs.2];exact hd⟩
theorem VLt.irr (a:V):¬VLt a a:=by unfold VLt;omega
theorem VLt.trans {a b c:V} (h:VLt a b) (h':VLt b c):VLt a c:=by unfold VLt at *;omega
theorem VLt.total {a b:V} (h:a≠b):VLt a b∨VLt b a:=by
 refine Classical.byContradiction fun hc=>h ?_;unfold VLt at hc;apply V.ext'<;>omega
theorem mB {α:Type} {R:α→α→Prop} (ir:∀a,¬R a a) (tr:∀{a b c},R a b→R b c→R a c):∀{l l':List α},l.Pairwise R→l'.Pairwise R→(∀x,x∈l↔x∈l')→l=l'
 |[],[],_,_,_=>rfl
 |[],y::l',_,_,h=>absurd ((h y).2 List.mem_cons_self) (by simp)
 |x::l,[],_,_,h=>absurd ((h x).1 List.mem_cons_self) (by simp)
 |x::l,y::l',hl,hl',h=>by
  rw[List.pairwise_cons] at hl hl'
  have hxy:x=y:=by
   rcases List.mem_cons.1 ((h x).1 List.mem_cons_self) with e|e
   · exact e
   · rcases List.mem_cons.1 ((h y).2 List.mem_cons_self) with e'|e'
     · exact e'.symm
     · exact absurd (tr (hl'.1 x e) (hl.1 y e')) (ir y)
  subst hxy;rw[mB ir tr hl.2 hl'.2 fun z=>⟨fun hz=>?_,fun hz=>?_⟩]
  · rcases List.mem_cons.1 ((h z).1 (List.mem_cons_of_mem _ hz)) with e|e
    · subst e;exact absurd (hl.1 z hz) (ir z)
    · exact e
  · rcases List.mem_cons.1 ((h z).2 (List.mem_cons_of_mem _ hz)) with e|e
    · subst e;exact absurd (hl'.1 z hz) (ir z)
    · exact e
structure FList (p:Nat→V) (N:Nat) (L:List (V×Int)):Prop where
 mem:∀q,q∈L↔IsF p N q.1 q.2
 srt:L.Pairwise fun a b=>VLt a.1 b.1
theorem FList.uniq {L L':List (V×Int)} (h:FList p N L) (h':FList p N L'):L=L':=
 mB (R:=fun a b=>VLt a.1 b.1) (fun a=>VLt.irr _) (fun {a b c} h h'=>VLt.trans (a:=a.1) (b:=b.1) (c:=c.1) h h') h.srt h'.srt fun q=>(h.mem q).trans (h'.mem q).symm
theorem FList.aIh {K S:List (V×Int)} (hn:K.Nodup) (hm:∀q,q∈K↔IsF p N q.1 q.2) (hp:S.Perm K) (hs:S.Pairwise fun a b=>¬VLt b.1 a.1):FList p N S where
 mem:=fun q=>(hp.mem_iff).trans (hm q)
 srt:=by
  have hnS:S.Nodup:=hp.nodup_iff.2 hn;have hin:∀q∈S,IsF p N q.1 q.2:=fun q hq=>(hm q).1 (hp.mem_iff.1 hq);have h2:S.Pairwise fun a b=>a≠b∧¬VLt b.1 a.1:=List.Pairwise.and hnS hs;refine List.Pairwise.imp_of_mem (fun {a b} ha hb hab=>?_) h2;by_cases he:a.1=b.1
  · have :=(hin a ha).uniq (d':=b.2) (by rw[he];exact hin b hb)
    exact absurd (Prod.ext he this) hab.1
  · exact(VLt.total he).resolve_right hab.2
theorem FList.four {L:List (V×Int)} (h:FList p N L) (A:Asc p N) (hne:L≠[]):4≤L.length:=by
 cases L with
 |nil=>exact absurd rfl hne
 |cons q r=>
  obtain⟨n1,d1,n2,d2,n3,d3,f1,f2,f3,e1,e2,e3,e4,e5,e6⟩:=((h.mem q).1 List.mem_cons_self).four A
  have hnd:[q,(n1,d1),(n2,d2),(n3,d3)].Nodup:=by
   simp only[List.nodup_cons,List.mem_cons,List.not_mem_nil,or_false,not_or,not_false_eq_true,List.nodup_nil,and_true,Prod.mk.injEq,not_and];refine⟨⟨fun e=>e1 (by rw[e]),fun e=>e2 (by rw[e]),fun e=>e3 (by rw[e])⟩,⟨fun e=>absurd e e4,fun e=>absurd e e5⟩,fun e=>absurd e e6⟩
  have hsub:[q,(n1,d1),(n2,d2),(n3,d3)] ⊆ q::r:=by
   intro x hx;simp only[List.mem_cons,List.not_mem_nil,or_false] at hx
   rcases hx with rfl|rfl|rfl|rfl
   · exact List.mem_cons_self
   · exact(h.mem _).2 f1
   · exact(h.mem _).2 f2
   · exact(h.mem _).2 f3
  have :=List.Nodup.length_le_of_subset hnd hsub;simpa using this
end
section
variable {p:Nat→V} {N:Nat} {n:V} {d:Int}
structure Poly (p:Nat→V) (N:Nat) (n:V) (d:Int) (L:List Nat):Prop where
 ex:∃s r m,onL p N n d=s::r∧Way n p (onL p N n d) s m (nxt n p (onL p N n d))∧L=(List.range m).map fun i=>iter (nxt n p (onL p N n d)) i s
theorem Poly.exists (A:Asc p N) (F:Fct p N n d):∃L,Poly p N n d L:=by
 obtain⟨s,r,h⟩:=F.head;obtain⟨m,W⟩:=F.way A h;exact⟨_,⟨s,r,m,h,W,rfl⟩⟩
theorem Poly.uniq {L L':List Nat} (h:Poly p N n d L) (h':Poly p N n d L'):L=L':=by
 obtain⟨s,r,m,e,W,rfl⟩:=h.ex;obtain⟨s',r',m',e',W',rfl⟩:=h'.ex;rw[e] at e';cases e'
 have :m=m':=by
  rcases Nat.lt_trichotomy m m' with hl|he|hl
  · exact absurd W.back (W'.first m W.pos hl)
  · exact he
  · exact absurd W'.back (W.first m' W'.pos hl)
 rw[this]
def Next (L:List Nat) (a b:Nat):Prop:=∃i,i<L.length∧L[i]?=some a∧L[(i+1)%L.length]?=some b
theorem Poly.eB {L:List Nat} (h:Poly p N n d L) {a b:Nat}:Next L a b↔a∈onL p N n d∧Sd n p (onL p N n d) a b:=by
 obtain⟨s,r,m,e,W,rfl⟩:=h.ex
 have hlen:((List.range m).map fun i=>iter (nxt n p (onL p N n d)) i s).length=m:=by simp
 have hget:∀i,i<m→((List.range m).map fun i=>iter (nxt n p (onL p N n d)) i s)[i]?=some (iter (nxt n p (onL p N n d)) i s):=fun i hi=>by
  rw[List.getElem?_map,List.getElem?_range hi];rfl
 have hsucc:∀i,i<m→((List.range m).map fun i=>iter (nxt n p (onL p N n d)) i s)[(i+1)%m]?=some (iter (nxt n p (onL p N n d)) (i+1) s):=fun i hi=>by
  by_cases hm:i+1<m
  · rw[Nat.mod_eq_of_lt hm,hget _ hm]
  · have :i+1=m:=by omega
    rw[this,Nat.mod_self,hget 0 W.pos,W.back];rfl
 unfold Next;rw[hlen];constructor
 · rintro⟨i,hi,h1,h2⟩
   rw[hget i hi] at h1;rw[hsucc i hi] at h2;cases h1;cases h2;exact W.side i
 · rintro⟨ha,hS⟩
   obtain⟨i,hi,rfl⟩:=W.cover ha hS;refine⟨i,hi,hget i hi,?_⟩;rw[hsucc i hi,(W.side i).2.uniq W.H (W.side i).1 hS]
theorem Poly.back (A:Asc p N) (F:IsF p N n d) {L:List Nat} (h:Poly p N n d L) {a b:Nat} (hn:Next L a b):
 ∃n' d' L',IsF p N n' d'∧Poly p N n' d' L'∧Next L' b a:=by
 obtain⟨ha,hS⟩:=h.eB.1 hn;obtain⟨n',d',F',ha',hb',hS',_⟩:=F.adj A ha hS;obtain⟨L',h'⟩:=Poly.exists A F'.fct;exact⟨n',d',L',F',h',h'.eB.2 ⟨hb',hS'⟩⟩
theorem Poly.aWl {L:List Nat} (h:Poly p N n d L) {k:Nat} (hk:k∈L):k∈onL p N n d:=by
 obtain⟨s,r,m,e,W,rfl⟩:=h.ex;simp only[List.mem_map,List.mem_range] at hk;obtain⟨i,hi,rfl⟩:=hk;exact(W.side i).1
theorem Poly.nextR {L:List Nat} (h:Poly p N n d L) {k:Nat} (hk:k∈L):Geo.nextR n p (onL p N n d) k=some (nxt n p (onL p N n d) k):=by
 obtain⟨s,r,m,e,W,rfl⟩:=h.ex;simp only[List.mem_map,List.mem_range] at hk;obtain⟨i,hi,rfl⟩:=hk;exact aOn W.H (W.side i).1 (W.side i).2
def spanLe (n:V) (a b:List V):Prop:=∀u∈a,∀v∈b,dot n u≤dot n v
def Sep (a b:List V) (n:V):Prop:=spanLe n a b∨spanLe n b a
theorem Sep.symm {a b:List V}:Sep a b n↔Sep b a n:=Or.comm
theorem Sep.neg {a b:List V}:Sep a b (Geo.neg n)↔Sep a b n:=by
 unfold Sep spanLe;simp only[fE];constructor
 · rintro(h|h)
   · exact .inr fun u hu v hv=>by have :=h v hv u hu;omega
   · exact .inl fun u hu v hv=>by have :=h v hv u hu;omega
 · rintro(h|h)
   · exact .inr fun u hu v hv=>by have :=h v hv u hu;omega
   · exact .inl fun u hu v hv=>by have :=h v hv u hu;omega
theorem aEu (a b:V):cross b a=Geo.neg (cross a b):=by
 simp only[cross,Geo.neg];apply V.ext'<;>simp only <;>grind
end
theorem natAbs_tmod (a b:Int):(a.tmod b).natAbs=a.natAbs%b.natAbs:=by
 first
  |exact Int.natAbs_tmod a b
  |(cases a<;>cases b<;>simp only[Int.tmod,Int.natAbs_neg,Int.natAbs_natCast,Int.natAbs_negSucc,Int.ofNat_eq_natCast,Nat.succ_eq_add_one]<;>rfl)
theorem aCf (a b:Int):Int.gcd b (a.tmod b)=Int.gcd a b:=by
 unfold Int.gcd;rw[natAbs_tmod,Nat.gcd_comm a.natAbs,Nat.gcd_rec b.natAbs a.natAbs];rw[Nat.gcd_comm]
theorem aRj (a:Int):(Int.gcd a 0:Int)=if a< -a then -a else a:=by
 simp only[Int.gcd_zero_right];split<;>omega
theorem vW (v:V):Int.gcd (Int.gcd v.x v.y) v.z=vgcd v:=by
 unfold vgcd Int.gcd;simp only[Int.natAbs_natCast];exact Nat.gcd_assoc _ _ _
theorem aPb {v:V} (h:vgcd v≤1):prim v=v:=by
 unfold prim
 rcases Nat.lt_or_ge 0 (vgcd v) with h0|h0
 · have :vgcd v=1:=by omega
   rw[this];simp
 · have hz:vgcd v=0:=by omega
   have hv:v=V0:=by
    refine Classical.byContradiction fun hc=>?_;have :=iI hc;omega
   subst hv;rw[hz];simp[V0]
theorem yE (v:V):prim v=⟨v.x.tdiv (vgcd v),v.y.tdiv (vgcd v),v.z.tdiv (vgcd v)⟩:=by
 have d1:(vgcd v:Int)∣v.x:=Int.gcd_dvd_left ..;have d2:(vgcd v:Int)∣v.y:=Int.dvd_trans (Int.gcd_dvd_right ..) (Int.gcd_dvd_left ..);have d3:(vgcd v:Int)∣v.z:=Int.dvd_trans (Int.gcd_dvd_right ..) (Int.gcd_dvd_right ..);unfold prim;rw[Int.tdiv_eq_ediv_of_dvd d1,Int.tdiv_eq_ediv_of_dvd d2,Int.tdiv_eq_ediv_of_dvd d3]
def Near (B:Nat) (v:V):Prop:=v.x.natAbs≤B∧v.y.natAbs≤B∧v.z.natAbs≤B
theorem aY {a b:Int} {A B:Nat} (ha:a.natAbs≤A) (hb:b.natAbs≤B):(a*b).natAbs≤A*B:=by
 rw[Int.natAbs_mul];exact Nat.mul_le_mul ha hb
theorem fD {a b:V} {A B:Nat} (ha:Near A a) (hb:Near B b):(dot a b).natAbs≤3*(A*B):=by
 have h1:=aY ha.1 hb.1;have h2:=aY ha.2.1 hb.2.1;have h3:=aY ha.2.2 hb.2.2;unfold dot;omega
theorem dJ {a b:V} {A B:Nat} (ha:Near A a) (hb:Near B b):Near (2*(A*B)) (cross a b):=by
 obtain⟨a1,a2,a3⟩:=ha;obtain⟨b1,b2,b3⟩:=hb;refine⟨?_,?_,?_⟩<;>simp only[cross]
 · have h1:=aY a2 b3
   have h2:=aY a3 b2;omega
 · have h1:=aY a3 b1
   have h2:=aY a1 b3;omega
 · have h1:=aY a1 b2
   have h2:=aY a2 b1;omega
theorem cH {a b:V} {A B:Nat} (ha:Near A a) (hb:Near B b):Near (A+B) (sub a b):=by
 obtain⟨a1,a2,a3⟩:=ha;obtain⟨b1,b2,b3⟩:=hb;refine⟨?_,?_,?_⟩<;>simp only[sub]<;>omega
theorem gP {v:V} {B:Nat} (h:Near B v):Near B (prim v):=by
 rw[yE]
 have key:∀a:Int,a.natAbs≤B→(a.tdiv (vgcd v)).natAbs≤B:=fun a ha=>by
  rw[Int.natAbs_tdiv];exact Nat.le_trans (Nat.div_le_self _ _) ha
 exact⟨key _ h.1,key _ h.2.1,key _ h.2.2⟩
theorem qB {v:V} {B:Nat} (h:Near B v):Near B (neg v):=by
 obtain⟨a1,a2,a3⟩:=h;refine⟨?_,?_,?_⟩<;>simp only[neg]<;>omega
end Go.Geo
namespace Go.Av
open Go Go.Num
def wC (l:List Nat):List AV:=l.map fun(n:Nat)=>AV.int .u32 n
theorem bH (l:List Nat):(wC l).length=l.length:=by simp[wC]
def zs:List Nat:=List.replicate 16 0
theorem aXj:[AV.int .u32 0,.int .u32 0,.int .u32 0,.int .u32 0,.int .u32 0,.int .u32 0,.int .u32 0,.int .u32 0,.int .u32 0,.int .u32 0,.int .u32 0,.int .u32 0,.int .u32 0,.int .u32 0,.int .u32 0,.int .u32 0]=wC zs:=rfl
def L16 (l:List Nat):Prop:=l.length=16∧∀d∈l,d<W
theorem L16.zs:L16 zs:=⟨rfl,fun d hd=>by rw[List.eq_of_mem_replicate hd];decide⟩
theorem L16.limbs (n:Nat):L16 (limbs 16 n):=⟨bE _ _,pX⟩
theorem aTp {l:List Nat} {n:Nat} (h:l.length≤n):(wC l).take n=wC l:=List.take_of_length_le (by rw[bH];exact h)
theorem aTo {l:List Nat} {n:Nat} (h:l.length≤n):(wC l).drop n=[]:=List.drop_of_length_le (by rw[bH];exact h)
theorem iU {l:List Nat} {i:Nat} (h:i<l.length):(wC l).getD i undefA=.int .u32 (l.getD i 0):=by
 unfold wC;rw[List.getD_eq_getElem?_getD,List.getD_eq_getElem?_getD,List.getElem?_map,List.getElem?_eq_getElem h];rfl
theorem mY {l:List Nat} {i:Nat} (h:i<l.length) (x:Nat):splice (wC l) i [.int .u32 (x:Int)]=wC (l.set i x):=by
 unfold splice wC;rw[List.map_set,List.set_eq_take_append_cons_drop,if_pos (by simpa using h)];simp
theorem xF:∀(a b:List Nat),a.length=b.length→eqFlat (List.replicate a.length .i) (wC a) (wC b)=some (decide (a=b))
 |[],[],_=>rfl
 |[],y::b,h=>by simp at h
 |x::a,[],h=>by simp at h
 |x::a,y::b,h=>by
  have ih:=xF a b (by simpa using h);simp only[wC,List.map_cons,List.length_cons,List.replicate_succ,eqFlat,if_true] at ih ⊢;rw[ih];by_cases hx:x=y<;>by_cases hab:a=b<;>simp[hx,hab]<;>omega
theorem xE {a b:List Nat} (ha:a.length=16) (hb:b.length=16):eqFlat [.i,.i,.i,.i,.i,.i,.i,.i,.i,.i,.i,.i,.i,.i,.i,.i] (wC a) (wC b)=some (decide (a=b)):=by
 have :=xF a b (by omega)
 rwa [ha] at this
def cI (z:Int):List AV:=.bool false::.bool (decide (z<0))::wC (limbs 16 z.natAbs)
def badC:List AV:=.bool true::.bool false::wC zs
def cO:Option Int→List AV
 |some z=>cI z
 |none=>badC
def norm (z:Int):Option Int:=if z.natAbs<W^16 then some z else none
def sg (neg:Bool) (n:Nat):Int:=if neg then -(n:Int) else n
def goodW (b n:Bool) (l:List Nat):Bool:= !b&&(!n|| !decide (l=zs))
def valI (b n:Bool) (l:List Nat):Option Int:=if goodW b n l then some (sg n (ofL l)) else none
def IsI (v:List AV) (x:Option Int):Prop:=∃b n l,L16 l∧v=.bool b::.bool n::wC l∧x=valI b n l
theorem aFr:ofL zs=0:=by decide
theorem oC:limbs 16 0=zs:=by decide
theorem aIg {l:List Nat} (h:L16 l):ofL l<W^16:=by
 have :=aAc l h.2
 rwa [h.1] at this
theorem rG {l:List Nat} (h:L16 l):limbs 16 (ofL l)=l:=by
 have :=xW h.2
 rwa [h.1] at this
theorem lT {l:List Nat} (h:L16 l):ofL l=0↔l=zs:=by
 constructor
 · intro e
   rw[←rG h,e,oC]
 · rintro rfl;exact aFr
theorem dR (n:Bool) (m:Nat):(sg n m).natAbs=m:=by cases n<;>simp[sg]
theorem yO {b n:Bool} {l:List Nat} {z:Int} (h:L16 l) (e:valI b n l=some z):b=false∧n=decide (z<0)∧l=limbs 16 z.natAbs∧z.natAbs<W^16:=by
 unfold valI at e;split at e
 · rename_i hg
   obtain rfl:=Option.some.inj e;simp only[goodW,Bool.and_eq_true,Bool.not_eq_true',Bool.or_eq_true,decide_eq_false_iff_not] at hg;refine⟨hg.1,?_,?_,?_⟩
   · cases n with
     |false=>simp[sg]
     |true=>
      have :ofL l≠0:=fun e=>by
       rcases hg.2 with h2|h2
       · cases h2
       · exact h2 ((lT h).1 e)
      simp[sg];omega
   · rw[dR,rG h]
   · rw[dR];exact aIg h
 · cases e
theorem IsI.some {v:List AV} {z:Int} (h:IsI v (some z)):v=cI z∧z.natAbs<W^16:=by
 obtain⟨b,n,l,hl,rfl,hv⟩:=h;obtain⟨rfl,rfl,rfl,h4⟩:=yO hl hv.symm;exact⟨rfl,h4⟩
theorem aQh {z:Int} (h:z.natAbs<W^16):valI false (decide (z<0)) (limbs 16 z.natAbs)=Option.some z:=by
 have :goodW false (decide (z<0)) (limbs 16 z.natAbs)=true:=by
  simp only[goodW,Bool.not_false,Bool.true_and,Bool.or_eq_true,Bool.not_eq_true',decide_eq_false_iff_not];by_cases hz:z<0
  · refine .inr fun e=>?_
    have :=cU h;rw[e,aFr] at this;omega
  · exact .inl hz
 unfold valI;rw[if_pos this,cU h];congr 1;by_cases hz:z<0<;>simp[sg,hz]<;>omega
theorem IsI.enc {z:Int} (h:z.natAbs<W^16):IsI (cI z) (Option.some z):=⟨false,_,_,.limbs _,rfl,(aQh h).symm⟩
theorem IsI.bad:IsI badC none:=⟨true,false,zs,.zs,rfl,rfl⟩
theorem aLc {z x:Int} (h:norm z=Option.some x):x=z∧z.natAbs<W^16:=by
 unfold norm at h;split at h
 · rename_i hz;exact⟨(Option.some.inj h).symm,hz⟩
 · cases h
theorem IsI.norm (z:Int):IsI (cO (Av.norm z)) (Av.norm z):=by
 cases h:Av.norm z with
 |none=>exact .bad
 |some x=>exact .enc (by obtain⟨rfl,h2⟩:=aLc h;exact h2)
theorem aCd:∀l,freeL (wC l)=true
 |[]=>rfl
 |x::l=>by
  simp only[wC,List.map_cons,freeL,AV.free,Bool.true_and];exact aCd l
theorem sf:(∀l,freeL (wC l)=true)∧(∀b,(AV.bool b).free=true)∧(∀k n,(AV.int k n).free=true)∧(∀s,(AV.str s).free=true)∧(∀cs,(AV.agg cs).free=freeL cs)∧(∀cs,(AV.tup cs).free=freeL cs)∧
 (∀sz els,(AV.aT 1 sz els).free=freeLL els)∧(∀sz els,(AV.aT 0 sz els).free=freeLL els)∧(∀x r,freeL (x::r)=(x.free&&freeL r))∧(freeL []=true)∧(∀x r,freeLL (x::r)=(freeL x&&freeLL r))∧(freeLL []=true)∧(∀b,(b&&true)=b)∧(∀b,(true&&b)=b)∧
 AV.nilsl.free=true∧AV.nilp.free=true∧AV.nilif.free=true:=
 ⟨aCd,fun _=>by simp only[AV.free],fun _ _=>by simp only[AV.free],fun _=>by simp only[AV.free],fun _=>by simp only[AV.free],fun _=>by simp only[AV.free],fun _ _=>by simp[AV.free],fun _ _=>by simp[AV.free],fun _ _=>by simp only[freeL],by simp only[freeL],fun _ _=>by simp only[freeLL],by simp only[freeLL],Bool.and_true,Bool.true_and,by simp only[AV.free],by simp only[AV.free],by simp only[AV.free]⟩
theorem bK (z:Int):freeL (cI z)=true:=by simp only[cI,sf]
theorem pJ (x:Option Int):freeL (cO x)=true:=by cases x<;>simp only[cO,cI,badC,sf]
theorem sfI:freeL badC=true∧(∀z,freeL (cI z)=true)∧∀x,freeL (cO x)=true:=⟨pJ none,bK,pJ⟩
theorem bR {α:Type} {f:α→List AV} (h:∀x,freeL (f x)=true):∀l:List α,freeLL (l.map f)=true
 |[]=>by simp only[List.map_nil,freeLL]
 |x::l=>by simp only[List.map_cons,freeLL,h,bR h l,Bool.and_self]
theorem aD (k:IntKind) (n:Nat):asNat (.int k (n:Int))=some n:=by
 simp[asNat]
theorem fS:(∀k,asNat (.int k 0)=some 0)∧(∀k,asNat (.int k 1)=some 1)∧(∀k,asNat (.int k 2)=some 2)∧(∀k,asNat (.int k 3)=some 3):=⟨fun _=>rfl,fun _=>rfl,fun _=>rfl,fun _=>rfl⟩
theorem bU {α:Type} {f:α→List AV} {l:List α} {i:Nat} (h:i<l.length):(l.map f).getD i []=f l[i]:=by
 simp[List.getD,h]
theorem aQd {α:Type} {p:α→Bool} {l:List α} {i:Nat} (h:i<l.length) (ht:(l.take i).all p=true):(l.take (i+1)).all p=p l[i]:=by
 rw[List.take_add_one,List.all_append,ht];simp[h]
structure RawI where
 b:Bool
 n:Bool
 l:List Nat
 hl:L16 l
def RawI.cells (r:RawI):List AV:=.bool r.b::.bool r.n::wC r.l
def RawI.good (r:RawI):Bool:=goodW r.b r.n r.l
theorem aKr (r:RawI):freeL r.cells=true:=by simp only[RawI.cells,sf]
theorem dS {a i:Nat} (h:i<16):(wC (limbs 16 a)).getD i undefA=.int .u32 (limb a i):=by
 rw[iU (by rw[bE];exact h),dL h]
def cmpN (a b:Nat):Int:=if a<b then -1 else if b<a then 1 else 0
theorem aRa {a b k:Nat} (h:a / W^(k+1)=b / W^(k+1)) (hk:limb a k≠limb b k):cmpN a b=cmpN (limb a k) (limb b k):=by
 unfold cmpN
 rcases Nat.lt_or_gt_of_ne hk with hc|hc
 · have :=uO h hc
   rw[if_pos this,if_pos hc]
 · have :=uO h.symm hc
   rw[if_neg (by omega),if_pos this,if_neg (by omega),if_pos hc]
def pfx (i:Nat) (l:List Nat):List Nat:=l.take i++List.replicate (l.length -i) 0
theorem kI {i:Nat} {l:List Nat}:(pfx i l).length=l.length:=by simp[pfx];omega
theorem aOz (l:List Nat):pfx 0 l=List.replicate l.length 0:=by simp[pfx]
theorem aSn (l:List Nat):pfx l.length l=l:=by simp[pfx]
theorem aSo {i:Nat} {l:List Nat} (h:i<l.length):(pfx i l).set i (l.getD i 0)=pfx (i+1) l:=by
 refine List.ext_getElem (by simp[kI]) fun k h1 h2=>?_
 have hk:k<l.length:=by rw[kI] at h2;exact h2
 rw[List.getElem_set];simp only[pfx,List.getElem_append,List.length_take,List.getElem_take,List.getElem_replicate];split
 · rename_i e
   subst e;rw[dif_pos (by omega)];simp[List.getD,h]
 · rename_i e
   split<;>split<;>first|rfl|omega
theorem vB (n:Nat):pfx 0 (limbs 16 n)=zs:=by rw[aOz,bE];rfl
theorem yC (n:Nat):pfx 16 (limbs 16 n)=limbs 16 n:=by
 have :=aSn (limbs 16 n)
 rwa [bE] at this
theorem qG (i n:Nat):(wC (pfx i (limbs 16 n))).length=16:=by rw[bH,kI,bE]
theorem aLk {i n:Nat} (h:i<16) {x:Int} (hx:x=(limb n i:Nat)):splice (wC (pfx i (limbs 16 n))) i [.int .u32 x]=wC (pfx (i+1) (limbs 16 n)):=by
 rw[hx,mY (by rw[kI,bE];exact h),←aSo (by rw[bE];exact h),dL h]
theorem vA {i n:Nat} (h:i<16) {x:Int} (hx:x=(limb n i:Nat)):(wC (pfx i (limbs 16 n))).take i++[AV.int .u32 x]++(wC (pfx i (limbs 16 n))).drop (i+1)=wC (pfx (i+1) (limbs 16 n)):=aLk h hx
theorem aHb (u:Nat):IntKind.u32.wrap (u:Int)=((u%W:Nat):Int):=by
 simp[IntKind.wrap,IntKind.bits,IntKind.signed,W]
theorem gH {x:Int} {u:Nat} (h:u<2^64) (e:x=u∨x=u -2^64∨x=u+2^64):IntKind.u64.wrap x=u:=by
 simp only[IntKind.wrap,IntKind.bits,IntKind.signed];simp;omega
theorem tY (u:Nat):(u:Int).fdiv (2^min (Int.toNat 32) IntKind.u64.bits)=((u / W:Nat):Int):=by
 show(u:Int).fdiv (2^32)=_;rw[Int.fdiv_eq_ediv_of_nonneg _ (by decide)];rfl
def addO:Option Int→Option Int→Option Int
 |some x,some y=>norm (x+y)
 |_,_=>none
def negO:Option Int→Option Int
 |some x=>some (-x)
 |none=>none
theorem IsI.raw {v:List AV} {x:Option Int} (h:IsI v x):∃r:RawI,v=r.cells∧x=valI r.b r.n r.l∧r.good=x.isSome:=by
 obtain⟨b,n,l,hl,rfl,rfl⟩:=h;refine⟨⟨b,n,l,hl⟩,rfl,rfl,?_⟩;simp only[RawI.good,valI];split<;>rename_i h<;>simp[h]
theorem IsI.len {v:List AV} {x:Option Int} (h:IsI v x):v.length=18:=by
 obtain⟨b,n,l,hl,rfl,rfl⟩:=h;simp[bH,hl.1]
theorem IsI.free {v:List AV} {x:Option Int} (h:IsI v x):freeL v=true:=by
 obtain⟨b,n,l,hl,rfl,rfl⟩:=h;simp only[sf]
theorem bM (z:Int):(cI z).length=18:=by simp[cI,bH,bE]
theorem nP (x:Option Int):(cO x).length=18:=by
 cases x
 · simp[cO,badC,bH,zs]
 · exact bM _
theorem oL {cs:List AV} {n:Nat} (h:cs.length=n):cs.length=n∧cs.take n=cs∧cs.drop n=[]:=⟨h,List.take_of_length_le (by omega),List.drop_of_length_le (by omega)⟩
theorem cOl:(∀x,(cO x).length=18)∧(∀x,(cO x).take 18=cO x)∧(∀x,(cO x).drop 18=[])∧(∀x,(cI x).length=18)∧(∀x,(cI x).take 18=cI x)∧(∀x,(cI x).drop 18=[]):=
 ⟨nP,fun x=>(oL (nP x)).2.1,fun x=>(oL (nP x)).2.2,bM,fun x=>(oL (bM x)).2.1,fun x=>(oL (bM x)).2.2⟩
theorem IsI.add {x y:Option Int}:IsI (cO (addO x y)) (addO x y):=by
 cases x<;>cases y<;>first|exact .norm _|exact .bad
theorem IsI.neg {x:Option Int} {v:List AV} (h:IsI v x):IsI (cO (negO x)) (negO x):=by
 cases x with
 |none=>exact .bad
 |some z=>exact .enc (by have :=h.some.2;rwa [Int.natAbs_neg])
def mulO:Option Int→Option Int→Option Int
 |some x,some y=>norm (x*y)
 |_,_=>none
def smO (x y:Nat→Option Int):Nat→Option Int
 |0=>some 0
 |i+1=>addO (smO x y i) (mulO (x i) (y i))
theorem IsI.mul {x y:Option Int}:IsI (cO (mulO x y)) (mulO x y):=by
 cases x<;>cases y<;>first|exact .norm _|exact .bad
theorem IsI.sm {x y:Nat→Option Int}:∀i,IsI (cO (smO x y i)) (smO x y i)
 |0=>.enc (by decide)
 |i+1=>.add
def crO (x y:Nat→Option Int) (i:Nat):Option Int:=addO (mulO (x ((i+1)%3)) (y ((i+2)%3))) (negO (mulO (x ((i+2)%3)) (y ((i+1)%3))))
theorem IsI.fit {v:List AV} {z:Int} (h:IsI v (Option.some z)):z.natAbs<W^16:=h.some.2
theorem iL {l:List Nat} (h:L16 l):(wC l).length=16∧l.length=16∧(wC l).take 16=wC l∧(wC l).drop 16=[]∧eqFlat [.i,.i,.i,.i,.i,.i,.i,.i,.i,.i,.i,.i,.i,.i,.i,.i] (wC l) (wC zs)=some (decide (l=zs)):=
 ⟨by rw[bH,h.1],h.1,aTp (by rw[h.1];omega),aTo (by rw[h.1];omega),xE h.1 rfl⟩
theorem iz:(wC zs).length=16∧(wC zs).take 16=wC zs∧(wC zs).drop 16=[]:=⟨(iL .zs).1,(iL .zs).2.2.1,(iL .zs).2.2.2.1⟩
def c3 (c:Nat→List AV):List AV:=c 0++(c 1++c 2)
theorem cK {c:Nat→List AV} (h:∀i,i<3→(c i).length=18):(c3 c).length=54:=by
 simp[c3,h 0 (by decide),h 1 (by decide),h 2 (by decide)]
theorem gE {c:Nat→List AV} (h:∀i,i<3→(c i).length=18) {i:Nat} (hi:i<3):((c3 c).drop (i*18)).take 18=c i:=by
 have h0:=h 0 (by decide);have h1:=h 1 (by decide);have h2:=h 2 (by decide)
 match i,hi with
 |0,_=>simp[c3,List.take_append,h0]
 |1,_=>simp[c3,List.drop_append,List.take_append,h0,h1]
 |2,_=>simp[c3,List.drop_append,List.take_append,h0,h1,h2,List.drop_of_length_le (show(c 0).length≤36 by omega),List.take_of_length_le (show(c 2).length≤18 by omega)]
theorem pB {c d:Nat→List AV} (h:∀i,i<3→c i=d i):c3 c=c3 d:=by
 simp only[c3,h 0 (by decide),h 1 (by decide),h 2 (by decide)]
theorem aNf {c:Nat→List AV} (h:∀i,i<3→(c i).length=18) {i:Nat} (hi:i<3) {x:List AV} (hx:x.length=18):
 (c3 c).take (i*18)++x++(c3 c).drop (i*18+18)=c3 (fun j=>if j=i then x else c j):=by
 have h0:=h 0 (by decide);have h1:=h 1 (by decide);have h2:=h 2 (by decide)
 match i,hi with
 |0,_=>simp[c3,List.drop_append,h0]
 |1,_=>simp[c3,List.drop_append,List.take_append,h0,h1]
 |2,_=>simp[c3,List.drop_append,List.take_append,h0,h1,h2,List.take_of_length_le (show(c 0).length≤36 by omega),List.drop_of_length_le (show(c 0).length≤54 by omega),List.drop_of_length_le (show(c 1).length≤36 by omega),List.drop_of_length_le (show(c 2).length≤18 by omega)]
theorem dI {c:Nat→List AV} (h:∀i,i<3→freeL (c i)=true):freeL (c3 c)=true:=by
 simp[c3,eC,h 0 (by decide),h 1 (by decide),h 2 (by decide)]
theorem aQw:cI 0=.bool false::.bool false::wC zs:=by simp[cI,oC]
theorem kW: .bool false::.bool false::.int .u32 0::.int .u32 0::.int .u32 0::.int .u32 0::.int .u32 0::.int .u32 0::.int .u32 0::.int .u32 0::.int .u32 0::.int .u32 0::.int .u32 0::.int .u32 0::.int .u32 0::.int .u32 0::.int .u32 0::.int .u32 0::.bool false::.bool false::.int .u32 0::.int .u32 0::.int .u32 0::.int .u32 0::.int .u32 0::.int .u32 0::.int .u32 0::.int .u32 0::.int .u32 0::.int .u32 0::.int .u32 0::.int .u32 0::.int .u32 0::.int .u32 0::.int .u32 0::.int .u32 0::.bool false::.bool false::wC zs=c3 (fun _=>cI 0):=by
 simp only[aQw];rfl
def _root_.Go.Geo.V.at (v:Geo.V) (i:Nat):Int:=match i with
 |0=>v.x
 |1=>v.y
 |_=>v.z
def ivC (v:Geo.V):List AV:=[.int .i64 v.x,.int .i64 v.y,.int .i64 v.z]
theorem aG (v:Geo.V):(ivC v).length=3:=rfl
theorem dB (v:Geo.V) {i:Nat} (hi:i<3):(ivC v).getD i undefA=.int .i64 (v.at i):=by
 match i,hi with
 |0,_=>rfl
 |1,_=>rfl
 |2,_=>rfl
theorem bA (v:Geo.V):freeL (ivC v)=true:=by simp only[ivC,sf]
end Go.Av
